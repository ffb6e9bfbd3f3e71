import Derived.WalkMore
import Derived.Test.YtmdogmpcmkfjpaaGreatDoorBq09
import Derived.Test.YtmdogmpcmkfjpaaGreatDoorBq15
set_option maxRecDepth 100000
set_option maxHeartbeats 64000000
/- Part. -/
namespace Go.Proofs.YtmdogmpcmkfjpaaGreatDoor.By
open Go.RowKit
theorem Zkw {P:Program} {id:Nat} {Q:Exit→Act→World→Prop} {a0:Act} {w:World} {l:List Oper} (n:Nat) (J:(Nat→Bool)→(Nat→Value)→World→Prop) (N:Nat) (hN:a0.tmps.size=N) (hm:P.follows .mixedOrders=true) (hB:Zmr .any l.toArray n=true)
 (h0:∀ us,J (fun _=>false) us w.drew)
 (hext:∀ dn dn' us w1,(∀ j,j < n→dn j=dn' j)→J dn us w1→J dn' us w1)
 (hops:∀ i,i < n→∀ (dn:Nat→Bool) (us:Nat→Value) (A:Act) w1,(∀ t,((List.range n).all fun j=>Z7 l.toArray j != some t)=true→A.eval (.tmp t)=a0.eval (.tmp t))→(∀ j t,j < n→Z7 l.toArray j=some t→t < N→A.eval (.tmp t)=us j) →
  J dn us w1→dn i=false→(∀ oi,l.toArray[i]? = some oi→∀ e ∈ oi.after,Region.binds .any e=true→e.on < n∧dn e.on=true) →
  wpOp P l.toArray Q i (fun a' w'=>∃ v,a'=A.put (Z7 l.toArray i) v∧J (upd dn i) (fun j=>if j=i then v else us j) w') A w1)
 (htail:∀ (dn:Nat→Bool) (us:Nat→Value) w1,(∀ j,j < n→dn j=true)→J dn us w1→wpList P l.toArray Q (l.drop n) (Z1 l.toArray us n a0) w1) :
 (Code.region id l.toArray true).wp P Q a0 w:=by
 simp only [Zmr,Bool.and_eq_true,decide_eq_true_eq] at hB
 obtain ⟨⟨⟨⟨⟨hn,hs⟩,hc⟩,hap⟩,hback⟩,hseq⟩:=hB
 have hn':n < l.length:=by simpa using hn
 obtain ⟨us0,hus0⟩:=Ziq (ops:=l.toArray) (n:=n) a0
 have main:∀ (f:Nat) (done:Array Bool) (us:Nat→Value) (w1:World),(done.toList.take n).count false=f→HeadInv .any l.toArray n done →
  J (Zd7 done) us w1→wpAny P .any l.toArray Q (f + (l.toArray.size - n)) done (Z1 l.toArray us n a0) w1:=by
  intro f
  induction f with
  | zero=>
   intro done us w1 hcnt inv hJ
   have hall:∀ j,j < n→done.getD j false=true:=by
    exact ks37
   have hdone:done=Array.replicate n true ++ Array.replicate (l.toArray.size - n) false:=by
    exact ks41
   rw [Nat.zero_add]
   have hl:=htail (Zd7 done) us w1 (fun j hj=>hall j hj) hJ
   have hdl:(l.drop n).length=l.toArray.size - n:=kY
   have:=wpAny_of_seq (md:=.any) (Q':=Q) (l.drop n) n done (Z1 l.toArray us n a0) w1 (fun j=>by simp [List.getElem?_drop]) (by rw [hdl,hdone];exact hseq) hl
   rwa [hdl] at this
  | succ f ih=>
   intro done us w1 hcnt inv hJ
   have hex:∃ i,i < n∧done.getD i true=false:=by
    exact ks54
   obtain ⟨i0,hi0,hun⟩:=hex
   rw [show f + 1 + (l.toArray.size - n)=(f + (l.toArray.size - n)) + 1 by omega]
   refine ⟨fun hr=>?_,fun i hi=>?_⟩
   ·exfalso
    exact ks9
   ·have hin:i < n:=Nat.lt_of_not_le fun hle=>tail_waits hs hc hn inv _ i0 rfl hi0 hun i hle hi
    obtain ⟨_,oi,hoi,hafter⟩:=mem_ready.1 hi
    obtain ⟨hlt,hfalse⟩:=Zd4 hi
    have hupd:∀ j,Zd7 (done.setIfInBounds i true) j=upd (Zd7 done) i j:=by
     intro j
     unfold upd
     by_cases hj:j=i
     ·subst hj
      unfold Zd7
      simp [hlt]
     ·rw [show Zd7 (done.setIfInBounds i true) j=Zd7 done j from getD_set_ne false (Ne.symm hj)];simp [hj]
    have hg:=hops i hin (Zd7 done) us _ w1 (fun t ht=>Zfk us a0 t n fun j hj he=>by
     have:=List.all_eq_true.1 ht j (List.mem_range.2 hj)
     rw [he] at this
     simp at this) (fun j t hj hd ht=>eval_at hap us a0 hd (by rw [hN];exact ht) n hj (Nat.le_refl _)) hJ
     (by unfold Zd7;simpa [hlt] using hfalse) (fun o ho e he hb=>by
     rw [hoi] at ho
     cases ho
     have hd:=hafter e he hb
     have hon:e.on < n:=by
      exact ks48
     exact ⟨hon,hd⟩)
    refine wpOp_mono (fun a' w' hK=>?_) hg
    obtain ⟨v,rfl,hJ'⟩:=hK
    rw [Zff hap us i v n hin (Nat.le_refl _)]
    refine ih _ _ _ ?_ (inv.set hi hin) (hext _ _ _ _ (fun j _=>(hupd j).symm) hJ')
    rw [Array.toList_setIfInBounds,List.take_set,List.count_set kb58]
    have e:((done.toList.take n)[i]'kb58 == false)=true:=by simp [hfalse]
    rw [if_pos e,if_neg kD]
    omega
 have inv0:HeadInv .any l.toArray n (Array.replicate l.toArray.size false):=
  ⟨by simp,fun j oj _ hl=>kb59,fun t _ ht=>getD_in kb79 (getD_replicate_false _ _)⟩
 have hfalse0:∀ j,Zd7 (Array.replicate l.toArray.size false) j=false:=fun j=>by
  unfold Zd7
  rw [getD_replicate_false]
 have:=main n (Array.replicate l.toArray.size false) us0 w.drew kb37 inv0 (hext _ _ _ _ (fun j _=>(hfalse0 j).symm) (h0 us0))
 exact ks73
def Kig (P:Program) (ops:Array Oper) (Q:Exit→Act→World→Prop) (r:Nat) (kn:Nat→Value→World→Prop) (st:(Nat→Bool)→World→Prop) (dn:Nat→Bool) (i:Nat) (a:Act) (w:World):Prop:=
 wpOp P ops Q i (fun a' w'=>∃ v,a'=a.put (Z7 ops i) v∧w.grownBy w' (some r)∧kn i v w'∧st (upd dn i) w') a w
theorem Zcr {P:Program} {id:Nat} {Q:Exit→Act→World→Prop} {a0:Act} {w:World} {l:List Oper} (n r:Nat) (kn:Nat→Value→World→Prop) (st:(Nat→Bool)→World→Prop) (N:Nat) (hN:a0.tmps.size=N) (hm:P.follows .mixedOrders=true) (hB:Zmr .any l.toArray n=true)
 (hlater:∀ j v w1 w2,kn j v w1→w.grownBy w1 (some r)→w1.grownBy w2 (some r)→kn j v w2)
 (hext:∀ dn dn' w1,(∀ j,j < n→dn j=dn' j)→st dn w1→st dn' w1)
 (h0:st (fun _=>false) w.drew)
 (hops:∀ i,i < n→∀ (dn:Nat→Bool) (A:Act) w1,(∀ t,((List.range n).all fun j=>Z7 l.toArray j != some t)=true→A.eval (.tmp t)=a0.eval (.tmp t))→w.grownBy w1 (some r)→st dn w1→dn i=false →
  (∀ oi,l.toArray[i]? = some oi→∀ e ∈ oi.after,Region.binds .any e=true→dn e.on=true∧Zi1 l.toArray kn N A w1 e.on) →
  Kig P l.toArray Q r kn st dn i A w1)
 (htail:∀ (us:Nat→Value) w1,w.grownBy w1 (some r)→st (fun _=>true) w1→(∀ j,j < n→kn j (us j) w1)→wpList P l.toArray Q (l.drop n) (Z1 l.toArray us n a0) w1) :
 (Code.region id l.toArray true).wp P Q a0 w:=by
 refine Zkw n (fun dn us w1=>w.grownBy w1 (some r)∧st dn w1∧∀ j,j < n→dn j=true→kn j (us j) w1) N hN hm hB ?_ ?_ ?_ ?_
 ·exact fun us=>⟨⟨rfl,rfl,rfl,Nat.le_refl _,fun _ _ _=>rfl⟩,h0,fun j _ h=>by cases h⟩
 ·exact fun dn dn' us w1 he ⟨h1,h2,h3⟩=>⟨h1,hext dn dn' w1 he h2,fun j hj hd=>h3 j hj (by rw [he j hj];exact hd)⟩
 ·intro i hi dn us A w1 hother hat ⟨hg,hst,hk⟩ hdi hd
  have hg1:=hops i hi dn A w1 hother hg hst hdi fun oi ho e he hb=>by
   obtain ⟨hon,hdn⟩:=hd oi ho e he hb
   exact ⟨hdn,us e.on,hk e.on hon hdn,fun t ht htN=>hat e.on t hon ht htN⟩
  refine wpOp_mono (fun a' w' hK=>?_) hg1
  obtain ⟨v,rfl,hg2,hkv,hst2⟩:=hK
  refine ⟨v,rfl,⟨hg2.os.trans hg.os,hg2.tape.trans hg.tape,hg2.output.trans hg.output,Nat.le_trans hg.size hg2.size,fun k hk hn=>(hg2.block k (Nat.lt_of_lt_of_le hk hg.size) hn).trans (hg.block k hk hn)⟩,hst2,fun j hj hdj=>?_⟩
  by_cases hji:j=i
  ·subst hji;simpa using hkv
  simp only [if_neg hji]
  exact hlater j _ _ _ (hk j hj (by unfold upd at hdj;simpa [hji] using hdj)) hg hg2
 intro dn us w1 hall ⟨hg,hst,hk⟩
 exact htail us w1 hg (hext dn _ w1 (fun j hj=>hall j hj) hst) fun j hj=>hk j hj (hall j hj)
section
variable {P:Program} {ops:Array Oper} {Q:Exit→Act→World→Prop} {kn:Nat→Value→World→Prop} {st:(Nat→Bool)→World→Prop} {i r:Nat} {a:Act} {w:World} {o:Oper} {dn:Nat→Bool}
theorem Zln (w:World) (r:Option Nat):w.grownBy w r:=⟨rfl,rfl,rfl,Nat.le_refl _,fun _ _ _=>rfl⟩
theorem Zam (ho:ops[i]? = some o) (hg:o.guard=none) (v:Value) (hrun:(execOp a.eval o).run P w = .ok (.value v) w) (hk:kn i v w) (hst:st (upd dn i) w) :
 Kig P ops Q r kn st dn i a w:=by
 unfold Kig wpOp
 simp only [ho]
 rw [if_pos (Zf hg)]
 refine .inl ?_
 unfold Oper.wp
 rw [hrun,Oper.upon_value]
 exact ⟨v,by unfold Z7;rw [ho];rfl,Zln _ _,hk,hst⟩
theorem Zvb (ho:ops[i]? = some o) (hg:o.guard=none) (v:Value) (w':World) (hrun:(execOp a.eval o).run P w = .ok (.value v) w') (hgr:w.grownBy w' (some r)) (hk:kn i v w') (hst:st (upd dn i) w') :
 Kig P ops Q r kn st dn i a w:=by
 unfold Kig wpOp
 simp only [ho]
 rw [if_pos (Zf hg)]
 refine .inl ?_
 unfold Oper.wp
 rw [hrun,Oper.upon_value]
 exact ⟨v,by unfold Z7;rw [ho];rfl,hgr,hk,hst⟩
theorem Zew (ho:ops[i]? = some o) (hg:o.guard=none) (f:FuncId) (args:Array Value) (hrun:(execOp a.eval o).run P w = .ok (.enter f args) w) (hc:Calls P f args w fun e w'=>∃ v,e = .returned v∧w.grownBy w' (some r)∧kn i v w'∧st (upd dn i) w') :
 Kig P ops Q r kn st dn i a w:=by
 unfold Kig wpOp
 simp only [ho]
 rw [if_pos (Zf hg)]
 refine .inl ?_
 unfold Oper.wp
 rw [hrun,Oper.upon_enter]
 refine hc.mono ?_
 rintro e w' ⟨v,rfl,h1,h2,h3⟩
 exact ⟨v,by unfold Z7;rw [ho];rfl,h1,h2,h3⟩
end
end Go.Proofs.YtmdogmpcmkfjpaaGreatDoor.By
namespace Go.Proofs.YtmdogmpcmkfjpaaGreatDoor.Dt
open Go.RowKit Go.Proofs.YtmdogmpcmkfjpaaGreatDoor.By
theorem Zrn {S:Nat→Prop} {w:World} {kv:Value} {op:Nat} {kids:List PE} (h:Dep S w fun u=>Zbq u kv kids):ExD S w #[.int .u8 (op:Int),.int .u8 0,iZ,eS,eS,eS,iZ,kv] (PE.node op kids):=by
 obtain ⟨a,c,rfl,_⟩:=h.here.shape
 exact ⟨rfl,by simp [Value.oneCell'],h.imp fun u hu=>Zby.2 ⟨_,rfl,hu⟩⟩
theorem Zd9 (n:Nat) (ps:Array (Nat × Value)):Instr.buildSlice 28 n ps=Zeh 28 n ps:=rfl
attribute [local go_sem ↓] Zbv Zcb Zd9
attribute [local go_sem] Zc6 Zbx Zc7 Zfg Value.oneCell'
section
variable {w0:World} {r:Nat} {tv:Value} {L:List Tk} {en:Int}
structure CS (w0:World) (r:Nat) (tv:Value) (L:List Tk) (en:Int) (w:World) (g:Nat) (sv ov:Value) (s:PS) (x:PE) (c:Array Value) (W:World):Prop where
 pb:PB w0 r tv L en s W
 row:Row g 48 c W
 ex:ExD (fun b=>w.heap.size + 2 ≤ b∧b ≠ g) W c x
 gr:w.grownBy W (some r)
 lv:Row w.heap.size 142 #[sv,ov] W
 rs:Row (w.heap.size + 1) 48 exZ W
 hg:w.heap.size + 2 ≤ g
 hr:r < w.heap.size
theorem CS.grown {w W W':World} {g:Nat} {sv ov:Value} {s s':PS} {x:PE} {c:Array Value} (h:CS w0 r tv L en w g sv ov s x c W) (k:W.grownBy W' (some r)) (hp:PB w0 r tv L en s' W') :
 CS w0 r tv L en w g sv ov s' x c W':=by
 have h2:=h.hg
 have h3:=h.hr
 exact ⟨hp,h.row.grown k kW,h.ex.grown k kW,Za h.gr k,h.lv.grown k kW,h.rs.grown k kW,h2,h3⟩
def ChKn (q:Nat) (ov:Value) (i:Nat) (b2 q2:Nat) (o:Nat) (c:Array Value) (fv:Value) (S:Nat→Prop) (x y:PE) (j:Nat) (v:Value) (W:World):Prop:=match j with
 | 0=>v = .pointer (some ⟨q,1,none⟩)
 | 1=>v=ov
 | 2=>v = .int .i64 (i:Int)
 | 3=>v = .pointer (some ⟨b2,q2 + i,none⟩)
 | 4=>v = .int .u8 (o:Int)
 | 5=>v = .agg c
 | 6=>v=fv
 | 7=>∃ d,v = .agg d∧ExD S W d y
 | 8=>∃ g2,v = .slice (some ⟨g2,0,none⟩) 2 2∧Dep S W fun u=>Zbq u v [x,y]
 | _=>∃ d,v = .agg d∧ExD S W d (.node o [x,y])
theorem ChKn.later {q:Nat} {ov:Value} {i b2 q2 o:Nat} {c:Array Value} {fv:Value} {S:Nat→Prop} {x y:PE} (hS:¬ S r) (w0:World) (j:Nat) (v:Value) (w1 w2:World) (h:ChKn q ov i b2 q2 o c fv S x y j v w1) (_:w0.grownBy w1 (some r)) (g:w1.grownBy w2 (some r)):ChKn q ov i b2 q2 o c fv S x y j v w2:=by
 match j,h with
 | 0,h=>exact h
 | 1,h=>exact h
 | 2,h=>exact h
 | 3,h=>exact h
 | 4,h=>exact h
 | 5,h=>exact h
 | 6,h=>exact h
 | 7,⟨d,e,h⟩=>exact ⟨d,e,h.grown g hS⟩
 | 8,⟨d,e,h⟩=>exact ⟨d,e,h.step g.size fun b h1 h2=>⟨h1,g.block b h2 (fun e=>by cases e;exact hS h1)⟩⟩
 | _ + 9,⟨d,e,h⟩=>exact ⟨d,e,h.grown g hS⟩
theorem Zmy (cf:FuncId) (ba ca:Array Value) (hcf:∀ (a:Array Value) (w:World),(callFunc cf a).run Tryz.prog w = .ok (.enter cf a) w) (ops:List (ByteArray × Nat)) (hol:ops.length ≤ 1000) (sv ov:Value) {one:Rd PE} (hmono:∀ s:PS,s.k ≤ (one s).2.k) (w:World) (k0:Nat) (hone:Zks w0 r tv L en w k0 cf (ba ++ ca) one ExV)
 (hsg:∀ w',w.grownBy w' (some r)→Zs6 w' sv (ops.map (·.1))) (hos:∀ w',w.grownBy w' (some r)→Zoy w' ov (ops.map (·.2)))
 (s:PS) (hk0:k0 ≤ s.k) (h:PB w0 r tv L en s w):Calls Tryz.prog 85 #[pV r,.agg #[sv,ov],.func (.func cf) ba ca] w fun e w'=>
 ∃ v,e = .returned v∧New w.heap.size w' (fun u=>ExV u v (chainL L en ops one FU s).1)∧PB w0 r tv L en (chainL L en ops one FU s).2 w'∧w.grownBy w' (some r):=by
 obtain ⟨sa,sc,rfl⟩:=(hsg w (World.grownBy.refl _ _)).shape
 obtain ⟨oa,oc,rfl⟩:=(hos w (World.grownBy.refl _ _)).shape
 rw [List.length_map] at *
 obtain ⟨Z,hZ⟩:∃ Z,Z=chainL L en ops one FU s:=⟨_,rfl⟩
 rw [← hZ]
 obtain ⟨⟨x0,s1⟩,h1⟩:∃ q,one s=q:=⟨_,rfl⟩
 have HZ:Hid (Z=chainM L en ops one FU x0 s1):=Lh (by rw [hZ];show bnd one _ s=_;rw [Za1 h1])
 have HLT:Hid (r < w.heap.size):=Lh h.lt
 have HL:Hid (L.length ≤ 4096):=Lh h.hl
 have HM:=Lh hmono
 have HK1:Hid (k0 ≤ s1.k):=Lh (by have:=hmono s;rw [h1] at this;exact Nat.le_trans hk0 this)
 have hbA:Below w.heap.size w ((w.alloc (.cells #[.slice sa ops.length sc,.slice oa ops.length oc] 142)).alloc (.cells exZ 48)):=(bA).alloc kY _
 have HR0:=Lh ((Zc w 142 #[.slice sa ops.length sc,.slice oa ops.length oc]).later ((Below.refl _ _).alloc (Nat.le_refl _) (.cells exZ 48)))
 have HR1:=Lh (Zc (w.alloc (.cells #[.slice sa ops.length sc,.slice oa ops.length oc] 142)) 48 exZ)
 have HSZ:Hid (((w.alloc (.cells #[.slice sa ops.length sc,.slice oa ops.length oc] 142)).alloc (.cells exZ 48)).heap.size=w.heap.size + 2):=Lh kY
 have HS1:Hid ((w.alloc (.cells #[.slice sa ops.length sc,.slice oa ops.length oc] 142)).heap.size=w.heap.size + 1):=Lh kY
 rw [HS1.out] at HR1
 have HONE:=Lh hone
 have HP0:=Lh (h.later hbA)
 have HG0:=Lh (below_grown (r:=r) hbA)
 have HK0:=Lh hk0
 have HSG:=Lh hsg
 have HOS:=Lh hos
 have HOL:=Lh hol
 have H1:=Lh h1
 clear h hone hmono hk0 hZ h1 hbA hsg hos HS1 hol
 go_enter Tryz.func85,Tryz.ntmps85
 go_wp2_with fail
 go_step3
 go_upto_region 1 with fail
 generalize (w.alloc (.cells #[.slice sa ops.length sc,.slice oa ops.length oc] 142)).alloc (.cells exZ 48)=w1 at *
 have HC1:=Lh (HONE.out s w1 HK0.out HG0.out HP0.out)
 rw [H1.out] at HC1
 go_wp2_with fail
 refine HC1.out.mono ?_
 rintro e2 w2 ⟨xv,rfl,hn2,hp2,hg2⟩
 obtain ⟨c0,rfl,hx2⟩:=ExN.of hn2
 have hok:=hx2.ok
 have hb3:=(Below.refl _ w2).alloc (Nat.le_refl _) (.cells c0 48)
 have HC3:Hid (CS w0 r tv L en w w2.heap.size (.slice sa ops.length sc) (.slice oa ops.length oc) s1 x0 c0 (w2.alloc (.cells c0 48))):=Lh (by
  have hz:=HSZ.out
  have hz2:=hg2.size
  refine ⟨PB.later hp2 hb3,Zc _ _ _,(hx2.step (Nat.le_refl _) (fun b hb hlt=>⟨⟨by omega,by omega⟩,rfl⟩)).later hb3,Za (Za HG0.out hg2) (below_grown hb3),((HR0.out.grown hg2 (Nat.ne_of_gt HLT.out)).later hb3),((HR1.out.grown hg2 (by have:=HLT.out;omega)).later hb3),by omega,HLT.out⟩)
 have HK0':=hok
 clear hn2 hp2 hg2 hx2 hb3 HP0 HG0 HR0 HR1 HC1
 go_wp2_with fail
 go_step3
 generalize w2.alloc (.cells c0 48)=w3 at *
 generalize w2.heap.size=g at *
 clear hok HK0'
 go_wp2_with fail
 go_loopg [] (L.length + 1 - s1.k) (fun gk wr=>∃ (x:PE) (c:Array Value) (sj:PS) (f:Nat),gk=L.length + 1 - sj.k∧Hid (CS w0 r tv L en w g (.slice sa ops.length sc) (.slice oa ops.length oc) sj x c wr) ∧
  Hid (Z=chainM L en ops one f x sj)∧Hid (L.length - sj.k < f)∧Hid (k0 ≤ sj.k))
 case atStart=>exact ⟨x0,c0,s1,FU,rfl,HC3,HZ,Lh (by have:=HL.out;show _ < 100000;omega),HK1⟩
 case round=>
  obtain ⟨x,c,sj,f,rfl,HC,HR,HF,HKJ⟩:=hrel
  obtain ⟨f',rfl⟩:∃ f',f=f' + 1:=⟨f - 1,by have:=HF.out;omega⟩
  have HO:=Lh (okP wr HC.out.pb)
  by_cases h0:sj.e=0
  ·have d0:decide (sj.e=0)=true:=decide_eq_true h0
   rw [d0] at HO
   have H0:=Lh h0
   clear d0 h0
   have v0:=HC.out.lv.cell (i:=0) (v:=.slice sa ops.length sc) rfl
   go_wp2_with fail
   refine HO.out.mono ?_
   rintro e3 w4 ⟨rfl,rfl⟩
   obtain ⟨wo,rfl⟩:∃ wo:World,wo=wr:=⟨_,rfl⟩
   go_wp2_with fail
   clear v0
   go_loopg [17] ops.length (fun gi iv wi=>∃ (i:Nat),iv = .int .i64 (i:Int)∧gi=ops.length - i∧i ≤ ops.length∧Hid (CS w0 r tv L en w g (.slice sa ops.length sc) (.slice oa ops.length oc) sj x c wi)∧Hid (oneOf L en ops sj=oneOf L en (ops.drop i) sj))
   case atStart=>exact ⟨0,rfl,rfl,Nat.zero_le _,HC,Lh rfl⟩
   case round=>
    obtain ⟨i,rfl,rfl,hi,HCI,HOI⟩:=hrel
    by_cases hlt:i < ops.length
    ·obtain ⟨⟨t,o⟩,ht⟩:∃ q,ops[i]? = some q:=⟨ops[i],by simp⟩
     have hd:ops.drop i=(t,o) :: ops.drop (i + 1):=by
      rw [List.drop_eq_getElem_cons hlt,(List.getElem?_eq_some_iff.1 ht).2]
     have HOI2:Hid (oneOf L en ops sj=oneOf L en ((t,o) :: ops.drop (i + 1)) sj):=Lh (by rw [← hd];exact HOI.out)
     obtain ⟨b,q,rfl,hc⟩:=at1 (HSG.out wr HCI.out.gr) (k:=i) (y:=t) (by simp [ht])
     obtain ⟨b2,q2,e2,hc2⟩:∃ b2 q2,oa=some ⟨b2,q2,none⟩∧∀ W,w.grownBy W (some r)→W.cell? ⟨b2,q2 + i,none⟩=some (.int .u8 (o:Int)):=by
      obtain ⟨a',c',e,_,hh⟩:=HOS.out w (World.grownBy.refl _ _)
      simp only [Value.slice.injEq] at e
      obtain ⟨rfl,_,_⟩:=e
      obtain ⟨b2,q2,rfl,_⟩:=hh i o (by simp [ht])
      refine ⟨b2,q2,rfl,fun W hW=>?_⟩
      obtain ⟨a',c',e,_,hh⟩:=HOS.out W hW
      simp only [Value.slice.injEq] at e
      obtain ⟨rfl,_,_⟩:=e
      obtain ⟨b3,q3,e3,hq⟩:=hh i o (by simp [ht])
      cases e3
      have:=hq 0 _ rfl
      simpa using this
     subst e2
     have HC2:=Lh hc2
     have HI:=Lh (isW t wr HCI.out.pb)
     have ilt:(i:Int) < (ops.length:Int):=kW
     have ile:(i:Int) ≤ 1000:=by have:=HOL.out;omega
     have HLTI:=Lh hlt
     clear hd ht hc2 hlt
     obtain ⟨B,hB⟩:∃ B,isB L en t sj=B:=⟨_,rfl⟩
     rw [Z2,hB] at HI
     have HB:=Lh hB
     clear hB
     cases B
     ·have HNO:Hid (oneOf L en ops sj=oneOf L en (ops.drop (i + 1)) sj):=Lh (by rw [HOI2.out,Zh3 HB.out])
      go_wp2_with fail
      refine HI.out.mono ?_
      rintro e5 w5 ⟨rfl,hp5,hg5⟩
      have HC5:=Lh (HCI.out.grown hg5 hp5)
      clear hp5 hg5 hc
      go_wp2_with fail
      go_roundg (ops.length - (i + 1))
      case measure=>exact Nat.sub_lt_sub_left HLTI.out (Nat.lt_succ_self _)
      case rel=>exact ⟨i + 1,by go_num,rfl,HLTI.out,HC5,HNO⟩
     go_wp2_with fail
     refine HI.out.mono ?_
     rintro e5 w5 ⟨rfl,hp5,hg5⟩
     have HC5:=Lh (HCI.out.grown hg5 hp5)
     clear hp5 hg5 hc
     go_upto_region 7 with fail
     obtain ⟨⟨y,s2⟩,hy⟩:∃ z,one sj.next=z:=⟨_,rfl⟩
     have HY:=Lh hy
     have HMY:Hid (sj.k + 1 ≤ s2.k):=Lh (by have:=HM.out sj.next;rw [hy] at this;exact this)
     have HLTJ:=Lh (Zh5 (L:=L) (en:=en) (t:=t) (s:=sj) HB.out).2
     clear hy
     have hgw:=HC5.out.gr
     have hSr:¬ (w.heap.size + 2 ≤ r∧r ≠ g):=by have:=HLT.out;omega
     refine Zcr 10 r (ChKn w.heap.size (.slice (some ⟨b2,q2,none⟩) ops.length oc) i b2 q2 o c (.func (.func cf) ba ca) (fun b=>w.heap.size + 2 ≤ b∧b ≠ g) x y) (fun dn W=>PB w0 r tv L en (if dn 7 then s2 else sj.next) W) 37 rfl kR kR (ChKn.later hSr w5) ?_ ?_ ?_ ?_
     ·intro dn dn' W hdd hst
      rw [← hdd 7 kD]
      exact hst
     ·exact HC5.out.pb.later (Below.drew (Below.refl _ _))
     ·intro j hj dn A W hother hgW hst hdj hd
      match j,hj with
      | 0,hj=>
       have h0:=Zt (show A.eval (.tmp 4) = .pointer (some ⟨w.heap.size,0,none⟩) from hother 4 kR)
       clear hother hd hj
       exact Zam rfl rfl (.pointer (some ⟨w.heap.size,1,none⟩)) kb0 rfl hst
      | 1,hj=>
       have h0:=(hd _ rfl ⟨0,.data⟩ kY rfl).2.t (.pointer (some ⟨w.heap.size,1,none⟩)) 25
       have hc:=((HC5.out.lv.grown hgW (Nat.ne_of_gt HLT.out)).cell (i:=1) (v:=.slice (some ⟨b2,q2,none⟩) ops.length oc) rfl)
       clear hother hd hj
       exact Zam rfl rfl (.slice (some ⟨b2,q2,none⟩) ops.length oc) kb0 rfl hst
      | 2,hj=>
       have h0:=Zt (show A.eval (.tmp 8) = .int .i64 (i:Int) from hother 8 kR)
       clear hother hd hj
       exact Zam rfl rfl (.int .i64 (i:Int)) kb0 rfl hst
      | 3,hj=>
       have h0:=(hd _ rfl ⟨1,.data⟩ kY rfl).2.t (.slice (some ⟨b2,q2,none⟩) ops.length oc) 26
       have h1:=(hd _ rfl ⟨2,.data⟩ kY rfl).2.t (.int .i64 (i:Int)) 27
       have i0:(0:Int) ≤ (i:Int):=kW
       clear hother hd hj
       exact Zam rfl rfl (.pointer (some ⟨b2,q2 + i,none⟩)) kb0 rfl hst
      | 4,hj=>
       have h0:=(hd _ rfl ⟨3,.data⟩ kY rfl).2.t (.pointer (some ⟨b2,q2 + i,none⟩)) 28
       have hc:=HC2.out W (Za hgw hgW)
       clear hother hd hj
       exact Zam rfl rfl (.int .u8 (o:Int)) kb0 rfl hst
      | 5,hj=>
       have h0:=Zt (show A.eval (.tmp 7) = pV g from hother 7 kR)
       have hr5:=HC5.out.row.grown hgW (by have:=HC5.out.hg;have:=HLT.out;omega)
       have hb5:=hr5.b (n:=8) HC5.out.ex.size
       have ho5:=hr5.of
       clear hother hd hj hr5
       exact Zam rfl rfl (.agg c) kb0 rfl hst
      | 6,hj=>
       have h0:=Zt (show A.eval (.tmp 2) = .func (.func cf) ba ca from hother 2 kR)
       clear hother hd hj
       exact Zam rfl rfl (.func (.func cf) ba ca) kb0 rfl hst
      | 7,hj=>
       have h0:=(hd _ rfl ⟨6,.data⟩ kY rfl).2.t (.func (.func cf) ba ca) 31
       have hst7:PB w0 r tv L en sj.next W:=by have h:=hst;simp only [hdj] at h;exact h
       have hcall:=HONE.out sj.next W (by have:=HKJ.out;show k0 ≤ sj.k + 1;omega) (Za hgw hgW) hst7
       rw [HY.out] at hcall
       clear hother hd hj
       refine Zew rfl rfl cf (ba ++ ca) kb0 (hcall.mono ?_)
       rintro e7 w7 ⟨v7,rfl,hn7,hp7,hg7⟩
       obtain ⟨d,rfl,hx7⟩:=ExN.of hn7
       refine ⟨_,rfl,hg7,⟨d,rfl,hx7.step (Nat.le_refl _) (fun b hb hlt=>⟨⟨?_,?_⟩,rfl⟩)⟩,hp7⟩
       ·have h1:=(Za hgw hgW).size;have h2:=HC5.out.hg;have h3:=HC5.out.row.lt;have h4:=hgW.size;omega
       ·have h3:=HC5.out.row.lt;have h4:=hgW.size;omega
      | 8,hj=>
       obtain ⟨v7,⟨d,e7,hx7⟩,h7⟩:=(hd _ rfl ⟨7,.data⟩ kY rfl).2.get 32 kR kD
       rw [e7] at h7
       have h0:=Zt h7
       have h1:=(hd _ rfl ⟨5,.data⟩ kY rfl).2.t (.agg c) 30
       have hbs:(Zeh 28 2 #[(0,.agg c),(1,.agg d)]).run Tryz.prog W = .ok (.slice (some ⟨W.heap.size,0,none⟩) 2 2) (W.alloc (.cells (c ++ d) 48)):=Zua W c d HC5.out.ex.size hx7.size
       have hbw:=(Below.refl _ W).alloc (Nat.le_refl _) (.cells (c ++ d) 48)
       have hsz:w.heap.size + 2 ≤ W.heap.size∧W.heap.size ≠ g:=by have h3:=HC5.out.row.lt;have h4:=hgW.size;have h2:=HC5.out.hg;omega
       have hkids:=Zrj (S:=fun b=>w.heap.size + 2 ≤ b∧b ≠ g) (Zc W 48 (c ++ d)) hsz ((HC5.out.ex.grown hgW hSr).later hbw) (hx7.later hbw)
       exact ks59
      | 9,hj=>
       obtain ⟨v8,⟨g2,e8,hx8⟩,h8⟩:=(hd _ rfl ⟨8,.data⟩ kY rfl).2.get 33 kR kD
       subst e8
       have h0:=Zt h8
       have h1:=(hd _ rfl ⟨4,.data⟩ kY rfl).2.t (.int .u8 (o:Int)) 29
       exact ks39
      | k + 10,hj=>omega
     intro us W hgW hst hk
     obtain ⟨d,e9,hx9⟩:=hk 9 kD
     have hr9:=HC5.out.row.grown hgW (by have:=HC5.out.hg;have:=HLT.out;omega)
     have hb9:=hr9.b (n:=8) HC5.out.ex.size
     have hok9:=hx9.ok
     have HX9:=Lh hx9
     have HPW:Hid (PB w0 r tv L en s2 W):=Lh hst
     have HC9:Hid (CS w0 r tv L en w g (.slice (some ⟨b,q,none⟩) ops.length sc) (.slice (some ⟨b2,q2,none⟩) ops.length oc) s2 (.node o [x,y]) d (W.setRow g d)):=Lh (by
      have hC:=HC5.out.grown hgW HPW.out
      have h2:=hC.hg
      have h3:=hC.hr
      exact ⟨hC.pb.other (Zi W g d) kW,hC.row.set d,HX9.out.set (fun h=>h.2 rfl),Zn hC.gr kW d,(setRow_other W g _ d kW).trans hC.lv,(setRow_other W g _ d kW).trans hC.rs,h2,h3⟩)
     clear hk hst hgW hr9 hx9 hgw
     simp only [List.drop_succ_cons,List.drop_zero,Z1,Z7,Act.put,List.getElem?_toArray,List.getElem?_cons_zero,List.getElem?_cons_succ,Option.bind_some]
     simp only [List.setIfInBounds_toArray,List.set_cons_zero,List.set_cons_succ]
     rw [e9]
     go_wp2_with fail
     go_roundg (L.length + 1 - s2.k)
     case measure=>have h1:=HMY.out;have h2:=HLTJ.out;omega
     refine ⟨.node o [x,y],d,s2,f',rfl,HC9,Lh ?_,Lh ?_,Lh ?_⟩
     ·rw [HR.out,Zsr (o:=o) (by rw [HOI2.out,Zh2 HB.out]),HY.out]
     ·have h1:=HF.out;have h2:=HMY.out;have h3:=HLTJ.out;omega
     have h1:=HKJ.out;have h2:=HMY.out;omega
    obtain rfl:i=ops.length:=kW
    have HZE:Hid (Z=(x,sj)):=Lh (by rw [HR.out,Zos (by rw [HOI.out,List.drop_length];rfl)])
    have HC8:=HCI
    clear hlt hi
    exact ks20
  have d0:decide (sj.e=0)=false:=decide_eq_false h0
  rw [d0] at HO
  have HZE:Hid (Z=(x,sj)):=Lh (by rw [HR.out,Zos (Zn9 h0 ops)])
  have HC8:=HC
  clear d0 h0
  go_wp2_with fail
  refine HO.out.mono ?_
  rintro e3 w4 ⟨rfl,rfl⟩
  exact ks20
theorem chainNot (ops:List (ByteArray × Nat)) (hol:ops.length ≤ 1000) (sv ov:Value) {one:Rd PE} (hmono:∀ s:PS,s.k ≤ (one s).2.k) (w:World) (k0:Nat) (hone:Zks w0 r tv L en w k0 87 #[pV r] one ExV)
 (hsg:∀ w',w.grownBy w' (some r)→Zs6 w' sv (ops.map (·.1))) (hos:∀ w',w.grownBy w' (some r)→Zoy w' ov (ops.map (·.2)))
 (s:PS) (hk0:k0 ≤ s.k) (h:PB w0 r tv L en s w):Calls Tryz.prog 85 #[pV r,.agg #[sv,ov],.func (.func 87) #[pV r] #[]] w fun e w'=>
 ∃ v,e = .returned v∧New w.heap.size w' (fun u=>ExV u v (chainL L en ops one FU s).1)∧PB w0 r tv L en (chainL L en ops one FU s).2 w'∧w.grownBy w' (some r):=
 Zmy 87 #[pV r] #[] (fun _ _=>by kernel_rfl) ops hol sv ov hmono w k0 hone hsg hos s hk0 h
theorem Zwp (q1:Nat) (ops:List (ByteArray × Nat)) (hol:ops.length ≤ 1000) (sv ov:Value) {one:Rd PE} (hmono:∀ s:PS,s.k ≤ (one s).2.k) (w:World) (k0:Nat) (hone:Zks w0 r tv L en w k0 86 #[pV q1] one ExV)
 (hsg:∀ w',w.grownBy w' (some r)→Zs6 w' sv (ops.map (·.1))) (hos:∀ w',w.grownBy w' (some r)→Zoy w' ov (ops.map (·.2)))
 (s:PS) (hk0:k0 ≤ s.k) (h:PB w0 r tv L en s w):Calls Tryz.prog 85 #[pV r,.agg #[sv,ov],.func (.func 86) #[] #[pV q1]] w fun e w'=>
 ∃ v,e = .returned v∧New w.heap.size w' (fun u=>ExV u v (chainL L en ops one FU s).1)∧PB w0 r tv L en (chainL L en ops one FU s).2 w'∧w.grownBy w' (some r):=
 Zmy 86 #[] #[pV q1] (fun _ _=>by kernel_rfl) ops hol sv ov hmono w k0 hone hsg hos s hk0 h
theorem chainSum (q1 q3:Nat) (ops:List (ByteArray × Nat)) (hol:ops.length ≤ 1000) (sv ov:Value) {one:Rd PE} (hmono:∀ s:PS,s.k ≤ (one s).2.k) (w:World) (k0:Nat) (hone:Zks w0 r tv L en w k0 146 #[pV q1,pV q3] one ExV)
 (hsg:∀ w',w.grownBy w' (some r)→Zs6 w' sv (ops.map (·.1))) (hos:∀ w',w.grownBy w' (some r)→Zoy w' ov (ops.map (·.2)))
 (s:PS) (hk0:k0 ≤ s.k) (h:PB w0 r tv L en s w):Calls Tryz.prog 85 #[pV r,.agg #[sv,ov],.func (.func 146) #[] #[pV q1,pV q3]] w fun e w'=>
 ∃ v,e = .returned v∧New w.heap.size w' (fun u=>ExV u v (chainL L en ops one FU s).1)∧PB w0 r tv L en (chainL L en ops one FU s).2 w'∧w.grownBy w' (some r):=
 Zmy 146 #[] #[pV q1,pV q3] (fun _ _=>by kernel_rfl) ops hol sv ov hmono w k0 hone hsg hos s hk0 h
end
end Go.Proofs.YtmdogmpcmkfjpaaGreatDoor.Dt
