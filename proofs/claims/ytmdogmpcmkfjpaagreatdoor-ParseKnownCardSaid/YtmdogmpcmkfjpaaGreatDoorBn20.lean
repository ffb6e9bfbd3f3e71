import Derived.Test.YtmdogmpcmkfjpaaGreatDoorBn19
import Derived.Test.YtmdogmpcmkfjpaaGreatDoorBn09
/- Part of the proof (merged). -/
namespace Go.Proofs.YtmdogmpcmkfjpaaGreatDoor.Dt
open Go.RowKit Go.Proofs.YtmdogmpcmkfjpaaGreatDoor.By
section
variable {w0:World} {r:Nat} {tv:Value} {L:List Tk} {en:Int}
set_option maxRecDepth 100000 in
set_option maxHeartbeats 4000000 in
theorem insideString {one:Rd ByteArray} (hmono:∀ s:PS,s.k ≤ (one s).2.k) (w:World) (k0:Nat) (hone:PRun w0 r tv L en w k0 76 #[.pointer (some ⟨r,0,none⟩)] one SvR)
 (s:PS) (hk0:k0 ≤ s.k) (h:PB w0 r tv L en s w):Calls Tryz.prog 77 #[.pointer (some ⟨r,0,none⟩),.func (.func 76) #[.pointer (some ⟨r,0,none⟩)] #[]] w fun e w'=>
 ∃ v,e = .returned v∧New w.heap.size w' (fun u=>SlR 1 SR u v (insideM L en one FU s).1)∧PB w0 r tv L en (insideM L en one FU s).2 w'∧w.grownBy w' (some r):=by
 obtain ⟨s1,h1⟩:∃ s1,(mustM L en [BOPEN] s).2=s1:=⟨_,rfl⟩
 obtain ⟨⟨l,s2⟩,h2⟩:∃ q,listM L en one FU s1=q:=⟨_,rfl⟩
 obtain ⟨s3,h3⟩:∃ s3,(mustM L en [BCLOSE] s2).2=s3:=⟨_,rfl⟩
 have hz:insideM L en one FU s=(l,s3):=by
  unfold insideM
  rw [bndE (x:=()) (s1:=s1) (by rw [← h1]),bndE h2,bndE (x:=()) (s1:=s3) (by rw [← h3])]
  rfl
 rw [hz]
 have hm1:k0 ≤ s1.k:=Nat.le_trans hk0 (by rw [← h1];exact (must_mono [BOPEN] s).1)
 have HK:=Lib.hid hm1
 have HM1:=Lib.hid (mustLit BOPEN w h)
 rw [h1] at HM1
 have HONE:=Lib.hid hone
 have HMO:=Lib.hid hmono
 have HLT:=Lib.hid h.lt
 have H2:=Lib.hid h2
 have H3:=Lib.hid h3
 clear hz hk0 hm1 h hone hmono h1 h2 h3
 go_enter Tryz.func77,Tryz.ntmps77
 go_wp2_with fail
 refine HM1.out.mono ?_
 rintro e1 w1 ⟨rfl,hp1,hg1⟩
 have HG1:=Lib.hid hg1
 have HL:=Lib.hid (listString (L:=L) (en:=en) HMO.out _ rfl w1 k0 (HONE.out.grown hg1 (Nat.le_refl _)) s1 HK.out hp1)
 rw [H2.out] at HL
 clear hp1 hg1
 go_wp2_with fail
 refine HL.out.mono ?_
 rintro e2 w2 ⟨v,rfl,hn2,hp2,hg2⟩
 have HG2:=Lib.hid (grown_trans HG1.out hg2)
 have HN2:=Lib.hid (hn2.mono HG1.out.size)
 have HM3:=Lib.hid (mustLit BCLOSE w2 hp2)
 rw [H3.out] at HM3
 clear hp2 hg2 hn2
 go_wp2_with fail
 refine HM3.out.mono ?_
 rintro e3 w3 ⟨rfl,hp3,hg3⟩
 have HP3:=Lib.hid hp3
 have HG3:=Lib.hid (grown_trans HG2.out hg3)
 have HN3:=Lib.hid (HN2.out.grown hg3 HLT.out)
 clear hp3 hg3
 go_wp2_with fail
 go_ret
 exact ⟨_,rfl,HN3.out,HP3.out,HG3.out⟩
set_option maxRecDepth 100000 in
set_option maxHeartbeats 4000000 in
theorem insideExpr {one:Rd PE} (hmono:∀ s:PS,s.k ≤ (one s).2.k) (w:World) (k0:Nat) (hone:PRun w0 r tv L en w k0 31 #[.pointer (some ⟨r,0,none⟩)] one (AgV ExR))
 (s:PS) (hk0:k0 ≤ s.k) (h:PB w0 r tv L en s w):Calls Tryz.prog 80 #[.pointer (some ⟨r,0,none⟩),.func (.func 31) #[.pointer (some ⟨r,0,none⟩)] #[]] w fun e w'=>
 ∃ v,e = .returned v∧New w.heap.size w' (fun u=>SlR 8 ExR u v (insideM L en one FU s).1)∧PB w0 r tv L en (insideM L en one FU s).2 w'∧w.grownBy w' (some r):=by
 obtain ⟨s1,h1⟩:∃ s1,(mustM L en [BOPEN] s).2=s1:=⟨_,rfl⟩
 obtain ⟨⟨l,s2⟩,h2⟩:∃ q,listM L en one FU s1=q:=⟨_,rfl⟩
 obtain ⟨s3,h3⟩:∃ s3,(mustM L en [BCLOSE] s2).2=s3:=⟨_,rfl⟩
 have hz:insideM L en one FU s=(l,s3):=by
  unfold insideM
  rw [bndE (x:=()) (s1:=s1) (by rw [← h1]),bndE h2,bndE (x:=()) (s1:=s3) (by rw [← h3])]
  rfl
 rw [hz]
 have hm1:k0 ≤ s1.k:=Nat.le_trans hk0 (by rw [← h1];exact (must_mono [BOPEN] s).1)
 have HK:=Lib.hid hm1
 have HM1:=Lib.hid (mustLit BOPEN w h)
 rw [h1] at HM1
 have HONE:=Lib.hid hone
 have HMO:=Lib.hid hmono
 have HLT:=Lib.hid h.lt
 have H2:=Lib.hid h2
 have H3:=Lib.hid h3
 clear hz hk0 hm1 h hone hmono h1 h2 h3
 go_enter Tryz.func80,Tryz.ntmps80
 go_wp2_with fail
 refine HM1.out.mono ?_
 rintro e1 w1 ⟨rfl,hp1,hg1⟩
 have HG1:=Lib.hid hg1
 have HL:=Lib.hid (listExpr (L:=L) (en:=en) HMO.out _ rfl w1 k0 (HONE.out.grown hg1 (Nat.le_refl _)) s1 HK.out hp1)
 rw [H2.out] at HL
 clear hp1 hg1
 go_wp2_with fail
 refine HL.out.mono ?_
 rintro e2 w2 ⟨v,rfl,hn2,hp2,hg2⟩
 have HG2:=Lib.hid (grown_trans HG1.out hg2)
 have HN2:=Lib.hid (hn2.mono HG1.out.size)
 have HM3:=Lib.hid (mustLit BCLOSE w2 hp2)
 rw [H3.out] at HM3
 clear hp2 hg2 hn2
 go_wp2_with fail
 refine HM3.out.mono ?_
 rintro e3 w3 ⟨rfl,hp3,hg3⟩
 have HP3:=Lib.hid hp3
 have HG3:=Lib.hid (grown_trans HG2.out hg3)
 have HN3:=Lib.hid (HN2.out.grown hg3 HLT.out)
 clear hp3 hg3
 go_wp2_with fail
 go_ret
 exact ⟨_,rfl,HN3.out,HP3.out,HG3.out⟩
end
end Go.Proofs.YtmdogmpcmkfjpaaGreatDoor.Dt
namespace Go.Proofs.YtmdogmpcmkfjpaaGreatDoor.By
open Go.RowKit
theorem wp_region_head {P:Program} {id:Nat} {Q:Exit→Act→World→Prop} {a0:Act} {w:World} {l:List Oper} (n:Nat) (J:(Nat→Bool)→(Nat→Value)→World→Prop) (N:Nat) (hN:a0.tmps.size=N) (hm:P.follows .mixedOrders=true) (hB:growB .any l.toArray n=true)
 (h0:∀ us,J (fun _=>false) us w.drew)
 (hext:∀ dn dn' us w1,(∀ j,j < n→dn j=dn' j)→J dn us w1→J dn' us w1)
 (hops:∀ i,i < n→∀ (dn:Nat→Bool) (us:Nat→Value) (A:Act) w1,(∀ t,((List.range n).all fun j=>dstOf l.toArray j != some t)=true→A.eval (.tmp t)=a0.eval (.tmp t))→(∀ j t,j < n→dstOf l.toArray j=some t→t < N→A.eval (.tmp t)=us j) →
  J dn us w1→dn i=false→(∀ oi,l.toArray[i]? = some oi→∀ e ∈ oi.after,Region.binds .any e=true→e.on < n∧dn e.on=true) →
  wpOp P l.toArray Q i (fun a' w'=>∃ v,a'=A.put (dstOf l.toArray i) v∧J (upd dn i) (fun j=>if j=i then v else us j) w') A w1)
 (htail:∀ (dn:Nat→Bool) (us:Nat→Value) w1,(∀ j,j < n→dn j=true)→J dn us w1→wpList P l.toArray Q (l.drop n) (putAll l.toArray us n a0) w1) :
 (Code.region id l.toArray true).wp P Q a0 w:=by
 simp only [growB,Bool.and_eq_true,decide_eq_true_eq] at hB
 obtain ⟨⟨⟨⟨⟨hn,hs⟩,hc⟩,hap⟩,hback⟩,hseq⟩:=hB
 have hn':n < l.length:=by simpa using hn
 obtain ⟨us0,hus0⟩:=putAll_old (ops:=l.toArray) (n:=n) a0
 have main:∀ (f:Nat) (done:Array Bool) (us:Nat→Value) (w1:World),(done.toList.take n).count false=f→HeadInv .any l.toArray n done →
  J (dnOf done) us w1→wpAny P .any l.toArray Q (f + (l.toArray.size - n)) done (putAll l.toArray us n a0) w1:=by
  intro f
  induction f with
  | zero=>
   intro done us w1 hcnt inv hJ
   have hall:∀ j,j < n→done.getD j false=true:=by
    intro j hj
    cases h:done.getD j false with
    | true=>rfl
    | false=>
     exfalso
     have hjs:j < done.size:=by rw [inv.size];omega
     have h2:done[j]=false:=by simpa [hjs] using h
     have:0 < (done.toList.take n).count false:=List.count_pos_iff.2 (by
      rw [← h2]
      refine List.mem_iff_getElem.2 ⟨j,by simp;omega,by simp⟩)
     omega
   have hdone:done=Array.replicate n true ++ Array.replicate (l.toArray.size - n) false:=by
    apply Array.ext
    ·rw [inv.size];simp;omega
    ·intro j h1 h2
     by_cases hj:j < n
     ·have:=hall j hj
      rw [Array.getElem_append_left (by simpa using hj)]
      simpa [h1] using this
     ·have:=inv.tail j (by omega) (by rw [← inv.size];exact h1)
      rw [Array.getElem_append_right (by simp;omega)]
      simpa [h1] using this
   rw [Nat.zero_add]
   have hl:=htail (dnOf done) us w1 (fun j hj=>hall j hj) hJ
   have hdl:(l.drop n).length=l.toArray.size - n:=by simp
   have:=wpAny_of_seq (md:=.any) (Q':=Q) (l.drop n) n done (putAll l.toArray us n a0) w1 (fun j=>by simp [List.getElem?_drop]) (by rw [hdl,hdone];exact hseq) hl
   rwa [hdl] at this
  | succ f ih=>
   intro done us w1 hcnt inv hJ
   have hex:∃ i,i < n∧done.getD i true=false:=by
    obtain ⟨j,hj,he⟩:=List.mem_iff_getElem.1 (List.count_pos_iff.1 (show 0 < (done.toList.take n).count false by omega))
    simp at hj he
    exact ⟨j,by omega,by simp [show j < done.size by omega,he]⟩
   obtain ⟨i0,hi0,hun⟩:=hex
   rw [show f + 1 + (l.toArray.size - n)=(f + (l.toArray.size - n)) + 1 by omega]
   refine ⟨fun hr=>?_,fun i hi=>?_⟩
   ·exfalso
    have least:∀ m,m < n→done.getD m true=false→∃ i,i < n∧done.getD i true=false∧∀ j,j < i→done.getD j true ≠ false:=by
     intro m
     induction m using Nat.strongRecOn with
     | _ m ihm=>
      intro hm hu
      by_cases hx:∃ j,j < m∧done.getD j true=false
      ·obtain ⟨j,hj,hj2⟩:=hx
       exact ihm j hj (by omega) hj2
      ·exact ⟨m,hm,hu,fun j hj h=>hx ⟨j,hj,h⟩⟩
    obtain ⟨i,hin,hui,hlow⟩:=least i0 hi0 hun
    have hi:i ∈ Region.ready .any l.toArray done:=by
     obtain ⟨o,ho⟩:∃ o,l.toArray[i]? = some o:=⟨l.toArray[i]'(by omega),by simp⟩
     refine mem_ready.2 ⟨hui,o,ho,fun e he hb=>?_⟩
     have h1:=List.all_eq_true.1 hback i (List.mem_range.2 hin)
     rw [ho] at h1
     simp only [Option.map_some,Option.getD_some,Array.all_eq_true_iff_forall_mem] at h1
     have h2:=h1 e he
     rw [hb] at h2
     have h3:e.on < i:=by simpa using h2
     have h4:=hlow e.on h3
     have h5:e.on < done.size:=by rw [inv.size];omega
     simp [h5] at h4 ⊢
     exact h4
    rw [hr] at hi
    cases hi
   ·have hin:i < n:=Nat.lt_of_not_le fun hle=>tail_waits hs hc hn inv _ i0 rfl hi0 hun i hle hi
    obtain ⟨_,oi,hoi,hafter⟩:=mem_ready.1 hi
    obtain ⟨hlt,hfalse⟩:=ready_false hi
    have hupd:∀ j,dnOf (done.setIfInBounds i true) j=upd (dnOf done) i j:=by
     intro j
     unfold upd
     by_cases hj:j=i
     ·subst hj
      unfold dnOf
      simp [hlt]
     ·rw [show dnOf (done.setIfInBounds i true) j=dnOf done j from getD_set_ne false (Ne.symm hj)];simp [hj]
    have hg:=hops i hin (dnOf done) us _ w1 (fun t ht=>eval_other us a0 t n fun j hj he=>by
     have:=List.all_eq_true.1 ht j (List.mem_range.2 hj)
     rw [he] at this
     simp at this) (fun j t hj hd ht=>eval_at hap us a0 hd (by rw [hN];exact ht) n hj (Nat.le_refl _)) hJ
     (by unfold dnOf;simpa [hlt] using hfalse) (fun o ho e he hb=>by
     rw [hoi] at ho
     cases ho
     have hd:=hafter e he hb
     have hon:e.on < n:=by
      apply Nat.lt_of_not_le
      intro hle
      rcases Nat.lt_or_ge e.on l.toArray.size with h | h
      ·have:=inv.tail e.on hle h
       rw [getD_both this] at hd
       cases hd
      ·rw [Array.getD_eq_getD_getElem?,Array.getElem?_eq_none (by rw [inv.size];exact h)] at hd
       cases hd
     exact ⟨hon,hd⟩)
    refine wpOp_mono (fun a' w' hK=>?_) hg
    obtain ⟨v,rfl,hJ'⟩:=hK
    rw [putAll_put hap us i v n hin (Nat.le_refl _)]
    refine ih _ _ _ ?_ (inv.set hi hin) (hext _ _ _ _ (fun j _=>(hupd j).symm) hJ')
    rw [Array.toList_setIfInBounds,List.take_set,List.count_set (by simp;omega)]
    have e:((done.toList.take n)[i]'(by simp;omega) == false)=true:=by simp [hfalse]
    rw [if_pos e,if_neg (by decide)]
    omega
 have inv0:HeadInv .any l.toArray n (Array.replicate l.toArray.size false):=
  ⟨by simp,fun j oj _ hl=>(by rw [getD_replicate_false] at hl;cases hl),fun t _ ht=>getD_in (by simpa using ht) (getD_replicate_false _ _)⟩
 have hfalse0:∀ j,dnOf (Array.replicate l.toArray.size false) j=false:=fun j=>by
  unfold dnOf
  rw [getD_replicate_false]
 have:=main n (Array.replicate l.toArray.size false) us0 w.drew (by rw [Array.toList_replicate,List.take_replicate,List.count_replicate_self];simp;omega) inv0 (hext _ _ _ _ (fun j _=>(hfalse0 j).symm) (h0 us0))
 rw [hus0 n (Nat.le_refl _)] at this
 refine wp_region_any hm ?_
 have hsz:n + (l.toArray.size - n)=l.toArray.size:=by simp;omega
 rw [hsz] at this
 exact this
def Kig (P:Program) (ops:Array Oper) (Q:Exit→Act→World→Prop) (r:Nat) (kn:Nat→Value→World→Prop) (st:(Nat→Bool)→World→Prop) (dn:Nat→Bool) (i:Nat) (a:Act) (w:World):Prop:=
 wpOp P ops Q i (fun a' w'=>∃ v,a'=a.put (dstOf ops i) v∧w.grownBy w' (some r)∧kn i v w'∧st (upd dn i) w') a w
theorem wp_region_kig {P:Program} {id:Nat} {Q:Exit→Act→World→Prop} {a0:Act} {w:World} {l:List Oper} (n r:Nat) (kn:Nat→Value→World→Prop) (st:(Nat→Bool)→World→Prop) (N:Nat) (hN:a0.tmps.size=N) (hm:P.follows .mixedOrders=true) (hB:growB .any l.toArray n=true)
 (hlater:∀ j v w1 w2,kn j v w1→w.grownBy w1 (some r)→w1.grownBy w2 (some r)→kn j v w2)
 (hext:∀ dn dn' w1,(∀ j,j < n→dn j=dn' j)→st dn w1→st dn' w1)
 (h0:st (fun _=>false) w.drew)
 (hops:∀ i,i < n→∀ (dn:Nat→Bool) (A:Act) w1,(∀ t,((List.range n).all fun j=>dstOf l.toArray j != some t)=true→A.eval (.tmp t)=a0.eval (.tmp t))→w.grownBy w1 (some r)→st dn w1→dn i=false →
  (∀ oi,l.toArray[i]? = some oi→∀ e ∈ oi.after,Region.binds .any e=true→dn e.on=true∧Known l.toArray kn N A w1 e.on) →
  Kig P l.toArray Q r kn st dn i A w1)
 (htail:∀ (us:Nat→Value) w1,w.grownBy w1 (some r)→st (fun _=>true) w1→(∀ j,j < n→kn j (us j) w1)→wpList P l.toArray Q (l.drop n) (putAll l.toArray us n a0) w1) :
 (Code.region id l.toArray true).wp P Q a0 w:=by
 refine wp_region_head n (fun dn us w1=>w.grownBy w1 (some r)∧st dn w1∧∀ j,j < n→dn j=true→kn j (us j) w1) N hN hm hB ?_ ?_ ?_ ?_
 ·exact fun us=>⟨⟨rfl,rfl,rfl,Nat.le_refl _,fun _ _ _=>rfl⟩,h0,fun j _ h=>by cases h⟩
 ·exact fun dn dn' us w1 he ⟨h1,h2,h3⟩=>⟨h1,hext dn dn' w1 he h2,fun j hj hd=>h3 j hj (by rw [he j hj];exact hd)⟩
 ·intro i hi dn us A w1 hother hat ⟨hg,hst,hk⟩ hdi hd
  have hg1:=hops i hi dn A w1 hother hg hst hdi fun oi ho e he hb=>by
   obtain ⟨hon,hdn⟩:=hd oi ho e he hb
   exact ⟨hdn,us e.on,hk e.on hon hdn,fun t ht htN=>hat e.on t hon ht htN⟩
  refine wpOp_mono (fun a' w' hK=>?_) hg1
  obtain ⟨v,rfl,hg2,hkv,hst2⟩:=hK
  refine ⟨v,rfl,⟨hg2.os.trans hg.os,hg2.tape.trans hg.tape,hg2.output.trans hg.output,Nat.le_trans hg.size hg2.size,fun k hk hn=>(hg2.block k (Nat.lt_of_lt_of_le hk hg.size) hn).trans (hg.block k hk hn)⟩,hst2,fun j hj hdj=>?_⟩
  by_cases hji:j=i
  ·subst hji;simpa using hkv
  ·simp only [if_neg hji]
   exact hlater j _ _ _ (hk j hj (by unfold upd at hdj;simpa [hji] using hdj)) hg hg2
 ·intro dn us w1 hall ⟨hg,hst,hk⟩
  exact htail us w1 hg (hext dn _ w1 (fun j hj=>hall j hj) hst) fun j hj=>hk j hj (hall j hj)
section
variable {P:Program} {ops:Array Oper} {Q:Exit→Act→World→Prop} {kn:Nat→Value→World→Prop} {st:(Nat→Bool)→World→Prop} {i r:Nat} {a:Act} {w:World} {o:Oper} {dn:Nat→Bool}
theorem grown_refl (w:World) (r:Option Nat):w.grownBy w r:=⟨rfl,rfl,rfl,Nat.le_refl _,fun _ _ _=>rfl⟩
theorem kig_same (ho:ops[i]? = some o) (hg:o.guard=none) (v:Value) (hrun:(execOp a.eval o).run P w = .ok (.value v) w) (hk:kn i v w) (hst:st (upd dn i) w) :
 Kig P ops Q r kn st dn i a w:=by
 unfold Kig wpOp
 simp only [ho]
 rw [if_pos (wanted_none hg)]
 refine .inl ?_
 unfold Oper.wp
 rw [hrun,Oper.upon_value]
 exact ⟨v,by unfold dstOf;rw [ho];rfl,grown_refl _ _,hk,hst⟩
theorem kig_val (ho:ops[i]? = some o) (hg:o.guard=none) (v:Value) (w':World) (hrun:(execOp a.eval o).run P w = .ok (.value v) w') (hgr:w.grownBy w' (some r)) (hk:kn i v w') (hst:st (upd dn i) w') :
 Kig P ops Q r kn st dn i a w:=by
 unfold Kig wpOp
 simp only [ho]
 rw [if_pos (wanted_none hg)]
 refine .inl ?_
 unfold Oper.wp
 rw [hrun,Oper.upon_value]
 exact ⟨v,by unfold dstOf;rw [ho];rfl,hgr,hk,hst⟩
theorem kig_call (ho:ops[i]? = some o) (hg:o.guard=none) (f:FuncId) (args:Array Value) (hrun:(execOp a.eval o).run P w = .ok (.enter f args) w) (hc:Calls P f args w fun e w'=>∃ v,e = .returned v∧w.grownBy w' (some r)∧kn i v w'∧st (upd dn i) w') :
 Kig P ops Q r kn st dn i a w:=by
 unfold Kig wpOp
 simp only [ho]
 rw [if_pos (wanted_none hg)]
 refine .inl ?_
 unfold Oper.wp
 rw [hrun,Oper.upon_enter]
 refine hc.mono ?_
 rintro e w' ⟨v,rfl,h1,h2,h3⟩
 exact ⟨v,by unfold dstOf;rw [ho];rfl,h1,h2,h3⟩
end
end Go.Proofs.YtmdogmpcmkfjpaaGreatDoor.By
