import Derived.Test.YtmdogmpcmkfjpaaGreatDoorBq34
import Derived.Test.YtmdogmpcmkfjpaaGreatDoorBq26
import Derived.Test.YtmdogmpcmkfjpaaGreatDoorBq05
import Derived.Test.YtmdogmpcmkfjpaaGreatDoorBq13
set_option maxRecDepth 100000
set_option maxHeartbeats 64000000
/- Part. -/
namespace Go.Proofs.YtmdogmpcmkfjpaaGreatDoor.By
open Go.RowKit
theorem Zcz {P:Program} {id:Nat} {Q:Exit→Act→World→Prop} {a0:Act} {w:World} {l:List Oper} (J:(Nat→Bool)→(Nat→Value)→World→Prop) (N:Nat) (hN:a0.tmps.size=N) (hm:P.follows .mixedOrders=true) (hB:mixB .any l.toArray=true)
 (h0:∀ us:Nat→Value,(∀ j t,j < l.length→Z7 l.toArray j=some t→us j=a0.eval (.tmp t))→J (fun _=>false) us w.drew)
 (hops:∀ i,i < l.length→∀ (dn:Nat→Bool) (us:Nat→Value) (A:Act) w1,(∀ t,((List.range l.length).all fun j=>Z7 l.toArray j != some t)=true→A.eval (.tmp t)=a0.eval (.tmp t))→(∀ j t,j < l.length→Z7 l.toArray j=some t→t < N→A.eval (.tmp t)=us j) →
  J dn us w1→dn i=false→(∀ j o,l.toArray[j]? = some o→dn j=true→∀ e ∈ o.after,Region.binds .any e=true→dn e.on=true)→(∀ oi,l.toArray[i]? = some oi→∀ e ∈ oi.after,Region.binds .any e=true→dn e.on=true) →
  wpOp P l.toArray Q i (fun a' w'=>∃ v,a'=A.put (Z7 l.toArray i) v∧J (upd dn i) (fun j=>if j=i then v else us j) w') A w1)
 (hend:∀ (dn:Nat→Bool) (us:Nat→Value) w1,(∀ j,j < l.length→dn j=true)→J dn us w1→Q .normal (Z1 l.toArray us l.length a0) w1) :
 (Code.region id l.toArray true).wp P Q a0 w:=by
 simp only [mixB,Bool.and_eq_true,List.size_toArray] at hB
 obtain ⟨hap,hback⟩:=hB
 obtain ⟨us0,hus0,husv⟩:∃ us:Nat→Value,Z1 l.toArray us l.length a0=a0∧∀ j t,j < l.length→Z7 l.toArray j=some t→us j=a0.eval (.tmp t):=by
  refine ⟨fun j=>((Z7 l.toArray j).map fun t=>a0.tmps.getD t undef).getD undef,?_,fun j t _ ht=>by simp only [ht];rfl⟩
  have:∀ k,k ≤ l.length→Z1 l.toArray (fun j=>((Z7 l.toArray j).map fun t=>a0.tmps.getD t undef).getD undef) k a0=a0:=by
   intro k
   induction k with
   | zero=>intro _;rfl
   | succ k ih=>
    intro hk
    rw [Z1,ih kW]
    exact Zui a0 _
  exact this _ (Nat.le_refl _)
 have hfalse0:Zd7 (Array.replicate l.toArray.size false)=fun _=>false:=by
  funext j
  unfold Zd7
  rw [getD_replicate_false]
 refine Zha hm (fun done a w1=>∃ us:Nat→Value,a=Z1 l.toArray us l.length a0∧J (Zd7 done) us w1∧(∀ j o,l.toArray[j]? = some o→Zd7 done j=true→∀ e ∈ o.after,Region.binds .any e=true→Zd7 done e.on=true)) ?_ ?_ ?_
 ·refine ⟨us0,hus0.symm,by rw [hfalse0];exact h0 _ husv,fun j o _ hd=>?_⟩
  rw [hfalse0] at hd;cases hd
 ·rintro done a w1 i hs ⟨us,rfl,hJ,hcl⟩ hi
  obtain ⟨hlt,hfalse⟩:=Zd4 hi
  rw [hs,List.size_toArray] at hlt
  obtain ⟨_,oi,hoi,hafter⟩:=mem_ready.1 hi
  have hupd:Zd7 (done.setIfInBounds i true)=upd (Zd7 done) i:=by
   funext j
   unfold upd
   by_cases hj:j=i
   ·subst hj
    unfold Zd7
    simp [show j < done.size by rw [hs,List.size_toArray];exact hlt]
   ·rw [show Zd7 (done.setIfInBounds i true) j=Zd7 done j from getD_set_ne false (Ne.symm hj)];simp [hj]
  have hg:=hops i hlt (Zd7 done) us _ w1 (fun t ht=>Zfk us a0 t l.length fun j hj he=>by
   have:=List.all_eq_true.1 ht j (List.mem_range.2 hj)
   rw [he] at this
   simp at this) (fun j t hj hd ht=>eval_at hap us a0 hd (by rw [hN];exact ht) l.length hj (Nat.le_refl _)) hJ
   kb33 hcl
   (fun o ho e he hb=>by
    rw [hoi] at ho
    cases ho
    exact hafter e he hb)
  refine wpOp_mono (fun a' w' hK=>?_) hg
  obtain ⟨v,rfl,hJ'⟩:=hK
  rw [Zff hap us i v l.length hlt (Nat.le_refl _),hupd]
  refine ⟨_,rfl,hJ',fun j o ho hd e he hb=>?_⟩
  exact ks47
 rintro done a w1 hs ⟨us,rfl,hJ,_⟩ hr
 have hall:∀ j,j < l.length→Zd7 done j=true:=by
  exact ks17
 exact hend (Zd7 done) us w1 hall hJ
end Go.Proofs.YtmdogmpcmkfjpaaGreatDoor.By
namespace Go.Proofs.YtmdogmpcmkfjpaaGreatDoor.Dt
open Go.RowKit Go.Proofs.YtmdogmpcmkfjpaaGreatDoor.By
section
variable {P:Program} {w:World}
theorem Zk3 (base:Nat) (t ty e:TypeId) (i:TypeInfo) (z:Value) (size bytes:Nat) (ht:P.underlying t=some (.slice e)) (hi:P.info? e=some i) (hz:i.zero=some z)
 (hsize:i.size=size) (hby:i.bytes=bytes) (hzs:z.cells.size=size) (hsz:0 < size)
 (v:Value) (n:Nat) (xs:List Value) (hown:w.ownsRow base e size v n xs)
 (a:Addr) (m c:Nat) (news:List Value) (hl:news.length=m * size) (hnews:∀ j u,news[j]? = some u→w.cell? (a.add j)=some u) (h1:∀ u ∈ news,u.oneCell'=true)
 (h63:n + m ≤ maxLen) (hbytes:(n + m) * bytes ≤ 140737488355328) (v':Value) (w':World) (hr:(Builtin.append_ #[t,t] ty #[v,.slice (some a) m c]).run P w = .ok v' w') (hiff:v' = nS ↔ v = nS∧m=0) :
 v'.ownBlock=v.ownBlock ∨ v'.ownBlock=some w.heap.size:=by
 subst hsize
 subst hby
 have hsmall:n + m ≤ 9223372036854775807:=by simp only [maxLen] at h63;omega
 rcases hown.2 with ⟨rfl,rfl⟩ | ⟨g,cap,cur,rfl,hbg,hg,hnc,hcm,hcs,htake⟩
 ·rcases Nat.eq_zero_or_pos m with h0 | hm
  ·exact .inl (by rw [hiff.2 ⟨rfl,h0⟩])
  have h:=run_append_nil (P:=P) w t ty e i z ht hi hz a m c news hl hnews kW kW (by have hb:=hbytes;simp only [Nat.zero_add] at hb;omega)
  rw [h] at hr
  cases hr
  exact .inr rfl
 by_cases hroom:n + m ≤ cap
 ·have hfit:n * i.size + news.length ≤ cur.size:=by rw [hl,hcs,← Nat.add_mul];exact Nat.mul_le_mul_right _ hroom
  have h:=run_append_room (P:=P) w t ty e i ht hi g n cap cur hg a m c news hl hnews h1 hroom hfit
  rw [h] at hr
  cases hr
  exact .inl rfl
 have holds:∀ j u,xs[j]? = some u→w.cell? ((⟨g,0,none⟩:Addr).add j)=some u:=hown.cells (g:=g) rfl
 have h:=run_append_grow (P:=P) w t ty e i z ht hi hz ⟨g,0,none⟩ n cap xs hown.1 holds a m c news hl hnews kW kW (growslice_fits kW hbytes)
 rw [h] at hr
 cases hr
 exact .inr rfl
def RdZ (w:World) (size:Nat) (v:Value) (m:Nat) (xs:List Value):Prop:=xs.length=m * size∧((∃ c,v = .slice none 0 c∧m=0) ∨ ∃ ad c,v = .slice (some ad) m c∧∀ j u,xs[j]? = some u→w.cell? (ad.add j)=some u)
theorem Ziu (t ty e:TypeId) (size bytes:Nat) (E:Elem P t e size bytes) (base:Nat) (v:Value) (n:Nat) (xs:List Value) (hown:w.ownsRow base e size v n xs)
 (sv:Value) (m:Nat) (news:List Value) (hr:RdZ w size sv m news) (h1:∀ u ∈ news,u.oneCell'=true) (h63:n + m ≤ maxLen) (hbytes:(n + m) * bytes ≤ 140737488355328) (hbase:base ≤ w.heap.size) :
 ∃ v' w',(Builtin.append_ #[t,t] ty #[v,sv]).run P w = .ok v' w'∧w'.ownsRow base e size v' (n + m) (xs ++ news)∧w.grownBy w' v.ownBlock∧(v'.ownBlock=v.ownBlock ∨ v'.ownBlock=some w.heap.size):=by
 obtain ⟨i,z,hi,hz,hsize,hby,hzs⟩:=E.info
 rcases hr.2 with ⟨c,rfl,rfl⟩ | ⟨ad,c,rfl,hc⟩
 ·have hn:news = []:=by simpa using hr.1
  subst hn
  have hrun:(Builtin.append_ #[t,t] ty #[v,.slice none 0 c]).run P w = .ok v w:=by
   rcases hown.2 with ⟨rfl,rfl⟩ | ⟨g,cap,cur,rfl,_,_,hnc,_⟩
   ·simp [Builtin.append_,run_underlying E.slice,sizeOf,typeInfo,hi,Builtin.lenOf,Builtin.firstCells]
   ·simp [Builtin.append_,run_underlying E.slice,sizeOf,typeInfo,hi,Builtin.lenOf,Builtin.firstCells,hnc,storeCells]
  exact ⟨v,w,hrun,by simpa using hown,⟨rfl,rfl,rfl,Nat.le_refl _,fun _ _ _=>rfl⟩,.inl rfl⟩
 obtain ⟨v',w',h2,h3,h4,h5⟩:=run_append_own (P:=P) w base t ty e i z size bytes E.slice hi hz hsize hby hzs E.pos v n xs hown ad m c news hr.1 hc h1 h63 hbytes hbase
 exact ⟨v',w',h2,h3,h4,Zk3 base t ty e i z size bytes E.slice hi hz hsize hby hzs E.pos v n xs hown ad m c news hr.1 hc h1 h63 hbytes v' w' h2 h5⟩
theorem RdZ.below {w w':World} {size:Nat} {v:Value} {m:Nat} {xs:List Value} (h:RdZ w size v m xs) (hb:Below w.heap.size w w'):RdZ w' size v m xs:=by
 refine ⟨h.1,?_⟩
 rcases h.2 with h | ⟨ad,c,e,hc⟩
 ·exact .inl h
 exact .inr ⟨ad,c,e,fun j u hu=>(hb.cell (Zd (hc j u hu))).trans (hc j u hu)⟩
end
theorem Zlf {α:Type} {size:Nat} {R:World→List Value→α→Prop} {w:World} {v:Value} {l:List α} (h:SlR size R w v l):∃ cs:List (List Value),RdZ w size v l.length cs.flatten∧cs.length=l.length∧∀ (i:Nat) (c:List Value) (x:α),cs[i]? = some c→l[i]? = some x→c.length=size∧R w c x:=by
 obtain ⟨cs,⟨a,c,rfl,hc,hat⟩,hl,hR⟩:=h
 have hs:∀ c ∈ cs,c.length=size:=fun c hc=>by
  obtain ⟨i,hi⟩:=List.getElem?_of_mem hc
  have hil:i < l.length:=by rw [← hl];exact (List.getElem?_eq_some_iff.1 hi).1
  exact (hR i c l[i] hi (by simp [hil])).1
 have hlen:∀ ds:List (List Value),(∀ c ∈ ds,c.length=size)→ds.flatten.length=ds.length * size:=fun ds=>by
  induction ds with
  | nil=>intro _;simp
  | cons d ds ih=>
   intro h
   rw [List.flatten_cons,List.length_append,h d kY,ih (fun c hc=>h c (by simp [hc])),List.length_cons,Nat.add_mul];omega
 refine ⟨cs,⟨by rw [hlen cs hs,hl],?_⟩,hl,hR⟩
 cases a with
 | none=>
  left
  have h0:cs.length=0:=by
   rcases Nat.eq_zero_or_pos cs.length with h | h
   ·exact h
   ·obtain ⟨b,o,e,_⟩:=hat 0 cs[0] (by simp [h])
    cases e
  exact ⟨c,by rw [h0],by omega⟩
 | some ad=>
  right
  refine ⟨ad,c,by rw [← hl],fun j u hu=>?_⟩
  have hj:j < cs.length * size:=by rw [← hlen cs hs];exact (List.getElem?_eq_some_iff.1 hu).1
  have hsz:0 < size:=by rcases Nat.eq_zero_or_pos size with h | h;(rw [h] at hj;omega);exact h
  have hi:j / size < cs.length:=Nat.div_lt_of_lt_mul (by rw [Nat.mul_comm];exact hj)
  obtain ⟨b,o,e,hcell⟩:=hat (j / size) cs[j / size] (by simp [hi])
  cases e
  have hmod:j % size < (cs[j / size]).length:=by rw [hs _ (List.getElem_mem _)];exact Nat.mod_lt _ hsz
  have hget:=Zke cs (j / size) cs[j / size] (j % size) ((cs[j / size])[j % size]'hmod) hs (by simp [hi]) (List.getElem?_eq_getElem hmod)
  have hjj:j / size * size + j % size=j:=by rw [Nat.mul_comm];exact Nat.div_add_mod j size
  rw [hjj] at hget
  rw [hget] at hu
  cases hu
  have:=hcell (j % size) _ (List.getElem?_eq_getElem hmod)
  rw [Nat.add_assoc,hjj] at this
  rw [Addr.add_lit]
  exact this
abbrev ETy:TypeId:=48
abbrev STy:TypeId:=9
def RowE (w0:World) (lo:Nat) (w:World) (v:Value) (E:List PE):Prop:=∃ cs:List (List Value),w.ownsRow lo ETy 8 v E.length cs.flatten∧cs.length=E.length∧∀ (i:Nat) (c:List Value) (x:PE),cs[i]? = some c→E[i]? = some x→c.length=8∧ExR w0 c x
def RowS (lo:Nat) (w:World) (v:Value) (S:List ByteArray):Prop:=w.ownsRow lo STy 1 v S.length (S.map .string)
structure FS (w0:World) (lo:Nat) (bx:List (Nat × TypeId × Array Value)) (ov nv:Value) (E:List PE) (S:List ByteArray) (w:World):Prop where
 e:RowE w0 lo w ov E
 s:RowS lo w nv S
 ne:∀ k,ov.ownBlock=some k→nv.ownBlock ≠ some k
 bx:∀ b ∈ bx,Row b.1 b.2.1 b.2.2 w∧ov.ownBlock ≠ some b.1∧nv.ownBlock ≠ some b.1
 bl:Below lo w0 w
 hl:lo ≤ w.heap.size
section
variable {w0 w w':World} {lo:Nat} {bx:List (Nat × TypeId × Array Value)} {ov nv:Value} {E:List PE} {S:List ByteArray}
theorem Zgs (hb:Below w.heap.size w w'):w.grownBy w' none:=⟨hb.os,hb.tape,hb.output,hb.size,fun k hk _=>hb.block k hk⟩
theorem FS.later (h:FS w0 lo bx ov nv E S w) (hb:Below w.heap.size w w'):FS w0 lo bx ov nv E S w':=by
 obtain ⟨cs,h1,h2,h3⟩:=h.e
 exact ⟨⟨cs,World.ownsRow.kept h1 (Zgs hb) (by cases ov.ownBlock <;> simp),h2,h3⟩,World.ownsRow.kept h.s (Zgs hb) (by cases nv.ownBlock <;> simp),h.ne,
  fun b hb'=>⟨(h.bx b hb').1.later hb,(h.bx b hb').2⟩,h.bl.trans (hb.mono h.hl),Nat.le_trans h.hl hb.size⟩
theorem FS.ltE (h:FS w0 lo bx ov nv E S w):∀ k,ov.ownBlock=some k→lo ≤ k∧k < w.heap.size:=by
 obtain ⟨cs,h1,_⟩:=h.e
 exact World.ownsRow.lt h1
theorem FS.ltS (h:FS w0 lo bx ov nv E S w):∀ k,nv.ownBlock=some k→lo ≤ k∧k < w.heap.size:=World.ownsRow.lt h.s
theorem FS.alloc (h:FS w0 lo bx ov nv E S w) (cs:Array Value) (T:TypeId):FS w0 lo ((w.heap.size,T,cs) :: bx) ov nv E S (w.alloc (.cells cs T)):=by
 have h1:=h.later ((Below.refl _ w).alloc (Nat.le_refl _) (.cells cs T))
 refine ⟨h1.e,h1.s,h1.ne,fun b hb=>?_,h1.bl,h1.hl⟩
 rcases List.mem_cons.1 hb with rfl | hb
 ·exact ⟨Zc _ _ _,fun e=>by have:=(h.ltE _ e).2;omega,fun e=>by have:=(h.ltS _ e).2;omega⟩
 exact h1.bx b hb
theorem FS.drop {b:Nat × TypeId × Array Value} (h:FS w0 lo (b :: bx) ov nv E S w):FS w0 lo bx ov nv E S w:=⟨h.e,h.s,h.ne,fun c hc=>h.bx c (by simp [hc]),h.bl,h.hl⟩
theorem FS.sub {by':List (Nat × TypeId × Array Value)} (h:FS w0 lo bx ov nv E S w) (hs:∀ b ∈ by',b ∈ bx):FS w0 lo by' ov nv E S w:=⟨h.e,h.s,h.ne,fun c hc=>h.bx c (hs c hc),h.bl,h.hl⟩
theorem FS.moreE {v':Value} {X:List PE} {ds:List (List Value)} (h:FS w0 lo bx ov nv E S w) (cs:List (List Value)) (hcs:w.ownsRow lo ETy 8 ov E.length cs.flatten∧cs.length=E.length∧∀ (i:Nat) (c:List Value) (x:PE),cs[i]? = some c→E[i]? = some x→c.length=8∧ExR w0 c x)
 (hown:w'.ownsRow lo ETy 8 v' (E.length + X.length) (cs.flatten ++ ds.flatten)) (hd:ds.length=X.length) (hX:∀ (i:Nat) (c:List Value) (x:PE),ds[i]? = some c→X[i]? = some x→c.length=8∧ExR w0 c x)
 (g:w.grownBy w' ov.ownBlock) (hv:v'.ownBlock=ov.ownBlock ∨ v'.ownBlock=some w.heap.size):FS w0 lo bx v' nv (E ++ X) S w':=by
 have hnew:∀ b,b < w.heap.size→ov.ownBlock ≠ some b→v'.ownBlock ≠ some b:=fun b hb hne=>by
  rcases hv with hv | hv
  ·rw [hv];exact hne
  ·rw [hv];intro e;cases e;omega
 refine ⟨⟨cs ++ ds,by simpa using hown,by simp [hcs.2.1,hd],fun i c x hc hx=>?_⟩,World.ownsRow.kept h.s g ?_,fun k hk hk2=>?_,fun b hb=>?_,?_,Nat.le_trans h.hl g.size⟩
 ·rcases Nat.lt_or_ge i cs.length with hi | hi
  ·rw [List.getElem?_append_left hi] at hc
   rw [List.getElem?_append_left (by rw [← hcs.2.1];exact hi)] at hx
   exact hcs.2.2 i c x hc hx
  rw [List.getElem?_append_right hi] at hc
  rw [List.getElem?_append_right (by rw [← hcs.2.1];exact hi),← hcs.2.1] at hx
  exact hX _ c x hc hx
 ·cases hk:nv.ownBlock with
  | none=>exact .inl rfl
  | some k=>exact .inr (fun e=>h.ne k e.symm hk)
 ·have hlt:=(h.ltS k hk2).2
  by_cases he:ov.ownBlock=some k
  ·exact h.ne k he hk2
  exact hnew k hlt he hk
 ·obtain ⟨r1,r2,r3⟩:=h.bx b hb
  exact ⟨(g.block b.1 r1.lt (fun e=>r2 e.symm)).trans r1,hnew b.1 r1.lt r2,r3⟩
 exact h.bl.trans ((Below.refl lo w).grown g h.hl (fun k hk=>(h.ltE k hk).1))
theorem FS.moreS {v':Value} {X:List ByteArray} (h:FS w0 lo bx ov nv E S w) (hown:w'.ownsRow lo STy 1 v' (S.length + X.length) (S.map .string ++ X.map .string))
 (g:w.grownBy w' nv.ownBlock) (hv:v'.ownBlock=nv.ownBlock ∨ v'.ownBlock=some w.heap.size):FS w0 lo bx ov v' E (S ++ X) w':=by
 have hnew:∀ b,b < w.heap.size→nv.ownBlock ≠ some b→v'.ownBlock ≠ some b:=fun b hb hne=>by
  rcases hv with hv | hv
  ·rw [hv];exact hne
  ·rw [hv];intro e;cases e;omega
 obtain ⟨cs,h1,h2,h3⟩:=h.e
 refine ⟨⟨cs,World.ownsRow.kept h1 g ?_,h2,h3⟩,by unfold RowS;simpa using hown,fun k hk=>?_,fun b hb=>?_,?_,Nat.le_trans h.hl g.size⟩
 ·cases hk:ov.ownBlock with
  | none=>exact .inl rfl
  | some k=>exact .inr (fun e=>h.ne k hk e.symm)
 ·exact hnew k (h.ltE k hk).2 (h.ne k hk)
 ·obtain ⟨r1,r2,r3⟩:=h.bx b hb
  exact ⟨(g.block b.1 r1.lt (fun e=>r3 e.symm)).trans r1,r2,hnew b.1 r1.lt r3⟩
 exact h.bl.trans ((Below.refl lo w).grown g h.hl (fun k hk=>(h.ltS k hk).1))
end
open Go.Lib
set_option linter.unusedVariables false
set_option linter.unusedSimpArgs false
def nE:PE→Nat
 | .mk _ _ _ _ _ kids=>match kids with
  | []=>1
  | [x]=>nE x + 1
  | [x,y]=>nE x + nE y + 1
  | _=>0
def Zaf {α:Type} (f:α→Nat):List α→Nat
 | []=>0
 | x :: l=>f x + Zaf f l
theorem Zc5 {α:Type} (f:α→Nat):∀ a b:List α,Zaf f (a ++ b)=Zaf f a + Zaf f b
 | [],b=>by simp [Zaf]
 | x :: a,b=>by simp [Zaf,Zc5 f a b];omega
theorem Zho {α:Type} (f:α→Nat):∀ (l:List α),∀ x ∈ l,f x ≤ Zaf f l
 | [],x,h=>by cases h
 | y :: l,x,h=>by
  rcases List.mem_cons.1 h with rfl | h
  ·show f x ≤ f x + _;omega
  ·have:=Zho f l x h
   show f x ≤ f y + _;omega
def cnt1 {α:Type} (_:α):Nat:=1
def Zk0 (x:Zec):Nat:=1 + Zaf nE x.on
def nRow (l:List PE):Nat:=1 + Zaf nE l
def nSet (x:ByteArray × PE):Nat:=1 + nE x.2
def Zob (x:PE × ByteArray):Nat:=nE x.1
def nOrd (x:PE × Bool):Nat:=nE x.1
def nSt (x:PSt):Nat:=x.cols.length + x.key.length + x.names.length + Zaf nRow x.rows + Zaf nSet x.sets + Zaf Zob x.items + Zaf Zk0 x.src + Zaf nE x.wh + Zaf nE x.group + Zaf nE x.having + Zaf nOrd x.order
def Eat {α:Type} (p:Rd α) (P:α→Nat→Prop):Prop:=∀ s:PS,(p s).2.e=0→∃ n,s.k + n=(p s).2.k∧P (p s).1 n
theorem Eat.ret {α:Type} {x:α} {P:α→Nat→Prop} (h:P x 0):Eat (Dt.ret x) P:=fun s _=>⟨0,rfl,h⟩
theorem Eat.bnd {α β:Type} {p:Rd α} {q:α→Rd β} {P:α→Nat→Prop} {R:β→Nat→Prop} (hp:Eat p P) (hk:∀ x,Za0 (q x)) (hq:∀ x n,P x n→Eat (q x) (fun y m=>R y (n + m))):Eat (Dt.bnd p q) R:=fun s h=>by
 obtain ⟨n,h1,h2⟩:=hp s (Classical.byContradiction fun hn=>hk (p s).1 (p s).2 hn h)
 obtain ⟨m,h3,h4⟩:=hq (p s).1 n h2 (p s).2 h
 exact ⟨n + m,by show s.k + (n + m)=(q (p s).1 (p s).2).2.k;omega,h4⟩
theorem Eat.imp {α:Type} {p:Rd α} {P Q:α→Nat→Prop} (h:Eat p P) (hi:∀ x n,P x n→Q x n):Eat p Q:=fun s hs=>by
 obtain ⟨n,h1,h2⟩:=h s hs
 exact ⟨n,h1,hi _ _ h2⟩
theorem Eat.fail {α:Type} {p:Rd α} (h:∀ s:PS,(p s).2.e ≠ 0) (P:α→Nat→Prop):Eat p P:=fun s h1=>absurd h1 (h s)
section
variable {L:List Tk} {en:Int}
theorem Eat.isM (t:ByteArray):Eat (Dt.isM L en t) (fun b n=>n=if b then 1 else 0):=fun s hs=>by
 obtain ⟨⟨b,s1⟩,e⟩:∃ r,Dt.isM L en t s=r:=⟨_,rfl⟩
 rw [e]
 cases b with
 | true=>
  have:=(Zh5 (L:=L) (en:=en) (t:=t) (s:=s) Zvc).1
  rw [e] at this
  exact ⟨1,by rw [show s1=s.next from this],rfl⟩
 | false=>
  have:=Zh4 (L:=L) (en:=en) (t:=t) (s:=s) Zvc
  rw [e] at this
  exact ⟨0,by rw [show s1=s from this];rfl,rfl⟩
theorem Eat.is {α:Type} {t:ByteArray} {p q:Rd α} {R:α→Nat→Prop} (hk:∀ b:Bool,Za0 (if b=true then p else q)) (hp:Eat p (fun y m=>R y (1 + m))) (hq:Eat q R):Eat (Dt.bnd (Dt.isM L en t) fun b=>if b=true then p else q) R:=
 Eat.bnd (Eat.isM t) hk (fun b n hn=>by
  cases b
  ·have h0:n=0:=hn
   subst h0
   exact hq.imp fun y m h=>by rw [Nat.zero_add];exact h
  ·have h1:n=1:=hn
   subst h1
   exact hp)
theorem Eat.mustM:∀ ws:List ByteArray,Eat (Dt.mustM L en ws) (fun _ n=>n=ws.length)
 | []=>Eat.ret rfl
 | t :: ws=>Eat.bnd (Eat.isM t) (fun b=>by
     cases b with
     | true=>exact Sim.keep (Sim.mustM ws)
     | false=>exact Sim.keep (Sim.failM 6 kD)) (fun b n hn=>by
     cases b with
     | true=>
      have h1:n=1:=hn
      exact (Eat.mustM ws).imp fun _ m hm=>by rw [hm,h1,List.length_cons];omega
     | false=>exact Eat.fail (fun s=>(Zac 6 s kD).2) _)
theorem Eat.nameM:Eat (Dt.nameM L en) (fun _ n=>n=1):=fun s hs=>by
 unfold Dt.nameM at hs ⊢
 split at hs
 ·rename_i hk
  rw [if_pos hk]
  exact ⟨1,rfl,rfl⟩
 ·exact absurd hs (Zac 6 s kD).2
theorem Eat.nameQ:Eat (Dt.nameQ L en) (fun r n=>n=if r.isSome then 1 else 0):=fun s hs=>by
 unfold Dt.nameQ
 split
 ·exact ⟨1,rfl,rfl⟩
 ·exact ⟨0,rfl,rfl⟩
theorem Eat.negM:Eat (Dt.negM L en) (fun r n=>n=if r.isSome then 1 else 0):=fun s hs=>by
 unfold Dt.negM
 split
 ·exact ⟨1,rfl,rfl⟩
 ·exact ⟨0,rfl,rfl⟩
theorem Eat.litM:Eat (Dt.litM L en) (fun r n=>∀ x,r=some x→nE x ≤ n):=fun s hs=>by
 unfold Dt.litM at hs ⊢
 simp only at hs ⊢
 by_cases he:s.e=0
 ·simp only [he,ne_eq,not_true_eq_false,if_false] at hs ⊢
  split
  ·rename_i hk
   rw [if_pos hk] at hs
   split
   ·exact ⟨1,rfl,fun x hx=>by cases hx;exact Nat.le_refl _⟩
   ·rename_i hn
    rw [if_neg hn] at hs
    exact absurd hs (Zac 5 s kD).2
  ·split
   ·exact ⟨1,rfl,fun x hx=>by cases hx;exact Nat.le_refl _⟩
   ·split
    ·exact ⟨1,rfl,fun x hx=>by cases hx;exact Nat.le_refl _⟩
    ·exact ⟨0,rfl,fun x hx=>by cases hx⟩
 ·rw [if_pos he] at hs
  exact absurd hs he
theorem Eat.oneOf (l:List (ByteArray × Nat)):Eat (Dt.oneOf L en l) (fun r n=>n=if r.isSome then 1 else 0):=fun s hs=>by
 rcases Zd5 (L:=L) (en:=en) l s with e | ⟨o,e,_⟩
 ·rw [e];exact ⟨0,rfl,rfl⟩
 ·rw [e];exact ⟨1,rfl,rfl⟩
theorem Eat.chainM {ops:List (ByteArray × Nat)} (ho:∀ x ∈ ops,x.1 ≠ Za4∧x.1 ≠ Zp) {one:Rd PE} (hs:Sim L en L en 0 one one) (hg:Eat one (fun y n=>nE y ≤ n)):∀ f x,Eat (Dt.chainM L en ops one f x) (fun y n=>nE y ≤ nE x + n)
 | 0,x=>Eat.fail (fun s=>by show (99:Nat) ≠ 0;decide) _
 | f + 1,x=>Eat.bnd (Eat.oneOf ops) (fun o=>by
     cases o with
     | none=>exact Za0.ret _
     | some o=>exact Za0.bnd hs.keep (fun y=>(Sim.chainM ops ho hs f _).keep)) (fun o n hn=>by
     cases o with
     | none=>exact Eat.ret (show nE x ≤ nE x + (n + 0) by omega)
     | some o=>
      have h1:n=1:=hn
      exact Eat.bnd hg (fun y=>(Sim.chainM ops ho hs f _).keep) (fun y k hy=>(Eat.chainM ho hs hg f _).imp fun z m hz=>by
       have:nE (PE.node o [x,y])=nE x + nE y + 1:=rfl
       show nE z ≤ nE x + (n + (k + m))
       omega))
theorem Eat.chainL {ops:List (ByteArray × Nat)} (ho:∀ x ∈ ops,x.1 ≠ Za4∧x.1 ≠ Zp) {one:Rd PE} (hs:Sim L en L en 0 one one) (hg:Eat one (fun y n=>nE y ≤ n)) (f:Nat):Eat (Dt.chainL L en ops one f) (fun y n=>nE y ≤ n):=
 Eat.bnd hg (fun x=>(Sim.chainM ops ho hs f x).keep) (fun x n hx=>(Eat.chainM ho hs hg f x).imp fun y m hy=>by show nE y ≤ n + m;omega)
theorem Eat.exF:∀ f m,Eat (Dt.exF L en f m) (fun y n=>nE y ≤ n)
 | 0,_=>Eat.fail (fun s=>by show (99:Nat) ≠ 0;decide) _
 | f + 1,.expr=>Eat.chainL kD (Sim.chainL _ kD (Sim.exF f .not) f) (Eat.chainL kD (Sim.exF f .not) (Eat.exF f .not) f) f
 | f + 1,.not=>Eat.is kpE
     (Eat.bnd (Eat.exF f .not) kpE (fun x n hx=>Eat.ret (show nE x + 1 ≤ 1 + (n + 0) by omega)))
     (Eat.bnd (Eat.exF f (.sum 0)) kpE (fun x n hx=>Eat.is kpE
      (Eat.bnd (Eat.isM _) kpE (fun b n2 h2=>Eat.bnd (Eat.mustM [Zbr]) kpE (fun _ n3 h3=>Eat.ret (by
       have h3:n3=1:=h3
       cases b with
       | true=>
        have h2:n2=1:=h2
        show nE x + 1 + 1 ≤ n + (1 + (n2 + (n3 + 0)));omega
       | false=>show nE x + 1 ≤ n + (1 + (n2 + (n3 + 0)));omega))))
      (Eat.bnd (Eat.oneOf Zkt) kpE (fun o n2 h2=>by
       cases o with
       | none=>exact Eat.ret (show nE x ≤ n + (n2 + 0) by omega)
       | some o=>
        have h2:n2=1:=h2
        exact Eat.bnd (Eat.exF f (.sum 0)) kpE (fun y n3 hy=>Eat.ret (show nE x + nE y + 1 ≤ n + (n2 + (n3 + 0)) by omega))))))
 | f + 1,.sum k=>by
  show Eat (if k=3 then Dt.exF L en f .unary else Dt.chainL L en (opsOf k) (Dt.exF L en f (.sum (k + 1))) f) _
  split
  ·exact Eat.exF f .unary
  ·match k with
   | 0=>exact Eat.chainL kD (Sim.exF f _) (Eat.exF f _) f
   | 1=>exact Eat.chainL kD (Sim.exF f _) (Eat.exF f _) f
   | _ + 2=>exact Eat.chainL (ops:=[(Zao,8),(Zih,9),(Zig,10)]) kD (Sim.exF f _) (Eat.exF f _) f
 | f + 1,.unary=>Eat.is kpE
     (Eat.bnd Eat.negM kpE (fun n n2 hn=>by
      cases n with
      | some n=>exact Eat.ret (show 1 ≤ 1 + (n2 + 0) by omega)
      | none=>exact Eat.bnd (Eat.exF f .unary) kpE (fun x n3 hx=>Eat.ret (show nE x + 1 ≤ 1 + (n2 + (n3 + 0)) by omega))))
     (Eat.exF f .prim)
 | f + 1,.prim=>Eat.bnd Eat.litM kpE (fun r n0 h0=>by
     cases r with
     | some x=>exact Eat.ret (show nE x ≤ n0 + 0 by have:=h0 x rfl;omega)
     | none=>exact Eat.bnd Eat.nameQ kpE (fun r n1 h1=>by
      cases r with
      | some t=>
       have h1:n1=1:=h1
       exact Eat.is kpE
        (Eat.bnd Eat.nameM kpE (fun m n3 hm=>Eat.ret (show 1 ≤ n0 + (n1 + (1 + (n3 + 0))) by omega)))
        (Eat.ret (show 1 ≤ n0 + (n1 + 0) by omega))
      | none=>
       exact Eat.is kpE (Eat.ret (show 1 ≤ n0 + (n1 + (1 + 0)) by omega))
             (Eat.is kpE (Eat.bnd (Eat.exF f .expr) kpE (fun x n4 hx=>Eat.bnd (Eat.mustM [Zp]) kpE (fun _ n5 _=>Eat.ret (show nE x ≤ n0 + (n1 + (1 + (n4 + (n5 + 0)))) by omega))))
             (Eat.is kpE (Eat.bnd (Eat.mustM [Z9]) kpE (fun _ n5 _=>Eat.is kpE
                   (Eat.bnd (Eat.mustM [Zp]) kpE (fun _ n7 _=>Eat.ret (show 1 ≤ n0 + (n1 + (1 + (n5 + (1 + (n7 + 0))))) by omega)))
                   (Eat.bnd (Eat.exF f .expr) kpE (fun x n7 hx=>Eat.bnd (Eat.mustM [Zp]) kpE (fun _ n8 _=>Eat.ret (show nE x + 1 ≤ n0 + (n1 + (1 + (n5 + (n7 + (n8 + 0))))) by omega))))))
             (Eat.bnd (Eat.oneOf groups) kpE (fun o n5 h5=>by
                         cases o with
                         | some o=>
                          have h5:n5=1:=h5
                          exact Eat.bnd (Eat.mustM [Z9]) kpE (fun _ n6 _=>Eat.bnd (Eat.exF f .expr) kpE (fun x n7 hx=>Eat.bnd (Eat.mustM [Zp]) kpE (fun _ n8 _=>Eat.ret (show nE x + 1 ≤ n0 + (n1 + (n5 + (n6 + (n7 + (n8 + 0))))) by omega))))
                         | none=>exact Eat.fail (fun s=>(Zac 6 s kD).2) _))))))
theorem Eat.exprM:Eat (Dt.exprM L en) (fun y n=>nE y ≤ n):=Eat.exF FU .expr
theorem Zu8 {α:Type} {one:Rd α} {f:Nat} {s s1:PS} {x:α} (h1:one s=(x,s1)) (he:s1.e=0):Dt.listM L en one (f + 1) s=Dt.bnd (Dt.isM L en Zy) (fun b=>if b=true then Dt.bnd (Dt.listM L en one f) fun r=>Dt.bnd Dt.okM fun ok=>Dt.ret (if ok=true then x :: r else []) else Dt.ret [x]) s1:=by
 have e:Dt.listM L en one (f + 1) s=(if decide (s1.e=0)=true then (Dt.bnd (Dt.isM L en Zy) fun b=>if b=true then Dt.bnd (Dt.listM L en one f) fun r=>Dt.bnd Dt.okM fun ok=>Dt.ret (if ok=true then x :: r else []) else Dt.ret [x]) else Dt.ret []) s1:=by
  show Dt.bnd one _ s=_
  rw [Z0 h1]
  rfl
 rw [e,if_pos (decide_eq_true he)]
theorem Eat.listM {α:Type} {one:Rd α} {μ:α→Nat} (hs:Sim L en L en 0 one one) (hg:Eat one (fun x n=>μ x ≤ n)):∀ f,Eat (Dt.listM L en one f) (fun l n=>Zaf μ l ≤ n)
 | 0=>Eat.fail (fun s=>by show (99:Nat) ≠ 0;decide) _
 | f + 1=>fun s hf=>by
  obtain ⟨⟨x,s1⟩,h1⟩:∃ r,one s=r:=⟨_,rfl⟩
  have he:s1.e=0:=Classical.byContradiction fun hn=>by
   have e:Dt.listM L en one (f + 1) s=(if decide (s1.e=0)=true then (Dt.bnd (Dt.isM L en Zy) fun b=>if b=true then Dt.bnd (Dt.listM L en one f) fun r=>Dt.bnd Dt.okM fun ok=>Dt.ret (if ok=true then x :: r else []) else Dt.ret [x]) else Dt.ret []) s1:=by
    show Dt.bnd one _ s=_
    rw [Z0 h1]
    rfl
   rw [e,if_neg (by simp [hn])] at hf
   exact hn hf
  obtain ⟨n,g1,g2⟩:∃ n,s.k + n=s1.k∧μ x ≤ n:=by
   have:=hg s (by rw [h1];exact he)
   rw [h1] at this
   exact this
  rw [Zu8 h1 he] at hf ⊢
  have hE:Eat (Dt.bnd (Dt.isM L en Zy) (fun b=>if b=true then Dt.bnd (Dt.listM L en one f) fun r=>Dt.bnd Dt.okM fun ok=>Dt.ret (if ok=true then x :: r else []) else Dt.ret [x])) (fun l m=>Zaf μ l ≤ n + m):=
   Eat.is (fun b=>Za0.ite b (Za0.bnd (Sim.keep (Sim.listM hs f)) fun r=>Za0.bnd ((fun s h=>h:Za0 Dt.okM)) fun ok=>Za0.ret _) (Za0.ret _))
    (Eat.bnd (Eat.listM hs hg f) (fun r=>Za0.bnd ((fun s h=>h:Za0 Dt.okM)) fun ok=>Za0.ret _) (fun r n3 hr=>Eat.bnd (P:=fun _ n=>n=0) (fun s _=>⟨0,rfl,rfl⟩) (fun ok=>Za0.ret _) (fun ok n4 _=>Eat.ret (by
            cases ok with
            | true=>show μ x + Zaf μ r ≤ n + (1 + (n3 + (n4 + 0)));omega
            | false=>show 0 ≤ _;exact Nat.zero_le _))))
    (Eat.ret (show μ x + 0 ≤ n + 0 by omega))
  obtain ⟨m,g3,g4⟩:=hE s1 hf
  exact ⟨n + m,by omega,g4⟩
theorem Eat.insideM {α:Type} {one:Rd α} {μ:α→Nat} (hs:Sim L en L en 0 one one) (hg:Eat one (fun x n=>μ x ≤ n)):Eat (Dt.insideM L en one FU) (fun l n=>Zaf μ l + 1 ≤ n):=
 Eat.bnd (Eat.mustM [Z9]) (fun _=>Za0.bnd (Sim.keep (Sim.listM hs FU)) (fun l=>Za0.bnd (Sim.keep (Sim.mustM _)) (fun _=>Za0.ret _))) (fun _ n0 h0=>Eat.bnd (Eat.listM hs hg FU) (fun l=>Za0.bnd (Sim.keep (Sim.mustM _)) (fun _=>Za0.ret _)) (fun l n1 hl=>Eat.bnd (Eat.mustM [Zp]) (fun _=>Za0.ret _) (fun _ n2 _=>Eat.ret (by
  have h0:n0=1:=h0
  show Zaf μ l + 1 ≤ n0 + (n1 + (n2 + 0));omega))))
theorem Zqk {α:Type} : ∀ l:List α,Zaf cnt1 l=l.length
 | []=>rfl
 | x :: l=>by show 1 + Zaf cnt1 l=l.length + 1;rw [Zqk l];omega
theorem Eat.namesM:Eat (Dt.namesM L en) (fun l n=>l.length ≤ n):=(Eat.insideM (μ:=cnt1) Sim.nameM (Eat.nameM.imp fun _ n h=>by show 1 ≤ n;omega)).imp fun l n h=>by rw [Zqk] at h;omega
theorem Eat.maybeM (w:ByteArray) (h1:w ≠ Za4) (h2:w ≠ Zp):Eat (Dt.maybeM L en w) (fun l n=>Zaf nE l ≤ n):=Eat.is kpS (Eat.bnd Eat.exprM kpS (fun x n hx=>Eat.ret (show nE x + 0 ≤ 1 + (n + 0) by omega))) (Eat.ret (show 0 ≤ _ from Nat.zero_le _))
theorem Eat.byM {α:Type} (w:ByteArray) {one:Rd α} {μ:α→Nat} (hs:Sim L en L en 0 one one) (hg:Eat one (fun x n=>μ x ≤ n)):Eat (Dt.byM L en w one) (fun l n=>Zaf μ l ≤ n):=
 Eat.is (fun b=>Za0.ite b (Za0.bnd (Sim.keep (Sim.mustM _)) (fun _=>Sim.keep (Sim.listM hs FU))) (Za0.ret _))
  (Eat.bnd (Eat.mustM [WBY]) (fun _=>Sim.keep (Sim.listM hs FU)) (fun _ n1 _=>(Eat.listM hs hg FU).imp fun l m h=>by show Zaf μ l ≤ 1 + (n1 + m);omega))
  (Eat.ret (show 0 ≤ _ from Nat.zero_le _))
theorem Eat.colM:Eat (Dt.colM L en) (fun _ n=>1 ≤ n):=Eat.bnd Eat.nameM kpS (fun x n0 h0=>Eat.bnd (Eat.oneOf types) kpS (fun o n1 _=>Eat.bnd (P:=fun _ _=>True) (by
 cases o with
 | some o=>exact Eat.ret trivial
 | none=>exact Eat.fail (fun s=>(Zac 6 s kD).2) _) kpS (fun ty n2 _=>Eat.is kpS
  (Eat.bnd (Eat.mustM [Zbr]) kpS (fun _ n4 _=>Eat.ret (show 1 ≤ n0 + (n1 + (n2 + (1 + (n4 + 0)))) by omega)))
  (Eat.ret (show 1 ≤ n0 + (n1 + (n2 + 0)) by omega)))))
theorem Zbc {α:Type} {p:Rd α} {P:α→Nat→Prop} (h:Eat p P) {s s':PS} {y:α} (e:p s=(y,s')) (h0:s'.e=0):∃ n,s.k + n=s'.k∧P y n:=by
 have:=h s (by rw [e];exact h0)
 rw [e] at this
 exact this
theorem Eat.colsM:∀ f cs,Eat (Dt.colsM L en f cs) (fun l n=>l.length ≤ cs.length + n)
 | 0,cs=>Eat.fail (fun s=>by show (99:Nat) ≠ 0;decide) _
 | f + 1,cs=>fun s hs=>by
  have e:Dt.colsM L en (f + 1) cs s=(if decide (s.e=0)=true then Dt.bnd (if cs.isEmpty then Dt.ret false else Dt.isM L en Zbl) (fun b=>if b then Dt.ret cs else Dt.bnd (Dt.colM L en) fun c=>Dt.bnd (Dt.mustM L en [Zy]) fun _=>Dt.colsM L en f (cs ++ [c])) else Dt.ret cs) s:=rfl
  rw [e] at hs ⊢
  by_cases he:s.e=0
  ·rw [if_pos (decide_eq_true he)] at hs ⊢
   obtain ⟨⟨b,s2⟩,h2⟩:∃ r,(if cs.isEmpty then Dt.ret false else Dt.isM L en Zbl:Rd Bool) s=r:=⟨_,rfl⟩
   have hk2:s.k ≤ s2.k:=by
    split at h2
    ·cases h2;exact Nat.le_refl _
    have:=(Zvi (L:=L) (en:=en) Zbl s).1
    rw [h2] at this;exact this
   rw [Z0 h2] at hs ⊢
   cases b with
   | true=>
    simp only [if_true] at hs ⊢
    exact ⟨s2.k - s.k,by show s.k + (s2.k - s.k)=s2.k;omega,by show cs.length ≤ _;omega⟩
   | false=>
    simp only [Bool.false_eq_true,if_false] at hs ⊢
    obtain ⟨⟨c,s3⟩,h3⟩:∃ r,Dt.colM L en s2=r:=⟨_,rfl⟩
    rw [Z0 h3] at hs ⊢
    obtain ⟨⟨u,s4⟩,h4⟩:∃ r,Dt.mustM L en [Zy] s3=r:=⟨_,rfl⟩
    rw [Z0 h4] at hs ⊢
    obtain ⟨m,g5,g6⟩:=Eat.colsM f (cs ++ [c]) s4 hs
    have h04:s4.e=0:=Classical.byContradiction fun hn=>Sim.keep (Sim.colsM f (cs ++ [c])) s4 hn hs
    have h03:=Zax (Sim.keep (Sim.mustM _)) h4 h04
    obtain ⟨n1,g1,g2⟩:=Zbc Eat.colM h3 h03
    obtain ⟨n2,g3,_⟩:=Zbc (Eat.mustM [Zy]) h4 h04
    rw [List.length_append,List.length_singleton] at g6
    exact ⟨s2.k - s.k + n1 + n2 + m,by omega,by omega⟩
  ·rw [if_neg (by simp [he])] at hs
   exact absurd hs he
theorem Eat.sourceM:Eat (Dt.sourceM L en) (fun x n=>Zk0 x ≤ n):=Eat.bnd Eat.nameM kpS (fun x n0 h0=>Eat.is kpS
 (Eat.bnd Eat.nameM kpS (fun m n2 _=>Eat.ret (show 1 + 0 ≤ n0 + (1 + (n2 + 0)) by omega)))
 (Eat.ret (show 1 + 0 ≤ n0 + 0 by omega)))
theorem Eat.joinsM:∀ f l,Eat (Dt.joinsM L en f l) (fun r n=>Zaf Zk0 r ≤ Zaf Zk0 l + n)
 | 0,l=>Eat.fail (fun s=>by show (99:Nat) ≠ 0;decide) _
 | f + 1,l=>Eat.is kpS
     (Eat.bnd Eat.sourceM kpS (fun x n1 hx=>Eat.bnd (Eat.mustM [WON]) kpS (fun _ n2 _=>Eat.bnd Eat.exprM kpS (fun y n3 hy=>(Eat.joinsM f _).imp fun r m h=>by
      rw [Zc5] at h
      have e:Zaf Zk0 [{ x with on:=[y] }]=1 + (nE y + 0) + 0:=rfl
      have e2:1 ≤ Zk0 x:=by unfold Zk0;omega
      show Zaf Zk0 r ≤ Zaf Zk0 l + (1 + (n1 + (n2 + (n3 + m))))
      omega))))
     (Eat.ret (show Zaf Zk0 l ≤ Zaf Zk0 l + 0 by omega))
theorem Eat.createM:Eat (Dt.createM L en) (fun x n=>nSt x ≤ n):=Eat.is kpS
 (Eat.bnd Eat.nameM kpS (fun t n1 _=>Eat.bnd (Eat.mustM [Z9]) kpS (fun _ n2 _=>Eat.bnd (Eat.colsM FU []) kpS (fun c n3 hc=>Eat.bnd (Eat.mustM [Zm1]) kpS (fun _ n4 _=>Eat.bnd Eat.namesM kpS (fun k n5 hk=>Eat.bnd (Eat.mustM [Zp]) kpS (fun _ n6 _=>Eat.ret (by
  simp only [List.length_nil] at hc
  show nSt { kind:=1,table:=t,cols:=c,key:=k } ≤ 1 + (n1 + (n2 + (n3 + (n4 + (n5 + (n6 + 0))))))
  simp only [nSt,Zaf,List.length_nil]
  omega))))))))
 (Eat.bnd (Eat.isM _) kpS (fun u n1 _=>Eat.bnd (Eat.mustM [Zbo]) kpS (fun _ n2 _=>Eat.bnd Eat.nameM kpS (fun nm n3 _=>Eat.bnd (Eat.mustM [WON]) kpS (fun _ n4 _=>Eat.bnd Eat.nameM kpS (fun t n5 _=>Eat.bnd Eat.namesM kpS (fun k n6 hk=>Eat.ret (by
  show nSt { kind:=3,uniq:=u,name:=nm,table:=t,key:=k } ≤ n1 + (n2 + (n3 + (n4 + (n5 + (n6 + 0)))))
  simp only [nSt,Zaf,List.length_nil]
  omega))))))))
theorem Eat.dropM:Eat (Dt.dropM L en) (fun x n=>nSt x ≤ n):=Eat.is kpS
 (Eat.bnd Eat.nameM kpS (fun t n1 _=>Eat.ret (show 0 ≤ _ from Nat.zero_le _)))
 (Eat.bnd (Eat.mustM [Zbo]) kpS (fun _ n1 _=>Eat.bnd Eat.nameM kpS (fun t n2 _=>Eat.ret (show 0 ≤ _ from Nat.zero_le _))))
theorem Eat.setM:Eat (Dt.setM L en) (fun x n=>nSet x ≤ n):=Eat.bnd Eat.nameM kpS (fun m k0 hk=>Eat.bnd (Eat.mustM [BEQ]) kpS (fun _ k1 _=>Eat.bnd Eat.exprM kpS (fun x k2 hx=>Eat.ret (show 1 + nE x ≤ k0 + (k1 + (k2 + 0)) by omega))))
theorem Eat.rowM:Eat (Dt.insideM L en (Dt.exprM L en) FU) (fun x n=>nRow x ≤ n):=(Eat.insideM Sim.exprM Eat.exprM).imp fun l n h=>by show 1 + Zaf nE l ≤ n;omega
theorem Eat.insertM:Eat (Dt.insertM L en) (fun x n=>nSt x ≤ n):=fun s hs=>by
 unfold Dt.insertM at hs ⊢
 obtain ⟨⟨u,s1⟩,e_s1⟩:∃ r,Dt.mustM L en [Zf4] s=r:=⟨_,rfl⟩
 rw [Z0 e_s1] at hs ⊢
 obtain ⟨⟨t,s2⟩,e_s2⟩:∃ r,Dt.nameM L en s1=r:=⟨_,rfl⟩
 rw [Z0 e_s2] at hs ⊢
 obtain ⟨⟨n,s3⟩,e_s3⟩:∃ r,Dt.namesM L en s2=r:=⟨_,rfl⟩
 rw [Z0 e_s3] at hs ⊢
 obtain ⟨⟨u2,s4⟩,e_s4⟩:∃ r,Dt.mustM L en [Zcy] s3=r:=⟨_,rfl⟩
 rw [Z0 e_s4] at hs ⊢
 obtain ⟨⟨r,s5⟩,e_s5⟩:∃ r,Dt.listM L en (Dt.insideM L en (Dt.exprM L en) FU) FU s4=r:=⟨_,rfl⟩
 rw [Z0 e_s5] at hs ⊢
 have h5:s5.e=0:=hs
 have h4:=Zax (Sim.keep (Sim.listM (Sim.insideM Sim.exprM FU) FU)) e_s5 h5
 have h3:=Zax (Sim.keep (Sim.mustM _)) e_s4 h4
 have h2:=Zax (Sim.keep Sim.namesM) e_s3 h3
 have h1:=Zax (Sim.keep Sim.nameM) e_s2 h2
 obtain ⟨n1,g1,_⟩:=Zbc (Eat.mustM [Zf4]) e_s1 h1
 obtain ⟨n2,g2,_⟩:=Zbc Eat.nameM e_s2 h2
 obtain ⟨n3,g3,k3⟩:=Zbc Eat.namesM e_s3 h3
 obtain ⟨n4,g4,_⟩:=Zbc (Eat.mustM [Zcy]) e_s4 h4
 obtain ⟨n5,g5,k5⟩:=Zbc (Eat.listM (μ:=nRow) (Sim.insideM Sim.exprM FU) Eat.rowM FU) e_s5 h5
 refine ⟨n1 + n2 + n3 + n4 + n5,by show s.k + (n1 + n2 + n3 + n4 + n5)=s5.k;omega,?_⟩
 show nSt { kind:=5,table:=t,names:=n,rows:=r } ≤ _
 simp only [nSt,Zaf,List.length_nil]
 omega
theorem Eat.updateM:Eat (Dt.updateM L en) (fun x n=>nSt x ≤ n):=fun s hs=>by
 unfold Dt.updateM at hs ⊢
 obtain ⟨⟨t,s2⟩,e_s2⟩:∃ r,Dt.nameM L en s=r:=⟨_,rfl⟩
 rw [Z0 e_s2] at hs ⊢
 obtain ⟨⟨u2,s4⟩,e_s4⟩:∃ r,Dt.mustM L en [Zpa] s2=r:=⟨_,rfl⟩
 rw [Z0 e_s4] at hs ⊢
 obtain ⟨⟨r,s5⟩,e_s5⟩:∃ r,Dt.listM L en (Dt.setM L en) FU s4=r:=⟨_,rfl⟩
 rw [Z0 e_s5] at hs ⊢
 obtain ⟨⟨w,s6⟩,e_s6⟩:∃ r,Dt.maybeM L en Z6 s5=r:=⟨_,rfl⟩
 rw [Z0 e_s6] at hs ⊢
 have h6:s6.e=0:=hs
 have h5:=Zax (Sim.keep (Sim.maybeM Z6 kD kD)) e_s6 h6
 have h4:=Zax (Sim.keep (Sim.listM Sim.setM FU)) e_s5 h5
 have h2:=Zax (Sim.keep (Sim.mustM _)) e_s4 h4
 obtain ⟨n2,g2,_⟩:=Zbc Eat.nameM e_s2 h2
 obtain ⟨n4,g4,_⟩:=Zbc (Eat.mustM [Zpa]) e_s4 h4
 obtain ⟨n5,g5,k5⟩:=Zbc (Eat.listM (μ:=nSet) Sim.setM Eat.setM FU) e_s5 h5
 obtain ⟨n6,g6,k6⟩:=Zbc (Eat.maybeM Z6 kD kD) e_s6 h6
 refine ⟨n2 + n4 + n5 + n6,by show s.k + (n2 + n4 + n5 + n6)=s6.k;omega,?_⟩
 show nSt { kind:=6,table:=t,sets:=r,wh:=w } ≤ _
 simp only [nSt,Zaf,List.length_nil]
 omega
theorem Eat.deleteM:Eat (Dt.deleteM L en) (fun x n=>nSt x ≤ n):=fun s hs=>by
 unfold Dt.deleteM at hs ⊢
 obtain ⟨⟨u2,s4⟩,e_s4⟩:∃ r,Dt.mustM L en [Zck] s=r:=⟨_,rfl⟩
 rw [Z0 e_s4] at hs ⊢
 obtain ⟨⟨t,s5⟩,e_s5⟩:∃ r,Dt.nameM L en s4=r:=⟨_,rfl⟩
 rw [Z0 e_s5] at hs ⊢
 obtain ⟨⟨w,s6⟩,e_s6⟩:∃ r,Dt.maybeM L en Z6 s5=r:=⟨_,rfl⟩
 rw [Z0 e_s6] at hs ⊢
 have h6:s6.e=0:=hs
 have h5:=Zax (Sim.keep (Sim.maybeM Z6 kD kD)) e_s6 h6
 have h4:=Zax (Sim.keep Sim.nameM) e_s5 h5
 obtain ⟨n4,g4,_⟩:=Zbc (Eat.mustM [Zck]) e_s4 h4
 obtain ⟨n5,g5,_⟩:=Zbc Eat.nameM e_s5 h5
 obtain ⟨n6,g6,k6⟩:=Zbc (Eat.maybeM Z6 kD kD) e_s6 h6
 refine ⟨n4 + n5 + n6,by show s.k + (n4 + n5 + n6)=s6.k;omega,?_⟩
 show nSt { kind:=7,table:=t,wh:=w } ≤ _
 simp only [nSt,Zaf,List.length_nil]
 omega
theorem Eat.itemM:Eat (Dt.itemM L en) (fun x n=>Zob x ≤ n):=Eat.bnd Eat.exprM kpS (fun x k0 hx=>Eat.is kpS
 (Eat.bnd Eat.nameM kpS (fun m k2 _=>Eat.ret (show nE x ≤ k0 + (1 + (k2 + 0)) by omega)))
 (Eat.ret (show nE x ≤ k0 + 0 by omega)))
theorem Eat.orderM:Eat (Dt.orderM L en) (fun x n=>nOrd x ≤ n):=Eat.bnd Eat.exprM kpS (fun x k0 hx=>Eat.bnd (Eat.isM _) kpS (fun b k1 _=>Eat.ret (show nE x ≤ k0 + (k1 + 0) by omega)))
theorem Eat.chooseM:Eat (Dt.chooseM L en) (fun x n=>nSt x ≤ n):=fun s hs=>by
 obtain ⟨⟨b,s1⟩,e1⟩:∃ r,Dt.isM L en Zao s=r:=⟨_,rfl⟩
 have E1:Dt.chooseM L en s=Dt.bnd (if b=true then Dt.ret [] else Dt.listM L en (Dt.itemM L en) FU) (fun i=>Dt.bnd (Dt.mustM L en [Zck]) fun _=>Dt.bnd (Dt.sourceM L en) fun x=>
  Dt.bnd (Dt.joinsM L en FU [x]) fun j=>Dt.bnd (Dt.maybeM L en Z6) fun w=>Dt.bnd (Dt.byM L en Zbp (Dt.exprM L en)) fun g=>Dt.bnd (Dt.maybeM L en Zbi) fun h=>
  Dt.bnd (Dt.byM L en Zbz (Dt.orderM L en)) fun o=>Dt.bnd (Dt.limitM L en) fun m=>Dt.ret { kind:=8,items:=i,src:=j,wh:=w,group:=g,having:=h,order:=o,limit:=m }) s1:=by
  show Dt.bnd (Dt.isM L en Zao) _ s=_
  rw [Z0 e1]
 rw [E1] at hs ⊢
 obtain ⟨⟨i,s2⟩,e2⟩:∃ r,(if b=true then Dt.ret [] else Dt.listM L en (Dt.itemM L en) FU) s1=r:=⟨_,rfl⟩
 rw [Z0 e2] at hs ⊢
 obtain ⟨⟨u,s3⟩,e3⟩:∃ r,Dt.mustM L en [Zck] s2=r:=⟨_,rfl⟩
 rw [Z0 e3] at hs ⊢
 obtain ⟨⟨x,s4⟩,e4⟩:∃ r,Dt.sourceM L en s3=r:=⟨_,rfl⟩
 rw [Z0 e4] at hs ⊢
 obtain ⟨⟨j,s5⟩,e5⟩:∃ r,Dt.joinsM L en FU [x] s4=r:=⟨_,rfl⟩
 rw [Z0 e5] at hs ⊢
 obtain ⟨⟨w,s6⟩,e6⟩:∃ r,Dt.maybeM L en Z6 s5=r:=⟨_,rfl⟩
 rw [Z0 e6] at hs ⊢
 obtain ⟨⟨g,s7⟩,e7⟩:∃ r,Dt.byM L en Zbp (Dt.exprM L en) s6=r:=⟨_,rfl⟩
 rw [Z0 e7] at hs ⊢
 obtain ⟨⟨hv,s8⟩,e8⟩:∃ r,Dt.maybeM L en Zbi s7=r:=⟨_,rfl⟩
 rw [Z0 e8] at hs ⊢
 obtain ⟨⟨o,s9⟩,e9⟩:∃ r,Dt.byM L en Zbz (Dt.orderM L en) s8=r:=⟨_,rfl⟩
 rw [Z0 e9] at hs ⊢
 obtain ⟨⟨m,s10⟩,e10⟩:∃ r,Dt.limitM L en s9=r:=⟨_,rfl⟩
 rw [Z0 e10] at hs ⊢
 have h10:s10.e=0:=hs
 have h9:=Zax (Sim.keep Sim.limitM) e10 h10
 have h8:=Zax (Sim.keep (Sim.byM Zbz kD kD Sim.orderM)) e9 h9
 have h7:=Zax (Sim.keep (Sim.maybeM Zbi kD kD)) e8 h8
 have h6:=Zax (Sim.keep (Sim.byM Zbp kD kD Sim.exprM)) e7 h7
 have h5:=Zax (Sim.keep (Sim.maybeM Z6 kD kD)) e6 h6
 have h4:=Zax (Sim.keep (Sim.joinsM FU [x])) e5 h5
 have h3:=Zax (Sim.keep Sim.sourceM) e4 h4
 have h2:=Zax (Sim.keep (Sim.mustM [Zck])) e3 h3
 have gi:∃ n,s1.k + n=s2.k∧Zaf Zob i ≤ n:=by
  cases b with
  | true=>
   simp only [if_true] at e2
   obtain ⟨rfl,rfl⟩:=Prod.mk.inj e2
   exact ⟨0,rfl,Nat.le_refl _⟩
  | false=>
   simp only [Bool.false_eq_true,if_false] at e2
   exact Zbc (Eat.listM (μ:=Zob) Sim.itemM Eat.itemM FU) e2 h2
 obtain ⟨i1,gi1,gi2⟩:=gi
 obtain ⟨u1,gu1,_⟩:=Zbc (Eat.mustM [Zck]) e3 h3
 obtain ⟨x1,gx1,gx2⟩:=Zbc Eat.sourceM e4 h4
 obtain ⟨j1,gj1,gj2⟩:=Zbc (Eat.joinsM FU [x]) e5 h5
 obtain ⟨w1,gw1,gw2⟩:=Zbc (Eat.maybeM Z6 kD kD) e6 h6
 obtain ⟨g1,gg1,gg2⟩:=Zbc (Eat.byM (μ:=nE) Zbp Sim.exprM Eat.exprM) e7 h7
 obtain ⟨v1,gv1,gv2⟩:=Zbc (Eat.maybeM Zbi kD kD) e8 h8
 obtain ⟨o1,go1,go2⟩:=Zbc (Eat.byM (μ:=nOrd) Zbz Sim.orderM Eat.orderM) e9 h9
 have hb:=Zvi (L:=L) (en:=en) Zao s
 rw [e1] at hb
 have hm:=(Sim.limitM (L:=L) (en:=en) (L':=L) (en':=en) (d:=0)).mono s9
 rw [e10] at hm
 have hb1:s.k ≤ s1.k:=hb.1
 have hm1:s9.k ≤ s10.k:=hm.1
 refine ⟨s10.k - s.k,by show s.k + (s10.k - s.k)=s10.k;omega,?_⟩
 show nSt { kind:=8,items:=i,src:=j,wh:=w,group:=g,having:=hv,order:=o,limit:=m } ≤ _
 have e:Zaf Zk0 [x]=Zk0 x + 0:=rfl
 simp only [nSt,Zaf,List.length_nil]
 omega
theorem nSt_zero {k:Nat} {n:ByteArray} : nSt { kind:=k,name:=n } = 0:=rfl
theorem Eat.stmtM:Eat (Dt.stmtM L en) (fun x n=>nSt x ≤ n):=fun s hs=>by
 have isx:∀ {t:ByteArray} {p q:Rd PSt},Eat p (fun x n=>nSt x ≤ n)→Eat q (fun x n=>nSt x ≤ n)→Eat (Dt.bnd (Dt.isM L en t) fun b=>if b then p else q) (fun x n=>nSt x ≤ n):=fun {t p q} hp hq s hs=>by
  obtain ⟨⟨b,s1⟩,e1⟩:∃ r,Dt.isM L en t s=r:=⟨_,rfl⟩
  have hb:=Zvi (L:=L) (en:=en) t s
  rw [e1] at hb
  have hb1:s.k ≤ s1.k:=hb.1
  rw [Z0 e1] at hs ⊢
  cases b
  ·obtain ⟨n,h1,h2⟩:=hq _ hs
   exact ⟨s1.k - s.k + n,by show s.k + (s1.k - s.k + n)=(q s1).2.k;omega,by show nSt (q s1).1 ≤ _;omega⟩
  ·obtain ⟨n,h1,h2⟩:=hp _ hs
   exact ⟨s1.k - s.k + n,by show s.k + (s1.k - s.k + n)=(p s1).2.k;omega,by show nSt (p s1).1 ≤ _;omega⟩
 have sav:∀ k,Eat (Dt.saveM L en k) (fun x n=>nSt x ≤ n):=fun k=>Eat.bnd Eat.nameM (fun _=>Za0.ret _) (fun m n _=>Eat.ret (by show nSt { kind:=k,name:=m } ≤ _;rw [nSt_zero];omega))
 have zer:∀ k,Eat (Dt.ret ({ kind:=k } : PSt)) (fun x n=>nSt x ≤ n):=fun k=>Eat.ret (by show nSt { kind:=k } ≤ 0;exact Nat.le_refl 0)
 exact isx Eat.createM (isx Eat.dropM (isx Eat.insertM (isx Eat.updateM (isx Eat.deleteM (isx Eat.chooseM
  (isx (zer 9) (isx (zer 10) (isx (isx (sav 13) (zer 11)) (isx (sav 12) (isx (sav 14) (Eat.fail (fun s=>(Zac 6 s kD).2) _))))))))))) s hs
theorem Zns:∀ (f:Nat) (s s1:PS) (A:List PSt),s.k ≤ L.length→stmtsM L en f s=(A,s1)→s1.e=0→∀ x ∈ A,nSt x ≤ L.length
 | 0,s,s1,A,_,h,he=>by
  cases h
  exact absurd he (by show (99:Nat) ≠ 0;decide)
 | f + 1,s,s1,A,hk,h,he=>by
  by_cases hc:s.e=0∧s.k < L.length
  ·rw [Ze7 f hc.1 hc.2] at h
   obtain ⟨⟨x,s2⟩,h2⟩:∃ r,Dt.stmtM L en s=r:=⟨_,rfl⟩
   rw [Z0 h2] at h
   obtain ⟨⟨u,s3⟩,h3⟩:∃ r,Zf9 L en s2=r:=⟨_,rfl⟩
   rw [Z0 h3] at h
   obtain ⟨⟨r,s4⟩,h4⟩:∃ r,Dt.stmtsM L en f s3=r:=⟨_,rfl⟩
   rw [Z0 h4] at h
   obtain ⟨hA,hs4⟩:=Prod.mk.inj h
   have he4:s4.e=0:=by rw [show s4=s1 from hs4];exact he
   have e3:s3.e=0:=Classical.byContradiction fun hn=>by
    have:=Zhp (K:=L) (en:=en) f s3 hn
    rw [h4] at this
    exact this he4
   have e2:s2.e=0:=Classical.byContradiction fun hn=>by
    have:=Zi5 (K:=L) (en:=en) hn
    rw [h3] at this
    exact this e3
   have hk2:=(Sim.stmtM (L:=L) (en:=en) (L':=L) (en':=en) (d:=0)).le s hk
   rw [h2] at hk2
   have hk3:s3.k ≤ L.length:=by
    by_cases hlt:s2.k < L.length
    ·have:=Zmn (L:=L) (en:=en) [Za4] s2 hk2
     have e:Zf9 L en s2=Dt.mustM L en [Za4] s2:=by unfold Zf9;rw [if_pos hlt]
     rw [← e,h3] at this
     exact this
    have e:Zf9 L en s2=((),s2):=by unfold Zf9;rw [if_neg hlt]
    rw [e] at h3
    cases h3
    exact hk2
   intro y hy
   rw [← hA] at hy
   rcases List.mem_cons.1 hy with rfl | hy
   ·obtain ⟨n,g1,g2⟩:=Zbc Eat.stmtM h2 e2
    have:s2.k ≤ L.length:=hk2
    omega
   ·exact Zns f s3 s4 r hk3 h4 he4 y hy
  ·rw [Ze8 f hc] at h
   cases h
   exact fun y hy=>by cases hy
end
theorem Zfc {t:List UInt8} {A:List PSt} (h:Z4 t = .inr A):∀ x ∈ A,nSt x ≤ 4096:=by
 obtain ⟨L,s1,h1,h2,h3⟩:=Zer h
 have hl:L.length ≤ 4096:=by
  have h4:=Zhl h1
  have h5:=h1
  rw [Zb4] at h5
  by_cases hl:4096 < t.length
  ·rw [if_pos hl] at h5;cases h5
  ·omega
 exact fun x hx=>Nat.le_trans (Zns FU _ s1 A (Nat.zero_le _) h2 h3 x hx) hl
theorem elStrF:By.Elem Tryz.prog 23 9 1 16 where
 slice:=kR
 info:=by
  exact ks68
 pos:=kD
section
variable {w0 w:World} {lo:Nat} {bx:List (Nat × TypeId × Array Value)} {ov nv:Value} {E:List PE} {S:List ByteArray}
theorem cells_ok {w0:World} {X:List PE} {ds:List (List Value)} (hd:ds.length=X.length) (hX:∀ (i:Nat) (c:List Value) (x:PE),ds[i]? = some c→X[i]? = some x→c.length=8∧ExR w0 c x):∀ u ∈ ds.flatten,u.oneCell'=true:=by
 intro u hu
 obtain ⟨c,hc,hu⟩:=List.mem_flatten.1 hu
 obtain ⟨i,hi⟩:=List.getElem?_of_mem hc
 have hil:i < X.length:=by rw [← hd];exact (List.getElem?_eq_some_iff.1 hi).1
 exact (Zc9 (hX i c X[i] hi (by simp [hil])).2).2 u hu
theorem FS.runE (h:FS w0 lo bx ov nv E S w) (ty:TypeId) (sv:Value) (X:List PE) (ds:List (List Value)) (hr:RdZ w 8 sv X.length ds.flatten) (hd:ds.length=X.length)
 (hX:∀ (i:Nat) (c:List Value) (x:PE),ds[i]? = some c→X[i]? = some x→c.length=8∧ExR w0 c x) (hsz:E.length + X.length ≤ 1000000000) :
 ∃ v' w',(Builtin.append_ #[28,28] ty #[ov,sv]).run Tryz.prog w = .ok v' w'∧FS w0 lo bx v' nv (E ++ X) S w':=by
 obtain ⟨cs,h1,h2,h3⟩:=h.e
 obtain ⟨v',w',r1,r2,r3,r4⟩:=Ziu (P:=Tryz.prog) 28 ty 48 8 104 elEx lo ov E.length cs.flatten h1 sv X.length ds.flatten hr (cells_ok hd hX) Zvd kW h.hl
 exact ⟨v',w',r1,h.moreE cs ⟨h1,h2,h3⟩ r2 hd hX r3 r4⟩
theorem FS.runS (h:FS w0 lo bx ov nv E S w) (ty:TypeId) (sv:Value) (X:List ByteArray) (hr:RdZ w 1 sv X.length (X.map .string)) (hsz:S.length + X.length ≤ 1000000000) :
 ∃ v' w',(Builtin.append_ #[23,23] ty #[nv,sv]).run Tryz.prog w = .ok v' w'∧FS w0 lo bx ov v' E (S ++ X) w':=by
 obtain ⟨v',w',r1,r2,r3,r4⟩:=Ziu (P:=Tryz.prog) 23 ty 9 1 16 elStrF lo nv S.length (S.map .string) h.s sv X.length (X.map .string) hr (fun u hu=>by obtain ⟨x,_,rfl⟩:=List.mem_map.1 hu;rfl) Zvd kW h.hl
 exact ⟨v',w',r1,h.moreS r2 r3 r4⟩
theorem Zf0 {P:Program} {ops:Array Oper} {i:Nat} {o:Oper} {a:Act} {w:World} {Q:Exit→Act→World→Prop} {K:Act→World→Prop} (ho:ops[i]? = some o) (hg:o.guard=none) (s x:Operand) (t:TypeId)
 (hop:o.op = .call { callee:=.builtin .append,args:=#[s,x],argTypes:=#[t,t] }) {v sv:Value} (hs:a.eval s=v) (hx:a.eval x=sv) {v':Value} {w':World} (hr:(Builtin.append_ #[t,t] o.type #[v,sv]).run P w = .ok v' w')
 (h:K (a.put (Z7 ops i) v') w'):wpOp P ops Q i K a w:=by
 have hd:Z7 ops i=o.dst:=by unfold Z7;rw [ho];rfl
 unfold wpOp
 simp only [ho]
 rw [if_pos (by unfold Region.wanted;rw [hg])]
 refine .inl ?_
 unfold Oper.wp execOp
 simp only [hop,resolve,invoke,builtin,Sem.run_bind,Sem.run_pure,Result.andThen_ok,List.map_toArray,List.map_cons,List.map_nil,hs,hx,hr]
 rw [hd] at h
 exact h
theorem Zgm {P:Program} {ops:Array Oper} {rest:List Oper} {o:Oper} {a:Act} {w:World} {Q:Exit→Act→World→Prop} (hgd:o.guard=none) (s x:Operand) (t:TypeId)
 (ho:o.op = .call { callee:=.builtin .append,args:=#[s,x],argTypes:=#[t,t] }) {v sv:Value} (hs:a.eval s=v) (hx:a.eval x=sv) {v':Value} {w':World} (hr:(Builtin.append_ #[t,t] o.type #[v,sv]).run P w = .ok v' w')
 (h:wpList P ops Q rest (a.put o.dst v') w'):wpList P ops Q (o :: rest) a w:=by
 refine wpList_plain hgd fun K hK=>?_
 unfold Oper.wp execOp
 simp only [ho,resolve,invoke,builtin,Sem.run_bind,Sem.run_pure,Result.andThen_ok,List.map_toArray,List.map_cons,List.map_nil,hs,hx,hr]
 exact hK _ _ h
end
def tyS (k:Nat):ByteArray:=⟨#[UInt8.ofNat k]⟩
def Zi0 (c:Zeu):List ByteArray:=[c.name,tyS c.ty] ++ if c.nn then [⟨#[33]⟩] else []
def fE (x:PSt):List PE:=x.rows.flatMap (fun l=>l ++ [PE.zero]) ++ x.sets.map (·.2) ++ x.items.map (·.1) ++ x.src.flatMap (fun s=>s.on ++ [PE.zero]) ++ (x.wh ++ x.group ++ x.having) ++ x.order.map (·.1)
def fS (x:PSt):List ByteArray:=[x.table,x.name] ++ x.cols.flatMap Zi0 ++ (x.key ++ x.names) ++ x.sets.map (·.1) ++ x.items.map (·.2) ++ x.src.flatMap (fun s=>[s.table,s.as]) ++ x.order.flatMap (fun o=>if o.2 then [⟨#[45]⟩] else [])
def fN (x:PSt):Array Value:=#[.int .i64 ((x.kind:Int) + if x.uniq then 1000 else 0),.int .i64 x.limit,.int .i64 (x.cols.length:Int),.int .i64 (x.key.length:Int),.int .i64 (x.names.length:Int),.int .i64 (x.rows.length:Int),
 .int .i64 (x.sets.length:Int),.int .i64 (x.items.length:Int),.int .i64 (x.src.length:Int),.int .i64 (x.wh.length:Int),.int .i64 (x.group.length:Int),.int .i64 (x.having.length:Int)]
end Go.Proofs.YtmdogmpcmkfjpaaGreatDoor.Dt
