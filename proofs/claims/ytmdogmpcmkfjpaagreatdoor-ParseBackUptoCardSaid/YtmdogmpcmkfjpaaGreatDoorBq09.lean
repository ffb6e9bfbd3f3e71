import Derived.Lib.FrozenHead2
import Derived.Test.YtmdogmpcmkfjpaaGreatDoorBq08
import Derived.Test.YtmdogmpcmkfjpaaGreatDoorBq07
set_option maxRecDepth 100000
set_option maxHeartbeats 64000000
/- Part. -/
namespace Go.Proofs.YtmdogmpcmkfjpaaGreatDoor.By
open Go.RowKit
def upd (dn:Nat→Bool) (i:Nat):Nat→Bool:=fun j=>decide (j=i) || dn j
def Zd7 (done:Array Bool):Nat→Bool:=fun j=>done.getD j false
def Does (P:Program) (ops:Array Oper) (Q:Exit→Act→World→Prop) (Pr:(Nat→Bool)→Nat→Value→Nat→Nat→World→Prop) (aim:Nat→Option Nat) (dn:Nat→Bool) (us:Nat→Value) (ss es:Nat→Nat) (i:Nat) (a:Act) (w:World):Prop:=
 wpOp P ops Q i (fun a' w'=>∃ v,a'=a.put (Z7 ops i) v ∧
  ((aim i=none∧Below w.heap.size w w'∧Pr (upd dn i) i v w.heap.size w'.heap.size w') ∨
   (∃ t k,aim i=some t∧t < ops.size∧t ≠ i∧dn t=true∧ss t ≤ k∧k < es t∧w.grownBy w' (some k)∧w'.heap.size=w.heap.size∧Pr (upd dn i) i v w.heap.size w'.heap.size w'∧Pr (upd dn i) t (us t) (ss t) (es t) w'))) a w
def mixB (md:Region.Mode) (ops:Array Oper):Bool:=Zkq ops ops.size && backB md ops ops.size
theorem Zku {P:Program} {id:Nat} {Q:Exit→Act→World→Prop} {a0:Act} {w:World} {l:List Oper} (Pr:(Nat→Bool)→Nat→Value→Nat→Nat→World→Prop) (aim:Nat→Option Nat) (hm:P.follows .mixedOrders=true) (hB:mixB .any l.toArray=true)
 (hstab:∀ dn i j v s e w1 w2 r,i ≠ j→aim i ≠ some j→Pr dn j v s e w1→e ≤ w1.heap.size→w1.grownBy w2 r→(∀ k,r=some k→(k < s ∨ e ≤ k)∧aim i ≠ none)→Pr (upd dn i) j v s e w2)
 (hops:∀ i,i < l.length→∀ (dn:Nat→Bool) (us:Nat→Value) (ss es:Nat→Nat) (A:Act) w1,(∀ t,((List.range l.length).all fun j=>Z7 l.toArray j != some t)=true→A.eval (.tmp t)=a0.eval (.tmp t))→(∀ j t,j < l.length→Z7 l.toArray j=some t→t < a0.tmps.size→A.eval (.tmp t)=us j) →
  Below w.heap.size w w1→dn i=false→(∀ j o,l.toArray[j]? = some o→dn j=true→∀ e ∈ o.after,Region.binds .any e=true→dn e.on=true)→(∀ oi,l.toArray[i]? = some oi→∀ e ∈ oi.after,Region.binds .any e=true→dn e.on=true∧Pr dn e.on (us e.on) (ss e.on) (es e.on) w1∧w.heap.size ≤ ss e.on∧es e.on ≤ w1.heap.size)→Does P l.toArray Q Pr aim dn us ss es i A w1)
 (hend:∀ (dn:Nat→Bool) (us:Nat→Value) (ss es:Nat→Nat) w1,(∀ j,j < l.length→dn j=true)→Below w.heap.size w w1→(∀ j,j < l.length→Pr dn j (us j) (ss j) (es j) w1∧w.heap.size ≤ ss j∧es j ≤ w1.heap.size)→(∀ i j,i < l.length→j < l.length→i ≠ j→es i ≤ ss j ∨ es j ≤ ss i)→Q .normal (Z1 l.toArray us l.length a0) w1) :
 (Code.region id l.toArray true).wp P Q a0 w:=by
 simp only [mixB,Bool.and_eq_true,List.size_toArray] at hB
 obtain ⟨hap,hback⟩:=hB
 obtain ⟨us0,hus0⟩:=Ziq (ops:=l.toArray) (n:=l.length) a0
 refine Zha hm (fun done a w1=>∃ (us:Nat→Value) (ss es:Nat→Nat),a=Z1 l.toArray us l.length a0∧Below w.heap.size w w1∧(∀ j,j < l.length→Zd7 done j=true→Pr (Zd7 done) j (us j) (ss j) (es j) w1∧w.heap.size ≤ ss j∧es j ≤ w1.heap.size) ∧
  (∀ i j,i < l.length→j < l.length→Zd7 done i=true→Zd7 done j=true→i ≠ j→es i ≤ ss j ∨ es j ≤ ss i)∧(∀ j o,l.toArray[j]? = some o→Zd7 done j=true→∀ e ∈ o.after,Region.binds .any e=true→Zd7 done e.on=true)) ?_ ?_ ?_
 ·refine ⟨us0,fun _=>0,fun _=>0,(hus0 _ (Nat.le_refl _)).symm,(Below.refl _ _).drew,fun j _ hd=>?_,fun i j _ _ hd=>?_,fun j o _ hd=>?_⟩
  ·unfold Zd7 at hd;rw [getD_replicate_false] at hd;cases hd
  ·unfold Zd7 at hd;rw [getD_replicate_false] at hd;cases hd
  unfold Zd7 at hd;rw [getD_replicate_false] at hd;cases hd
 ·rintro done a w1 i hs ⟨us,ss,es,rfl,hw,hpr,hdis,hcl⟩ hi
  obtain ⟨hlt,hfalse⟩:=Zd4 hi
  rw [hs,List.size_toArray] at hlt
  obtain ⟨_,oi,hoi,hafter⟩:=mem_ready.1 hi
  have hdn:∀ j,j ≠ i→Zd7 (done.setIfInBounds i true) j=Zd7 done j:=fun j hj=>getD_set_ne false (Ne.symm hj)
  have hupd:Zd7 (done.setIfInBounds i true)=upd (Zd7 done) i:=by
   funext j
   unfold upd
   by_cases hj:j=i
   ·subst hj
    unfold Zd7
    simp [show j < done.size by rw [hs,List.size_toArray];exact hlt]
   ·rw [hdn j hj];simp [hj]
  have hback':∀ e ∈ oi.after,Region.binds .any e=true→e.on < l.length:=by
   intro e he hb
   have h1:=List.all_eq_true.1 hback i (List.mem_range.2 hlt)
   rw [hoi] at h1
   simp only [Option.map_some,Option.getD_some,Array.all_eq_true_iff_forall_mem] at h1
   have h2:=h1 e he
   rw [hb] at h2
   have:e.on < i:=by simpa using h2
   omega
  have hg:=hops i hlt (Zd7 done) us ss es _ w1 (fun t ht=>Zfk us a0 t l.length fun j hj he=>by
   have:=List.all_eq_true.1 ht j (List.mem_range.2 hj)
   rw [he] at this
   simp at this) (fun j t hj hd ht=>eval_at hap us a0 hd ht l.length hj (Nat.le_refl _)) hw
   kb33 hcl
   (fun o ho e he hb=>by
    rw [hoi] at ho
    cases ho
    have hd:Zd7 done e.on=true:=hafter e he hb
    exact ⟨hd,hpr e.on (hback' e he hb) hd⟩)
  refine wpOp_mono (fun a' w' hK=>?_) hg
  obtain ⟨v,rfl,hcase⟩:=hK
  rw [Zff hap us i v l.length hlt (Nat.le_refl _),hupd]
  have hnew:∃ r,w1.grownBy w' r∧w1.heap.size ≤ w'.heap.size∧(∀ k,r=some k→w.heap.size ≤ k∧∃ t,aim i=some t∧t < l.length∧t ≠ i∧Zd7 done t=true∧ss t ≤ k∧k < es t)∧Pr (upd (Zd7 done) i) i v w1.heap.size w'.heap.size w' ∧
   (∀ t,aim i=some t→t < l.length→Zd7 done t=true→t ≠ i→Pr (upd (Zd7 done) i) t (us t) (ss t) (es t) w'):=by
   rcases hcase with ⟨ha,hb,hp⟩ | ⟨t,k,ha,ht,hti,hdt,hk1,hk2,hgr,hsz,hp,hpt⟩
   ·refine ⟨none,⟨hb.os,hb.tape,hb.output,hb.size,fun i hi _=>hb.block i hi⟩,hb.size,(fun k hk=>by cases hk),hp,(fun t h=>by rw [ha] at h;cases h)⟩
   ·rw [List.size_toArray] at ht
    refine ⟨some k,hgr,by omega,fun k' hk'=>?_,hp,fun t' h _ _ _=>?_⟩
    ·cases hk'
     exact ⟨Nat.le_trans (hpr t ht hdt).2.1 hk1,t,ha,ht,hti,hdt,hk1,hk2⟩
    ·rw [ha] at h;cases h;exact hpt
  obtain ⟨r,hgr,hsz,hr,hp,htgt⟩:=hnew
  refine ⟨_,fun j=>if j=i then w1.heap.size else ss j,fun j=>if j=i then w'.heap.size else es j,rfl,hw.grown hgr hw.size (fun k hk=>(hr k hk).1),fun j hj hd=>?_,fun p q hp' hq hdp hdq hpq=>?_,fun j o ho hd e he hb=>?_⟩
  ·by_cases hji:j=i
   ·subst hji
    simp only [if_true]
    exact ⟨hp,hw.size,Nat.le_refl _⟩
   simp only [if_neg hji]
   have hd':Zd7 done j=true:=by unfold upd at hd;simpa [hji] using hd
   have h3:=hpr j hj hd'
   refine ⟨?_,h3.2.1,Nat.le_trans h3.2.2 hsz⟩
   by_cases hta:aim i=some j
   ·exact htgt j hta hj hd' hji
   refine hstab _ i j _ _ _ _ _ r (Ne.symm hji) hta h3.1 h3.2.2 hgr fun k hk=>?_
   obtain ⟨_,t,hat,ht,_,hdt,hk1,hk2⟩:=hr k hk
   have htj:t ≠ j:=fun h=>hta (h ▸ hat)
   have:=hdis t j ht hj hdt hd' htj
   exact ⟨by omega,by rw [hat];exact fun h=>by cases h⟩
  ·have hd':∀ x,x ≠ i→upd (Zd7 done) i x=true→Zd7 done x=true:=fun x hx h=>by unfold upd at h;simpa [hx] using h
   by_cases hpi:p=i
   ·subst hpi
    have hqp:q ≠ p:=fun h=>hpq h.symm
    simp only [if_true,if_neg hqp]
    exact .inr (hpr q hq (hd' q hqp hdq)).2.2
   by_cases hqi:q=i
   ·subst hqi
    simp only [if_true,if_neg hpi]
    exact .inl (hpr p hp' (hd' p hpi hdp)).2.2
   simp only [if_neg hpi,if_neg hqi]
   exact hdis p q hp' hq (hd' p hpi hdp) (hd' q hqi hdq) hpq
  exact ks47
 rintro done a w1 hs ⟨us,ss,es,rfl,hw,hpr,hdis,_⟩ hr
 have hall:∀ j,j < l.length→Zd7 done j=true:=by
  have least:∀ m,m < l.length→Zd7 done m=true:=by
   exact ks17
  exact least
 exact hend (Zd7 done) us ss es w1 hall hw (fun j hj=>hpr j hj (hall j hj)) (fun i j hi hj=>hdis i j hi hj (hall i hi) (hall j hj))
section
variable {P:Program} {ops:Array Oper} {Q:Exit→Act→World→Prop} {Pr:(Nat→Bool)→Nat→Value→Nat→Nat→World→Prop} {aim:Nat→Option Nat} {dn:Nat→Bool} {us:Nat→Value} {ss es:Nat→Nat} {i:Nat} {a:Act} {w:World} {o:Oper}
end
theorem Z3 (w:World) (k i:Nat) (u:Value):w.grownBy (w.setCell ⟨k,i,none⟩ u) (some k):=
 ⟨rfl,rfl,rfl,by simp,fun j _ hne=>by
  unfold World.setCell
  rw [Array.getElem?_modify,if_neg (fun e=>hne (congrArg some e.symm))]⟩
theorem Za {w w1 w2:World} {r:Option Nat} (h:w.grownBy w1 r) (k:w1.grownBy w2 r):w.grownBy w2 r:=
 ⟨k.os.trans h.os,k.tape.trans h.tape,k.output.trans h.output,Nat.le_trans h.size k.size,fun j hj hne=>(k.block j (Nat.lt_of_lt_of_le hj h.size) hne).trans (h.block j hj hne)⟩
def Kip (P:Program) (ops:Array Oper) (Q:Exit→Act→World→Prop) (kn:Nat→Value→World→Prop) (i:Nat) (a:Act) (w:World):Prop:=
 wpOp P ops Q i (fun a' w'=>∃ v,a'=a.put (Z7 ops i) v∧Below w.heap.size w w'∧kn i v w') a w
section
variable {P:Program} {ops:Array Oper} {Q:Exit→Act→World→Prop} {kn:Nat→Value→World→Prop} {i:Nat} {a:Act} {w:World} {o:Oper}
theorem Zf {tmps:Array Value} (h:o.guard=none):Region.wanted o (yielded ops tmps)=true:=by unfold Region.wanted;rw [h]
theorem Zl {g t:Nat} {b:Bool} (h:o.guard=some (g,b)) (hd:Z7 ops g=some t) (he:a.eval (.tmp t) = .bool b):Region.wanted o (yielded ops a.tmps)=true:=by
 unfold Region.wanted
 rw [h]
 show (yielded ops a.tmps g == some b)=true
 have h2:a.tmps[t]? = some (.bool b):=by
  exact ks71
 unfold yielded
 unfold Z7 at hd
 rw [hd]
 show ((match a.tmps[t]? with | some (.bool b)=>some b | _=>none) == some b)=true
 rw [h2]
 simp
theorem Zg4 (ho:ops[i]? = some o) (hw:Region.wanted o (yielded ops a.tmps)=true) (v:Value) (w':World) (hrun:(execOp a.eval o).run P w = .ok (.value v) w') (hb:Below w.heap.size w w') (hk:kn i v w'):Kip P ops Q kn i a w:=by
 unfold Kip wpOp
 simp only [ho]
 rw [if_pos hw]
 refine .inl ?_
 unfold Oper.wp
 rw [hrun,Oper.upon_value]
 exact ⟨v,by unfold Z7;rw [ho];rfl,hb,hk⟩
theorem Zh (ho:ops[i]? = some o) (hw:Region.wanted o (yielded ops a.tmps)=true) (v:Value) (hrun:(execOp a.eval o).run P w = .ok (.value v) w) (hk:kn i v w):Kip P ops Q kn i a w:=
 Zg4 ho hw v w hrun (Below.refl _ _) hk
theorem Zct (ho:ops[i]? = some o) (hw:Region.wanted o (yielded ops a.tmps)=true) (f:FuncId) (args:Array Value) (hrun:(execOp a.eval o).run P w = .ok (.enter f args) w) (hc:Calls P f args w fun e w'=>(∃ v,e = .returned v∧kn i v w')∧Below w.heap.size w w'):Kip P ops Q kn i a w:=by
 unfold Kip wpOp
 simp only [ho]
 rw [if_pos hw]
 refine .inl ?_
 unfold Oper.wp
 rw [hrun,Oper.upon_enter]
 refine hc.mono ?_
 rintro e w' ⟨⟨v,rfl,hp⟩,hb⟩
 exact ⟨v,by unfold Z7;rw [ho];rfl,hb,hp⟩
end
def Zi1 (ops:Array Oper) (kn:Nat→Value→World→Prop) (N:Nat) (A:Act) (w:World) (j:Nat):Prop:=∃ v,kn j v w∧∀ t,Z7 ops j=some t→t < N→A.eval (.tmp t)=v
theorem Zi1.eq {ops:Array Oper} {kn:Nat→Value→World→Prop} {N:Nat} {A:Act} {w:World} {j:Nat} (h:Zi1 ops kn N A w j) (u:Value) (hk:∀ v,kn j v w→v=u) (t:Nat) (ht:Z7 ops j=some t) (hN:t < N):A.eval (.tmp t)=u:=by
 obtain ⟨v,hv,he⟩:=h
 rw [he t ht hN]
 exact hk v hv
theorem Zi1.get {ops:Array Oper} {kn:Nat→Value→World→Prop} {N:Nat} {A:Act} {w:World} {j:Nat} (h:Zi1 ops kn N A w j) (t:Nat) (ht:Z7 ops j=some t) (hN:t < N):∃ v,kn j v w∧A.eval (.tmp t)=v:=by
 obtain ⟨v,hv,he⟩:=h
 exact ⟨v,hv,he t ht hN⟩
theorem Zt {A:Act} {t:Nat} {v:Value} (h:A.eval (.tmp t)=v):A.tmps[t]?.getD undef=v:=by rwa [Zfv,Array.getD_eq_getD_getElem?] at h
theorem Zi1.e {ops:Array Oper} {kn:Nat→Value→World→Prop} {N:Nat} {A:Act} {w:World} {j:Nat} (h:Zi1 ops kn N A w j) (u:Value) (t:Nat) (hk:∀ v,kn j v w→v=u:=by exact fun _ h=>h) (ht:Z7 ops j=some t:=by kernel_rfl) (hN:t < N:=by decide):A.eval (.tmp t)=u:=h.eq u hk t ht hN
theorem Zi1.t {ops:Array Oper} {kn:Nat→Value→World→Prop} {N:Nat} {A:Act} {w:World} {j:Nat} (h:Zi1 ops kn N A w j) (u:Value) (t:Nat) (hk:∀ v,kn j v w→v=u:=by exact fun _ h=>h) (ht:Z7 ops j=some t:=by kernel_rfl) (hN:t < N:=by decide):A.tmps[t]?.getD undef=u:=Zt (h.eq u hk t ht hN)
theorem Zdn {P:Program} {id:Nat} {Q:Exit→Act→World→Prop} {a0:Act} {w:World} {l:List Oper} (kn:Nat→Value→World→Prop) (N:Nat) (hN:a0.tmps.size=N) (hm:P.follows .mixedOrders=true) (hB:mixB .any l.toArray=true)
 (hlater:∀ j v w1 w2,kn j v w1→Below w1.heap.size w1 w2→kn j v w2)
 (hops:∀ i,i < l.length→∀ (A:Act) w1,(∀ t,((List.range l.length).all fun j=>Z7 l.toArray j != some t)=true→A.eval (.tmp t)=a0.eval (.tmp t))→Below w.heap.size w w1 →
  (∀ oi,l.toArray[i]? = some oi→∀ e ∈ oi.after,Region.binds .any e=true→Zi1 l.toArray kn N A w1 e.on)→Kip P l.toArray Q kn i A w1)
 (hend:∀ (us:Nat→Value) w1,Below w.heap.size w w1→(∀ j,j < l.length→kn j (us j) w1)→Q .normal (Z1 l.toArray us l.length a0) w1) :
 (Code.region id l.toArray true).wp P Q a0 w:=by
 have hback:backB .any l.toArray l.toArray.size=true:=by simp only [mixB,Bool.and_eq_true] at hB;exact hB.2
 refine Zku (fun _ j v _ _ w=>kn j v w) (fun _=>none) hm hB ?_ ?_ ?_
 ·intro dn i j v s e w1 w2 r _ _ h _ hg hr
  have hn:r=none:=by
   cases r with
   | none=>rfl
   | some k=>exact absurd rfl (hr k rfl).2
  subst hn
  exact hlater j v _ _ h ⟨hg.os,hg.tape,hg.output,hg.size,fun i hi=>hg.block i hi (fun h=>by cases h)⟩
 ·intro i hi dn us ss es A w1 hother hat hb hdi hcl hd
  have h:=hops i hi A w1 hother hb fun oi ho e he hbd=>by
   have h1:=hd oi ho e he hbd
   refine ⟨us e.on,h1.2.1,fun t ht htN=>hat e.on t ?_ ht (by rw [hN];exact htN)⟩
   have h2:=List.all_eq_true.1 hback i (List.mem_range.2 (by simpa using hi))
   rw [ho] at h2
   simp only [Option.map_some,Option.getD_some,Array.all_eq_true_iff_forall_mem] at h2
   have h3:=h2 e he
   rw [hbd] at h3
   have:e.on < i:=by simpa using h3
   omega
  unfold Kip at h
  unfold Does
  exact wpOp_mono (fun a' w' ⟨v,ha,hb',hk⟩=>⟨v,ha,.inl ⟨rfl,hb',hk⟩⟩) h
 intro dn us ss es w1 _ hb hpr _
 exact hend us w1 hb fun j hj=>(hpr j hj).1
theorem Zex {P:Program} {id:Nat} {Q:Exit→Act→World→Prop} {a0:Act} {w:World} {l:List Oper} (n:Nat) (kn:Nat→Value→World→Prop) (N:Nat) (hN:a0.tmps.size=N) (hm:P.follows .mixedOrders=true) (hB:Zmr .any l.toArray n=true)
 (hlater:∀ j v w1 w2,kn j v w1→Below w1.heap.size w1 w2→kn j v w2)
 (hops:∀ i,i < n→∀ (A:Act) w1,(∀ t,((List.range n).all fun j=>Z7 l.toArray j != some t)=true→A.eval (.tmp t)=a0.eval (.tmp t))→Below w.heap.size w w1 →
  (∀ oi,l.toArray[i]? = some oi→∀ e ∈ oi.after,Region.binds .any e=true→Zi1 l.toArray kn N A w1 e.on)→Kip P l.toArray Q kn i A w1)
 (htail:∀ (us:Nat→Value) w1,Below w.heap.size w w1→(∀ j,j < n→kn j (us j) w1)→wpList P l.toArray Q (l.drop n) (Z1 l.toArray us n a0) w1) :
 (Code.region id l.toArray true).wp P Q a0 w:=by
 have hback:backB .any l.toArray n=true:=by
  simp only [Zmr,Bool.and_eq_true] at hB
  exact hB.1.2
 refine Zjd n (fun j v _ _ w=>kn j v w) hm hB (fun j v _ _ w1 w2 h hb=>hlater j v w1 w2 h hb) (fun i hi us ss es A w1 hother hat hb hd=>?_) (fun us _ _ w1 hb hk _ _=>htail us w1 hb hk)
 refine hops i hi A w1 hother hb fun oi hoi e he hbi=>⟨us e.on,hd oi hoi e he hbi,fun t ht hN'=>hat e.on t ?_ ht (by rw [hN];exact hN')⟩
 have h1:=List.all_eq_true.1 hback i (List.mem_range.2 hi)
 rw [hoi] at h1
 simp only [Option.map_some,Option.getD_some,Array.all_eq_true_iff_forall_mem] at h1
 have h2:=h1 e he
 rw [hbi] at h2
 have h3:e.on < i:=by simpa using h2
 omega
section
variable {P:Program} {ops:Array Oper} {Q:Exit→Act→World→Prop} {kn:Nat→Value→World→Prop} {i:Nat} {a:Act} {w:World} {o:Oper}
theorem Zl3 {g t:Nat} {b:Bool} (h:o.guard=some (g,b)) (hd:Z7 ops g=some t) (he:a.eval (.tmp t) = .bool (!b)):Region.wanted o (yielded ops a.tmps)=false:=by
 unfold Region.wanted
 rw [h]
 show (yielded ops a.tmps g == some b)=false
 have h2:a.tmps[t]? = some (.bool (!b)):=by
  exact ks71
 unfold yielded
 unfold Z7 at hd
 rw [hd]
 show ((match a.tmps[t]? with | some (.bool b)=>some b | _=>none) == some b)=false
 rw [h2]
 cases b <;> simp
theorem Zmp (ho:ops[i]? = some o) (hw:Region.wanted o (yielded ops a.tmps)=false) (hk:kn i undef w):Kip P ops Q kn i a w:=by
 unfold Kip wpOp
 simp only [ho]
 rw [if_neg (by rw [hw];decide)]
 exact ⟨undef,by unfold Z7;rw [ho];rfl,Below.refl _ _,hk⟩
end
end Go.Proofs.YtmdogmpcmkfjpaaGreatDoor.By
namespace Go.Proofs.YtmdogmpcmkfjpaaGreatDoor.Dt
open Go.RowKit Go.Proofs.YtmdogmpcmkfjpaaGreatDoor.By
structure RD (r:Nat) (s:ByteArray) (k:Nat) (w:World):Prop where
 c0:w.cell? ⟨r,0,none⟩=some (.string s)
 c1:w.cell? ⟨r,1,none⟩=some (.int .i64 (k:Int))
 f1:w.frozen? ⟨r,1,none⟩=false
theorem RD.lt {r:Nat} {s:ByteArray} {k:Nat} {w:World} (h:RD r s k w):r < w.heap.size:=Zd h.c0
theorem RD.later {r:Nat} {s:ByteArray} {k:Nat} {w w':World} (h:RD r s k w) (hb:Below w.heap.size w w'):RD r s k w':=
 ⟨(hb.cell h.lt).trans h.c0,(hb.cell h.lt).trans h.c1,(hb.frozen h.lt).trans h.f1⟩
theorem RD.set {r:Nat} {s:ByteArray} {k:Nat} {w:World} (h:RD r s k w) (m:Nat):RD r s m (w.setCell ⟨r,1,none⟩ (.int .i64 (m:Int))):=by
 refine ⟨(Zv w r 1 0 _ kD).trans h.c0,Zbk w ⟨r,1,none⟩ _ _ h.c1,?_⟩
 have:=h.f1
 simpa using this
theorem below_grown {r:Nat} {w w':World} (h:Below w.heap.size w w'):w.grownBy w' (some r):=⟨h.os,h.tape,h.output,h.size,fun k hk _=>h.block k hk⟩
theorem Zg5 {B r:Nat} {w0 w w':World} (h:Below B w0 w) (hB:B ≤ r) (g:w.grownBy w' (some r)) (hs:B ≤ w.heap.size):Below B w0 w':=
 ⟨g.os.trans h.os,g.tape.trans h.tape,g.output.trans h.output,Nat.le_trans h.size g.size,fun k hk=>(g.block k kW (fun e=>by cases e;omega)).trans (h.block k hk)⟩
theorem Zdu (s:ByteArray) (k:Nat) (h:k < s.size):Zal (s.data.toList.drop k)=s[k]:=by
 have:s.data.toList.drop k=s[k] :: s.data.toList.drop (k + 1):=by
  rw [List.drop_eq_getElem_cons kb65];rfl
 rw [this];rfl
theorem Zib (s:ByteArray) (k:Nat) (h:s.size ≤ k):Zal (s.data.toList.drop k)=0:=by
 rw [List.drop_eq_nil_iff.2 (by rw [Zx];exact h)];rfl
theorem Zpv (r:Nat) (s:ByteArray) (k:Nat) (w:World) (h:RD r s k w) (hs:s.size ≤ 1000000) (hk:k ≤ s.size) :
 Calls Tryz.prog 111 #[pV r,iZ] w fun e w'=>e = .returned (byte (Zal (s.data.toList.drop (k))))∧Below w.heap.size w w':=by
 obtain ⟨c0,c1,_⟩:=h
 have e1:wrap64 (k:Int)=(k:Int):=by unfold wrap64;omega
 by_cases hlt:k < s.size
 ·have a1:(k:Int) < (s.size:Int):=kW
  have a3:(0:Int) ≤ (k:Int):=kW
  have hb:=Zdu s (k) hlt
  exact ks51
 have a1:¬ (k:Int) < (s.size:Int):=kW
 have a2:(s.size:Int) ≤ (k:Int):=kW
 have hb:=Zib s (k) kW
 exact ks64
theorem Zuq (r:Nat) (s:ByteArray) (k:Nat) (w:World) (h:RD r s k w) (hs:s.size ≤ 1000000) (hk:k ≤ s.size) :
 Calls Tryz.prog 111 #[pV r,.int .i64 1] w fun e w'=>e = .returned (byte (Zal (s.data.toList.drop (k + 1))))∧Below w.heap.size w w':=by
 obtain ⟨c0,c1,_⟩:=h
 have e1:IntKind.i64.wrap ((k:Int) + 1)=(k:Int) + 1:=by rw [IntKind.wrap_i64];omega
 by_cases hlt:k + 1 < s.size
 ·have a1:(k:Int) + 1 < (s.size:Int):=kW
  have a3:(0:Int) ≤ (k:Int) + 1:=kW
  have hb:=Zdu s (k + 1) hlt
  exact ks51
 have a1:¬ (k:Int) + 1 < (s.size:Int):=kW
 have a2:(s.size:Int) ≤ (k:Int) + 1:=kW
 have hb:=Zib s (k + 1) kW
 exact ks64
theorem Zqw {p:UInt8→Bool} : ∀ {l:List UInt8} {j:Nat},j < Zap p l→p (Zal (l.drop j))=true
 | [],_,h=>absurd h (Nat.not_lt_zero _)
 | c :: l,j,h=>by
  by_cases hc:p c=true
  ·rw [Zbe hc] at h
   rcases j with _ | j
   ·exact hc
   ·exact Zqw (l:=l) kW
  ·rw [Zek (by simpa using hc)] at h
   exact absurd h (Nat.not_lt_zero _)
theorem Zmw (s:ByteArray) (k m:Nat):(.string (s.extract k (k + m)):Value)=str ((s.data.toList.drop k).take m):=by
 refine congrArg Value.string (ByteArray.ext ?_)
 rw [ByteArray.data_extract]
 refine Array.toList_inj.1 ?_
 rw [Array.toList_extract,List.extract_eq_take_drop]
 simp
theorem Zjf (p:UInt8→Bool) (f:FuncId) (hf:∀ (args:Array Value) (W:World),(callFunc f args).run Tryz.prog W = .ok (.enter f args) W) (hp:∀ (c:UInt8) (W:World),Calls Tryz.prog f #[byte c] W fun e w'=>e = .returned (.bool (p c))∧W=w')
 (r:Nat) (s:ByteArray) (k:Nat) (w:World) (h:RD r s k w) (hs:s.size ≤ 1000000) (hk:k ≤ s.size) :
 Calls Tryz.prog 109 #[pV r,.func (.func f) #[] #[]] w fun e w'=>
  e = .returned (str ((s.data.toList.drop k).take (Zap p (s.data.toList.drop k))))∧RD r s (k + Zap p (s.data.toList.drop k)) w'∧w.grownBy w' (some r):=by
 obtain ⟨m,hm⟩:∃ m,m=Zap p (s.data.toList.drop k):=⟨_,rfl⟩
 rw [← hm]
 have hml:k + m ≤ s.size:=by
  have:=Zat p (s.data.toList.drop k)
  rw [← hm,List.length_drop,Zx] at this
  omega
 have HGET:=Lh (fun j (hj:j < m)=>Zqw (p:=p) (l:=s.data.toList.drop k) (j:=j) (by rw [← hm];exact hj))
 have HEND:Hid (k + m < s.size→p (Zal (s.data.toList.drop (k + m)))=false):=Lh (fun hlt=>by
  rcases Zj0 p (s.data.toList.drop k) with h1 | h1
  ·rw [← hm,List.drop_drop] at h1
   have:=congrArg List.length h1
   rw [List.length_drop,Zx] at this
   simp at this;omega
  ·rwa [← hm,List.drop_drop] at h1)
 have HP:=Lh hp
 have HS:=Lh hs
 have HML:=Lh hml
 have H0:=Lh h
 obtain ⟨c0,c1,f1⟩:=h
 clear hm hp hs hml
 go_enter Tryz.func109,Tryz.ntmps109
 go_wp2_with fail
 clear c0 c1 f1
 go_loopg [] m (fun gk wr=>∃ j:Nat,gk=m - j∧j ≤ m∧Hid (RD r s (k + j) wr)∧Hid (w.grownBy wr (some r)))
 case atStart=>exact ⟨0,rfl,Nat.zero_le _,H0,Lh (World.grownBy.refl _ _)⟩
 case round=>
  obtain ⟨j,rfl,hj,HR,HG⟩:=hrel
  have hr:=HR.out
  obtain ⟨c0,c1,f1⟩:=hr
  by_cases hlt:j < m
  ·have hb:k + j < s.size:=by have:=HML.out;omega
   have i0:(0:Int) ≤ (k:Int) + (j:Int):=kW
   have i1:(k:Int) + (j:Int) < (s.size:Int):=kW
   have hpc:=HGET.out j hlt
   rw [List.drop_drop,Zdu s (k + j) hb] at hpc
   have HC:Hid (∀ W,Calls Tryz.prog f #[byte s[k + j]] W fun e w'=>e = .returned (.bool true)∧W=w'):=Lh (fun W=>by have:=HP.out s[k + j] W;rwa [hpc] at this)
   have HJ:=Lh hlt
   have HE:Hid (wrap64 ((k:Int) + (j:Int) + 1)=((k + (j + 1):Nat):Int)):=Lh (by have:=HS.out;unfold wrap64;omega)
   clear hj hlt hpc
   go_upto_region 2 with fail
   have l0:=Zb c0
   have l1:=Zb c1
   refine Zj kR kR ?_
   repeat (go_big_quiet_step ((exact Ze0 (HC.out _))))
   refine wpQuiet_nil ?_
   refine Zu (fun w2 hb2=>?_)
   have hr2:=HR.out.later hb2
   have HR2:=Lh hr2
   have HG2:=Lh (Za HG.out (below_grown (r:=r) hb2))
   obtain ⟨d0,d1,g1⟩:=hr2
   clear l0 l1 c0 c1 f1 hb2
   go_wp2_with fail
   go_roundg (m - (j + 1))
   case measure=>exact Nat.sub_lt_sub_left HJ.out (Nat.lt_succ_self _)
   case rel=>exact ⟨j + 1,rfl,HJ.out,Lh (by rw [HE.out];exact HR2.out.set (k + (j + 1))),Lh (Za HG2.out (Z3 _ _ _ _))⟩
  obtain rfl:j=m:=kW
  have i0:(0:Int) ≤ (k:Int) + (j:Int):=kW
  have i2:(k:Int) ≤ (k:Int) + (j:Int):=kW
  have i3:(0:Int) ≤ (k:Int):=kW
  have i4:(k:Int) + (j:Int) ≤ (s.size:Int):=by have:=HML.out;omega
  by_cases hb:k + j < s.size
  ·have i1:(k:Int) + (j:Int) < (s.size:Int):=kW
   have hpc:=HEND.out hb
   rw [Zdu s (k + j) hb] at hpc
   have HC:Hid (∀ W,Calls Tryz.prog f #[byte s[k + j]] W fun e w'=>e = .returned (.bool false)∧W=w'):=Lh (fun W=>by have:=HP.out s[k + j] W;rwa [hpc] at this)
   clear hj hlt hpc
   go_upto_region 2 with fail
   have l0:=Zb c0
   have l1:=Zb c1
   refine Zj kR kR ?_
   repeat (go_big_quiet_step ((exact Ze0 (HC.out _))))
   exact ks32
  have i1:¬ (k:Int) + (j:Int) < (s.size:Int):=kW
  clear hj hlt
  go_upto_region 2 with fail
  have l0:=Zb c0
  have l1:=Zb c1
  refine Zj kR kR ?_
  repeat (go_big_quiet_step (fail))
  exact ks32
end Go.Proofs.YtmdogmpcmkfjpaaGreatDoor.Dt
namespace Go.Proofs.YtmdogmpcmkfjpaaGreatDoor.By
open Go.RowKit
section
variable {P:Program} {w:World} {base:Nat} {t u ty e:TypeId} {i:TypeInfo} {v v':Value} {n:Nat} {xs:List Value} {w':World}
theorem Zpj (ht:P.underlying t=some (.slice e)) (hi:P.info? e=some i) (hz:i.zero=some (.int .u8 0)) (hsize:i.size=1) (hby:i.bytes=1)
 (hown:w.ownsRowF base e 1 v n xs) (a:Addr) (m c:Nat) (news:List Value) (hl:news.length=m) (hnews:∀ j u,news[j]? = some u→w.cell? (a.add j)=some u) (h1:∀ u ∈ news,u.oneCell'=true)
 (h63:n + m ≤ 140737488355328) (hr:(Builtin.append_ #[t,t] ty #[v,.slice (some a) m c]).run P w = .ok v' w'):∀ k,v'.ownBlock=some k→v.ownBlock=some k ∨ w.heap.size ≤ k:=by
 intro k hk
 rcases hown.2 with ⟨rfl,rfl⟩ | ⟨g,cap,cur,fz,rfl,hbg,hg,hfz,hnc,hcm,hcs,htake⟩
 ·obtain ⟨v2,w2,r2,o2,_,_⟩:=run_append_ownF (P:=P) w w.heap.size t ty e i (.int .u8 0) 1 1 ht hi hz hsize hby rfl kD (nS) 0 xs ⟨hown.1,.inl ⟨rfl,rfl⟩⟩ a m c news kW hnews h1 Zvd kW (Nat.le_refl _)
  rw [hr] at r2
  injection r2 with e1 e2
  subst e1
  exact .inr (World.ownsRowF.lt o2 k hk).1
 have hxl:xs.length=n:=by simpa using hown.1
 by_cases hroom:n + m ≤ cap
 ·have r2:=run_append_roomF (P:=P) w t ty e i ht hi g n cap cur fz hg (by rw [hsize];simpa using hfz) a m c news kb78 hnews h1 hroom kb78
  rw [hr] at r2
  injection r2 with e1 e2
  subst e1
  exact .inl hk
 have r2:=run_append_grow (P:=P) w t ty e i (.int .u8 0) ht hi hz ⟨g,0,none⟩ n cap xs kb78 (hown.cells (g:=g) rfl) a m c news kb78 hnews kW kW (growslice_fits kW (by rw [hby];omega))
 rw [hr] at r2
 injection r2 with e1 e2
 subst e1
 simp [Value.ownBlock] at hk
 exact .inr kW
theorem Zng (ht:P.underlying t=some (.slice e)) (hu:P.underlying u=some .string) (hi:P.info? e=some i) (hz:i.zero=some (.int .u8 0)) (hsize:i.size=1) (hby:i.bytes=1)
 (hown:w.ownsRowF base e 1 v n xs) (s:ByteArray) (h63:n + s.size ≤ 140737488355328) (hr:(Builtin.append_ #[t,u] ty #[v,.string s]).run P w = .ok v' w'):∀ k,v'.ownBlock=some k→v.ownBlock=some k ∨ w.heap.size ≤ k:=by
 intro k hk
 rcases hown.2 with ⟨rfl,rfl⟩ | ⟨g,cap,cur,fz,rfl,hbg,hg,hfz,hnc,hcm,hcs,htake⟩
 ·obtain ⟨v2,w2,r2,o2,_,_⟩:=Lib.run_append_own_stringF (P:=P) w w.heap.size t u ty e i ht hu hi hz hsize hby (nS) 0 xs ⟨hown.1,.inl ⟨rfl,rfl⟩⟩ s Zvd kW (Nat.le_refl _)
  rw [hr] at r2
  injection r2 with e1 e2
  subst e1
  exact .inr (World.ownsRowF.lt o2 k hk).1
 have hxl:xs.length=n:=by simpa using hown.1
 by_cases hroom:n + s.size ≤ cap
 ·have r2:=Lib.run_append_room_stringF (P:=P) w t u ty e i ht hu hi hsize g n cap cur fz hg (by simpa using hfz) s hroom kW
  rw [hr] at r2
  injection r2 with e1 e2
  subst e1
  exact .inl hk
 have r2:=Lib.run_append_grow_string (P:=P) w t u ty e i (.int .u8 0) ht hu hi hz ⟨g,0,none⟩ n cap xs kb78 (hown.cells (g:=g) rfl) s kW kW (by rw [hby];exact growslice_fits kW kW)
 rw [hr] at r2
 injection r2 with e1 e2
 subst e1
 simp [Value.ownBlock] at hk
 exact .inr kW
theorem Zii {ops:Array Oper} {rest:List Oper} {o:Oper} {a:Act} {Q:Exit→Act→World→Prop} (hgd:o.guard=none) (s x:Operand) (t:TypeId)
 (ho:o.op = .call { callee:=.builtin .append,args:=#[s,x],argTypes:=#[t,t] }) (base:Nat) (e:TypeId) (i:TypeInfo)
 (ht:P.underlying t=some (.slice e)) (hi:P.info? e=some i) (hz:i.zero=some (.int .u8 0)) (hsize:i.size=1) (hby:i.bytes=1)
 (v:Value) (n:Nat) (xs:List Value) (hs:a.eval s=v) (hown:w.ownsRowF base e 1 v n xs) (ad:Addr) (m c:Nat) (news:List Value) (hx:a.eval x = .slice (some ad) m c) (hl:news.length=m) (hnews:∀ j u,news[j]? = some u→w.cell? (ad.add j)=some u) (h1:∀ u ∈ news,u.oneCell'=true)
 (h63:n + m ≤ 140737488355328) (hbase:base ≤ w.heap.size)
 (h:∀ v' w',w'.ownsRowF base e 1 v' (n + m) (xs ++ news)→w.grownBy w' v.ownBlock→(∀ k,v'.ownBlock=some k→v.ownBlock=some k ∨ w.heap.size ≤ k)→wpList P ops Q rest (a.put o.dst v') w'):wpList P ops Q (o :: rest) a w:=by
 refine wpList_plain hgd fun K hK=>?_
 obtain ⟨v',w',hr,h2,h3,-⟩:=run_append_ownF (P:=P) w base t o.type e i (.int .u8 0) 1 1 ht hi hz hsize hby rfl kD v n xs hown ad m c news kW hnews h1 Zvd kW hbase
 have hw:=Zpj ht hi hz hsize hby hown ad m c news hl hnews h1 h63 hr
 exact ks57
theorem Zhb {ops:Array Oper} {rest:List Oper} {o:Oper} {a:Act} {Q:Exit→Act→World→Prop} (hgd:o.guard=none) (sl x:Operand)
 (ho:o.op = .call { callee:=.builtin .append,args:=#[sl,x],argTypes:=#[t,u] })
 (ht:P.underlying t=some (.slice e)) (hu:P.underlying u=some .string) (hi:P.info? e=some i) (hz:i.zero=some (.int .u8 0)) (hsize:i.size=1) (hby:i.bytes=1)
 (hs:a.eval sl=v) (hown:w.ownsRowF base e 1 v n xs) (s:ByteArray) (hx:a.eval x = .string s)
 (h63:n + s.size ≤ 140737488355328) (hbase:base ≤ w.heap.size)
 (h:∀ v' w',w'.ownsRowF base e 1 v' (n + s.size) (xs ++ Lib.strCells s)→w.grownBy w' v.ownBlock→(∀ k,v'.ownBlock=some k→v.ownBlock=some k ∨ w.heap.size ≤ k)→wpList P ops Q rest (a.put o.dst v') w'):wpList P ops Q (o :: rest) a w:=by
 refine wpList_plain hgd fun K hK=>?_
 obtain ⟨v',w',hr,h2,h3,-⟩:=Lib.run_append_own_stringF (P:=P) w base t u o.type e i ht hu hi hz hsize hby v n xs hown s Zvd kW hbase
 have hw:=Zng ht hu hi hz hsize hby hown s h63 hr
 exact ks57
end
end Go.Proofs.YtmdogmpcmkfjpaaGreatDoor.By
namespace Go.Proofs.YtmdogmpcmkfjpaaGreatDoor.Dt
open Go.RowKit Go.Proofs.YtmdogmpcmkfjpaaGreatDoor.By
def Apart (q b:Nat) (w:World):Prop:=q < w.heap.size∧q ≠ b∧∀ v,w.cell? ⟨b,1,none⟩=some v→v.ownBlock ≠ some q
theorem Apart.later {q b:Nat} {w w':World} (h:Apart q b w) (hb:Below w.heap.size w w') (hl:b < w.heap.size):Apart q b w':=
 ⟨Nat.lt_of_lt_of_le h.1 hb.size,h.2.1,fun v hv=>h.2.2 v ((hb.cell (p:=⟨b,1,none⟩) hl).symm.trans hv)⟩
theorem infoU8:∃ i,Tryz.prog.info? 5=some i∧i.zero=some (.int .u8 0)∧i.size=1∧i.bytes=1:=info_parts kR
abbrev Zdm (B b:Nat) (l:List UInt8) (w:World):Prop:=Lib.IsBuilderF 67 5 B b (Lib.byteCells l) w
def Za6 (b:Nat) (w w':World):Prop:=∀ q,Apart q b w→Apart q b w'∧w'.heap[q]? = w.heap[q]?
theorem Za6.refl (b:Nat) (w:World):Za6 b w w:=fun _ h=>⟨h,rfl⟩
theorem Za6.trans {b:Nat} {w w1 w2:World} (h:Za6 b w w1) (k:Za6 b w1 w2):Za6 b w w2:=fun q hq=>by
 obtain ⟨h1,e1⟩:=h q hq
 obtain ⟨h2,e2⟩:=k q h1
 exact ⟨h2,e2.trans e1⟩
theorem Za6.below {b:Nat} {w w':World} (hb:Below w.heap.size w w') (hl:b < w.heap.size):Za6 b w w':=fun q hq=>⟨hq.later hb hl,hb.block q hq.1⟩
theorem Zdm.lt {B b:Nat} {l:List UInt8} {w:World} (h:Zdm B b l w):b < w.heap.size:=by
 rcases h with ⟨_,v,hv,_⟩ | ⟨_,v,hv,_⟩
 ·exact (Array.getElem?_eq_some_iff.1 hv).1
 exact (Array.getElem?_eq_some_iff.1 hv).1
theorem Zdm.le {B b:Nat} {l:List UInt8} {w:World} (h:Zdm B b l w):B ≤ b:=by
 rcases h with h | h
 ·exact h.1
 exact h.1
theorem Zdm.Bw {B b:Nat} {l:List UInt8} {w:World} (h:Zdm B b l w):B ≤ w.heap.size:=Nat.le_of_lt (Nat.lt_of_le_of_lt h.le h.lt)
theorem Zdm.new {B b:Nat} {l:List UInt8} {w w':World} (h:Zdm B b l w) (hb:Below w.heap.size w w') (hs:w.heap.size < w'.heap.size):Apart w.heap.size b w':=by
 have one:∀ p,Lib.BuilderAtF 67 5 B b p (Lib.byteCells l) w→Apart w.heap.size b w':=by
  rintro p ⟨hB,v,hv,hown,hne⟩
  have hlt:b < w.heap.size:=(Array.getElem?_eq_some_iff.1 hv).1
  refine ⟨hs,by omega,fun v' hv' hk=>?_⟩
  have hc:w.cell? ⟨b,1,none⟩=some v:=by rw [Lib.cell_of_heap hv];rfl
  have hv2:w'.cell? ⟨b,1,none⟩=some v:=(hb.cell (Zd hc)).trans hc
  rw [hv2] at hv'
  cases hv'
  have:=(World.ownsRowF.lt hown _ hk).2
  omega
 rcases h with h | h
 ·exact one _ h
 exact one _ h
theorem Zdm.later {B b:Nat} {l:List UInt8} {w w':World} (h:Zdm B b l w) (hb:Below w.heap.size w w'):Zdm B b l w':=by
 have one:∀ p,Lib.BuilderAtF 67 5 B b p (Lib.byteCells l) w→Lib.BuilderAtF 67 5 B b p (Lib.byteCells l) w':=by
  rintro p ⟨hB,v,hv,hown,hne⟩
  have hlt:b < w.heap.size:=(Array.getElem?_eq_some_iff.1 hv).1
  exact ⟨hB,v,(hb.block b hlt).trans hv,World.ownsRowF.kept (row:=none) hown ⟨hb.os,hb.tape,hb.output,hb.size,fun i hi _=>hb.block i hi⟩ kb50,hne⟩
 rcases h with h | h
 ·exact .inl (one _ h)
 exact .inr (one _ h)
theorem Zss (B:Nat) (w:World) (hB:B ≤ w.heap.size):Zdm B w.heap.size [] (w.alloc (.cells #[.pointer none,nS] 67)):=
 .inl ⟨hB,nS,heap_alloc_new _ _,World.ownsRowF_nil _ _ _ _,fun e=>by cases e⟩
theorem Zp0:liesAt Tryz.prog Tryz.prog.depth 67 (2 / Tryz.prog.cellsOf 67) 0 65 1=true:=kR
theorem Zwi (b:Nat) (w:World) (h0:w.cell? ⟨b,0,none⟩=some (.pointer none)) (hsh:w.shape? b=some (67,2)) (hfz:w.frozen? ⟨b,0,none⟩=false) :
 Calls Tryz.prog 133 #[pV b] w fun e w'=>e = .returned (.tuple #[])∧w'=w.setCell ⟨b,0,none⟩ (pV b):=by
 obtain ⟨j,hj,hjs⟩:=Option.map_eq_some_iff.1 (Tryz.Builder_Extra_155).toX72.sizeBuilder
 have e1:(convert 62 190 (pV b)).run Tryz.prog w = .ok (pV b) w:=Lib.run_to_unsafe w ⟨b,0,none⟩ Tryz.lays155.t70 Tryz.lays155.t164 hj (by rw [hjs];decide) hsh (Nat.zero_lt_succ 1)
 have e2:(convert 190 62 (pV b)).run Tryz.prog w = .ok (pV b) w:=Lib.run_from_unsafe w ⟨b,0,none⟩ Tryz.lays155.t164 Tryz.lays155.t70 hj hsh Zp0
 have e3:(callFunc 151 #[pV b]).run Tryz.prog w = .ok (.value (pV b)) w:=by
  refine (run_callFunc_extern Tryz.lays155.f276 kR kR kR (e:=Extern.AbiNoEscape.same) kR _ w).trans ?_
  rw [Lib.run_noEscape]
  rfl
 clear hj hjs
 go_enter Tryz.func133,Tryz.ntmps133
 go_wp2_with fail
 go_end0
 exact ⟨rfl,rfl⟩
theorem Zlr (B b:Nat) (l:List UInt8) (w:World) (h:Zdm B b l w) :
 Calls Tryz.prog 133 #[pV b] w fun e w'=>e = .returned (.tuple #[])∧Lib.BuilderAtF 67 5 B b (pV b) (Lib.byteCells l) w'∧Below B w w'∧Za6 b w w'∧w'.heap.size=w.heap.size:=by
 rcases h with h | h
 ·refine (Zwi b w h.cell0 h.shape h.frozen0).mono ?_
  rintro e w' ⟨rfl,rfl⟩
  refine ⟨rfl,h.used _,(Below.refl B w).setCell (p:=⟨b,0,none⟩) h.1 _,fun q hq=>⟨⟨by simpa using hq.1,hq.2.1,fun v hv=>?_⟩,?_⟩,by simp⟩
  ·rw [Zht w b b 0 1 _ (fun e=>absurd e.2 kD)] at hv
   exact hq.2.2 v hv
  exact (Z3 w b 0 _).block q hq.1 (fun e=>hq.2.1 (Option.some.inj e))
 refine (Any.Builder_copyCheck_used { Tryz.lays155 with } (Tryz.Builder_Extra_155).toX72 b w h.cell0).mono ?_
 rintro e w' ⟨rfl,rfl⟩
 exact ⟨rfl,h,Below.refl B _,Za6.refl _ _,rfl⟩
theorem Zs9 (B b:Nat) (l:List UInt8) (w:World) (h:Zdm B b l w):Calls Tryz.prog 89 #[pV b] w fun e w'=>e = .returned (.int .i64 (l.length:Int))∧w'=w:=by
 have hc:∃ a n c,n=l.length∧w.cell? ⟨b,1,none⟩=some (.slice a n c):=by
  have one:∀ p,Lib.BuilderAtF 67 5 B b p (Lib.byteCells l) w→∃ a n c,n=l.length∧w.cell? ⟨b,1,none⟩=some (.slice a n c):=by
   rintro p ⟨hB,v,hv,hown,hne⟩
   have hc:w.cell? ⟨b,1,none⟩=some v:=by rw [Lib.cell_of_heap hv];rfl
   rcases hown.2 with ⟨rfl,hz⟩ | ⟨g,cap,cur,fz,rfl,_⟩
   ·exact ⟨none,0,0,by rw [← hz,Lib.byteCells_length],hc⟩
   ·exact ⟨_,_,_,Lib.byteCells_length l,hc⟩
  rcases h with h | h
  ·exact one _ h
  ·exact one _ h
 obtain ⟨a,n,c,hn,c1⟩:=hc
 clear h
 go_enter Tryz.func89,Tryz.ntmps89
 go_wp2_with fail
 go_ret
 exact ⟨by rw [← hn];rfl,rfl⟩
theorem Zrw (B b:Nat) (l:List UInt8) (c:UInt8) (w:World) (h:Zdm B b l w) (hlen:l.length + 1 ≤ 140737488355328) (hBw:B ≤ w.heap.size) :
 Calls Tryz.prog 97 #[pV b,.int .u8 (c.toNat:Int)] w fun e w'=>e = .returned .nilIface∧Zdm B b (l ++ [c]) w'∧Below B w w'∧Za6 b w w':=by
 obtain ⟨i0,hi,hz0,hz1,hz2⟩:=infoU8
 go_enter Tryz.func97,Tryz.ntmps97
 go_wp2_with fail
 refine (Zlr B b l w h).mono ?_
 rintro e w1 ⟨rfl,h1,hb1,hkw,hz⟩
 clear hz
 obtain ⟨hB,v,hbk,hown,hne⟩:=h1
 have c0:w1.cell? ⟨b,0,none⟩=some (pV b):=by rw [Lib.cell_of_heap hbk];rfl
 have c1:w1.cell? ⟨b,1,none⟩=some v:=by rw [Lib.cell_of_heap hbk];rfl
 have hlt:b < w1.heap.size:=Zd c0
 go_wp2_with (at_builtin;refine Zii rfl (.tmp 11) (.tmp 13) 63 rfl B 5 i0 Tryz.underlying63 hi hz0 hz1 hz2 _ _ _ rfl (hown.alloc _) ⟨w1.heap.size,0,none⟩ 1 1 [.int .u8 (c.toNat:Int)] rfl rfl ?c1 ?c2 ?c3 ?c5 ?_)
 case c1=>
  intro j u hj
  match j,hj with
  | 0,hj=>simp at hj;subst hj;simp [Addr.add]
 case c2=>intro u hu;simp at hu;subst hu;rfl
 case c3=>rw [Lib.byteCells_length];omega
 case c5=>have:=hb1.size;simp;omega
 intro v' w2 hown' hgrow hwh
 have hb2:w2.heap[b]? = some (.cells #[pV b,v] 67 (0,0)):=by
  rw [hgrow.block b kb58 (fun e=>hne e.symm),Lib.alloc_old w1 _ b hlt]
  exact hbk
 have d0:w2.cell? ⟨b,0,none⟩=some (pV b):=by rw [Lib.cell_of_heap hb2];rfl
 have d1:w2.cell? ⟨b,1,none⟩=some v:=by rw [Lib.cell_of_heap hb2];rfl
 have f1:w2.frozen? ⟨b,1,none⟩=false:=Lib.frozen_of_heap hb2 1
 obtain ⟨g,cap,rfl⟩:∃ g cap,v' = .slice (some ⟨g,0,none⟩) ((Lib.byteCells l).length + 1) cap:=by
  rcases hown'.2 with ⟨_,h0⟩ | ⟨g,cap,cur,fz,hv,_⟩
  ·omega
  ·exact ⟨g,cap,hv⟩
 go_wp2_with fail
 go_ret
 refine ⟨rfl,.inr ?_,?_,fun q hq=>?_⟩
 ·have e:Lib.byteCells (l ++ [c])=Lib.byteCells l ++ [.int .u8 (c.toNat:Int)]:=by simp [Lib.byteCells]
  rw [e]
  exact Lib.BuilderAtF.put (T:=67) (e:=5) hB hb2 (bs':=Lib.byteCells l ++ [.int .u8 (c.toNat:Int)]) (by simpa using hown') kD
 ·exact ((hb1.alloc (by have:=hb1.size;omega) _).grown hgrow (by have:=hb1.size;simp;omega) (fun k hk=>(hown.lt k hk).1)).setCell (p:=⟨b,1,none⟩) hB _
 obtain ⟨hq1,hk1⟩:=hkw q hq
 have hq2:w2.heap[q]? = w.heap[q]? :=by
  rw [hgrow.block q (by simp;have:=hq1.1;omega) (fun e=>hq1.2.2 v c1 e.symm),Lib.alloc_old w1 _ q hq1.1]
  exact hk1
 refine ⟨⟨by have h2:=hgrow.size;have h3:=hq1.1;simp at h2 ⊢;omega,hq.2.1,fun v2 hv2=>?_⟩,?_⟩
 ·rw [Zbk w2 ⟨b,1,none⟩ _ _ d1] at hv2
  cases hv2
  intro e
  rcases hwh q e with h | h
  ·exact hq1.2.2 v c1 h
  have h2:=hq1.1;have h3:w1.heap.size + 1 ≤ q:=by simpa using h
  omega
 rw [(Z3 w2 b 1 _).block q (by have h2:=hgrow.size;have h3:=hq1.1;simp at h2;omega) (fun e=>hq.2.1 (Option.some.inj e))]
 exact hq2
theorem Zna (B b:Nat) (l:List UInt8) (s:ByteArray) (w:World) (h:Zdm B b l w) (hlen:l.length + s.size ≤ 140737488355328) (hBw:B ≤ w.heap.size) :
 Calls Tryz.prog 96 #[pV b,.string s] w fun e w'=>e = .returned (.tuple #[.int .i64 s.size,.nilIface])∧Zdm B b (l ++ s.data.toList) w'∧Below B w w'∧Za6 b w w':=by
 obtain ⟨i0,hi,hz0,hz1,hz2⟩:=infoU8
 go_enter Tryz.func96,Tryz.ntmps96
 go_wp2_with fail
 refine (Zlr B b l w h).mono ?_
 rintro e w1 ⟨rfl,h1,hb1,hkw,hz⟩
 clear hz
 obtain ⟨hB,v,hbk,hown,hne⟩:=h1
 have c0:w1.cell? ⟨b,0,none⟩=some (pV b):=by rw [Lib.cell_of_heap hbk];rfl
 have c1:w1.cell? ⟨b,1,none⟩=some v:=by rw [Lib.cell_of_heap hbk];rfl
 have hlt:b < w1.heap.size:=Zd c0
 go_wp2_with (at_builtin;refine Zhb (base:=B) (e:=5) (i:=i0) rfl _ _ rfl (by kernel_rfl) (by kernel_rfl) hi hz0 hz1 hz2 (by rfl) hown s (by rfl) ?c3 ?c5 ?_)
 case c3=>rw [Lib.byteCells_length];omega
 case c5=>have:=hb1.size;omega
 intro v' w2 hown' hgrow hwh
 have hb2:w2.heap[b]? = some (.cells #[pV b,v] 67 (0,0)):=by
  rw [hgrow.block b hlt (fun e=>hne e.symm)]
  exact hbk
 have d0:w2.cell? ⟨b,0,none⟩=some (pV b):=by rw [Lib.cell_of_heap hb2];rfl
 have d1:w2.cell? ⟨b,1,none⟩=some v:=by rw [Lib.cell_of_heap hb2];rfl
 have f1:w2.frozen? ⟨b,1,none⟩=false:=Lib.frozen_of_heap hb2 1
 obtain ⟨ao,n',cap,rfl⟩:∃ ao n' cap,v' = .slice ao n' cap:=by
  rcases hown'.2 with ⟨hv,_⟩ | ⟨g,cap,cur,fz,hv,_⟩
  ·exact ⟨_,_,_,hv⟩
  ·exact ⟨_,_,_,hv⟩
 go_wp2_with fail
 go_ret2
 refine ⟨rfl,.inr ?_,?_,fun q hq=>?_⟩
 ·have e:Lib.byteCells (l ++ s.data.toList)=Lib.byteCells l ++ Lib.strCells s:=by simp [Lib.byteCells,Lib.strCells]
  rw [e]
  exact Lib.BuilderAtF.put (T:=67) (e:=5) hB hb2 (bs':=Lib.byteCells l ++ Lib.strCells s) (by simpa [Lib.strCells_length] using hown') kD
 ·exact (hb1.grown hgrow (by have:=hb1.size;omega) (fun k hk=>(hown.lt k hk).1)).setCell (p:=⟨b,1,none⟩) hB _
 obtain ⟨hq1,hk1⟩:=hkw q hq
 have hq2:w2.heap[q]? = w.heap[q]? :=by
  rw [hgrow.block q hq1.1 (fun e=>hq1.2.2 v c1 e.symm)]
  exact hk1
 refine ⟨⟨by have h2:=hgrow.size;have h3:=hq1.1;simp;omega,hq.2.1,fun v2 hv2=>?_⟩,?_⟩
 ·rw [Zbk w2 ⟨b,1,none⟩ _ _ d1] at hv2
  cases hv2
  intro e
  rcases hwh q e with h | h
  ·exact hq1.2.2 v c1 h
  have:=hq1.1;omega
 rw [(Z3 w2 b 1 _).block q (by have:=hgrow.size;have:=hq1.1;omega) (fun e=>hq.2.1 (Option.some.inj e))]
 exact hq2
theorem Zm9 (B b:Nat) (l:List UInt8) (w:World) (h:Zdm B b l w):Calls Tryz.prog 26 #[pV b] w fun e w'=>e = .returned (str l)∧Below B w w':=by
 have mixed:=Tryz.lays169.mixed
 have hUS0:∀ (W:World) (q:Option Addr),(Builtin.unsafeString_ #[122,3] 9 #[.pointer q,iZ]).run Tryz.prog W = .ok (eS) W:=fun W q=>Lib.run_unsafeString_none W _ _ _ q
 have hBw:=h.Bw
 have one:∀ p,Lib.BuilderAtF 67 5 B b p (Lib.byteCells l) w→Calls Tryz.prog 26 #[pV b] w fun e w'=>e = .returned (str l)∧Below B w w':=by
  rintro p ⟨hB,v,hbk,hown,hne⟩
  have hlt:b < w.heap.size:=(Array.getElem?_eq_some_iff.1 hbk).1
  rcases hown.2 with ⟨rfl,hz⟩ | ⟨g,cap,cur,fz,rfl,hbg,hg,hfz,hnc,hcm,hcs,htake⟩
  ·obtain rfl:l = []:=by rw [Lib.byteCells_length] at hz;exact List.eq_nil_of_length_eq_zero hz
   have c1:w.drew.cell? ⟨b,1,none⟩=some (nS):=by
    have:w.drew.heap[b]? = some (.cells #[p,nS] 67 (0,0)):=hbk
    rw [Lib.cell_of_heap this];rfl
   have hSD:(Builtin.unsafeSliceData_ #[63] 122 #[nS]).run Tryz.prog w.drew = .ok (.pointer none) w.drew:=rfl
   clear hbk hown hne hz
   go_enter Tryz.func26,Tryz.ntmps26
   go_wp2_with fail
   go_region_o
   all_goals (go_wp2_with fail;go_ret;exact ⟨rfl,Below.drew (Below.refl B w)⟩)
  ·rw [Lib.byteCells_length] at hown hnc hfz hbk
   by_cases h0:l = []
   ·subst h0
    by_cases hc0:cap=0
    ·subst hc0
     have hSD:(Builtin.unsafeSliceData_ #[63] 122 #[.slice (some ⟨g,0,none⟩) 0 0]).run Tryz.prog w.drew = .ok (.pointer (some ⟨w.drew.heap.size,0,none⟩)) (w.drew.alloc (.view ⟨g,0,none⟩ 5)):=
      Lib.run_unsafeSliceData_zero w.drew _ _ 5 Tryz.lays169.t127 ⟨g,0,none⟩ 0 (5,cur.size) (by have hg':w.drew.heap[g]? = some (.cells cur 5 fz):=hg;simp [World.shape?,hg'])
     have c1:w.drew.cell? ⟨b,1,none⟩=some (.slice (some ⟨g,0,none⟩) 0 0):=by
      have:w.drew.heap[b]? = some (.cells #[p,.slice (some ⟨g,0,none⟩) 0 0] 67 (0,0)):=hbk
      rw [Lib.cell_of_heap this];rfl
     have c2:(w.drew.alloc (.view ⟨g,0,none⟩ 5)).cell? ⟨b,1,none⟩=some (.slice (some ⟨g,0,none⟩) 0 0):=by
      have:(w.drew.alloc (.view ⟨g,0,none⟩ 5)).heap[b]? = _:=(Lib.alloc_old w.drew _ b hlt).trans hbk
      rw [Lib.cell_of_heap this];rfl
     have c3:(w.alloc (.view ⟨g,0,none⟩ 5)).drew.cell? ⟨b,1,none⟩=some (.slice (some ⟨g,0,none⟩) 0 0):=c2
     have c0:w.cell? ⟨b,1,none⟩=some (.slice (some ⟨g,0,none⟩) 0 0):=c1
     clear hbk hown hne hg hfz hnc hcm hcs htake
     go_enter Tryz.func26,Tryz.ntmps26
     go_wp2_with fail
     go_region_o
     all_goals (go_wp2_with fail;go_ret;exact ⟨rfl,(Below.drew (Below.refl B w)).alloc hBw _⟩)
    ·have c1:w.drew.cell? ⟨b,1,none⟩=some (.slice (some ⟨g,0,none⟩) 0 cap):=by
      have:w.drew.heap[b]? = some (.cells #[p,.slice (some ⟨g,0,none⟩) 0 cap] 67 (0,0)):=hbk
      rw [Lib.cell_of_heap this];rfl
     have hSD:(Builtin.unsafeSliceData_ #[63] 122 #[.slice (some ⟨g,0,none⟩) 0 cap]).run Tryz.prog w.drew = .ok (pV g) w.drew:=
      Lib.run_unsafeSliceData_row _ _ _ _ _ _ hc0
     clear hbk hown hne hg hfz hnc hcm hcs htake hc0
     go_enter Tryz.func26,Tryz.ntmps26
     go_wp2_with fail
     go_region_o
     all_goals (go_wp2_with fail;go_ret;exact ⟨rfl,Below.drew (Below.refl B w)⟩)
   ·have hl0:l.length ≠ 0:=by simpa using h0
    have c1:w.drew.cell? ⟨b,1,none⟩=some (.slice (some ⟨g,0,none⟩) l.length cap):=by
     have:w.drew.heap[b]? = some (.cells #[p,.slice (some ⟨g,0,none⟩) l.length cap] 67 (0,0)):=hbk
     rw [Lib.cell_of_heap this];rfl
    have hSD:(Builtin.unsafeSliceData_ #[63] 122 #[.slice (some ⟨g,0,none⟩) l.length cap]).run Tryz.prog w.drew = .ok (pV g) w.drew:=
     Lib.run_unsafeSliceData_row _ _ _ _ _ _ kW
    have hUS:(Builtin.unsafeString_ #[122,3] 9 #[pV g,.int .i64 (l.length:Int)]).run Tryz.prog w.drew = .ok (.string ⟨l.toArray⟩) (w.drew.freeze ⟨g,0,none⟩ l.length):=by
     refine Lib.run_unsafeString_row w.drew 122 3 9 5 Tryz.lays169.t127 (Tryz.Builder_Extra_169).cellsByte g cur.size (by have hg':w.drew.heap[g]? = some (.cells cur 5 fz):=hg;simp [World.shape?,hg']) l h0 kW (by unfold maxLen at hcm;omega) ?_
     intro j x hx
     exact hown.cells (g:=g) rfl j (.int .u8 x.toNat) (by simp [Lib.byteCells,hx])
    clear hbk hown hne hg hfz hnc hcm hcs htake
    go_enter Tryz.func26,Tryz.ntmps26
    go_wp2_with fail
    go_region_o
    all_goals (go_wp2_with fail;go_ret;exact ⟨rfl,Lib.below_freeze (Below.drew (Below.refl B w)) (p:=⟨g,0,none⟩) hbg _⟩)
 rcases h with h | h
 ·exact one _ h
 exact one _ h
end Go.Proofs.YtmdogmpcmkfjpaaGreatDoor.Dt
