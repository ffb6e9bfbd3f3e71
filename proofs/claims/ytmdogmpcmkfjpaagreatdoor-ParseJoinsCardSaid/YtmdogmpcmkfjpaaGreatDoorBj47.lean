import Derived.Test.YtmdogmpcmkfjpaaGreatDoorBj12
import Derived.Test.YtmdogmpcmkfjpaaGreatDoorBj11
import Derived.Test.YtmdogmpcmkfjpaaGreatDoorBj41
/- Part of the proof (merged). -/
namespace Go.Proofs.YtmdogmpcmkfjpaaGreatDoor.By
open Go.RowKit
section
variable {P:Program} {ops:Array Oper} {Q:Exit→Act→World→Prop} {i:Nat} {a:Act} {w:World} {o:Oper} {K:Act→World→Prop}
theorem op_val (ho:ops[i]? = some o) (hg:o.guard=none) (v:Value) (w':World) (hrun:(execOp a.eval o).run P w = .ok (.value v) w') (h:K (a.put (dstOf ops i) v) w'):wpOp P ops Q i K a w:=by
 unfold wpOp
 simp only [ho]
 rw [if_pos (by unfold Region.wanted;rw [hg])]
 refine .inl ?_
 unfold Oper.wp
 rw [hrun,Oper.upon_value]
 unfold dstOf at h
 rw [ho] at h
 exact h
end
end Go.Proofs.YtmdogmpcmkfjpaaGreatDoor.By
namespace Go.Proofs.YtmdogmpcmkfjpaaGreatDoor.By
open Go.RowKit
theorem wp_region_all' {P:Program} {id:Nat} {Q:Exit→Act→World→Prop} {a0:Act} {w:World} {l:List Oper} (J:(Nat→Bool)→(Nat→Value)→World→Prop) (N:Nat) (hN:a0.tmps.size=N) (hm:P.follows .mixedOrders=true) (hB:mixB .any l.toArray=true)
 (h0:∀ us:Nat→Value,(∀ j t,j < l.length→dstOf l.toArray j=some t→us j=a0.eval (.tmp t))→J (fun _=>false) us w.drew)
 (hops:∀ i,i < l.length→∀ (dn:Nat→Bool) (us:Nat→Value) (A:Act) w1,(∀ t,((List.range l.length).all fun j=>dstOf l.toArray j != some t)=true→A.eval (.tmp t)=a0.eval (.tmp t))→(∀ j t,j < l.length→dstOf l.toArray j=some t→t < N→A.eval (.tmp t)=us j) →
  J dn us w1→dn i=false→(∀ j o,l.toArray[j]? = some o→dn j=true→∀ e ∈ o.after,Region.binds .any e=true→dn e.on=true)→(∀ oi,l.toArray[i]? = some oi→∀ e ∈ oi.after,Region.binds .any e=true→dn e.on=true) →
  wpOp P l.toArray Q i (fun a' w'=>∃ v,a'=A.put (dstOf l.toArray i) v∧J (upd dn i) (fun j=>if j=i then v else us j) w') A w1)
 (hend:∀ (dn:Nat→Bool) (us:Nat→Value) w1,(∀ j,j < l.length→dn j=true)→J dn us w1→Q .normal (putAll l.toArray us l.length a0) w1) :
 (Code.region id l.toArray true).wp P Q a0 w:=by
 simp only [mixB,Bool.and_eq_true,List.size_toArray] at hB
 obtain ⟨hap,hback⟩:=hB
 obtain ⟨us0,hus0,husv⟩:∃ us:Nat→Value,putAll l.toArray us l.length a0=a0∧∀ j t,j < l.length→dstOf l.toArray j=some t→us j=a0.eval (.tmp t):=by
  refine ⟨fun j=>((dstOf l.toArray j).map fun t=>a0.tmps.getD t undef).getD undef,?_,fun j t _ ht=>by simp only [ht];rfl⟩
  have:∀ k,k ≤ l.length→putAll l.toArray (fun j=>((dstOf l.toArray j).map fun t=>a0.tmps.getD t undef).getD undef) k a0=a0:=by
   intro k
   induction k with
   | zero=>intro _;rfl
   | succ k ih=>
    intro hk
    rw [putAll,ih (by omega)]
    exact put_old a0 _
  exact this _ (Nat.le_refl _)
 have hfalse0:dnOf (Array.replicate l.toArray.size false)=fun _=>false:=by
  funext j
  unfold dnOf
  rw [getD_replicate_false]
 refine wp_region_inv hm (fun done a w1=>∃ us:Nat→Value,a=putAll l.toArray us l.length a0∧J (dnOf done) us w1∧(∀ j o,l.toArray[j]? = some o→dnOf done j=true→∀ e ∈ o.after,Region.binds .any e=true→dnOf done e.on=true)) ?_ ?_ ?_
 ·refine ⟨us0,hus0.symm,by rw [hfalse0];exact h0 _ husv,fun j o _ hd=>?_⟩
  rw [hfalse0] at hd;cases hd
 ·rintro done a w1 i hs ⟨us,rfl,hJ,hcl⟩ hi
  obtain ⟨hlt,hfalse⟩:=ready_false hi
  rw [hs,List.size_toArray] at hlt
  obtain ⟨_,oi,hoi,hafter⟩:=mem_ready.1 hi
  have hupd:dnOf (done.setIfInBounds i true)=upd (dnOf done) i:=by
   funext j
   unfold upd
   by_cases hj:j=i
   ·subst hj
    unfold dnOf
    simp [show j < done.size by rw [hs,List.size_toArray];exact hlt]
   ·rw [show dnOf (done.setIfInBounds i true) j=dnOf done j from getD_set_ne false (Ne.symm hj)];simp [hj]
  have hg:=hops i hlt (dnOf done) us _ w1 (fun t ht=>eval_other us a0 t l.length fun j hj he=>by
   have:=List.all_eq_true.1 ht j (List.mem_range.2 hj)
   rw [he] at this
   simp at this) (fun j t hj hd ht=>eval_at hap us a0 hd (by rw [hN];exact ht) l.length hj (Nat.le_refl _)) hJ
   (by unfold dnOf;simpa [show i < done.size by rw [hs,List.size_toArray];exact hlt] using hfalse) hcl
   (fun o ho e he hb=>by
    rw [hoi] at ho
    cases ho
    exact hafter e he hb)
  refine wpOp_mono (fun a' w' hK=>?_) hg
  obtain ⟨v,rfl,hJ'⟩:=hK
  rw [putAll_put hap us i v l.length hlt (Nat.le_refl _),hupd]
  refine ⟨_,rfl,hJ',fun j o ho hd e he hb=>?_⟩
  have hup:∀ x,dnOf done x=true→upd (dnOf done) i x=true:=fun x h=>by unfold upd;simp [h]
  by_cases hji:j=i
  ·subst hji
   rw [hoi] at ho
   cases ho
   exact hup _ (hafter e he hb)
  ·exact hup _ (hcl j o ho (by unfold upd at hd;simpa [hji] using hd) e he hb)
 ·rintro done a w1 hs ⟨us,rfl,hJ,_⟩ hr
  have hall:∀ j,j < l.length→dnOf done j=true:=by
   intro m
   induction m using Nat.strongRecOn with
   | _ m ih=>
    intro hm'
    cases h:dnOf done m with
    | true=>rfl
    | false=>
     exfalso
     have hlt:m < done.size:=by rw [hs,List.size_toArray];exact hm'
     have hi:m ∈ Region.ready .any l.toArray done:=by
      obtain ⟨o,ho⟩:∃ o,l.toArray[m]? = some o:=⟨l.toArray[m]'(by simpa using hm'),by simp⟩
      refine mem_ready.2 ⟨getD_in hlt h,o,ho,fun e he hb=>?_⟩
      have h1:=List.all_eq_true.1 hback m (List.mem_range.2 hm')
      rw [ho] at h1
      simp only [Option.map_some,Option.getD_some,Array.all_eq_true_iff_forall_mem] at h1
      have h2:=h1 e he
      rw [hb] at h2
      have h3:e.on < m:=by simpa using h2
      exact ih e.on h3 (by omega)
     rw [hr] at hi
     cases hi
  exact hend (dnOf done) us w1 hall hJ
end Go.Proofs.YtmdogmpcmkfjpaaGreatDoor.By
namespace Go.Proofs.YtmdogmpcmkfjpaaGreatDoor.Dt
open Go.RowKit Go.Proofs.YtmdogmpcmkfjpaaGreatDoor.By
section
variable {P:Program} {w:World}
theorem append_where_m (base:Nat) (t ty e:TypeId) (i:TypeInfo) (z:Value) (size bytes:Nat) (ht:P.underlying t=some (.slice e)) (hi:P.info? e=some i) (hz:i.zero=some z)
 (hsize:i.size=size) (hby:i.bytes=bytes) (hzs:z.cells.size=size) (hsz:0 < size)
 (v:Value) (n:Nat) (xs:List Value) (hown:w.ownsRow base e size v n xs)
 (a:Addr) (m c:Nat) (news:List Value) (hl:news.length=m * size) (hnews:∀ j u,news[j]? = some u→w.cell? (a.add j)=some u) (h1:∀ u ∈ news,u.oneCell'=true)
 (h63:n + m ≤ maxLen) (hbytes:(n + m) * bytes ≤ 140737488355328) (v':Value) (w':World) (hr:(Builtin.append_ #[t,t] ty #[v,.slice (some a) m c]).run P w = .ok v' w') (hiff:v' = .slice none 0 0 ↔ v = .slice none 0 0∧m=0) :
 v'.ownBlock=v.ownBlock ∨ v'.ownBlock=some w.heap.size:=by
 subst hsize
 subst hby
 have hsmall:n + m ≤ 9223372036854775807:=by simp only [maxLen] at h63;omega
 rcases hown.2 with ⟨rfl,rfl⟩ | ⟨g,cap,cur,rfl,hbg,hg,hnc,hcm,hcs,htake⟩
 ·rcases Nat.eq_zero_or_pos m with h0 | hm
  ·exact .inl (by rw [hiff.2 ⟨rfl,h0⟩])
  have h:=run_append_nil (P:=P) w t ty e i z ht hi hz a m c news hl hnews (by omega) (by omega) (by have hb:=hbytes;simp only [Nat.zero_add] at hb;omega)
  rw [h] at hr
  cases hr
  exact .inr rfl
 ·by_cases hroom:n + m ≤ cap
  ·have hfit:n * i.size + news.length ≤ cur.size:=by rw [hl,hcs,← Nat.add_mul];exact Nat.mul_le_mul_right _ hroom
   have h:=run_append_room (P:=P) w t ty e i ht hi g n cap cur hg a m c news hl hnews h1 hroom hfit
   rw [h] at hr
   cases hr
   exact .inl rfl
  ·have holds:∀ j u,xs[j]? = some u→w.cell? ((⟨g,0,none⟩:Addr).add j)=some u:=hown.cells (g:=g) rfl
   have h:=run_append_grow (P:=P) w t ty e i z ht hi hz ⟨g,0,none⟩ n cap xs hown.1 holds a m c news hl hnews (by omega) (by omega) (growslice_fits (by omega) hbytes)
   rw [h] at hr
   cases hr
   exact .inr rfl
def RdZ (w:World) (size:Nat) (v:Value) (m:Nat) (xs:List Value):Prop:=xs.length=m * size∧((∃ c,v = .slice none 0 c∧m=0) ∨ ∃ ad c,v = .slice (some ad) m c∧∀ j u,xs[j]? = some u→w.cell? (ad.add j)=some u)
theorem run_append_w (t ty e:TypeId) (size bytes:Nat) (E:Elem P t e size bytes) (base:Nat) (v:Value) (n:Nat) (xs:List Value) (hown:w.ownsRow base e size v n xs)
 (sv:Value) (m:Nat) (news:List Value) (hr:RdZ w size sv m news) (h1:∀ u ∈ news,u.oneCell'=true) (h63:n + m ≤ maxLen) (hbytes:(n + m) * bytes ≤ 140737488355328) (hbase:base ≤ w.heap.size) :
 ∃ v' w',(Builtin.append_ #[t,t] ty #[v,sv]).run P w = .ok v' w'∧w'.ownsRow base e size v' (n + m) (xs ++ news)∧w.grownBy w' v.ownBlock∧(v'.ownBlock=v.ownBlock ∨ v'.ownBlock=some w.heap.size):=by
 obtain ⟨i,z,hi,hz,hsize,hby,hzs⟩:=E.info
 rcases hr.2 with ⟨c,rfl,rfl⟩ | ⟨ad,c,rfl,hc⟩
 ·have hn:news = []:=by simpa using hr.1
  subst hn
  have hrun:(Builtin.append_ #[t,t] ty #[v,.slice none 0 c]).run P w = .ok v w:=by
   rcases hown.2 with ⟨rfl,rfl⟩ | ⟨g,cap,cur,rfl,_,_,hnc,_⟩
   ·simp [Builtin.append_,run_underlying E.slice,sizeOf,typeInfo,hi,Builtin.lenOf,Builtin.firstCells]
   ·simp [Builtin.append_,run_underlying E.slice,sizeOf,typeInfo,hi,Builtin.lenOf,Builtin.firstCells,hnc,storeCells]
  exact ⟨v,w,hrun,by simpa using hown,⟨rfl,rfl,rfl,Nat.le_refl _,fun _ _ _=>rfl⟩,.inl rfl⟩
 ·obtain ⟨v',w',h2,h3,h4,h5⟩:=run_append_own (P:=P) w base t ty e i z size bytes E.slice hi hz hsize hby hzs E.pos v n xs hown ad m c news hr.1 hc h1 h63 hbytes hbase
  exact ⟨v',w',h2,h3,h4,append_where_m base t ty e i z size bytes E.slice hi hz hsize hby hzs E.pos v n xs hown ad m c news hr.1 hc h1 h63 hbytes v' w' h2 h5⟩
theorem RdZ.below {w w':World} {size:Nat} {v:Value} {m:Nat} {xs:List Value} (h:RdZ w size v m xs) (hb:Below w.heap.size w w'):RdZ w' size v m xs:=by
 refine ⟨h.1,?_⟩
 rcases h.2 with h | ⟨ad,c,e,hc⟩
 ·exact .inl h
 ·exact .inr ⟨ad,c,e,fun j u hu=>(hb.cell (cell_lt (hc j u hu))).trans (hc j u hu)⟩
end
theorem rdz_of {α:Type} {size:Nat} {R:World→List Value→α→Prop} {w:World} {v:Value} {l:List α} (h:SlR size R w v l):∃ cs:List (List Value),RdZ w size v l.length cs.flatten∧cs.length=l.length∧∀ (i:Nat) (c:List Value) (x:α),cs[i]? = some c→l[i]? = some x→c.length=size∧R w c x:=by
 obtain ⟨cs,⟨a,c,rfl,hc,hat⟩,hl,hR⟩:=h
 have hs:∀ c ∈ cs,c.length=size:=fun c hc=>by
  obtain ⟨i,hi⟩:=List.getElem?_of_mem hc
  have hil:i < l.length:=by rw [← hl];exact (List.getElem?_eq_some_iff.1 hi).1
  exact (hR i c l[i] hi (by simp [hil])).1
 have hlen:∀ ds:List (List Value),(∀ c ∈ ds,c.length=size)→ds.flatten.length=ds.length * size:=fun ds=>by
  induction ds with
  | nil=>intro _;simp
  | cons d ds ih=>
   intro h
   rw [List.flatten_cons,List.length_append,h d (by simp),ih (fun c hc=>h c (by simp [hc])),List.length_cons,Nat.add_mul];omega
 refine ⟨cs,⟨by rw [hlen cs hs,hl],?_⟩,hl,hR⟩
 cases a with
 | none=>
  left
  have h0:cs.length=0:=by
   rcases Nat.eq_zero_or_pos cs.length with h | h
   ·exact h
   ·obtain ⟨b,o,e,_⟩:=hat 0 cs[0] (by simp [h])
    cases e
  exact ⟨c,by rw [h0],by omega⟩
 | some ad=>
  right
  refine ⟨ad,c,by rw [← hl],fun j u hu=>?_⟩
  have hj:j < cs.length * size:=by rw [← hlen cs hs];exact (List.getElem?_eq_some_iff.1 hu).1
  have hsz:0 < size:=by rcases Nat.eq_zero_or_pos size with h | h;(rw [h] at hj;omega);exact h
  have hi:j / size < cs.length:=Nat.div_lt_of_lt_mul (by rw [Nat.mul_comm];exact hj)
  obtain ⟨b,o,e,hcell⟩:=hat (j / size) cs[j / size] (by simp [hi])
  cases e
  have hmod:j % size < (cs[j / size]).length:=by rw [hs _ (List.getElem_mem _)];exact Nat.mod_lt _ hsz
  have hget:=flatten_get cs (j / size) cs[j / size] (j % size) ((cs[j / size])[j % size]'hmod) hs (by simp [hi]) (List.getElem?_eq_getElem hmod)
  have hjj:j / size * size + j % size=j:=by rw [Nat.mul_comm];exact Nat.div_add_mod j size
  rw [hjj] at hget
  rw [hget] at hu
  cases hu
  have:=hcell (j % size) _ (List.getElem?_eq_getElem hmod)
  rw [Nat.add_assoc,hjj] at this
  rw [Addr.add_lit]
  exact this
abbrev ETy:TypeId:=48
abbrev STy:TypeId:=9
def RowE (w0:World) (lo:Nat) (w:World) (v:Value) (E:List PE):Prop:=∃ cs:List (List Value),w.ownsRow lo ETy 8 v E.length cs.flatten∧cs.length=E.length∧∀ (i:Nat) (c:List Value) (x:PE),cs[i]? = some c→E[i]? = some x→c.length=8∧ExR w0 c x
def RowS (lo:Nat) (w:World) (v:Value) (S:List ByteArray):Prop:=w.ownsRow lo STy 1 v S.length (S.map .string)
structure FS (w0:World) (lo:Nat) (bx:List (Nat × TypeId × Array Value)) (ov nv:Value) (E:List PE) (S:List ByteArray) (w:World):Prop where
 e:RowE w0 lo w ov E
 s:RowS lo w nv S
 ne:∀ k,ov.ownBlock=some k→nv.ownBlock ≠ some k
 bx:∀ b ∈ bx,Row b.1 b.2.1 b.2.2 w∧ov.ownBlock ≠ some b.1∧nv.ownBlock ≠ some b.1
 bl:Below lo w0 w
 hl:lo ≤ w.heap.size
section
variable {w0 w w':World} {lo:Nat} {bx:List (Nat × TypeId × Array Value)} {ov nv:Value} {E:List PE} {S:List ByteArray}
theorem grown_of_below (hb:Below w.heap.size w w'):w.grownBy w' none:=⟨hb.os,hb.tape,hb.output,hb.size,fun k hk _=>hb.block k hk⟩
theorem FS.later (h:FS w0 lo bx ov nv E S w) (hb:Below w.heap.size w w'):FS w0 lo bx ov nv E S w':=by
 obtain ⟨cs,h1,h2,h3⟩:=h.e
 exact ⟨⟨cs,World.ownsRow.kept h1 (grown_of_below hb) (by cases ov.ownBlock <;> simp),h2,h3⟩,World.ownsRow.kept h.s (grown_of_below hb) (by cases nv.ownBlock <;> simp),h.ne,
  fun b hb'=>⟨(h.bx b hb').1.later hb,(h.bx b hb').2⟩,h.bl.trans (hb.mono h.hl),Nat.le_trans h.hl hb.size⟩
theorem FS.ltE (h:FS w0 lo bx ov nv E S w):∀ k,ov.ownBlock=some k→lo ≤ k∧k < w.heap.size:=by
 obtain ⟨cs,h1,_⟩:=h.e
 exact World.ownsRow.lt h1
theorem FS.ltS (h:FS w0 lo bx ov nv E S w):∀ k,nv.ownBlock=some k→lo ≤ k∧k < w.heap.size:=World.ownsRow.lt h.s
theorem FS.alloc (h:FS w0 lo bx ov nv E S w) (cs:Array Value) (T:TypeId):FS w0 lo ((w.heap.size,T,cs) :: bx) ov nv E S (w.alloc (.cells cs T)):=by
 have h1:=h.later ((Below.refl _ w).alloc (Nat.le_refl _) (.cells cs T))
 refine ⟨h1.e,h1.s,h1.ne,fun b hb=>?_,h1.bl,h1.hl⟩
 rcases List.mem_cons.1 hb with rfl | hb
 ·exact ⟨row_alloc _ _ _,fun e=>by have:=(h.ltE _ e).2;omega,fun e=>by have:=(h.ltS _ e).2;omega⟩
 ·exact h1.bx b hb
theorem FS.drop {b:Nat × TypeId × Array Value} (h:FS w0 lo (b :: bx) ov nv E S w):FS w0 lo bx ov nv E S w:=⟨h.e,h.s,h.ne,fun c hc=>h.bx c (by simp [hc]),h.bl,h.hl⟩
theorem FS.sub {by':List (Nat × TypeId × Array Value)} (h:FS w0 lo bx ov nv E S w) (hs:∀ b ∈ by',b ∈ bx):FS w0 lo by' ov nv E S w:=⟨h.e,h.s,h.ne,fun c hc=>h.bx c (hs c hc),h.bl,h.hl⟩
theorem FS.moreE {v':Value} {X:List PE} {ds:List (List Value)} (h:FS w0 lo bx ov nv E S w) (cs:List (List Value)) (hcs:w.ownsRow lo ETy 8 ov E.length cs.flatten∧cs.length=E.length∧∀ (i:Nat) (c:List Value) (x:PE),cs[i]? = some c→E[i]? = some x→c.length=8∧ExR w0 c x)
 (hown:w'.ownsRow lo ETy 8 v' (E.length + X.length) (cs.flatten ++ ds.flatten)) (hd:ds.length=X.length) (hX:∀ (i:Nat) (c:List Value) (x:PE),ds[i]? = some c→X[i]? = some x→c.length=8∧ExR w0 c x)
 (g:w.grownBy w' ov.ownBlock) (hv:v'.ownBlock=ov.ownBlock ∨ v'.ownBlock=some w.heap.size):FS w0 lo bx v' nv (E ++ X) S w':=by
 have hnew:∀ b,b < w.heap.size→ov.ownBlock ≠ some b→v'.ownBlock ≠ some b:=fun b hb hne=>by
  rcases hv with hv | hv
  ·rw [hv];exact hne
  ·rw [hv];intro e;cases e;omega
 refine ⟨⟨cs ++ ds,by simpa using hown,by simp [hcs.2.1,hd],fun i c x hc hx=>?_⟩,World.ownsRow.kept h.s g ?_,fun k hk hk2=>?_,fun b hb=>?_,?_,Nat.le_trans h.hl g.size⟩
 ·rcases Nat.lt_or_ge i cs.length with hi | hi
  ·rw [List.getElem?_append_left hi] at hc
   rw [List.getElem?_append_left (by rw [← hcs.2.1];exact hi)] at hx
   exact hcs.2.2 i c x hc hx
  ·rw [List.getElem?_append_right hi] at hc
   rw [List.getElem?_append_right (by rw [← hcs.2.1];exact hi),← hcs.2.1] at hx
   exact hX _ c x hc hx
 ·cases hk:nv.ownBlock with
  | none=>exact .inl rfl
  | some k=>exact .inr (fun e=>h.ne k e.symm hk)
 ·have hlt:=(h.ltS k hk2).2
  by_cases he:ov.ownBlock=some k
  ·exact h.ne k he hk2
  ·exact hnew k hlt he hk
 ·obtain ⟨r1,r2,r3⟩:=h.bx b hb
  exact ⟨(g.block b.1 r1.lt (fun e=>r2 e.symm)).trans r1,hnew b.1 r1.lt r2,r3⟩
 ·exact h.bl.trans ((Below.refl lo w).grown g h.hl (fun k hk=>(h.ltE k hk).1))
theorem FS.moreS {v':Value} {X:List ByteArray} (h:FS w0 lo bx ov nv E S w) (hown:w'.ownsRow lo STy 1 v' (S.length + X.length) (S.map .string ++ X.map .string))
 (g:w.grownBy w' nv.ownBlock) (hv:v'.ownBlock=nv.ownBlock ∨ v'.ownBlock=some w.heap.size):FS w0 lo bx ov v' E (S ++ X) w':=by
 have hnew:∀ b,b < w.heap.size→nv.ownBlock ≠ some b→v'.ownBlock ≠ some b:=fun b hb hne=>by
  rcases hv with hv | hv
  ·rw [hv];exact hne
  ·rw [hv];intro e;cases e;omega
 obtain ⟨cs,h1,h2,h3⟩:=h.e
 refine ⟨⟨cs,World.ownsRow.kept h1 g ?_,h2,h3⟩,by unfold RowS;simpa using hown,fun k hk=>?_,fun b hb=>?_,?_,Nat.le_trans h.hl g.size⟩
 ·cases hk:ov.ownBlock with
  | none=>exact .inl rfl
  | some k=>exact .inr (fun e=>h.ne k hk e.symm)
 ·exact hnew k (h.ltE k hk).2 (h.ne k hk)
 ·obtain ⟨r1,r2,r3⟩:=h.bx b hb
  exact ⟨(g.block b.1 r1.lt (fun e=>r3 e.symm)).trans r1,r2,hnew b.1 r1.lt r3⟩
 ·exact h.bl.trans ((Below.refl lo w).grown g h.hl (fun k hk=>(h.ltS k hk).1))
end
end Go.Proofs.YtmdogmpcmkfjpaaGreatDoor.Dt
