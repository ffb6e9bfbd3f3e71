import Derived.Test.YtmdogmpcmkfjpaaGreatDoorBn24
/- Part of the proof (merged). -/
namespace Go.Proofs.YtmdogmpcmkfjpaaGreatDoor.Dt
open Go.RowKit Go.Proofs.YtmdogmpcmkfjpaaGreatDoor.By
section
variable {w0:World} {r:Nat} {tv:Value} {L:List Tk} {en:Int}
theorem ex_vac {m:Md} {s:PS} (h:¬ s.k ≤ L.length):EX w0 r tv L en m s:=fun _ hp=>absurd hp.hk h
theorem allEx (hall:AllOk L):∀ (n:Nat) (m:Md) (s:PS),s.k ≤ L.length→9 * (L.length - s.k) + lvl m ≤ n→(∀ k,m = .sum k→k ≤ 3)→EX w0 r tv L en m s
 | 0,m,s,_,h,_=>by
  have:1 ≤ lvl m:=by
   cases m with
   | sum k=>unfold lvl;by_cases h0:k=0 <;> by_cases h1:k=1 <;> by_cases h2:k=2 <;> simp [h0,h1,h2]
   | _=>simp [lvl]
  omega
 | n + 1,m,s,hk,h,hm=>by
  have ih:=fun (m':Md) (s':PS) (h2:9 * (L.length - s'.k) + lvl m' < 9 * (L.length - s.k) + lvl m) (h3:∀ k,m' = .sum k→k ≤ 3)=>
   (Classical.em (s'.k ≤ L.length)).elim (fun h1=>allEx hall n m' s' h1 (by omega) h3) (fun h1=>ex_vac (w0:=w0) (r:=r) (tv:=tv) (L:=L) (en:=en) (m:=m') h1)
  have up:=fun (m':Md) (s':PS) (hs:s.k < s'.k) (h3:∀ k,m' = .sum k→k ≤ 3)=>(Classical.em (s'.k ≤ L.length)).elim
   (fun h1=>ih m' s' (by have h8:=lvl_le m';have h9:1 ≤ lvl m:=by
                           cases m with
                           | sum k=>unfold lvl;by_cases h0:k=0 <;> by_cases h1:k=1 <;> by_cases h2:k=2 <;> simp [h0,h1,h2]
                           | _=>simp [lvl]
                         omega) h3) (fun h1=>ex_vac (w0:=w0) (r:=r) (tv:=tv) (L:=L) (en:=en) (m:=m') h1)
  cases m with
  | expr=>exact exprW fun s' hs=>ih .not s' (by simp only [lvl];omega) (fun k h=>by cases h)
  | not=>exact notW (fun s' hs=>up .not s' hs (fun k h=>by cases h)) (fun s' hs=>ih (.sum 0) s' (by simp only [lvl,if_true];omega) (fun k h=>by cases h;omega))
  | sum k=>
   have hk3:=hm k rfl
   refine sumW k hk3 (fun s' hs hk'=>ih (.sum (k + 1)) s' ?_ (fun k' h=>by cases h;omega)) (fun hk'=>ih .unary s ?_ (fun k h=>by cases h))
   ·have hl:lvl (.sum (k + 1)) < lvl (.sum k):=by
     rcases (by omega:k=0 ∨ k=1 ∨ k=2) with h | h | h <;> subst h <;> simp [lvl]
    omega
   ·subst hk'
    simp [lvl]
  | unary=>exact unaryW hall (fun s' hs=>up .unary s' hs (fun k h=>by cases h)) (ih .prim s (by simp only [lvl];omega) (fun k h=>by cases h))
  | prim=>exact primW fun s' hs=>up .expr s' hs (fun k h=>by cases h)
theorem exprAll (hall:AllOk L) (s:PS):EX w0 r tv L en .expr s:=by
 by_cases hk:s.k ≤ L.length
 ·exact allEx hall _ .expr s hk (Nat.le_refl _) (fun k h=>by cases h)
 ·exact ex_vac hk
theorem exprP (hall:AllOk L) (s:PS) (w:World) (h:PB w0 r tv L en s w):Calls Tryz.prog 31 #[.pointer (some ⟨r,0,none⟩)] w fun e w'=>
 ∃ v,e = .returned v∧New w.heap.size w' (fun u=>ExV u v (exprM L en s).1)∧PB w0 r tv L en (exprM L en s).2 w'∧w.grownBy w' (some r):=exprAll hall s w h
theorem exprRun (hall:AllOk L) (w1:World) (k0:Nat):PRun w0 r tv L en w1 k0 31 #[.pointer (some ⟨r,0,none⟩)] (exprM L en) (AgV ExR):=fun s w _ _ h=>exprP hall s w h
end
end Go.Proofs.YtmdogmpcmkfjpaaGreatDoor.Dt
namespace Go.Proofs.YtmdogmpcmkfjpaaGreatDoor.Dt
open Go.RowKit Go.Proofs.YtmdogmpcmkfjpaaGreatDoor.By
theorem so_size:(Tryz.prog.info? 110).map (·.size)=some 3:=by kernel_rfl
theorem so_struct:∃ fs,Tryz.prog.underlying 110=some (.struct fs):=st_of (by kernel_rfl)
theorem veilSt_so (a:Addr) (v:Value):storeVar 110 a v=veilSt 110 a v:=rfl
theorem veilLd_so (a:Addr):loadVar 110 a=veilLd 110 a:=rfl
theorem run_soSt (W:World) (g:Nat) (cells:Array Value) (hg:rowB 3 W g=true) (h1:okRow 3 cells=true) :
 (veilSt 110 ⟨g,0,none⟩ (.agg cells)).run Tryz.prog W = .ok () (W.setRow g cells):=by
 obtain ⟨t,old,hr,ho,_⟩:=rowB_row hg
 obtain ⟨hc,h1⟩:=okRow_iff.1 h1
 exact run_veilSt so_size W g old cells t hr ho hc h1
theorem run_soNew (W:World) (old cells:Array Value) (t:TypeId) (ho:old.size=3) (h1:okRow 3 cells=true) :
 (veilSt 110 ⟨W.heap.size,0,none⟩ (.agg cells)).run Tryz.prog (W.alloc (.cells old t)) = .ok () (W.alloc (.cells cells t)):=by
 obtain ⟨hc,h1⟩:=okRow_iff.1 h1
 exact run_veilNew so_size W old cells t ho hc h1
theorem run_soLd (W:World) (g:Nat) (hg:rowB 3 W g=true):(veilLd 110 ⟨g,0,none⟩).run Tryz.prog W = .ok (.agg (rowOf W g)) W:=by
 obtain ⟨t,cs,hr,ho,e⟩:=rowB_row hg
 obtain ⟨fs,h⟩:=so_struct
 rw [e]
 exact run_veilLd h so_size W g cs t hr ho
theorem co_size:(Tryz.prog.info? 89).map (·.size)=some 3:=by kernel_rfl
theorem co_struct:∃ fs,Tryz.prog.underlying 89=some (.struct fs):=st_of (by kernel_rfl)
theorem veilSt_co (a:Addr) (v:Value):storeVar 89 a v=veilSt 89 a v:=rfl
theorem veilLd_co (a:Addr):loadVar 89 a=veilLd 89 a:=rfl
theorem run_coSt (W:World) (g:Nat) (cells:Array Value) (hg:rowB 3 W g=true) (h1:okRow 3 cells=true) :
 (veilSt 89 ⟨g,0,none⟩ (.agg cells)).run Tryz.prog W = .ok () (W.setRow g cells):=by
 obtain ⟨t,old,hr,ho,_⟩:=rowB_row hg
 obtain ⟨hc,h1⟩:=okRow_iff.1 h1
 exact run_veilSt co_size W g old cells t hr ho hc h1
theorem run_coNew (W:World) (old cells:Array Value) (t:TypeId) (ho:old.size=3) (h1:okRow 3 cells=true) :
 (veilSt 89 ⟨W.heap.size,0,none⟩ (.agg cells)).run Tryz.prog (W.alloc (.cells old t)) = .ok () (W.alloc (.cells cells t)):=by
 obtain ⟨hc,h1⟩:=okRow_iff.1 h1
 exact run_veilNew co_size W old cells t ho hc h1
theorem run_coLd (W:World) (g:Nat) (hg:rowB 3 W g=true):(veilLd 89 ⟨g,0,none⟩).run Tryz.prog W = .ok (.agg (rowOf W g)) W:=by
 obtain ⟨t,cs,hr,ho,e⟩:=rowB_row hg
 obtain ⟨fs,h⟩:=co_struct
 rw [e]
 exact run_veilLd h co_size W g cs t hr ho
theorem okRow3 (a b c:Value):okRow 3 #[a,b,c]=(a.oneCell' && (b.oneCell' && c.oneCell')):=by simp [okRow]
def veilB (T:TypeId) (ps:Array (Nat × Value)):=Instr.build T ps
theorem veilB_it (ps:Array (Nat × Value)):Instr.build 106 ps=veilB 106 ps:=rfl
theorem veilB_od (ps:Array (Nat × Value)):Instr.build 114 ps=veilB 114 ps:=rfl
theorem veilB_se (ps:Array (Nat × Value)):Instr.build 94 ps=veilB 94 ps:=rfl
theorem run_bItem (W:World) (c:Array Value) (h:okRow 8 c=true):(veilB 106 #[(0,.agg c)]).run Tryz.prog W = .ok (.agg (c.push (.string ⟨#[]⟩))) W:=by
 obtain ⟨a0,a1,a2,a3,a4,a5,a6,a7,rfl⟩:=arr8 (okRow_iff.1 h).1
 unfold veilB
 go_simp
theorem run_bOrder (W:World) (c:Array Value) (b:Bool) (h:okRow 8 c=true):(veilB 114 #[(0,.agg c),(1,.bool b)]).run Tryz.prog W = .ok (.agg (c.push (.bool b))) W:=by
 obtain ⟨a0,a1,a2,a3,a4,a5,a6,a7,rfl⟩:=arr8 (okRow_iff.1 h).1
 unfold veilB
 go_simp
theorem run_bSet (W:World) (c:Array Value) (n:ByteArray) (h:okRow 8 c=true):(veilB 94 #[(0,.string n),(1,.agg c)]).run Tryz.prog W = .ok (.agg (#[.string n] ++ c)) W:=by
 obtain ⟨a0,a1,a2,a3,a4,a5,a6,a7,rfl⟩:=arr8 (okRow_iff.1 h).1
 unfold veilB
 go_simp
abbrev StrsR (w:World) (v:Value) (l:List ByteArray):Prop:=SlR 1 SR w v l
def StR (w:World) (cs:List Value) (x:PSt):Prop:=∃ c4 c5 c6 c7 c8 c9 c10 c11 c12 c13 c14,cs = [.int .u8 (x.kind:Int),.string x.table,.string x.name,.bool x.uniq,c4,c5,c6,c7,c8,c9,c10,c11,c12,c13,c14,.int .i64 x.limit] ∧
 SlR 3 ColR w c4 x.cols∧StrsR w c5 x.key∧StrsR w c6 x.names∧SlR 1 RowR w c7 x.rows∧SlR 9 SetR w c8 x.sets∧SlR 9 ItemR w c9 x.items∧SlR 3 SrcR w c10 x.src∧ExsR w c11 x.wh∧ExsR w c12 x.group∧ExsR w c13 x.having∧SlR 9 OrderR w c14 x.order
theorem slOne {α:Type} {size:Nat} {R:World→List Value→α→Prop} {w:World} {v:Value} {l:List α} (h:SlR size R w v l):v.oneCell'=true:=by
 obtain ⟨a,c,rfl,_⟩:=h.shape
 rfl
theorem stCells:Cells 16 StR:=fun w cs x ⟨c4,c5,c6,c7,c8,c9,c10,c11,c12,c13,c14,e,h4,h5,h6,h7,h8,h9,h10,h11,h12,h13,h14⟩=>by
 subst e
 refine ⟨rfl,fun u hu=>?_⟩
 simp only [List.mem_cons,List.not_mem_nil,or_false] at hu
 rcases hu with rfl | rfl | rfl | rfl | rfl | rfl | rfl | rfl | rfl | rfl | rfl | rfl | rfl | rfl | rfl | rfl
 any_goals rfl
 ·exact slOne h4
 ·exact slOne h5
 ·exact slOne h6
 ·exact slOne h7
 ·exact slOne h8
 ·exact slOne h9
 ·exact slOne h10
 ·exact slOne h11
 ·exact slOne h12
 ·exact slOne h13
 ·exact slOne h14
abbrev stZ:Array Value:=#[.int .u8 0,.string ⟨#[]⟩,.string ⟨#[]⟩,.bool false,.slice none 0 0,.slice none 0 0,.slice none 0 0,.slice none 0 0,.slice none 0 0,.slice none 0 0,.slice none 0 0,.slice none 0 0,.slice none 0 0,.slice none 0 0,.slice none 0 0,.int .i64 0]
structure SG (S:Nat→Prop) (g:Nat) (cs:Array Value) (x:PSt) (W:World):Prop where
 row:Row g 31 cs W
 st:Dep S W fun u=>StR u cs.toList x
 ng:¬ S g
section
variable {S:Nat→Prop} {g:Nat} {cs:Array Value} {x:PSt} {W W':World}
theorem SG.size (h:SG S g cs x W):cs.size=16:=by simpa using (stCells _ _ _ h.st.here).1
theorem SG.ok (h:SG S g cs x W):okRow 16 cs=true:=okRow_iff.2 ⟨h.size,Array.all_eq_true_iff_forall_mem.2 fun u hu=>(stCells _ _ _ h.st.here).2 u (by simpa using hu)⟩
theorem SG.rb (h:SG S g cs x W):rowB 16 W g=true:=h.row.b h.size
theorem SG.grown {r:Nat} (h:SG S g cs x W) (k:W.grownBy W' (some r)) (hr:g ≠ r) (hS:¬ S r):SG S g cs x W':=
 ⟨h.row.grown k hr,h.st.step k.size fun b h1 h2=>⟨h1,k.block b h2 (fun e=>by cases e;exact hS h1)⟩,h.ng⟩
theorem SG.cell (h:SG S g cs x W) (i:Nat) (hi:i < 16):∃ v,W.cell? ⟨g,i,none⟩=some v:=by
 have:=h.size
 exact ⟨cs[i]'(by omega),h.row.cell (by simp)⟩
theorem SG.put (h:SG S g cs x W) (i:Nat) (v:Value) (y:PSt) (hst:Dep S W fun u=>StR u cs.toList x→StR u (cs.setIfInBounds i v).toList y):SG S g (cs.setIfInBounds i v) y (W.setCell ⟨g,i,none⟩ v):=by
 rw [setCell_eq_setRow W g i cs _ _ v h.row]
 exact ⟨h.row.set _,(Dep.imp2 h.st hst fun u h1 h2=>h2 h1).step (by simp) fun b h1 _=>⟨h1,setRow_other W g b _ (fun e=>h.ng (e ▸ h1))⟩,h.ng⟩
theorem SG.put_table (h:SG S g cs x W) (l:ByteArray):SG S g (cs.setIfInBounds 1 (.string l)) { x with table:=l } (W.setCell ⟨g,1,none⟩ (.string l)):=
 h.put 1 _ _ fun u _ ⟨c4,c5,c6,c7,c8,c9,c10,c11,c12,c13,c14,e,h4,h5,h6,h7,h8,h9,h10,h11,h12,h13,h14⟩=>⟨c4,c5,c6,c7,c8,c9,c10,c11,c12,c13,c14,by rw [Array.toList_setIfInBounds,e];rfl,h4,h5,h6,h7,h8,h9,h10,h11,h12,h13,h14⟩
theorem SG.put_name (h:SG S g cs x W) (l:ByteArray):SG S g (cs.setIfInBounds 2 (.string l)) { x with name:=l } (W.setCell ⟨g,2,none⟩ (.string l)):=
 h.put 2 _ _ fun u _ ⟨c4,c5,c6,c7,c8,c9,c10,c11,c12,c13,c14,e,h4,h5,h6,h7,h8,h9,h10,h11,h12,h13,h14⟩=>⟨c4,c5,c6,c7,c8,c9,c10,c11,c12,c13,c14,by rw [Array.toList_setIfInBounds,e];rfl,h4,h5,h6,h7,h8,h9,h10,h11,h12,h13,h14⟩
theorem SG.put_key (h:SG S g cs x W) (v:Value) (l:List ByteArray) (hv:Dep S W fun u=>StrsR u v l):SG S g (cs.setIfInBounds 5 v) { x with key:=l } (W.setCell ⟨g,5,none⟩ v):=
 h.put 5 _ _ fun u hu ⟨c4,c5,c6,c7,c8,c9,c10,c11,c12,c13,c14,e,h4,h5,h6,h7,h8,h9,h10,h11,h12,h13,h14⟩=>⟨c4,v,c6,c7,c8,c9,c10,c11,c12,c13,c14,by rw [Array.toList_setIfInBounds,e];rfl,h4,hv u hu,h6,h7,h8,h9,h10,h11,h12,h13,h14⟩
theorem SG.put_names (h:SG S g cs x W) (v:Value) (l:List ByteArray) (hv:Dep S W fun u=>StrsR u v l):SG S g (cs.setIfInBounds 6 v) { x with names:=l } (W.setCell ⟨g,6,none⟩ v):=
 h.put 6 _ _ fun u hu ⟨c4,c5,c6,c7,c8,c9,c10,c11,c12,c13,c14,e,h4,h5,h6,h7,h8,h9,h10,h11,h12,h13,h14⟩=>⟨c4,c5,v,c7,c8,c9,c10,c11,c12,c13,c14,by rw [Array.toList_setIfInBounds,e];rfl,h4,h5,hv u hu,h7,h8,h9,h10,h11,h12,h13,h14⟩
theorem SG.put_rows (h:SG S g cs x W) (v:Value) (l:List (List PE)) (hv:Dep S W fun u=>SlR 1 RowR u v l):SG S g (cs.setIfInBounds 7 v) { x with rows:=l } (W.setCell ⟨g,7,none⟩ v):=
 h.put 7 _ _ fun u hu ⟨c4,c5,c6,c7,c8,c9,c10,c11,c12,c13,c14,e,h4,h5,h6,h7,h8,h9,h10,h11,h12,h13,h14⟩=>⟨c4,c5,c6,v,c8,c9,c10,c11,c12,c13,c14,by rw [Array.toList_setIfInBounds,e];rfl,h4,h5,h6,hv u hu,h8,h9,h10,h11,h12,h13,h14⟩
theorem SG.put_sets (h:SG S g cs x W) (v:Value) (l:List (ByteArray × PE)) (hv:Dep S W fun u=>SlR 9 SetR u v l):SG S g (cs.setIfInBounds 8 v) { x with sets:=l } (W.setCell ⟨g,8,none⟩ v):=
 h.put 8 _ _ fun u hu ⟨c4,c5,c6,c7,c8,c9,c10,c11,c12,c13,c14,e,h4,h5,h6,h7,h8,h9,h10,h11,h12,h13,h14⟩=>⟨c4,c5,c6,c7,v,c9,c10,c11,c12,c13,c14,by rw [Array.toList_setIfInBounds,e];rfl,h4,h5,h6,h7,hv u hu,h9,h10,h11,h12,h13,h14⟩
theorem SG.put_items (h:SG S g cs x W) (v:Value) (l:List (PE × ByteArray)) (hv:Dep S W fun u=>SlR 9 ItemR u v l):SG S g (cs.setIfInBounds 9 v) { x with items:=l } (W.setCell ⟨g,9,none⟩ v):=
 h.put 9 _ _ fun u hu ⟨c4,c5,c6,c7,c8,c9,c10,c11,c12,c13,c14,e,h4,h5,h6,h7,h8,h9,h10,h11,h12,h13,h14⟩=>⟨c4,c5,c6,c7,c8,v,c10,c11,c12,c13,c14,by rw [Array.toList_setIfInBounds,e];rfl,h4,h5,h6,h7,h8,hv u hu,h10,h11,h12,h13,h14⟩
theorem SG.put_wh (h:SG S g cs x W) (v:Value) (l:List PE) (hv:Dep S W fun u=>ExsR u v l):SG S g (cs.setIfInBounds 11 v) { x with wh:=l } (W.setCell ⟨g,11,none⟩ v):=
 h.put 11 _ _ fun u hu ⟨c4,c5,c6,c7,c8,c9,c10,c11,c12,c13,c14,e,h4,h5,h6,h7,h8,h9,h10,h11,h12,h13,h14⟩=>⟨c4,c5,c6,c7,c8,c9,c10,v,c12,c13,c14,by rw [Array.toList_setIfInBounds,e];rfl,h4,h5,h6,h7,h8,h9,h10,hv u hu,h12,h13,h14⟩
theorem SG.put_group (h:SG S g cs x W) (v:Value) (l:List PE) (hv:Dep S W fun u=>ExsR u v l):SG S g (cs.setIfInBounds 12 v) { x with group:=l } (W.setCell ⟨g,12,none⟩ v):=
 h.put 12 _ _ fun u hu ⟨c4,c5,c6,c7,c8,c9,c10,c11,c12,c13,c14,e,h4,h5,h6,h7,h8,h9,h10,h11,h12,h13,h14⟩=>⟨c4,c5,c6,c7,c8,c9,c10,c11,v,c13,c14,by rw [Array.toList_setIfInBounds,e];rfl,h4,h5,h6,h7,h8,h9,h10,h11,hv u hu,h13,h14⟩
theorem SG.put_having (h:SG S g cs x W) (v:Value) (l:List PE) (hv:Dep S W fun u=>ExsR u v l):SG S g (cs.setIfInBounds 13 v) { x with having:=l } (W.setCell ⟨g,13,none⟩ v):=
 h.put 13 _ _ fun u hu ⟨c4,c5,c6,c7,c8,c9,c10,c11,c12,c13,c14,e,h4,h5,h6,h7,h8,h9,h10,h11,h12,h13,h14⟩=>⟨c4,c5,c6,c7,c8,c9,c10,c11,c12,v,c14,by rw [Array.toList_setIfInBounds,e];rfl,h4,h5,h6,h7,h8,h9,h10,h11,h12,hv u hu,h14⟩
theorem SG.put_order (h:SG S g cs x W) (v:Value) (l:List (PE × Bool)) (hv:Dep S W fun u=>SlR 9 OrderR u v l):SG S g (cs.setIfInBounds 14 v) { x with order:=l } (W.setCell ⟨g,14,none⟩ v):=
 h.put 14 _ _ fun u hu ⟨c4,c5,c6,c7,c8,c9,c10,c11,c12,c13,c14,e,h4,h5,h6,h7,h8,h9,h10,h11,h12,h13,h14⟩=>⟨c4,c5,c6,c7,c8,c9,c10,c11,c12,c13,v,by rw [Array.toList_setIfInBounds,e];rfl,h4,h5,h6,h7,h8,h9,h10,h11,h12,h13,hv u hu⟩
theorem SG.put_limit (h:SG S g cs x W) (l:Int):SG S g (cs.setIfInBounds 15 (.int .i64 l)) { x with limit:=l } (W.setCell ⟨g,15,none⟩ (.int .i64 l)):=
 h.put 15 _ _ fun u _ ⟨c4,c5,c6,c7,c8,c9,c10,c11,c12,c13,c14,e,h4,h5,h6,h7,h8,h9,h10,h11,h12,h13,h14⟩=>⟨c4,c5,c6,c7,c8,c9,c10,c11,c12,c13,c14,by rw [Array.toList_setIfInBounds,e];rfl,h4,h5,h6,h7,h8,h9,h10,h11,h12,h13,h14⟩
end
end Go.Proofs.YtmdogmpcmkfjpaaGreatDoor.Dt
namespace Go.Proofs.YtmdogmpcmkfjpaaGreatDoor.Dt
open Go.RowKit Go.Proofs.YtmdogmpcmkfjpaaGreatDoor.By
attribute [local go_sem ↓] veilSt_ex veilLd_ex veilBs_ex veilSt_so veilLd_so veilSt_it veilLd_it veilSt_od veilLd_od veilSt_se veilLd_se veilB_it veilB_od veilB_se
attribute [local go_sem] run_exSt run_exNew run_exLd okRow8 okRow3 Value.oneCell' run_bs1v run_soSt run_soNew run_soLd run_itSt run_itNew run_itLd run_odSt run_odNew run_seSt run_seNew run_bItem run_bOrder run_bSet
section
variable {w0:World} {r:Nat} {tv:Value} {L:List Tk} {en:Int} {s:PS}
set_option maxRecDepth 100000 in
set_option maxHeartbeats 8000000 in
theorem maybeW (hall:AllOk L) (t:ByteArray) (w:World) (h:PB w0 r tv L en s w):Calls Tryz.prog 83 #[.pointer (some ⟨r,0,none⟩),.string t] w fun e w'=>
 ∃ v,e = .returned v∧New w.heap.size w' (fun u=>ExsR u v (maybeM L en t s).1)∧PB w0 r tv L en (maybeM L en t s).2 w'∧w.grownBy w' (some r):=by
 obtain ⟨Z,hZ⟩:∃ Z,Z=maybeM L en t s:=⟨_,rfl⟩
 rw [← hZ]
 have HZ:=Lib.hid hZ
 have HI:=Lib.hid (isW t w h)
 have HA:=Lib.hid hall
 have HR:=Lib.hid h.lt
 obtain ⟨B,hB⟩:∃ B,isB L en t s=B:=⟨_,rfl⟩
 rw [isM_snd,hB] at HI
 have HB:=Lib.hid hB
 clear h hZ hall hB
 go_enter Tryz.func83,Tryz.ntmps83
 cases B
 ·have HZ2:Hid (Z=([],s)):=Lib.hid (by rw [HZ.out];show bnd (isM L en t) _ s=_;rw [isN HB.out];rfl)
  go_wp2_with fail
  refine HI.out.mono ?_
  rintro e2 w2 ⟨rfl,hp2,hg2⟩
  have HP2:Hid (PB w0 r tv L en s w2):=Lib.hid hp2
  have HG2:=Lib.hid hg2
  clear hp2 hg2 HI
  go_wp2_with fail
  go_ret
  exact ⟨_,rfl,by rw [HZ2.out];exact fun u _=>SlR.nil _ _ _,by rw [HZ2.out];exact HP2.out,HG2.out⟩
 ·obtain ⟨⟨x,s1⟩,hx⟩:∃ z,exprM L en s.next=z:=⟨_,rfl⟩
  have HZ2:Hid (Z=([x],s1)):=Lib.hid (by rw [HZ.out];show bnd (isM L en t) _ s=_;rw [isY HB.out,if_pos rfl,bndE hx];rfl)
  have HX:=Lib.hid hx
  clear hx
  go_wp2_with fail
  refine HI.out.mono ?_
  rintro e2 w2 ⟨rfl,hp2,hg2⟩
  have hp2:PB w0 r tv L en s.next w2:=hp2
  have HC:=Lib.hid (exprP HA.out s.next w2 hp2)
  rw [HX.out] at HC
  have HG2:=Lib.hid hg2
  clear hp2 hg2 HI
  go_wp2_with fail
  refine HC.out.mono ?_
  rintro e3 w3 ⟨v,rfl,hn3,hp3,hg3⟩
  obtain ⟨c,rfl,hx3⟩:=ExN.of hn3
  have hok:=hx3.ok
  have HK:=Lib.hid (kid1 (hx3.mono HG2.out.size) (grown_trans HG2.out hg3).size)
  have HP4:=Lib.hid (hp3.later ((Below.refl _ w3).alloc (Nat.le_refl _) (.cells c 48)))
  have HG4:=Lib.hid (grown_trans (grown_trans HG2.out hg3) (grown_alloc w3 (.cells c 48) r))
  clear hn3 hp3 hg3 hx3 HC
  go_wp2_with fail
  go_ret
  exact ⟨_,rfl,by rw [HZ2.out];exact HK.out,by rw [HZ2.out];exact HP4.out,HG4.out⟩
theorem source_on (s:PS):(sourceM L en s).1.on = []:=by
 obtain ⟨⟨n,s1⟩,h1⟩:∃ z,nameM L en s=z:=⟨_,rfl⟩
 unfold sourceM
 rw [bndE h1]
 cases hb:isB L en WAS s1 with
 | true=>
  rw [isY hb,if_pos rfl]
  rfl
 | false=>
  rw [isN hb,if_neg Bool.false_ne_true]
  rfl
set_option maxRecDepth 100000 in
set_option maxHeartbeats 8000000 in
theorem sourceW (w:World) (h:PB w0 r tv L en s w):Calls Tryz.prog 125 #[.pointer (some ⟨r,0,none⟩)] w fun e w'=>
 e = .returned (.agg #[.string (sourceM L en s).1.table,.string (sourceM L en s).1.as,.slice none 0 0])∧PB w0 r tv L en (sourceM L en s).2 w'∧w.grownBy w' (some r):=by
 obtain ⟨Z,hZ⟩:∃ Z,Z=sourceM L en s:=⟨_,rfl⟩
 rw [← hZ]
 have hb:=(Below.refl _ w).alloc (Nat.le_refl _) (.cells #[.string ⟨#[]⟩,.string ⟨#[]⟩,.slice none 0 0] 110)
 have hr0:=row_alloc w 110 #[.string ⟨#[]⟩,.string ⟨#[]⟩,.slice none 0 0]
 obtain ⟨⟨n,s1⟩,h1⟩:∃ z,nameM L en s=z:=⟨_,rfl⟩
 have hn:=pnameW _ (h.later hb)
 rw [h1] at hn
 have HN:=Lib.hid hn
 have HZ:Hid (Z=(bnd (isM L en WAS) fun b=>if b then bnd (nameM L en) fun m=>ret ⟨n,m,[]⟩ else ret ⟨n,⟨#[]⟩,[]⟩) s1):=Lib.hid (by rw [hZ];unfold sourceM;rw [bndE h1])
 have HR0:=Lib.hid hr0
 have HB:=Lib.hid hb
 have HR:=Lib.hid h.lt
 clear h hZ hb hr0 hn h1
 go_enter Tryz.func125,Tryz.ntmps125
 go_upto_region 1 with fail
 generalize w.alloc (.cells #[.string ⟨#[]⟩,.string ⟨#[]⟩,.slice none 0 0] 110)=w1 at *
 go_wp2_with fail
 refine HN.out.mono ?_
 rintro e2 w2 ⟨rfl,hp2,hg2⟩
 have hb3:=(Below.refl _ w2).alloc (Nat.le_refl _) (.cells #[.string n,.string ⟨#[]⟩,.slice none 0 0] 110)
 have HP3:=Lib.hid (PB.later hp2 hb3)
 have HG3:=Lib.hid (grown_trans (grown_trans (below_grown (r:=r) HB.out) hg2) (below_grown hb3))
 have HRS:=Lib.hid ((HR0.out.grown hg2 (Nat.ne_of_gt HR.out)).later hb3)
 have HRG:=Lib.hid (row_alloc w2 110 #[.string n,.string ⟨#[]⟩,.slice none 0 0])
 have HSZ:Hid (w.heap.size < w2.heap.size):=Lib.hid (by have:=(HR0.out.grown hg2 (Nat.ne_of_gt HR.out)).lt;exact this)
 clear hp2 hg2 hb3 HN
 go_upto_region 2 with fail
 generalize w2.alloc (.cells #[.string n,.string ⟨#[]⟩,.slice none 0 0] 110)=w3 at *
 generalize w2.heap.size=g at *
 have HI:=Lib.hid (isW WAS w3 HP3.out)
 obtain ⟨B,hB⟩:∃ B,isB L en WAS s1=B:=⟨_,rfl⟩
 rw [isM_snd,hB] at HI
 have HBB:=Lib.hid hB
 clear hB
 cases B
 ·have HZ2:Hid (Z=(⟨n,⟨#[]⟩,[]⟩,s1)):=Lib.hid (by rw [HZ.out,isN HBB.out];rfl)
  go_wp2_with fail
  refine HI.out.mono ?_
  rintro e4 w4 ⟨rfl,hp4,hg4⟩
  have HP4:Hid (PB w0 r tv L en s1 w4):=Lib.hid hp4
  have HG4:=Lib.hid (grown_trans HG3.out hg4)
  have HRS4:=Lib.hid (HRS.out.grown hg4 (Nat.ne_of_gt HR.out))
  have hrg4:=HRG.out.grown hg4 (by have:=HSZ.out;have:=HR.out;omega)
  have hb4:=HRS4.out.b (n:=3) rfl
  have hb5:=hrg4.b (n:=3) rfl
  have ho5:=hrg4.of
  clear hp4 hg4 HI hrg4
  go_wp2_with fail
  exact bodyPost_ret (v:=.agg #[.string n,.string ⟨#[]⟩,.slice none 0 0]) (res_row Tryz.results125 so_struct so_size _ _ w.heap.size _ _ rfl (HRS4.out.set _) rfl) rfl ⟨by rw [HZ2.out],by rw [HZ2.out];exact HP4.out.other (grown_setRow _ _ _) HR.out,grown_fill HG4.out (Nat.le_refl _) _⟩
 ·obtain ⟨⟨m,s2⟩,h2⟩:∃ z,nameM L en s1.next=z:=⟨_,rfl⟩
  have HZ2:Hid (Z=(⟨n,m,[]⟩,s2)):=Lib.hid (by rw [HZ.out,isY HBB.out,if_pos rfl,bndE h2];rfl)
  have H2:=Lib.hid h2
  clear h2
  go_wp2_with fail
  refine HI.out.mono ?_
  rintro e4 w4 ⟨rfl,hp4,hg4⟩
  have hp4:PB w0 r tv L en s1.next w4:=hp4
  have hn:=pnameW w4 hp4
  rw [H2.out] at hn
  have HN:=Lib.hid hn
  have HG4:=Lib.hid (grown_trans HG3.out hg4)
  have HRS4:=Lib.hid (HRS.out.grown hg4 (Nat.ne_of_gt HR.out))
  have HRG4:=Lib.hid (HRG.out.grown hg4 (by have:=HSZ.out;have:=HR.out;omega))
  clear hp4 hg4 HI hn
  go_wp2_with fail
  refine HN.out.mono ?_
  rintro e5 w5 ⟨rfl,hp5,hg5⟩
  have HG5:=Lib.hid (grown_trans HG4.out hg5)
  have HP5:=Lib.hid hp5
  have HRS5:=Lib.hid (HRS4.out.grown hg5 (Nat.ne_of_gt HR.out))
  have HRG5:=Lib.hid (HRG4.out.grown hg5 (by have:=HSZ.out;have:=HR.out;omega))
  have c1:=HRG5.out.cell (i:=1) (v:=.string ⟨#[]⟩) rfl
  have f1:=HRG5.out.free 1
  have heq:=setCell_eq_setRow w5 g 1 _ _ _ (.string m) HRG5.out
  have HRG6:Hid (Row g 110 #[.string n,.string m,.slice none 0 0] (w5.setCell ⟨g,1,none⟩ (.string m))):=Lib.hid (by rw [heq];exact HRG5.out.set _)
  have HRS6:Hid (Row w.heap.size 110 #[.string ⟨#[]⟩,.string ⟨#[]⟩,.slice none 0 0] (w5.setCell ⟨g,1,none⟩ (.string m))):=Lib.hid (by rw [heq];exact (setRow_other w5 g _ _ (by have:=HSZ.out;omega)).trans HRS5.out)
  have HP6:Hid (PB w0 r tv L en s2 (w5.setCell ⟨g,1,none⟩ (.string m))):=Lib.hid (by rw [heq];exact PB.other HP5.out (grown_setRow _ _ _) (by have:=HSZ.out;have:=HR.out;omega))
  have HG6:Hid (w.grownBy (w5.setCell ⟨g,1,none⟩ (.string m)) (some r)):=Lib.hid (by rw [heq];exact grown_fill HG5.out (by have:=HSZ.out;omega) _)
  clear hp5 hg5 HN heq
  go_upto_region 4 with fail
  clear c1 f1
  generalize w5.setCell ⟨g,1,none⟩ (.string m)=w6 at *
  have hb4:=HRS6.out.b (n:=3) rfl
  have hb5:=HRG6.out.b (n:=3) rfl
  have ho5:=HRG6.out.of
  go_wp2_with fail
  exact bodyPost_ret (v:=.agg #[.string n,.string m,.slice none 0 0]) (res_row Tryz.results125 so_struct so_size _ _ w.heap.size _ _ rfl (HRS6.out.set _) rfl) rfl ⟨by rw [HZ2.out],by rw [HZ2.out];exact HP6.out.other (grown_setRow _ _ _) HR.out,grown_fill HG6.out (Nat.le_refl _) _⟩
end
end Go.Proofs.YtmdogmpcmkfjpaaGreatDoor.Dt
