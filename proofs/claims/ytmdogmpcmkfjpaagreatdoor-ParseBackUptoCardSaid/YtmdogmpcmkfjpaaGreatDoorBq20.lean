import Derived.Test.YtmdogmpcmkfjpaaGreatDoorBq19
set_option maxRecDepth 100000
set_option maxHeartbeats 64000000
/- Part. -/
namespace Go.Proofs.YtmdogmpcmkfjpaaGreatDoor.Dt
open Go.RowKit Go.Proofs.YtmdogmpcmkfjpaaGreatDoor.By
theorem Zjr:(Tryz.prog.info? 110).map (·.size)=some 3:=kR
theorem Zjq:∃ fs,Tryz.prog.underlying 110=some (.struct fs):=Zl9 kR
theorem Znh (a:Addr) (v:Value):storeVar 110 a v=Zbw 110 a v:=rfl
theorem Znj (a:Addr):loadVar 110 a=Zcg 110 a:=rfl
theorem Zqq (W:World) (g:Nat) (cells:Array Value) (hg:Zj1 3 W g=true) (h1:Zav 3 cells=true) :
 (Zbw 110 ⟨g,0,none⟩ (.agg cells)).run Tryz.prog W = .ok () (W.setRow g cells):=by
 obtain ⟨t,old,hr,ho,_⟩:=Zb5 hg
 obtain ⟨hc,h1⟩:=Zo.1 h1
 exact Zcs Zjr W g old cells t hr ho hc h1
theorem Zn1 (W:World) (old cells:Array Value) (t:TypeId) (ho:old.size=3) (h1:Zav 3 cells=true) :
 (Zbw 110 ⟨W.heap.size,0,none⟩ (.agg cells)).run Tryz.prog (W.alloc (.cells old t)) = .ok () (W.alloc (.cells cells t)):=by
 obtain ⟨hc,h1⟩:=Zo.1 h1
 exact Zba Zjr W old cells t ho hc h1
theorem Zqr (W:World) (g:Nat) (hg:Zj1 3 W g=true):(Zcg 110 ⟨g,0,none⟩).run Tryz.prog W = .ok (.agg (rowOf W g)) W:=by
 obtain ⟨t,cs,hr,ho,e⟩:=Zb5 hg
 obtain ⟨fs,h⟩:=Zjq
 rw [e]
 exact Zdj h Zjr W g cs t hr ho
theorem Zg7:(Tryz.prog.info? 89).map (·.size)=some 3:=kR
theorem Zgh:∃ fs,Tryz.prog.underlying 89=some (.struct fs):=Zl9 kR
theorem Zhg (a:Addr) (v:Value):storeVar 89 a v=Zbw 89 a v:=rfl
theorem Zhi (a:Addr):loadVar 89 a=Zcg 89 a:=rfl
theorem Zi7 (W:World) (g:Nat) (cells:Array Value) (hg:Zj1 3 W g=true) (h1:Zav 3 cells=true) :
 (Zbw 89 ⟨g,0,none⟩ (.agg cells)).run Tryz.prog W = .ok () (W.setRow g cells):=by
 obtain ⟨t,old,hr,ho,_⟩:=Zb5 hg
 obtain ⟨hc,h1⟩:=Zo.1 h1
 exact Zcs Zg7 W g old cells t hr ho hc h1
theorem Zhy (W:World) (old cells:Array Value) (t:TypeId) (ho:old.size=3) (h1:Zav 3 cells=true) :
 (Zbw 89 ⟨W.heap.size,0,none⟩ (.agg cells)).run Tryz.prog (W.alloc (.cells old t)) = .ok () (W.alloc (.cells cells t)):=by
 obtain ⟨hc,h1⟩:=Zo.1 h1
 exact Zba Zg7 W old cells t ho hc h1
theorem Zi8 (W:World) (g:Nat) (hg:Zj1 3 W g=true):(Zcg 89 ⟨g,0,none⟩).run Tryz.prog W = .ok (.agg (rowOf W g)) W:=by
 obtain ⟨t,cs,hr,ho,e⟩:=Zb5 hg
 obtain ⟨fs,h⟩:=Zgh
 rw [e]
 exact Zdj h Zg7 W g cs t hr ho
theorem Zj5 (a b c:Value):Zav 3 #[a,b,c]=(a.oneCell' && (b.oneCell' && c.oneCell')):=by simp [Zav]
def Zl2 (T:TypeId) (ps:Array (Nat × Value)):=Instr.build T ps
theorem Zqi (ps:Array (Nat × Value)):Instr.build 106 ps=Zl2 106 ps:=rfl
theorem Zl1 (ps:Array (Nat × Value)):Instr.build 114 ps=Zl2 114 ps:=rfl
theorem Zqh (ps:Array (Nat × Value)):Instr.build 94 ps=Zl2 94 ps:=rfl
theorem Zn2 (W:World) (c:Array Value) (h:Zav 8 c=true):(Zl2 106 #[(0,.agg c)]).run Tryz.prog W = .ok (.agg (c.push (eS))) W:=by
 obtain ⟨a0,a1,a2,a3,a4,a5,a6,a7,rfl⟩:=arr8 (Zo.1 h).1
 unfold Zl2
 go_simp
theorem Zin (W:World) (c:Array Value) (b:Bool) (h:Zav 8 c=true):(Zl2 114 #[(0,.agg c),(1,.bool b)]).run Tryz.prog W = .ok (.agg (c.push (.bool b))) W:=by
 obtain ⟨a0,a1,a2,a3,a4,a5,a6,a7,rfl⟩:=arr8 (Zo.1 h).1
 unfold Zl2
 go_simp
theorem Zqu (W:World) (c:Array Value) (n:ByteArray) (h:Zav 8 c=true):(Zl2 94 #[(0,.string n),(1,.agg c)]).run Tryz.prog W = .ok (.agg (#[.string n] ++ c)) W:=by
 obtain ⟨a0,a1,a2,a3,a4,a5,a6,a7,rfl⟩:=arr8 (Zo.1 h).1
 unfold Zl2
 go_simp
abbrev Zwu (w:World) (v:Value) (l:List ByteArray):Prop:=SlR 1 SR w v l
abbrev sA (x:PSt) (a4:Option Addr) (n4:Nat) (a5:Option Addr) (n5:Nat) (a6:Option Addr) (n6:Nat) (a7:Option Addr) (n7:Nat) (a8:Option Addr) (n8:Nat) (a9:Option Addr) (n9:Nat) (a10:Option Addr) (n10:Nat) (a11:Option Addr) (n11:Nat) (a12:Option Addr) (n12:Nat) (a13:Option Addr) (n13:Nat) (a14:Option Addr) (n14:Nat):Array Value:=#[.int .u8 (x.kind:Int),.string x.table,.string x.name,.bool x.uniq,.slice a4 x.cols.length n4,.slice a5 x.key.length n5,.slice a6 x.names.length n6,.slice a7 x.rows.length n7,.slice a8 x.sets.length n8,.slice a9 x.items.length n9,.slice a10 x.src.length n10,.slice a11 x.wh.length n11,.slice a12 x.group.length n12,.slice a13 x.having.length n13,.slice a14 x.order.length n14,.int .i64 x.limit]
theorem sC {g:Nat} {t:TypeId} {x:PSt} {a4:Option Addr} {n4:Nat} {a5:Option Addr} {n5:Nat} {a6:Option Addr} {n6:Nat} {a7:Option Addr} {n7:Nat} {a8:Option Addr} {n8:Nat} {a9:Option Addr} {n9:Nat} {a10:Option Addr} {n10:Nat} {a11:Option Addr} {n11:Nat} {a12:Option Addr} {n12:Nat} {a13:Option Addr} {n13:Nat} {a14:Option Addr} {n14:Nat} {W:World} (h:Row g t (sA x a4 n4 a5 n5 a6 n6 a7 n7 a8 n8 a9 n9 a10 n10 a11 n11 a12 n12 a13 n13 a14 n14) W):W.cell? ⟨g,0,none⟩=some (.int .u8 (x.kind:Int))∧W.cell? ⟨g,1,none⟩=some (.string x.table)∧W.cell? ⟨g,2,none⟩=some (.string x.name)∧W.cell? ⟨g,3,none⟩=some (.bool x.uniq)∧W.cell? ⟨g,4,none⟩=some (.slice a4 x.cols.length n4)∧W.cell? ⟨g,5,none⟩=some (.slice a5 x.key.length n5)∧W.cell? ⟨g,6,none⟩=some (.slice a6 x.names.length n6)∧W.cell? ⟨g,7,none⟩=some (.slice a7 x.rows.length n7)∧W.cell? ⟨g,8,none⟩=some (.slice a8 x.sets.length n8)∧W.cell? ⟨g,9,none⟩=some (.slice a9 x.items.length n9)∧W.cell? ⟨g,10,none⟩=some (.slice a10 x.src.length n10)∧W.cell? ⟨g,11,none⟩=some (.slice a11 x.wh.length n11)∧W.cell? ⟨g,12,none⟩=some (.slice a12 x.group.length n12)∧W.cell? ⟨g,13,none⟩=some (.slice a13 x.having.length n13)∧W.cell? ⟨g,14,none⟩=some (.slice a14 x.order.length n14)∧W.cell? ⟨g,15,none⟩=some (.int .i64 x.limit):=⟨h.cell (i:=0) (v:=.int .u8 (x.kind:Int)) rfl,h.cell (i:=1) (v:=.string x.table) rfl,h.cell (i:=2) (v:=.string x.name) rfl,h.cell (i:=3) (v:=.bool x.uniq) rfl,h.cell (i:=4) (v:=.slice a4 x.cols.length n4) rfl,h.cell (i:=5) (v:=.slice a5 x.key.length n5) rfl,h.cell (i:=6) (v:=.slice a6 x.names.length n6) rfl,h.cell (i:=7) (v:=.slice a7 x.rows.length n7) rfl,h.cell (i:=8) (v:=.slice a8 x.sets.length n8) rfl,h.cell (i:=9) (v:=.slice a9 x.items.length n9) rfl,h.cell (i:=10) (v:=.slice a10 x.src.length n10) rfl,h.cell (i:=11) (v:=.slice a11 x.wh.length n11) rfl,h.cell (i:=12) (v:=.slice a12 x.group.length n12) rfl,h.cell (i:=13) (v:=.slice a13 x.having.length n13) rfl,h.cell (i:=14) (v:=.slice a14 x.order.length n14) rfl,h.cell (i:=15) (v:=.int .i64 x.limit) rfl⟩
def StR (w:World) (cs:List Value) (x:PSt):Prop:=∃ c4 c5 c6 c7 c8 c9 c10 c11 c12 c13 c14,cs = [.int .u8 (x.kind:Int),.string x.table,.string x.name,.bool x.uniq,c4,c5,c6,c7,c8,c9,c10,c11,c12,c13,c14,.int .i64 x.limit] ∧
 SlR 3 Zs7 w c4 x.cols∧Zwu w c5 x.key∧Zwu w c6 x.names∧SlR 1 Zo3 w c7 x.rows∧SlR 9 Zm3 w c8 x.sets∧SlR 9 Zfl w c9 x.items∧SlR 3 Zo2 w c10 x.src∧Zbq w c11 x.wh∧Zbq w c12 x.group∧Zbq w c13 x.having∧SlR 9 Zdl w c14 x.order
theorem Zjs {α:Type} {size:Nat} {R:World→List Value→α→Prop} {w:World} {v:Value} {l:List α} (h:SlR size R w v l):v.oneCell'=true:=by
 obtain ⟨a,c,rfl,_⟩:=h.shape
 rfl
theorem Zeq:Zs0 16 StR:=fun w cs x ⟨c4,c5,c6,c7,c8,c9,c10,c11,c12,c13,c14,e,h4,h5,h6,h7,h8,h9,h10,h11,h12,h13,h14⟩=>by
 subst e
 refine ⟨rfl,fun u hu=>?_⟩
 simp only [List.mem_cons,List.not_mem_nil,or_false] at hu
 rcases hu with rfl | rfl | rfl | rfl | rfl | rfl | rfl | rfl | rfl | rfl | rfl | rfl | rfl | rfl | rfl | rfl
 any_goals rfl
 ·exact Zjs h4
 ·exact Zjs h5
 ·exact Zjs h6
 ·exact Zjs h7
 ·exact Zjs h8
 ·exact Zjs h9
 ·exact Zjs h10
 ·exact Zjs h11
 ·exact Zjs h12
 ·exact Zjs h13
 ·exact Zjs h14
abbrev stZ:Array Value:=#[.int .u8 0,eS,eS,.bool false,nS,nS,nS,nS,nS,nS,nS,nS,nS,nS,nS,iZ]
structure SG (S:Nat→Prop) (g:Nat) (cs:Array Value) (x:PSt) (W:World):Prop where
 row:Row g 31 cs W
 st:Dep S W fun u=>StR u cs.toList x
 ng:¬ S g
section
variable {S:Nat→Prop} {g:Nat} {cs:Array Value} {x:PSt} {W W':World}
theorem SG.size (h:SG S g cs x W):cs.size=16:=by simpa using (Zeq _ _ _ h.st.here).1
theorem SG.ok (h:SG S g cs x W):Zav 16 cs=true:=Zo.2 ⟨h.size,Array.all_eq_true_iff_forall_mem.2 fun u hu=>(Zeq _ _ _ h.st.here).2 u kb34⟩
theorem SG.rb (h:SG S g cs x W):Zj1 16 W g=true:=h.row.b h.size
theorem SG.grown {r:Nat} (h:SG S g cs x W) (k:W.grownBy W' (some r)) (hr:g ≠ r) (hS:¬ S r):SG S g cs x W':=
 ⟨h.row.grown k hr,h.st.step k.size fun b h1 h2=>⟨h1,k.block b h2 (fun e=>by cases e;exact hS h1)⟩,h.ng⟩
theorem SG.cell (h:SG S g cs x W) (i:Nat) (hi:i < 16):∃ v,W.cell? ⟨g,i,none⟩=some v:=by
 have:=h.size
 exact ⟨cs[i]'kW,h.row.cell kY⟩
theorem SG.put (h:SG S g cs x W) (i:Nat) (v:Value) (y:PSt) (hst:Dep S W fun u=>StR u cs.toList x→StR u (cs.setIfInBounds i v).toList y):SG S g (cs.setIfInBounds i v) y (W.setCell ⟨g,i,none⟩ v):=by
 rw [setCell_eq_setRow W g i cs _ _ v h.row]
 exact ⟨h.row.set _,(Dep.imp2 h.st hst fun u h1 h2=>h2 h1).step kY fun b h1 _=>⟨h1,setRow_other W g b _ (fun e=>h.ng (e ▸ h1))⟩,h.ng⟩
theorem SG.put_table (h:SG S g cs x W) (l:ByteArray):SG S g (cs.setIfInBounds 1 (.string l)) { x with table:=l } (W.setCell ⟨g,1,none⟩ (.string l)):=
 h.put 1 _ _ fun u _ ⟨c4,c5,c6,c7,c8,c9,c10,c11,c12,c13,c14,e,h4,h5,h6,h7,h8,h9,h10,h11,h12,h13,h14⟩=>⟨c4,c5,c6,c7,c8,c9,c10,c11,c12,c13,c14,by rw [Array.toList_setIfInBounds,e];rfl,h4,h5,h6,h7,h8,h9,h10,h11,h12,h13,h14⟩
theorem SG.put_name (h:SG S g cs x W) (l:ByteArray):SG S g (cs.setIfInBounds 2 (.string l)) { x with name:=l } (W.setCell ⟨g,2,none⟩ (.string l)):=
 h.put 2 _ _ fun u _ ⟨c4,c5,c6,c7,c8,c9,c10,c11,c12,c13,c14,e,h4,h5,h6,h7,h8,h9,h10,h11,h12,h13,h14⟩=>⟨c4,c5,c6,c7,c8,c9,c10,c11,c12,c13,c14,by rw [Array.toList_setIfInBounds,e];rfl,h4,h5,h6,h7,h8,h9,h10,h11,h12,h13,h14⟩
theorem SG.put_key (h:SG S g cs x W) (v:Value) (l:List ByteArray) (hv:Dep S W fun u=>Zwu u v l):SG S g (cs.setIfInBounds 5 v) { x with key:=l } (W.setCell ⟨g,5,none⟩ v):=
 h.put 5 _ _ fun u hu ⟨c4,c5,c6,c7,c8,c9,c10,c11,c12,c13,c14,e,h4,h5,h6,h7,h8,h9,h10,h11,h12,h13,h14⟩=>⟨c4,v,c6,c7,c8,c9,c10,c11,c12,c13,c14,by rw [Array.toList_setIfInBounds,e];rfl,h4,hv u hu,h6,h7,h8,h9,h10,h11,h12,h13,h14⟩
theorem SG.put_names (h:SG S g cs x W) (v:Value) (l:List ByteArray) (hv:Dep S W fun u=>Zwu u v l):SG S g (cs.setIfInBounds 6 v) { x with names:=l } (W.setCell ⟨g,6,none⟩ v):=
 h.put 6 _ _ fun u hu ⟨c4,c5,c6,c7,c8,c9,c10,c11,c12,c13,c14,e,h4,h5,h6,h7,h8,h9,h10,h11,h12,h13,h14⟩=>⟨c4,c5,v,c7,c8,c9,c10,c11,c12,c13,c14,by rw [Array.toList_setIfInBounds,e];rfl,h4,h5,hv u hu,h7,h8,h9,h10,h11,h12,h13,h14⟩
theorem SG.put_rows (h:SG S g cs x W) (v:Value) (l:List (List PE)) (hv:Dep S W fun u=>SlR 1 Zo3 u v l):SG S g (cs.setIfInBounds 7 v) { x with rows:=l } (W.setCell ⟨g,7,none⟩ v):=
 h.put 7 _ _ fun u hu ⟨c4,c5,c6,c7,c8,c9,c10,c11,c12,c13,c14,e,h4,h5,h6,h7,h8,h9,h10,h11,h12,h13,h14⟩=>⟨c4,c5,c6,v,c8,c9,c10,c11,c12,c13,c14,by rw [Array.toList_setIfInBounds,e];rfl,h4,h5,h6,hv u hu,h8,h9,h10,h11,h12,h13,h14⟩
theorem SG.put_sets (h:SG S g cs x W) (v:Value) (l:List (ByteArray × PE)) (hv:Dep S W fun u=>SlR 9 Zm3 u v l):SG S g (cs.setIfInBounds 8 v) { x with sets:=l } (W.setCell ⟨g,8,none⟩ v):=
 h.put 8 _ _ fun u hu ⟨c4,c5,c6,c7,c8,c9,c10,c11,c12,c13,c14,e,h4,h5,h6,h7,h8,h9,h10,h11,h12,h13,h14⟩=>⟨c4,c5,c6,c7,v,c9,c10,c11,c12,c13,c14,by rw [Array.toList_setIfInBounds,e];rfl,h4,h5,h6,h7,hv u hu,h9,h10,h11,h12,h13,h14⟩
theorem SG.put_items (h:SG S g cs x W) (v:Value) (l:List (PE × ByteArray)) (hv:Dep S W fun u=>SlR 9 Zfl u v l):SG S g (cs.setIfInBounds 9 v) { x with items:=l } (W.setCell ⟨g,9,none⟩ v):=
 h.put 9 _ _ fun u hu ⟨c4,c5,c6,c7,c8,c9,c10,c11,c12,c13,c14,e,h4,h5,h6,h7,h8,h9,h10,h11,h12,h13,h14⟩=>⟨c4,c5,c6,c7,c8,v,c10,c11,c12,c13,c14,by rw [Array.toList_setIfInBounds,e];rfl,h4,h5,h6,h7,h8,hv u hu,h10,h11,h12,h13,h14⟩
theorem SG.put_wh (h:SG S g cs x W) (v:Value) (l:List PE) (hv:Dep S W fun u=>Zbq u v l):SG S g (cs.setIfInBounds 11 v) { x with wh:=l } (W.setCell ⟨g,11,none⟩ v):=
 h.put 11 _ _ fun u hu ⟨c4,c5,c6,c7,c8,c9,c10,c11,c12,c13,c14,e,h4,h5,h6,h7,h8,h9,h10,h11,h12,h13,h14⟩=>⟨c4,c5,c6,c7,c8,c9,c10,v,c12,c13,c14,by rw [Array.toList_setIfInBounds,e];rfl,h4,h5,h6,h7,h8,h9,h10,hv u hu,h12,h13,h14⟩
theorem SG.put_group (h:SG S g cs x W) (v:Value) (l:List PE) (hv:Dep S W fun u=>Zbq u v l):SG S g (cs.setIfInBounds 12 v) { x with group:=l } (W.setCell ⟨g,12,none⟩ v):=
 h.put 12 _ _ fun u hu ⟨c4,c5,c6,c7,c8,c9,c10,c11,c12,c13,c14,e,h4,h5,h6,h7,h8,h9,h10,h11,h12,h13,h14⟩=>⟨c4,c5,c6,c7,c8,c9,c10,c11,v,c13,c14,by rw [Array.toList_setIfInBounds,e];rfl,h4,h5,h6,h7,h8,h9,h10,h11,hv u hu,h13,h14⟩
theorem SG.put_having (h:SG S g cs x W) (v:Value) (l:List PE) (hv:Dep S W fun u=>Zbq u v l):SG S g (cs.setIfInBounds 13 v) { x with having:=l } (W.setCell ⟨g,13,none⟩ v):=
 h.put 13 _ _ fun u hu ⟨c4,c5,c6,c7,c8,c9,c10,c11,c12,c13,c14,e,h4,h5,h6,h7,h8,h9,h10,h11,h12,h13,h14⟩=>⟨c4,c5,c6,c7,c8,c9,c10,c11,c12,v,c14,by rw [Array.toList_setIfInBounds,e];rfl,h4,h5,h6,h7,h8,h9,h10,h11,h12,hv u hu,h14⟩
theorem SG.put_order (h:SG S g cs x W) (v:Value) (l:List (PE × Bool)) (hv:Dep S W fun u=>SlR 9 Zdl u v l):SG S g (cs.setIfInBounds 14 v) { x with order:=l } (W.setCell ⟨g,14,none⟩ v):=
 h.put 14 _ _ fun u hu ⟨c4,c5,c6,c7,c8,c9,c10,c11,c12,c13,c14,e,h4,h5,h6,h7,h8,h9,h10,h11,h12,h13,h14⟩=>⟨c4,c5,c6,c7,c8,c9,c10,c11,c12,c13,v,by rw [Array.toList_setIfInBounds,e];rfl,h4,h5,h6,h7,h8,h9,h10,h11,h12,h13,hv u hu⟩
theorem SG.put_limit (h:SG S g cs x W) (l:Int):SG S g (cs.setIfInBounds 15 (.int .i64 l)) { x with limit:=l } (W.setCell ⟨g,15,none⟩ (.int .i64 l)):=
 h.put 15 _ _ fun u _ ⟨c4,c5,c6,c7,c8,c9,c10,c11,c12,c13,c14,e,h4,h5,h6,h7,h8,h9,h10,h11,h12,h13,h14⟩=>⟨c4,c5,c6,c7,c8,c9,c10,c11,c12,c13,c14,by rw [Array.toList_setIfInBounds,e];rfl,h4,h5,h6,h7,h8,h9,h10,h11,h12,h13,h14⟩
end
end Go.Proofs.YtmdogmpcmkfjpaaGreatDoor.Dt
namespace Go.Proofs.YtmdogmpcmkfjpaaGreatDoor.Dt
open Go.RowKit Go.Proofs.YtmdogmpcmkfjpaaGreatDoor.By
attribute [local go_sem ↓] Zbv Zcb Zd9 Znh Znj Zji Zjk Zhf Zhh Zjh Zjj Zqi Zl1 Zqh
attribute [local go_sem] Zc6 Zbx Zc7 Zfg Zj5 Value.oneCell' Zfq Zqq Zn1 Zqr Zqt Zjy Zmh Zmg Zhx Zqs Zjx Zn2 Zin Zqu
section
variable {w0:World} {r:Nat} {tv:Value} {L:List Tk} {en:Int} {s:PS}
theorem Zq7 (hall:Zbs L) (t:ByteArray) (w:World) (h:PB w0 r tv L en s w):Calls Tryz.prog 83 #[pV r,.string t] w fun e w'=>
 ∃ v,e = .returned v∧New w.heap.size w' (fun u=>Zbq u v (maybeM L en t s).1)∧PB w0 r tv L en (maybeM L en t s).2 w'∧w.grownBy w' (some r):=by
 obtain ⟨Z,hZ⟩:∃ Z,Z=maybeM L en t s:=⟨_,rfl⟩
 rw [← hZ]
 have HZ:=Lh hZ
 have HI:=Lh (isW t w h)
 have HA:=Lh hall
 have HR:=Lh h.lt
 obtain ⟨B,hB⟩:∃ B,isB L en t s=B:=⟨_,rfl⟩
 rw [Z2,hB] at HI
 have HB:=Lh hB
 clear h hZ hall hB
 go_enter Tryz.func83,Tryz.ntmps83
 cases B
 ·have HZ2:Hid (Z=([],s)):=Lh (by rw [HZ.out];show bnd (isM L en t) _ s=_;rw [isN HB.out];rfl)
  go_wp2_with fail
  refine HI.out.mono ?_
  rintro e2 w2 ⟨rfl,hp2,hg2⟩
  have HP2:Hid (PB w0 r tv L en s w2):=Lh hp2
  have HG2:=Lh hg2
  clear hp2 hg2 HI
  go_wp2_with fail
  go_ret
  exact ⟨_,rfl,by rw [HZ2.out];exact fun u _=>SlR.nil _ _ _,by rw [HZ2.out];exact HP2.out,HG2.out⟩
 obtain ⟨⟨x,s1⟩,hx⟩:∃ z,exprM L en s.next=z:=⟨_,rfl⟩
 have HZ2:Hid (Z=([x],s1)):=Lh (by rw [HZ.out];show bnd (isM L en t) _ s=_;rw [isY HB.out,if_pos rfl,Za1 hx];rfl)
 have HX:=Lh hx
 clear hx
 go_wp2_with fail
 refine HI.out.mono ?_
 rintro e2 w2 ⟨rfl,hp2,hg2⟩
 have hp2:PB w0 r tv L en s.next w2:=hp2
 have HC:=Lh (Zso HA.out s.next w2 hp2)
 rw [HX.out] at HC
 have HG2:=Lh hg2
 clear hp2 hg2 HI
 go_wp2_with fail
 refine HC.out.mono ?_
 rintro e3 w3 ⟨v,rfl,hn3,hp3,hg3⟩
 obtain ⟨c,rfl,hx3⟩:=ExN.of hn3
 have hok:=hx3.ok
 have HK:=Lh (kid1 (hx3.mono HG2.out.size) (Za HG2.out hg3).size)
 have HP4:=Lh (hp3.later ((Below.refl _ w3).alloc (Nat.le_refl _) (.cells c 48)))
 have HG4:=Lh (Za (Za HG2.out hg3) (Zfu w3 (.cells c 48) r))
 clear hn3 hp3 hg3 hx3 HC
 go_wp2_with fail
 go_ret
 exact ⟨_,rfl,by rw [HZ2.out];exact HK.out,by rw [HZ2.out];exact HP4.out,HG4.out⟩
theorem Znu (s:PS):(sourceM L en s).1.on = []:=by
 obtain ⟨⟨n,s1⟩,h1⟩:∃ z,nameM L en s=z:=⟨_,rfl⟩
 unfold sourceM
 rw [Za1 h1]
 cases hb:isB L en WAS s1 with
 | true=>
  rw [isY hb,if_pos rfl]
  rfl
 | false=>
  rw [isN hb,if_neg bF]
  rfl
theorem Zt3 (w:World) (h:PB w0 r tv L en s w):Calls Tryz.prog 125 #[pV r] w fun e w'=>
 e = .returned (.agg #[.string (sourceM L en s).1.table,.string (sourceM L en s).1.as,nS])∧PB w0 r tv L en (sourceM L en s).2 w'∧w.grownBy w' (some r):=by
 obtain ⟨Z,hZ⟩:∃ Z,Z=sourceM L en s:=⟨_,rfl⟩
 rw [← hZ]
 have hb:=(Below.refl _ w).alloc (Nat.le_refl _) (.cells #[eS,eS,nS] 110)
 have hr0:=Zc w 110 #[eS,eS,nS]
 obtain ⟨⟨n,s1⟩,h1⟩:∃ z,nameM L en s=z:=⟨_,rfl⟩
 have hn:=Zdp _ (h.later hb)
 rw [h1] at hn
 have HN:=Lh hn
 have HZ:Hid (Z=(bnd (isM L en WAS) fun b=>if b then bnd (nameM L en) fun m=>ret ⟨n,m,[]⟩ else ret ⟨n,⟨#[]⟩,[]⟩) s1):=Lh (by rw [hZ];unfold sourceM;rw [Za1 h1])
 have HR0:=Lh hr0
 have HB:=Lh hb
 have HR:=Lh h.lt
 clear h hZ hb hr0 hn h1
 go_enter Tryz.func125,Tryz.ntmps125
 go_upto_region 1 with fail
 generalize w.alloc (.cells #[eS,eS,nS] 110)=w1 at *
 go_wp2_with fail
 refine HN.out.mono ?_
 rintro e2 w2 ⟨rfl,hp2,hg2⟩
 have hb3:=(Below.refl _ w2).alloc (Nat.le_refl _) (.cells #[.string n,eS,nS] 110)
 have HP3:=Lh (PB.later hp2 hb3)
 have HG3:=Lh (Za (Za (below_grown (r:=r) HB.out) hg2) (below_grown hb3))
 have HRS:=Lh ((HR0.out.grown hg2 (Nat.ne_of_gt HR.out)).later hb3)
 have HRG:=Lh (Zc w2 110 #[.string n,eS,nS])
 have HSZ:Hid (w.heap.size < w2.heap.size):=Lh (by have:=(HR0.out.grown hg2 (Nat.ne_of_gt HR.out)).lt;exact this)
 clear hp2 hg2 hb3 HN
 go_upto_region 2 with fail
 generalize w2.alloc (.cells #[.string n,eS,nS] 110)=w3 at *
 generalize w2.heap.size=g at *
 have HI:=Lh (isW WAS w3 HP3.out)
 obtain ⟨B,hB⟩:∃ B,isB L en WAS s1=B:=⟨_,rfl⟩
 rw [Z2,hB] at HI
 have HBB:=Lh hB
 clear hB
 cases B
 ·have HZ2:Hid (Z=(⟨n,⟨#[]⟩,[]⟩,s1)):=Lh (by rw [HZ.out,isN HBB.out];rfl)
  go_wp2_with fail
  refine HI.out.mono ?_
  rintro e4 w4 ⟨rfl,hp4,hg4⟩
  have HP4:Hid (PB w0 r tv L en s1 w4):=Lh hp4
  have HG4:=Lh (Za HG3.out hg4)
  have HRS4:=Lh (HRS.out.grown hg4 (Nat.ne_of_gt HR.out))
  have hrg4:=HRG.out.grown hg4 kb10
  have hb4:=HRS4.out.b (n:=3) rfl
  have hb5:=hrg4.b (n:=3) rfl
  have ho5:=hrg4.of
  clear hp4 hg4 HI hrg4
  go_wp2_with fail
  exact bodyPost_ret (v:=.agg #[.string n,eS,nS]) (Zq Tryz.results125 Zjq Zjr _ _ w.heap.size _ _ rfl (HRS4.out.set _) rfl) rfl ⟨by rw [HZ2.out],by rw [HZ2.out];exact HP4.out.other (Zi _ _ _) HR.out,Zn HG4.out (Nat.le_refl _) _⟩
 obtain ⟨⟨m,s2⟩,h2⟩:∃ z,nameM L en s1.next=z:=⟨_,rfl⟩
 have HZ2:Hid (Z=(⟨n,m,[]⟩,s2)):=Lh (by rw [HZ.out,isY HBB.out,if_pos rfl,Za1 h2];rfl)
 have H2:=Lh h2
 clear h2
 go_wp2_with fail
 refine HI.out.mono ?_
 rintro e4 w4 ⟨rfl,hp4,hg4⟩
 have hp4:PB w0 r tv L en s1.next w4:=hp4
 have hn:=Zdp w4 hp4
 rw [H2.out] at hn
 have HN:=Lh hn
 have HG4:=Lh (Za HG3.out hg4)
 have HRS4:=Lh (HRS.out.grown hg4 (Nat.ne_of_gt HR.out))
 have HRG4:=Lh (HRG.out.grown hg4 kb10)
 clear hp4 hg4 HI hn
 go_wp2_with fail
 refine HN.out.mono ?_
 rintro e5 w5 ⟨rfl,hp5,hg5⟩
 have HG5:=Lh (Za HG4.out hg5)
 have HP5:=Lh hp5
 have HRS5:=Lh (HRS4.out.grown hg5 (Nat.ne_of_gt HR.out))
 have HRG5:=Lh (HRG4.out.grown hg5 kb10)
 have c1:=HRG5.out.cell (i:=1) (v:=eS) rfl
 have f1:=HRG5.out.free 1
 have heq:=setCell_eq_setRow w5 g 1 _ _ _ (.string m) HRG5.out
 have HRG6:Hid (Row g 110 #[.string n,.string m,nS] (w5.setCell ⟨g,1,none⟩ (.string m))):=Lh (by rw [heq];exact HRG5.out.set _)
 have HRS6:Hid (Row w.heap.size 110 #[eS,eS,nS] (w5.setCell ⟨g,1,none⟩ (.string m))):=Lh kb40
 have HP6:Hid (PB w0 r tv L en s2 (w5.setCell ⟨g,1,none⟩ (.string m))):=Lh kb35
 have HG6:Hid (w.grownBy (w5.setCell ⟨g,1,none⟩ (.string m)) (some r)):=Lh kb63
 clear hp5 hg5 HN heq
 go_upto_region 4 with fail
 clear c1 f1
 generalize w5.setCell ⟨g,1,none⟩ (.string m)=w6 at *
 have hb4:=HRS6.out.b (n:=3) rfl
 have hb5:=HRG6.out.b (n:=3) rfl
 have ho5:=HRG6.out.of
 go_wp2_with fail
 exact bodyPost_ret (v:=.agg #[.string n,.string m,nS]) (Zq Tryz.results125 Zjq Zjr _ _ w.heap.size _ _ rfl (HRS6.out.set _) rfl) rfl ⟨by rw [HZ2.out],by rw [HZ2.out];exact HP6.out.other (Zi _ _ _) HR.out,Zn HG6.out (Nat.le_refl _) _⟩
end
end Go.Proofs.YtmdogmpcmkfjpaaGreatDoor.Dt
namespace Go.Proofs.YtmdogmpcmkfjpaaGreatDoor.Dt
open Go.RowKit Go.Proofs.YtmdogmpcmkfjpaaGreatDoor.By
attribute [local go_sem ↓] Zbv Zcb Zd9 Zji Zjk Zhf Zhh Zjh Zjj Zqi Zl1 Zqh
attribute [local go_sem] Zc6 Zbx Zc7 Zfg Value.oneCell' Zfq Zqt Zjy Zmh Zmg Zhx Zqs Zjx Zn2 Zin Zqu
section
variable {w0:World} {r:Nat} {tv:Value} {L:List Tk} {en:Int} {s:PS}
abbrev itZ:Array Value:=#[.int .u8 0,.int .u8 0,iZ,eS,eS,eS,iZ,nS,eS]
abbrev odZ:Array Value:=#[.int .u8 0,.int .u8 0,iZ,eS,eS,eS,iZ,nS,.bool false]
abbrev seZ:Array Value:=#[eS,.int .u8 0,.int .u8 0,iZ,eS,eS,eS,iZ,nS]
theorem okItem {c:Array Value} (s:ByteArray) (h:Zav 8 c=true):Zav 9 (c.push (.string s))=true:=by
 obtain ⟨h1,h2⟩:=Zo.1 h
 refine Zo.2 ⟨by simp [h1],?_⟩
 rw [Array.all_push,h2]
 simp [Value.oneCell']
theorem okOrder {c:Array Value} (b:Bool) (h:Zav 8 c=true):Zav 9 (c.push (.bool b))=true:=by
 obtain ⟨h1,h2⟩:=Zo.1 h
 refine Zo.2 ⟨by simp [h1],?_⟩
 rw [Array.all_push,h2]
 simp [Value.oneCell']
theorem okSet {c:Array Value} (s:ByteArray) (h:Zav 8 c=true):Zav 9 (#[.string s] ++ c)=true:=by
 obtain ⟨h1,h2⟩:=Zo.1 h
 refine Zo.2 ⟨by simp [h1],?_⟩
 rw [Array.all_append,h2]
 simp [Value.oneCell']
theorem Zlv {α:Type} {R:World→List Value→α→Prop} {S:Nat→Prop} {m q:Nat} {w:World} {cs d:Array Value} {x:α} (h:Dep S w fun u=>R u cs.toList x) (hq:¬ S q) (hm:∀ b,S b→m ≤ b):New m (w.setRow q d) fun u=>AgV R u (.agg cs) x:=
 (h.step (S':=fun b=>m ≤ b) kY fun b h1 _=>⟨hm b h1,setRow_other w q b d (fun e=>hq (e ▸ h1))⟩).imp fun u hu=>⟨cs.toList,by simp,hu⟩
theorem rowRun (hall:Zbs L) (q:Nat) (w1:World) (k0:Nat) (hq:∀ w',w1.grownBy w' (some r)→w'.cell? ⟨q,0,none⟩=some (pV r)) :
 Zks w0 r tv L en w1 k0 79 #[pV q] (insideM L en (exprM L en) FU) Zbq:=by
 intro s w hk hg h
 have hq0:=hq w hg
 have HC:=Lh (Zsk (fun s=>(Sim.exprM (L:=L) (L':=L) (en:=en) (en':=en) (d:=0)).mono s |>.1) w s.k (Zv6 hall w s.k) s (Nat.le_refl _) h)
 clear hq h hg hk
 go_enter Tryz.func79,Tryz.ntmps79
 go_wp2_with fail
 refine HC.out.mono ?_
 rintro e2 w2 ⟨v,rfl,hn,hp,hg2⟩
 have HN:=Lh hn
 have HP:=Lh hp
 have HG:=Lh hg2
 clear hn hp hg2 hq0
 go_wp2_with fail
 go_ret
 exact ⟨_,rfl,HN.out,HP.out,HG.out⟩
theorem setRun (hall:Zbs L) (q:Nat) (w1:World) (k0:Nat) (hq:∀ w',w1.grownBy w' (some r)→w'.cell? ⟨q,0,none⟩=some (pV r)) :
 Zks w0 r tv L en w1 k0 82 #[pV q] (setM L en) (AgV Zm3):=by
 intro s w hk hg h
 have HQ:=Lh (fun W g=>hq W (Za hg g))
 have hb:=(Below.refl _ w).alloc (Nat.le_refl _) (.cells seZ 94)
 have hr0:=Zc w 94 seZ
 obtain ⟨Z,hZ⟩:∃ Z,Z=setM L en s:=⟨_,rfl⟩
 rw [← hZ]
 obtain ⟨⟨n,s1⟩,h1⟩:∃ z,nameM L en s=z:=⟨_,rfl⟩
 obtain ⟨s2,h2⟩:∃ z,(mustM L en [BEQ] s1).2=z:=⟨_,rfl⟩
 obtain ⟨⟨x,s3⟩,h3⟩:∃ z,exprM L en s2=z:=⟨_,rfl⟩
 have HZ:Hid (Z=((n,x),s3)):=Lh (by rw [hZ];unfold setM;rw [Za1 h1,Za1 (x:=()) (s1:=s2) (by rw [← h2]),Za1 h3];rfl)
 have hn:=Zdp _ (h.later hb)
 rw [h1] at hn
 have HN:=Lh hn
 have H2:=Lh h2
 have H3:=Lh h3
 have HB:=Lh hb
 have HR0:=Lh hr0
 have HR:=Lh h.lt
 have HA:=Lh hall
 have hq0:=HQ.out _ (below_grown hb)
 clear hq h hg hk hb hr0 hZ h1 h2 h3 hn hall
 go_enter Tryz.func82,Tryz.ntmps82
 go_upto_region 1 with fail
 generalize w.alloc (.cells seZ 94)=w1 at *
 go_wp2_with fail
 refine HN.out.mono ?_
 rintro e2 w2 ⟨rfl,hp2,hg2⟩
 have HG2:=Lh (Za (below_grown (r:=r) HB.out) hg2)
 have HR2:=Lh (HR0.out.grown hg2 (Nat.ne_of_gt HR.out))
 have hm:=Zaw BEQ w2 hp2
 rw [H2.out] at hm
 have HM:=Lh hm
 have hq0:=HQ.out _ HG2.out
 clear hp2 hg2 hm HN
 go_wp2_with fail
 refine HM.out.mono ?_
 rintro e3 w3 ⟨rfl,hp3,hg3⟩
 have HG3:=Lh (Za HG2.out hg3)
 have HR3:=Lh (HR2.out.grown hg3 (Nat.ne_of_gt HR.out))
 have hc:=Zso HA.out s2 w3 hp3
 rw [H3.out] at hc
 have HC:=Lh hc
 have hq0:=HQ.out _ HG3.out
 clear hp3 hg3 hc HM
 go_wp2_with fail
 refine HC.out.mono ?_
 rintro e4 w4 ⟨v,rfl,hn4,hp4,hg4⟩
 obtain ⟨c,rfl,hx⟩:=ExN.of hn4
 have HG4:=Lh (Za HG3.out hg4)
 have HR4:=Lh (HR3.out.grown hg4 (Nat.ne_of_gt HR.out))
 have HP4:=Lh hp4
 have HX:=Lh hx
 have hok:=hx.ok
 have hokS:=okSet n hx.ok
 have hrb:=HR4.out.b (n:=9) rfl
 have HLT:Hid (w.heap.size < w3.heap.size):=Lh HR3.out.lt
 clear hn4 hp4 hg4 hx HC hq0
 go_wp2_with fail
 exact bodyPost_ret (v:=.agg (#[.string n] ++ c)) (Zq Tryz.results82 Znx Zmd _ _ w.heap.size _ _ rfl (HR4.out.set _) (Zo.1 hokS).1) rfl
  ⟨_,rfl,by rw [HZ.out];exact Zlv (S:=fun b=>w3.heap.size ≤ b) (HX.out.new.imp fun u hu=>⟨c.toList,by simp,hu⟩) (by have:=HLT.out;omega) (fun b h=>by have:=HLT.out;omega),by rw [HZ.out];exact HP4.out.other (Zi _ _ _) HR.out,Zn HG4.out (Nat.le_refl _) _⟩
theorem itemRun (hall:Zbs L) (q:Nat) (w1:World) (k0:Nat) (hq:∀ w',w1.grownBy w' (some r)→w'.cell? ⟨q,0,none⟩=some (pV r)) :
 Zks w0 r tv L en w1 k0 124 #[pV q] (itemM L en) (AgV Zfl):=by
 intro s w hk hg h
 have HQ:=Lh (fun W g=>hq W (Za hg g))
 have hb:=(Below.refl _ w).alloc (Nat.le_refl _) (.cells itZ 106)
 have hr0:=Zc w 106 itZ
 obtain ⟨Z,hZ⟩:∃ Z,Z=itemM L en s:=⟨_,rfl⟩
 rw [← hZ]
 obtain ⟨⟨x,s1⟩,h1⟩:∃ z,exprM L en s=z:=⟨_,rfl⟩
 have HZ:Hid (Z=(bnd (isM L en WAS) fun b=>if b then bnd (nameM L en) fun m=>ret (x,m) else ret (x,⟨#[]⟩)) s1):=Lh (by rw [hZ];unfold itemM;rw [Za1 h1])
 have hc:=Zso hall s _ (h.later hb)
 rw [h1] at hc
 have HC:=Lh hc
 have HB:=Lh hb
 have HR0:=Lh hr0
 have HR:=Lh h.lt
 have hq0:=HQ.out _ (below_grown hb)
 clear hq h hg hk hb hr0 hZ h1 hc hall
 go_enter Tryz.func124,Tryz.ntmps124
 go_upto_region 1 with fail
 generalize w.alloc (.cells itZ 106)=w1 at *
 go_wp2_with fail
 refine HC.out.mono ?_
 rintro e2 w2 ⟨v,rfl,hn2,hp2,hg2⟩
 obtain ⟨c,rfl,hx⟩:=ExN.of hn2
 have hok:=hx.ok
 have hokI:=okItem ⟨#[]⟩ hx.ok
 have hb3:=(Below.refl _ w2).alloc (Nat.le_refl _) (.cells (c.push (eS)) 106)
 have HP3:=Lh (hp2.later hb3)
 have HG3:=Lh (Za (Za (below_grown (r:=r) HB.out) hg2) (below_grown hb3))
 have HRS:=Lh ((HR0.out.grown hg2 (Nat.ne_of_gt HR.out)).later hb3)
 have HRG:=Lh (Zc w2 106 (c.push (eS)))
 have HSZ:Hid (w.heap.size < w1.heap.size∧w1.heap.size ≤ w2.heap.size):=Lh ⟨HR0.out.lt,hg2.size⟩
 have HX:=Lh (hx.step (S':=fun b=>w.heap.size ≤ b∧b ≠ w.heap.size∧b ≠ w2.heap.size) (Nat.le_refl _) (fun b h1 h2=>⟨by have:=HSZ.out;omega,rfl⟩) |>.later hb3)
 have HOK:=Lh hok
 have HOKI:=Lh hokI
 clear hn2 hp2 hg2 hx hb3 HC
 go_upto_region 2 with fail
 generalize w2.alloc (.cells (c.push (eS)) 106)=w3 at *
 generalize w2.heap.size=g at *
 clear hok hokI
 have hq0:=HQ.out _ HG3.out
 have HI:=Lh (isW WAS w3 HP3.out)
 obtain ⟨B,hB⟩:∃ B,isB L en WAS s1=B:=⟨_,rfl⟩
 rw [Z2,hB] at HI
 have HBB:=Lh hB
 have hSr:¬ (w.heap.size ≤ r∧r ≠ w.heap.size∧r ≠ g):=by have:=HR.out;omega
 have HSR:=Lh hSr
 clear hB hSr
 cases B
 ·have HZ2:Hid (Z=((x,⟨#[]⟩),s1)):=Lh (by rw [HZ.out,isN HBB.out];rfl)
  go_wp2_with fail
  refine HI.out.mono ?_
  rintro e4 w4 ⟨rfl,hp4,hg4⟩
  have HP4:Hid (PB w0 r tv L en s1 w4):=Lh hp4
  have HG4:=Lh (Za HG3.out hg4)
  have HX4:=Lh (HX.out.grown hg4 HSR.out)
  have HRS4:=Lh (HRS.out.grown hg4 (Nat.ne_of_gt HR.out))
  have hrg4:=HRG.out.grown hg4 kb10
  have hb4:=HRS4.out.b (n:=9) rfl
  have hb5:=hrg4.b (n:=9) (Zo.1 HOKI.out).1
  have ho5:=hrg4.of
  have hokI:=HOKI.out
  clear hp4 hg4 HI hrg4 hq0
  go_wp2_with fail
  exact bodyPost_ret (v:=.agg (c.push (eS))) (Zq Tryz.results124 Zkb Zkc _ _ w.heap.size _ _ rfl (HRS4.out.set _) (Zo.1 hokI).1) rfl
   ⟨_,rfl,by rw [HZ2.out];exact Zlv (HX4.out.new.imp fun u hu=>⟨c.toList,by simp,hu⟩) kW (fun b h=>h.1),by rw [HZ2.out];exact HP4.out.other (Zi _ _ _) HR.out,Zn HG4.out (Nat.le_refl _) _⟩
 obtain ⟨⟨m,s2⟩,h2⟩:∃ z,nameM L en s1.next=z:=⟨_,rfl⟩
 have HZ2:Hid (Z=((x,m),s2)):=Lh (by rw [HZ.out,isY HBB.out,if_pos rfl,Za1 h2];rfl)
 have H2:=Lh h2
 clear h2
 go_wp2_with fail
 refine HI.out.mono ?_
 rintro e4 w4 ⟨rfl,hp4,hg4⟩
 have hp4:PB w0 r tv L en s1.next w4:=hp4
 have hn:=Zdp w4 hp4
 rw [H2.out] at hn
 have HN:=Lh hn
 have HG4:=Lh (Za HG3.out hg4)
 have HX4:=Lh (HX.out.grown hg4 HSR.out)
 have HRS4:=Lh (HRS.out.grown hg4 (Nat.ne_of_gt HR.out))
 have HRG4:=Lh (HRG.out.grown hg4 kb10)
 have hq0:=HQ.out _ HG4.out
 clear hp4 hg4 HI hn
 go_wp2_with fail
 refine HN.out.mono ?_
 rintro e5 w5 ⟨rfl,hp5,hg5⟩
 have HG5:=Lh (Za HG4.out hg5)
 have HP5:=Lh hp5
 have HX5:=Lh (HX4.out.grown hg5 HSR.out)
 have HRS5:=Lh (HRS4.out.grown hg5 (Nat.ne_of_gt HR.out))
 have HRG5:=Lh (HRG4.out.grown hg5 kb10)
 have hc8:c.size=8:=(Zo.1 HOK.out).1
 have c1:=HRG5.out.cell (i:=8) (v:=eS) (by rw [Array.getElem?_push,hc8];rfl)
 have f1:=HRG5.out.free 8
 have heq:=setCell_eq_setRow w5 g 8 _ _ _ (.string m) HRG5.out
 have hset:(c.push (eS)).setIfInBounds 8 (.string m)=c.push (.string m):=by
  obtain ⟨a0,a1,a2,a3,a4,a5,a6,a7,rfl⟩:=arr8 hc8
  rfl
 rw [hset] at heq
 have HRG6:Hid (Row g 106 (c.push (.string m)) (w5.setCell ⟨g,8,none⟩ (.string m))):=Lh (by rw [heq];exact HRG5.out.set _)
 have HRS6:Hid (Row w.heap.size 106 itZ (w5.setCell ⟨g,8,none⟩ (.string m))):=Lh kb40
 have HX6:Hid (ExD (fun b=>w.heap.size ≤ b∧b ≠ w.heap.size∧b ≠ g) (w5.setCell ⟨g,8,none⟩ (.string m)) c x):=Lh (by rw [heq];exact ExD.set HX5.out kW)
 have HP6:Hid (PB w0 r tv L en s2 (w5.setCell ⟨g,8,none⟩ (.string m))):=Lh kb35
 have HG6:Hid (w.grownBy (w5.setCell ⟨g,8,none⟩ (.string m)) (some r)):=Lh kb63
 clear hp5 hg5 HN heq hset hc8 hq0
 go_upto_region 4 with fail
 clear c1 f1
 generalize w5.setCell ⟨g,8,none⟩ (.string m)=w6 at *
 have hb4:=HRS6.out.b (n:=9) rfl
 have hokI:=okItem m HOK.out
 have hb5:=HRG6.out.b (n:=9) (Zo.1 hokI).1
 have ho5:=HRG6.out.of
 go_wp2_with fail
 exact bodyPost_ret (v:=.agg (c.push (.string m))) (Zq Tryz.results124 Zkb Zkc _ _ w.heap.size _ _ rfl (HRS6.out.set _) (Zo.1 hokI).1) rfl
  ⟨_,rfl,by rw [HZ2.out];exact Zlv (HX6.out.new.imp fun u hu=>⟨c.toList,by simp,hu⟩) kW (fun b h=>h.1),by rw [HZ2.out];exact HP6.out.other (Zi _ _ _) HR.out,Zn HG6.out (Nat.le_refl _) _⟩
end
end Go.Proofs.YtmdogmpcmkfjpaaGreatDoor.Dt
namespace Go.Proofs.YtmdogmpcmkfjpaaGreatDoor.Dt
open Go.RowKit Go.Proofs.YtmdogmpcmkfjpaaGreatDoor.By
attribute [local go_sem ↓] Zbv Zcb Zd9 Zhf Zhh Zl1 Zhg Zhi
attribute [local go_sem] Zc6 Zbx Zc7 Zfg Zj5 Value.oneCell' Zfq Zmg Zhx Zin Zi7 Zhy Zi8
section
variable {w0:World} {r:Nat} {tv:Value} {L:List Tk} {en:Int} {s:PS}
def OdKn (r:Nat) (c:Array Value) (B:Bool) (j:Nat) (v:Value) (_:World):Prop:=match j with
 | 0=>v = .agg c
 | 1=>v = pV r
 | 2=>v = .bool B
 | _=>v = .agg (c.push (.bool B))
theorem orderRun (hall:Zbs L) (q:Nat) (w1:World) (k0:Nat) (hq:∀ w',w1.grownBy w' (some r)→w'.cell? ⟨q,0,none⟩=some (pV r)) :
 Zks w0 r tv L en w1 k0 127 #[pV q] (orderM L en) (AgV Zdl):=by
 intro s w hk hg h
 have HQ:=Lh (fun W g=>hq W (Za hg g))
 have hb:=(Below.refl _ w).alloc (Nat.le_refl _) (.cells odZ 114)
 have hr0:=Zc w 114 odZ
 obtain ⟨Z,hZ⟩:∃ Z,Z=orderM L en s:=⟨_,rfl⟩
 rw [← hZ]
 obtain ⟨⟨x,s1⟩,h1⟩:∃ z,exprM L en s=z:=⟨_,rfl⟩
 obtain ⟨⟨B,s2⟩,h2⟩:∃ z,isM L en Zie s1=z:=⟨_,rfl⟩
 have HZ:Hid (Z=((x,B),s2)):=Lh (by rw [hZ];unfold orderM;rw [Za1 h1,Za1 h2];rfl)
 have hc:=Zso hall s _ (h.later hb)
 rw [h1] at hc
 have HC:=Lh hc
 have HB:=Lh hb
 have HR0:=Lh hr0
 have HR:=Lh h.lt
 have H2:=Lh h2
 have hq0:=HQ.out _ (below_grown hb)
 clear hq h hg hk hb hr0 hZ h1 hc hall h2
 go_enter Tryz.func127,Tryz.ntmps127
 go_upto_region 1 with fail
 generalize w.alloc (.cells odZ 114)=w1 at *
 go_wp2_with fail
 refine HC.out.mono ?_
 rintro e2 w2 ⟨v,rfl,hn2,hp2,hg2⟩
 obtain ⟨c,rfl,hx⟩:=ExN.of hn2
 have hok:=hx.ok
 have hb3:=(Below.refl _ w2).alloc (Nat.le_refl _) (.cells c 48)
 have HP3:=Lh (hp2.later hb3)
 have HG3:=Lh (Za (Za (below_grown (r:=r) HB.out) hg2) (below_grown hb3))
 have HRS:=Lh ((HR0.out.grown hg2 (Nat.ne_of_gt HR.out)).later hb3)
 have HRG:=Lh (Zc w2 48 c)
 have HSZ:Hid (w.heap.size < w1.heap.size∧w1.heap.size ≤ w2.heap.size):=Lh ⟨HR0.out.lt,hg2.size⟩
 have HX:=Lh (hx.step (S':=fun b=>w.heap.size ≤ b∧b ≠ w.heap.size∧b ≠ w2.heap.size) (Nat.le_refl _) (fun b h1 h2=>⟨by have:=HSZ.out;omega,rfl⟩) |>.later hb3)
 have HOK:=Lh hok
 clear hn2 hp2 hg2 hx hb3 HC
 go_upto_region 2 with fail
 generalize w2.alloc (.cells c 48)=w3 at *
 generalize w2.heap.size=g at *
 clear hok hq0
 have hSr:¬ (w.heap.size ≤ r∧r ≠ w.heap.size∧r ≠ g):=by have:=HR.out;omega
 refine Zcr 4 r (OdKn r c B) (fun dn W=>PB w0 r tv L en (if dn 2 then s2 else s1) W) 9 rfl kR kR (fun j v w1 w2 h _ _=>h) ?_ ?_ ?_ ?_
 ·intro dn dn' W hdd hst
  rw [← hdd 2 kD]
  exact hst
 ·exact HP3.out.later (Below.drew (Below.refl _ _))
 ·intro j hj dn A W hother hgW hst hdj hd
  match j,hj with
  | 0,hj=>
   have h0:=Zt (show A.eval (.tmp 2) = pV g from hother 2 kR)
   have hr5:=HRG.out.grown hgW kb10
   have hb5:=hr5.b (n:=8) (Zo.1 HOK.out).1
   have ho5:=hr5.of
   clear hother hd hj hr5
   exact Zam rfl rfl (.agg c) kb0 rfl hst
  | 1,hj=>
   have h0:=Zt (show A.eval (.tmp 0) = pV q from hother 0 kR)
   have hc:=HQ.out W (Za HG3.out hgW)
   clear hother hd hj
   exact Zam rfl rfl (pV r) kb0 rfl hst
  | 2,hj=>
   have h0:=(hd _ rfl ⟨1,.data⟩ kY rfl).2.t (pV r) 6
   have hst5:PB w0 r tv L en s1 W:=by have h:=hst;simp only [hdj] at h;exact h
   have hcall:=isW Zie W hst5
   rw [show isB L en Zie s1=B from congrArg Prod.fst H2.out,show (isM L en Zie s1).2=s2 from congrArg Prod.snd H2.out] at hcall
   clear hother hd hj
   refine Zew rfl rfl 74 #[pV r,.string Zie] kb0 (hcall.mono ?_)
   rintro e8 w8 ⟨rfl,hp8,hg8⟩
   exact ⟨_,rfl,hg8,rfl,hp8⟩
  | 3,hj=>
   have h0:=(hd _ rfl ⟨0,.data⟩ kY rfl).2.t (.agg c) 5
   have h1:=(hd _ rfl ⟨2,.data⟩ kY rfl).2.t (.bool B) 7
   have hok:=HOK.out
   clear hother hd hj
   exact Zam rfl rfl (.agg (c.push (.bool B))) kb0 rfl hst
  | k + 4,hj=>omega
 intro us W hgW hst hk
 have u3:us 3 = .agg (c.push (.bool B)):=hk 3 kD
 have HX5:=Lh (HX.out.grown hgW hSr)
 have HR5:=Lh (HRS.out.grown hgW (Nat.ne_of_gt HR.out))
 have HG5:=Lh (Za HG3.out hgW)
 have HP5:Hid (PB w0 r tv L en s2 W):=Lh hst
 have hokI:=okOrder B HOK.out
 have hrb:=HR5.out.b (n:=9) rfl
 clear hk hst hgW hSr
 simp only [List.drop_succ_cons,List.drop_zero,Z1,Z7,Act.put,List.getElem?_toArray,List.getElem?_cons_zero,List.getElem?_cons_succ,Option.bind_some]
 simp only [List.setIfInBounds_toArray,List.set_cons_zero,List.set_cons_succ]
 rw [u3]
 go_wp2_with fail
 exact bodyPost_ret (v:=.agg (c.push (.bool B))) (Zq Tryz.results127 Zoa Zmm _ _ w.heap.size _ _ rfl (HR5.out.set _) (Zo.1 hokI).1) rfl
  ⟨_,rfl,by rw [HZ.out];exact Zlv (HX5.out.new.imp fun u hu=>⟨c.toList,by simp,hu⟩) kW (fun b h=>h.1),by rw [HZ.out];exact HP5.out.other (Zi _ _ _) HR.out,Zn HG5.out (Nat.le_refl _) _⟩
theorem ty_index (i:Nat) (x:ByteArray × Nat) (h:types[i]? = some x) (W:World):(Instr.index 184 (.agg #[.string Zeo,.string Zm0,.string Zm2]) (.int .i64 (i:Int))).run Tryz.prog W = .ok (.string x.1) W:=by
 match i,h with
 | 0,h=>cases h;exact Zvn _ _ _ W
 | 1,h=>cases h;exact Zvm _ _ _ W
 | 2,h=>cases h;exact Zvl _ _ _ W
 | _ + 3,h=>simp [types] at h
theorem ty_op (i:Nat) (x:ByteArray × Nat) (h:types[i]? = some x):x.2=1 + i∧i < 3:=by
 match i,h with
 | 0,h=>cases h;exact ⟨rfl,by decide⟩
 | 1,h=>cases h;exact ⟨rfl,by decide⟩
 | 2,h=>cases h;exact ⟨rfl,by decide⟩
 | _ + 3,h=>simp [types] at h
abbrev coC (n:ByteArray) (ty:Nat) (b:Bool):Array Value:=#[.string n,.int .u8 (ty:Int),.bool b]
structure CO (w0:World) (r:Nat) (tv:Value) (L:List Tk) (en:Int) (w:World) (g:Nat) (s:PS) (c:Array Value) (W:World):Prop where
 pb:PB w0 r tv L en s W
 gr:w.grownBy W (some r)
 rs:Row w.heap.size 89 #[eS,.int .u8 0,.bool false] W
 row:Row g 89 c W
 hr:r < w.heap.size
 hg:w.heap.size < g
theorem CO.grown {w W W':World} {g:Nat} {s s':PS} {c:Array Value} (h:CO w0 r tv L en w g s c W) (k:W.grownBy W' (some r)) (hp:PB w0 r tv L en s' W'):CO w0 r tv L en w g s' c W':=by
 have h1:=h.hr
 have h2:=h.hg
 exact ⟨hp,Za h.gr k,h.rs.grown k kW,h.row.grown k kW,h1,h2⟩
theorem CO.set {w W:World} {g:Nat} {s:PS} {c:Array Value} (h:CO w0 r tv L en w g s c W) (i:Nat) (v:Value):CO w0 r tv L en w g s (c.setIfInBounds i v) (W.setCell ⟨g,i,none⟩ v):=by
 have h1:=h.hr
 have h2:=h.hg
 rw [setCell_eq_setRow W g i c _ _ v h.row]
 exact ⟨h.pb.other (Zi _ _ _) kW,Zn h.gr kW _,(setRow_other W g _ _ kW).trans h.rs,h.row.set _,h1,h2⟩
def CoRel (w0:World) (r:Nat) (tv:Value) (L:List Tk) (en:Int) (w:World) (g:Nat) (n:ByteArray) (s1:PS) (W:World):Prop:=
 ∃ ty s2,CO w0 r tv L en w g s2 (coC n ty false) W∧ty ≤ 3∧((ty ≠ 0∧oneOf L en types s1=(some ty,s2)) ∨ (ty=0∧oneOf L en types s1=(none,s2)))
theorem columnW (w:World) (h:PB w0 r tv L en s w):Calls Tryz.prog 120 #[pV r] w fun e w'=>
 e = .returned (.agg (coC (colM L en s).1.name (colM L en s).1.ty (colM L en s).1.nn))∧PB w0 r tv L en (colM L en s).2 w'∧w.grownBy w' (some r):=by
 obtain ⟨Z,hZ⟩:∃ Z,Z=colM L en s:=⟨_,rfl⟩
 rw [← hZ]
 have hb:=(Below.refl _ w).alloc (Nat.le_refl _) (.cells #[eS,.int .u8 0,.bool false] 89)
 have hr0:=Zc w 89 #[eS,.int .u8 0,.bool false]
 obtain ⟨⟨n,s1⟩,h1⟩:∃ z,nameM L en s=z:=⟨_,rfl⟩
 have hn:=Zdp _ (h.later hb)
 rw [h1] at hn
 have HN:=Lh hn
 have HZ:Hid (Z=(bnd (oneOf L en types) fun o=>bnd (match o with | some o=>ret o | none=>bnd (failM L en 6) fun _=>ret 0) fun ty=>
  bnd (isM L en Zfx) fun b=>if b then bnd (mustM L en [Zbr]) fun _=>ret ⟨n,ty,true⟩ else ret ⟨n,ty,false⟩) s1):=Lh (by rw [hZ];unfold colM;rw [Za1 h1];rfl)
 have HR0:=Lh hr0
 have HB:=Lh hb
 have HR:=Lh h.lt
 clear h hZ hb hr0 hn h1
 go_enter Tryz.func120,Tryz.ntmps120
 go_upto_region 1 with fail
 generalize w.alloc (.cells #[eS,.int .u8 0,.bool false] 89)=w1 at *
 go_wp2_with fail
 refine HN.out.mono ?_
 rintro e2 w2 ⟨rfl,hp2,hg2⟩
 have hb3:=(Below.refl _ w2).alloc (Nat.le_refl _) (.cells (coC n 0 false) 89)
 have HC3:Hid (CO w0 r tv L en w w2.heap.size s1 (coC n 0 false) (w2.alloc (.cells (coC n 0 false) 89))):=Lh ⟨PB.later hp2 hb3,Za (Za (below_grown (r:=r) HB.out) hg2) (below_grown hb3),(HR0.out.grown hg2 (Nat.ne_of_gt HR.out)).later hb3,Zc _ _ _,HR.out,(HR0.out.grown hg2 (Nat.ne_of_gt HR.out)).lt⟩
 clear hp2 hg2 hb3 HN
 go_upto_region 2 with fail
 generalize w2.alloc (.cells (coC n 0 false) 89)=w3 at *
 generalize w2.heap.size=g at *
 go_upto_block 0 with fail
 go_cut [] (fun wx=>CoRel w0 r tv L en w g n s1 wx)
 case first=>
  go_wp2_with fail
  go_loopg [10] 3 (fun gk iv wr=>∃ (i:Nat),iv = .int .i64 (i:Int)∧gk=3 - i∧i ≤ 3∧Hid (CO w0 r tv L en w g s1 (coC n 0 false) wr)∧Hid (oneOf L en types s1=oneOf L en (types.drop i) s1))
  case atStart=>exact ⟨0,rfl,rfl,by decide,HC3,Lh rfl⟩
  case round=>
   obtain ⟨i,rfl,rfl,hi,HC,HO⟩:=hrel
   by_cases hlt:i < 3
   ·obtain ⟨⟨t,o⟩,ht⟩:∃ q,types[i]? = some q:=⟨types[i]'(by show i < 3;exact hlt),by simp⟩
    have hd:types.drop i=(t,o) :: types.drop (i + 1):=by
     rw [List.drop_eq_getElem_cons (show i < types.length from hlt),(List.getElem?_eq_some_iff.1 ht).2]
    obtain ⟨hop,_⟩:=ty_op i _ ht
    have HO2:Hid (oneOf L en types s1=oneOf L en ((t,o) :: types.drop (i + 1)) s1):=Lh (by rw [← hd];exact HO.out)
    have hix:∀ W,(Instr.index 184 (.agg #[.string Zeo,.string Zm0,.string Zm2]) (.int .i64 (i:Int))).run Tryz.prog W = .ok (.string t) W:=ty_index i (t,o) ht
    have HI:=Lh (isW t wr HC.out.pb)
    have ilt:(i:Int) < 3:=kW
    have ige:(0:Int) ≤ (i:Int):=kW
    have HLTI:=Lh hlt
    have HOP:Hid (o=1 + i):=Lh hop
    clear hd ht hlt hop
    obtain ⟨B,hB⟩:∃ B,isB L en t s1=B:=⟨_,rfl⟩
    rw [Z2,hB] at HI
    have HB2:=Lh hB
    clear hB
    cases B
    ·have HNO:Hid (oneOf L en types s1=oneOf L en (types.drop (i + 1)) s1):=Lh (by rw [HO2.out,Zh3 HB2.out])
     go_wp2_with fail
     refine HI.out.mono ?_
     rintro e5 w6 ⟨rfl,hp5,hg5⟩
     have HC6:=Lh (HC.out.grown hg5 hp5)
     clear hp5 hg5 hix
     go_wp2_with fail
     go_roundg (3 - (i + 1))
     case measure=>exact Nat.sub_lt_sub_left HLTI.out (Nat.lt_succ_self _)
     case rel=>exact ⟨i + 1,by go_num,rfl,HLTI.out,HC6,HNO⟩
    have HYES:Hid (oneOf L en types s1=(some o,s1.next)):=Lh (by rw [HO2.out,Zh2 HB2.out])
    go_wp2_with fail
    refine HI.out.mono ?_
    rintro e5 w6 ⟨rfl,hp5,hg5⟩
    have hC6:CO w0 r tv L en w g s1.next (coC n 0 false) w6:=HC.out.grown hg5 hp5
    have c1:=hC6.row.cell (i:=1) (v:=.int .u8 0) rfl
    have f1:=hC6.row.free 1
    have ho:1 + (i:Int)=(o:Int):=by have:=HOP.out;omega
    have HC7:Hid (CO w0 r tv L en w g s1.next (coC n o false) (w6.setCell ⟨g,1,none⟩ (.int .u8 (1 + (i:Int))))):=Lh (by rw [ho];exact hC6.set 1 (.int .u8 (o:Int)))
    have HO3:Hid (o ≠ 0∧o ≤ 3):=Lh (by have:=HOP.out;have:=HLTI.out;omega)
    clear hp5 hg5 hix hC6 ho
    go_wp2_with fail
    go_meet
    exact ⟨o,s1.next,HC7.out,HO3.out.2,.inl ⟨HO3.out.1,HYES.out⟩⟩
   obtain rfl:i=3:=kW
   clear hlt hi
   go_wp2_with fail
   go_meet
   exact ⟨0,s1,HC.out,by decide,.inr ⟨rfl,by rw [HO.out];rfl⟩⟩
 rename World=>w4
 obtain ⟨ty,s2,hC4,h3,hone⟩:=hcut
 have HC4:=Lh hC4
 have HONE:=Lh hone
 have c1:=hC4.row.cell (i:=1) (v:=.int .u8 (ty:Int)) rfl
 rcases hone with ⟨ht0,hon⟩ | ⟨ht0,hon⟩
 ·have e0:((ty:Int) == 0)=false:=kQ
  have HZ5:Hid (Z=(bnd (isM L en Zfx) fun b=>if b then bnd (mustM L en [Zbr]) fun _=>ret ⟨n,ty,true⟩ else ret ⟨n,ty,false⟩) s2):=Lh (by rw [HZ.out,Za1 hon];rfl)
  have HI:=Lh (isW Zfx w4 HC4.out.pb)
  obtain ⟨B,hB⟩:∃ B,isB L en Zfx s2=B:=⟨_,rfl⟩
  rw [Z2,hB] at HI
  have HBB:=Lh hB
  clear hB hon hC4 ht0
  cases B
  ·have HZ6:Hid (Z=(⟨n,ty,false⟩,s2)):=Lh (by rw [HZ5.out,isN HBB.out];rfl)
   go_wp2_with fail
   refine HI.out.mono ?_
   rintro e6 w6 ⟨rfl,hp6,hg6⟩
   have HC6:Hid (CO w0 r tv L en w g s2 (coC n ty false) w6):=Lh (HC4.out.grown hg6 hp6)
   clear hp6 hg6 HI
   have hb6:=HC6.out.row.b (n:=3) rfl
   have ho6:=HC6.out.row.of
   have hr6:=HC6.out.rs.b (n:=3) rfl
   go_wp2_with fail
   exact bodyPost_ret (v:=.agg (coC n ty false)) (Zq Tryz.results120 Zgh Zg7 _ _ w.heap.size _ _ rfl (HC6.out.rs.set _) rfl) rfl ⟨by rw [HZ6.out],by rw [HZ6.out];exact HC6.out.pb.other (Zi _ _ _) HC6.out.hr,Zn HC6.out.gr (Nat.le_refl _) _⟩
  obtain ⟨s6,h6⟩:∃ z,(mustM L en [Zbr] (s2).next).2=z:=⟨_,rfl⟩
  have HZ6:Hid (Z=(⟨n,ty,true⟩,s6)):=Lh kb42
  have H6:=Lh h6
  clear h6
  go_wp2_with fail
  refine HI.out.mono ?_
  rintro e6 w6 ⟨rfl,hp6,hg6⟩
  have HC6:Hid (CO w0 r tv L en w g (s2).next (coC n ty false) w6):=Lh (HC4.out.grown hg6 hp6)
  have hm:=Zaw Zbr w6 HC6.out.pb
  rw [H6.out] at hm
  have HM:=Lh hm
  clear hp6 hg6 HI hm
  go_wp2_with fail
  refine HM.out.mono ?_
  rintro e7 w7 ⟨rfl,hp7,hg7⟩
  have hC7:CO w0 r tv L en w g s6 (coC n ty false) w7:=HC6.out.grown hg7 hp7
  have c2:=hC7.row.cell (i:=2) (v:=.bool false) rfl
  have f2:=hC7.row.free 2
  have HC8:Hid (CO w0 r tv L en w g s6 (coC n ty true) (w7.setCell ⟨g,2,none⟩ (.bool true))):=Lh (hC7.set 2 (.bool true))
  clear hp7 hg7 HM hC7
  go_upto_region 13 with fail
  clear c2 f2
  generalize w7.setCell ⟨g,2,none⟩ (.bool true)=w8 at *
  have hb6:=HC8.out.row.b (n:=3) rfl
  have ho6:=HC8.out.row.of
  have hr6:=HC8.out.rs.b (n:=3) rfl
  go_wp2_with fail
  exact bodyPost_ret (v:=.agg (coC n ty true)) (Zq Tryz.results120 Zgh Zg7 _ _ w.heap.size _ _ rfl (HC8.out.rs.set _) rfl) rfl ⟨by rw [HZ6.out],by rw [HZ6.out];exact HC8.out.pb.other (Zi _ _ _) HC8.out.hr,Zn HC8.out.gr (Nat.le_refl _) _⟩
 have e0:((ty:Int) == 0)=true:=kQ
 have HF:=Lh (Zol w4 6 HC4.out.pb)
 have HZ5:Hid (Z=(bnd (isM L en Zfx) fun b=>if b then bnd (mustM L en [Zbr]) fun _=>ret ⟨n,0,true⟩ else ret ⟨n,0,false⟩) (Zem L en 6 s2)):=Lh (by rw [HZ.out,Za1 hon];rfl)
 subst ht0
 clear hon hC4
 generalize Zem L en 6 s2=s5 at *
 go_wp2_with fail
 refine HF.out.mono ?_
 rintro e5 w5 ⟨rfl,hp5,hg5⟩
 have HC5:Hid (CO w0 r tv L en w g s5 (coC n 0 false) w5):=Lh (HC4.out.grown hg5 hp5)
 clear hp5 hg5 c1 HF
 have HI:=Lh (isW Zfx w5 HC5.out.pb)
 obtain ⟨B,hB⟩:∃ B,isB L en Zfx s5=B:=⟨_,rfl⟩
 rw [Z2,hB] at HI
 have HBB:=Lh hB
 clear hB
 cases B
 ·have HZ6:Hid (Z=(⟨n,0,false⟩,s5)):=Lh (by rw [HZ5.out,isN HBB.out];rfl)
  go_wp2_with fail
  refine HI.out.mono ?_
  rintro e6 w6 ⟨rfl,hp6,hg6⟩
  have HC6:Hid (CO w0 r tv L en w g s5 (coC n 0 false) w6):=Lh (HC5.out.grown hg6 hp6)
  clear hp6 hg6 HI
  have hb6:=HC6.out.row.b (n:=3) rfl
  have ho6:=HC6.out.row.of
  have hr6:=HC6.out.rs.b (n:=3) rfl
  go_wp2_with fail
  exact bodyPost_ret (v:=.agg (coC n 0 false)) (Zq Tryz.results120 Zgh Zg7 _ _ w.heap.size _ _ rfl (HC6.out.rs.set _) rfl) rfl ⟨by rw [HZ6.out],by rw [HZ6.out];exact HC6.out.pb.other (Zi _ _ _) HC6.out.hr,Zn HC6.out.gr (Nat.le_refl _) _⟩
 obtain ⟨s6,h6⟩:∃ z,(mustM L en [Zbr] (s5).next).2=z:=⟨_,rfl⟩
 have HZ6:Hid (Z=(⟨n,0,true⟩,s6)):=Lh kb42
 have H6:=Lh h6
 clear h6
 go_wp2_with fail
 refine HI.out.mono ?_
 rintro e6 w6 ⟨rfl,hp6,hg6⟩
 have HC6:Hid (CO w0 r tv L en w g (s5).next (coC n 0 false) w6):=Lh (HC5.out.grown hg6 hp6)
 have hm:=Zaw Zbr w6 HC6.out.pb
 rw [H6.out] at hm
 have HM:=Lh hm
 clear hp6 hg6 HI hm
 go_wp2_with fail
 refine HM.out.mono ?_
 rintro e7 w7 ⟨rfl,hp7,hg7⟩
 have hC7:CO w0 r tv L en w g s6 (coC n 0 false) w7:=HC6.out.grown hg7 hp7
 have c2:=hC7.row.cell (i:=2) (v:=.bool false) rfl
 have f2:=hC7.row.free 2
 have HC8:Hid (CO w0 r tv L en w g s6 (coC n 0 true) (w7.setCell ⟨g,2,none⟩ (.bool true))):=Lh (hC7.set 2 (.bool true))
 clear hp7 hg7 HM hC7
 go_upto_region 13 with fail
 clear c2 f2
 generalize w7.setCell ⟨g,2,none⟩ (.bool true)=w8 at *
 have hb6:=HC8.out.row.b (n:=3) rfl
 have ho6:=HC8.out.row.of
 have hr6:=HC8.out.rs.b (n:=3) rfl
 go_wp2_with fail
 exact bodyPost_ret (v:=.agg (coC n 0 true)) (Zq Tryz.results120 Zgh Zg7 _ _ w.heap.size _ _ rfl (HC8.out.rs.set _) rfl) rfl ⟨by rw [HZ6.out],by rw [HZ6.out];exact HC8.out.pb.other (Zi _ _ _) HC8.out.hr,Zn HC8.out.gr (Nat.le_refl _) _⟩
end
end Go.Proofs.YtmdogmpcmkfjpaaGreatDoor.Dt
