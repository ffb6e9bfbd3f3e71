import Derived.Deep.LoopGhost
import Derived.Test.YtjgkeillmelkoaaGreatBk08
import Derived.Test.YtjgkeillmelkoaaGreatBk17
namespace Go.Proofs.YtjgkeillmelkoaaGreat.Dt
open Go.RowKit Go.Proofs.YtjgkeillmelkoaaGreat.By


theorem so_size : (Tryz.prog.info? 80).map (·.size) = some 3 := by kernel_rfl
theorem so_struct : ∃ fs, Tryz.prog.underlying 80 = some (.struct fs) := st_of (by kernel_rfl)
theorem veilSt_so (a : Addr) (v : Value) : storeVar 80 a v = veilSt 80 a v := rfl
theorem veilLd_so (a : Addr) : loadVar 80 a = veilLd 80 a := rfl
theorem run_soSt (W : World) (g : Nat) (cells : Array Value) (hg : rowB 3 W g = true) (h1 : okRow 3 cells = true) :
    (veilSt 80 ⟨g, 0, none⟩ (.agg cells)).run Tryz.prog W = .ok () (W.setRow g cells) := by
  obtain ⟨t, old, hr, ho, _⟩ := rowB_row hg
  obtain ⟨hc, h1⟩ := okRow_iff.1 h1
  exact run_veilSt so_size W g old cells t hr ho hc h1
theorem run_soNew (W : World) (old cells : Array Value) (t : TypeId) (ho : old.size = 3) (h1 : okRow 3 cells = true) :
    (veilSt 80 ⟨W.heap.size, 0, none⟩ (.agg cells)).run Tryz.prog (W.alloc (.cells old t)) = .ok () (W.alloc (.cells cells t)) := by
  obtain ⟨hc, h1⟩ := okRow_iff.1 h1
  exact run_veilNew so_size W old cells t ho hc h1
theorem run_soLd (W : World) (g : Nat) (hg : rowB 3 W g = true) : (veilLd 80 ⟨g, 0, none⟩).run Tryz.prog W = .ok (.agg (rowOf W g)) W := by
  obtain ⟨t, cs, hr, ho, e⟩ := rowB_row hg
  obtain ⟨fs, h⟩ := so_struct
  rw [e]
  exact run_veilLd h so_size W g cs t hr ho

theorem okRow3 (a b c : Value) : okRow 3 #[a, b, c] = (a.oneCell' && (b.oneCell' && c.oneCell')) := by simp [okRow]
abbrev StrsR (w : World) (v : Value) (l : List ByteArray) : Prop := SlR 1 SR w v l
/-- A statement's cells. -/
def StR (w : World) (cs : List Value) (x : PSt) : Prop := ∃ c4 c5 c6 c7 c8 c9 c10 c11 c12 c13 c14, cs = [.int .u8 (x.kind : Int), .string x.table, .string x.name, .bool x.uniq, c4, c5, c6, c7, c8, c9, c10, c11, c12, c13, c14, .int .i64 x.limit] ∧
  SlR 3 ColR w c4 x.cols ∧ StrsR w c5 x.key ∧ StrsR w c6 x.names ∧ SlR 1 RowR w c7 x.rows ∧ SlR 9 SetR w c8 x.sets ∧ SlR 9 ItemR w c9 x.items ∧ SlR 3 SrcR w c10 x.src ∧ ExsR w c11 x.wh ∧ ExsR w c12 x.group ∧ ExsR w c13 x.having ∧ SlR 9 OrderR w c14 x.order
theorem slOne {α : Type} {size : Nat} {R : World → List Value → α → Prop} {w : World} {v : Value} {l : List α} (h : SlR size R w v l) : v.oneCell' = true := by
  obtain ⟨a, c, rfl, _⟩ := h.shape
  rfl
theorem stCells : Cells 16 StR := fun w cs x ⟨c4, c5, c6, c7, c8, c9, c10, c11, c12, c13, c14, e, h4, h5, h6, h7, h8, h9, h10, h11, h12, h13, h14⟩ => by
  subst e
  refine ⟨rfl, fun u hu => ?_⟩
  simp only [List.mem_cons, List.not_mem_nil, or_false] at hu
  rcases hu with rfl | rfl | rfl | rfl | rfl | rfl | rfl | rfl | rfl | rfl | rfl | rfl | rfl | rfl | rfl | rfl
  any_goals rfl
  · exact slOne h4
  · exact slOne h5
  · exact slOne h6
  · exact slOne h7
  · exact slOne h8
  · exact slOne h9
  · exact slOne h10
  · exact slOne h11
  · exact slOne h12
  · exact slOne h13
  · exact slOne h14
abbrev stZ : Array Value := #[.int .u8 0, .string ⟨#[]⟩, .string ⟨#[]⟩, .bool false, .slice none 0 0, .slice none 0 0, .slice none 0 0, .slice none 0 0, .slice none 0 0, .slice none 0 0, .slice none 0 0, .slice none 0 0, .slice none 0 0, .slice none 0 0, .slice none 0 0, .int .i64 0]
/-- A statement of some cells, in block 'g'; what it hangs on. -/
structure SG (S : Nat → Prop) (g : Nat) (cs : Array Value) (x : PSt) (W : World) : Prop where
  row : Row g 35 cs W
  st : Dep S W fun u => StR u cs.toList x
  ng : ¬ S g
section
variable {S : Nat → Prop} {g : Nat} {cs : Array Value} {x : PSt} {W W' : World}
theorem SG.size (h : SG S g cs x W) : cs.size = 16 := by simpa using (stCells _ _ _ h.st.here).1
theorem SG.ok (h : SG S g cs x W) : okRow 16 cs = true := okRow_iff.2 ⟨h.size, Array.all_eq_true_iff_forall_mem.2 fun u hu => (stCells _ _ _ h.st.here).2 u (by simpa using hu)⟩
theorem SG.rb (h : SG S g cs x W) : rowB 16 W g = true := h.row.b h.size
theorem SG.grown {r : Nat} (h : SG S g cs x W) (k : W.grownBy W' (some r)) (hr : g ≠ r) (hS : ¬ S r) : SG S g cs x W' :=
  ⟨h.row.grown k hr, h.st.step k.size fun b h1 h2 => ⟨h1, k.block b h2 (fun e => by cases e; exact hS h1)⟩, h.ng⟩
theorem SG.later (h : SG S g cs x W) (k : Below W.heap.size W W') : SG S g cs x W' := ⟨h.row.later k, h.st.step k.size fun b h1 h2 => ⟨h1, k.block b h2⟩, h.ng⟩
theorem SG.cell (h : SG S g cs x W) (i : Nat) (hi : i < 16) : ∃ v, W.cell? ⟨g, i, none⟩ = some v := by
  have := h.size
  exact ⟨cs[i]'(by omega), h.row.cell (by simp)⟩
/-- One field more. -/
theorem SG.put (h : SG S g cs x W) (i : Nat) (v : Value) (y : PSt) (hst : Dep S W fun u => StR u cs.toList x → StR u (cs.setIfInBounds i v).toList y) : SG S g (cs.setIfInBounds i v) y (W.setCell ⟨g, i, none⟩ v) := by
  rw [setCell_eq_setRow W g i cs _ _ v h.row]
  exact ⟨h.row.set _, (Dep.imp2 h.st hst fun u h1 h2 => h2 h1).step (by simp) fun b h1 _ => ⟨h1, setRow_other W g b _ (fun e => h.ng (e ▸ h1))⟩, h.ng⟩
theorem SG.put_wh (h : SG S g cs x W) (v : Value) (l : List PE) (hv : Dep S W fun u => ExsR u v l) : SG S g (cs.setIfInBounds 11 v) { x with wh := l } (W.setCell ⟨g, 11, none⟩ v) :=
  h.put 11 _ _ fun u hu ⟨c4, c5, c6, c7, c8, c9, c10, c11, c12, c13, c14, e, h4, h5, h6, h7, h8, h9, h10, h11, h12, h13, h14⟩ => ⟨c4, c5, c6, c7, c8, c9, c10, v, c12, c13, c14, by rw [Array.toList_setIfInBounds, e]; rfl, h4, h5, h6, h7, h8, h9, h10, hv u hu, h12, h13, h14⟩
theorem SG.put_having (h : SG S g cs x W) (v : Value) (l : List PE) (hv : Dep S W fun u => ExsR u v l) : SG S g (cs.setIfInBounds 13 v) { x with having := l } (W.setCell ⟨g, 13, none⟩ v) :=
  h.put 13 _ _ fun u hu ⟨c4, c5, c6, c7, c8, c9, c10, c11, c12, c13, c14, e, h4, h5, h6, h7, h8, h9, h10, h11, h12, h13, h14⟩ => ⟨c4, c5, c6, c7, c8, c9, c10, c11, c12, v, c14, by rw [Array.toList_setIfInBounds, e]; rfl, h4, h5, h6, h7, h8, h9, h10, h11, h12, hv u hu, h14⟩
end
end Go.Proofs.YtjgkeillmelkoaaGreat.Dt
namespace Go.Proofs.YtjgkeillmelkoaaGreat.Dt
open Go.RowKit Go.Proofs.YtjgkeillmelkoaaGreat.By

theorem okRow16 (a b c d e f g h i j k l m n o p : Value) : okRow 16 #[a, b, c, d, e, f, g, h, i, j, k, l, m, n, o, p] = (a.oneCell' && (b.oneCell' && (c.oneCell' && (d.oneCell' && (e.oneCell' && (f.oneCell' && (g.oneCell' && (h.oneCell' && (i.oneCell' && (j.oneCell' && (k.oneCell' && (l.oneCell' && (m.oneCell' && (n.oneCell' && (o.oneCell' && p.oneCell'))))))))))))))) := by simp [okRow]
theorem sg_new {S : Nat → Prop} (W : World) (k : Nat) (t m : ByteArray) (u : Bool) (li : Int) (hS : ¬ S W.heap.size) : SG S W.heap.size #[.int .u8 (k : Int), .string t, .string m, .bool u, .slice none 0 0, .slice none 0 0, .slice none 0 0, .slice none 0 0, .slice none 0 0, .slice none 0 0, .slice none 0 0, .slice none 0 0, .slice none 0 0, .slice none 0 0, .slice none 0 0, .int .i64 li]
    { kind := k, table := t, name := m, uniq := u, limit := li } (W.alloc (.cells #[.int .u8 (k : Int), .string t, .string m, .bool u, .slice none 0 0, .slice none 0 0, .slice none 0 0, .slice none 0 0, .slice none 0 0, .slice none 0 0, .slice none 0 0, .slice none 0 0, .slice none 0 0, .slice none 0 0, .slice none 0 0, .int .i64 li] 35)) :=
  ⟨row_alloc _ _ _, fun _ _ => ⟨_, _, _, _, _, _, _, _, _, _, _, rfl, SlR.nil _ _ _, SlR.nil _ _ _, SlR.nil _ _ _, SlR.nil _ _ _, SlR.nil _ _ _, SlR.nil _ _ _, SlR.nil _ _ _, SlR.nil _ _ _, SlR.nil _ _ _, SlR.nil _ _ _, SlR.nil _ _ _⟩, hS⟩
end Go.Proofs.YtjgkeillmelkoaaGreat.Dt
namespace Go.Proofs.YtjgkeillmelkoaaGreat.Dt
open Go.RowKit Go.Proofs.YtjgkeillmelkoaaGreat.By

set_option maxRecDepth 100000 in
set_option maxHeartbeats 8000000 in
theorem emptyW (a4 a5 a6 a7 a8 a9 a10 a11 a12 a13 a14 : Option Addr) (n4 n5 n6 n7 n8 n9 n10 n11 n12 n13 n14 : Nat) (w : World) :
    Calls Tryz.prog 66 #[.agg #[.int .u8 0, .string ⟨#[]⟩, .string ⟨#[]⟩, .bool false, .slice a4 0 n4, .slice a5 0 n5, .slice a6 0 n6, .slice a7 0 n7, .slice a8 0 n8, .slice a9 0 n9, .slice a10 0 n10, .slice a11 0 n11, .slice a12 0 n12, .slice a13 0 n13, .slice a14 0 n14, .int .i64 0]] w fun e w' =>
    e = .returned (.bool true) ∧ Below w.heap.size w w' := by
  have hx := row_alloc w 35 #[.int .u8 0, .string ⟨#[]⟩, .string ⟨#[]⟩, .bool false, .slice a4 0 n4, .slice a5 0 n5, .slice a6 0 n6, .slice a7 0 n7, .slice a8 0 n8, .slice a9 0 n9, .slice a10 0 n10, .slice a11 0 n11, .slice a12 0 n12, .slice a13 0 n13, .slice a14 0 n14, .int .i64 0]
  have HB : Hid (Below w.heap.size w (w.alloc (.cells #[.int .u8 0, .string ⟨#[]⟩, .string ⟨#[]⟩, .bool false, .slice a4 0 n4, .slice a5 0 n5, .slice a6 0 n6, .slice a7 0 n7, .slice a8 0 n8, .slice a9 0 n9, .slice a10 0 n10, .slice a11 0 n11, .slice a12 0 n12, .slice a13 0 n13, .slice a14 0 n14, .int .i64 0] 35))) := Lib.hid ((Below.refl _ _).alloc (Nat.le_refl _) _)
  go_enter Tryz.func66, Tryz.ntmps66
  go_upto_region 1 with fail
  generalize w.alloc (.cells #[.int .u8 0, .string ⟨#[]⟩, .string ⟨#[]⟩, .bool false, .slice a4 0 n4, .slice a5 0 n5, .slice a6 0 n6, .slice a7 0 n7, .slice a8 0 n8, .slice a9 0 n9, .slice a10 0 n10, .slice a11 0 n11, .slice a12 0 n12, .slice a13 0 n13, .slice a14 0 n14, .int .i64 0] 35) = w1 at *
  have c1 := hx.cell (i := 1) (v := .string ⟨#[]⟩) rfl
  have c2 := hx.cell (i := 2) (v := .string ⟨#[]⟩) rfl
  have c3 := hx.cell (i := 3) (v := .bool false) rfl
  have c4 := hx.cell (i := 4) (v := .slice a4 0 n4) rfl
  have c5 := hx.cell (i := 5) (v := .slice a5 0 n5) rfl
  have c6 := hx.cell (i := 6) (v := .slice a6 0 n6) rfl
  have c7 := hx.cell (i := 7) (v := .slice a7 0 n7) rfl
  have c8 := hx.cell (i := 8) (v := .slice a8 0 n8) rfl
  have c9 := hx.cell (i := 9) (v := .slice a9 0 n9) rfl
  have c10 := hx.cell (i := 10) (v := .slice a10 0 n10) rfl
  have c11 := hx.cell (i := 11) (v := .slice a11 0 n11) rfl
  have c12 := hx.cell (i := 12) (v := .slice a12 0 n12) rfl
  have c13 := hx.cell (i := 13) (v := .slice a13 0 n13) rfl
  have c14 := hx.cell (i := 14) (v := .slice a14 0 n14) rfl
  have c15 := hx.cell (i := 15) (v := .int .i64 0) rfl
  have he : (⟨#[]⟩ : ByteArray).toList.isEmpty = true := by rw [ByteArray.toList_eq]; rfl
  clear hx
  go_wp2_with fail
  go_ret
  exact ⟨rfl, HB.out⟩
end Go.Proofs.YtjgkeillmelkoaaGreat.Dt
namespace Go.Proofs.YtjgkeillmelkoaaGreat.Dt
open Go.RowKit Go.Proofs.YtjgkeillmelkoaaGreat.By

/-- What is written of a DELETE. -/
def oDel (t : ByteArray) (l : List PE) : OS := oMaybe ⟨#[87, 72, 69, 82, 69]⟩ l (oName t (oPut ⟨#[68, 69, 76, 69, 84, 69, 32, 70, 82, 79, 77]⟩ ⟨⟨#[]⟩, true⟩))
theorem oMaybe_le (wd : ByteArray) (l : List PE) (o : OS) : o.s.size ≤ (oMaybe wd l o).s.size := by
  unfold oMaybe
  simp only
  split
  · rename_i x
    have h1 := oExpr_le x (oPut wd (oAnd (decide ([x].length ≤ 1)) o))
    have h2 := oPut_le wd (oAnd (decide ([x].length ≤ 1)) o)
    have h3 : (oAnd (decide ([x].length ≤ 1)) o).s.size = o.s.size := rfl
    omega
  · exact Nat.le_refl _
/-- What lies there while a statement is written: the statement, what is left of it, the writer. -/
structure DP (w : World) (r g : Nat) (S Z : Array Value) (o : OS) (W : World) : Prop where
  x : Row w.heap.size 35 S W
  lf : Row g 35 Z W
  ob : OB w r o W
  hr : w.heap.size < r
  hg : r < g
theorem DP.step {w W W' : World} {r g : Nat} {S Z : Array Value} {o o' : OS} (h : DP w r g S Z o W) (hr : ORow r o' W') (k : W.grownBy W' (some r)) : DP w r g S Z o' W' :=
  ⟨h.x.grown k (Nat.ne_of_lt h.hr), h.lf.grown k (Nat.ne_of_gt h.hg), h.ob.post hr k, h.hr, h.hg⟩
theorem DP.left {w W : World} {r g : Nat} {S Z : Array Value} {o : OS} (h : DP w r g S Z o W) (Z' : Array Value) : DP w r g S Z' o (W.setRow g Z') := by
  have h1 := h.hr
  have h2 := h.hg
  exact ⟨(setRow_other _ _ _ _ (by omega)).trans h.x, h.lf.set _, ⟨(setRow_other _ _ _ _ (by omega)).trans h.ob.row, below_setRow' h.ob.hb (by omega) _, h.ob.hr⟩, h1, h2⟩
attribute [local go_sem ↓] veilSt_sm veilLd_sm
attribute [local go_sem] run_smSt run_smNew run_smLd okRow16 Value.oneCell'
set_option maxRecDepth 100000 in
set_option maxHeartbeats 16000000 in
theorem printDelW (t : ByteArray) (l : List PE) (a4 a5 a6 a7 a8 a9 a10 a11 a12 a13 a14 : Option Addr) (n4 n5 n6 n7 n8 n9 n10 n11 n12 n13 n14 : Nat) (w : World) (hn : IsNmW t) (hp : ∀ x ∈ l, PutW x) (hl : ExsR w (.slice a11 l.length n11) l)
    (hok : (oDel t l).ok = true) (hz : (oDel t l).s.size ≤ 4096) : Calls Tryz.prog 34 #[.agg #[.int .u8 7, .string t, .string ⟨#[]⟩, .bool false, .slice a4 0 n4, .slice a5 0 n5, .slice a6 0 n6, .slice a7 0 n7, .slice a8 0 n8, .slice a9 0 n9, .slice a10 0 n10, .slice a11 l.length n11, .slice a12 0 n12, .slice a13 0 n13, .slice a14 0 n14, .int .i64 0]] w fun e w' =>
    e = .returned (.tuple #[.string (oDel t l).s, .int .i64 0]) ∧ Below w.heap.size w w' := by
  have HX := Lib.hid (row_alloc w 35 #[.int .u8 7, .string t, .string ⟨#[]⟩, .bool false, .slice a4 0 n4, .slice a5 0 n5, .slice a6 0 n6, .slice a7 0 n7, .slice a8 0 n8, .slice a9 0 n9, .slice a10 0 n10, .slice a11 l.length n11, .slice a12 0 n12, .slice a13 0 n13, .slice a14 0 n14, .int .i64 0])
  have HB1 : Hid (Below w.heap.size w (w.alloc (.cells #[.int .u8 7, .string t, .string ⟨#[]⟩, .bool false, .slice a4 0 n4, .slice a5 0 n5, .slice a6 0 n6, .slice a7 0 n7, .slice a8 0 n8, .slice a9 0 n9, .slice a10 0 n10, .slice a11 l.length n11, .slice a12 0 n12, .slice a13 0 n13, .slice a14 0 n14, .int .i64 0] 35))) := Lib.hid ((Below.refl _ _).alloc (Nat.le_refl _) _)
  have HL := Lib.hid (exsR_below hl HB1.out)
  have HN := Lib.hid hn
  have HP := Lib.hid hp
  have HOK := Lib.hid hok
  have HZ := Lib.hid hz
  obtain ⟨RES, hRES⟩ : ∃ z, oDel t l = z := ⟨_, rfl⟩
  rw [hRES] at HOK HZ ⊢
  have HRES := Lib.hid hRES
  have HL0 := Lib.hid hl
  clear hl hn hp hok hz hRES
  go_enter Tryz.func34, Tryz.ntmps34
  go_upto_region 1 with fail
  generalize w.alloc (.cells #[.int .u8 7, .string t, .string ⟨#[]⟩, .bool false, .slice a4 0 n4, .slice a5 0 n5, .slice a6 0 n6, .slice a7 0 n7, .slice a8 0 n8, .slice a9 0 n9, .slice a10 0 n10, .slice a11 l.length n11, .slice a12 0 n12, .slice a13 0 n13, .slice a14 0 n14, .int .i64 0] 35) = w1 at *
  go_upto_region 2 with fail
  have hb2 := (Below.refl _ w1).alloc (Nat.le_refl _) (.cells #[.string ⟨#[]⟩, .bool true] 128)
  have HO2 := Lib.hid (row_alloc w1 128 #[.string ⟨#[]⟩, .bool true])
  have HX2 := Lib.hid (HX.out.later hb2)
  have HB2 := Lib.hid (next HB1.out hb2)
  have HLT : Hid (w.heap.size < w1.heap.size) := Lib.hid HX.out.lt
  have HSZ : Hid ((w1.alloc (.cells #[.string ⟨#[]⟩, .bool true] 128)).heap.size = w1.heap.size + 1) := Lib.hid (by simp)
  clear hb2 HX HB1 HL
  generalize w1.alloc (.cells #[.string ⟨#[]⟩, .bool true] 128) = w2 at *
  generalize w1.heap.size = r at *
  have hb := HX2.out.b (n := 16) rfl
  have ho := HX2.out.of
  go_upto_region 3 with fail
  clear hb ho
  have hb3 := (Below.refl _ w2).alloc (Nat.le_refl _) (.cells #[.int .u8 7, .string t, .string ⟨#[]⟩, .bool false, .slice a4 0 n4, .slice a5 0 n5, .slice a6 0 n6, .slice a7 0 n7, .slice a8 0 n8, .slice a9 0 n9, .slice a10 0 n10, .slice a11 l.length n11, .slice a12 0 n12, .slice a13 0 n13, .slice a14 0 n14, .int .i64 0] 35)
  have HG3 := Lib.hid (row_alloc w2 35 #[.int .u8 7, .string t, .string ⟨#[]⟩, .bool false, .slice a4 0 n4, .slice a5 0 n5, .slice a6 0 n6, .slice a7 0 n7, .slice a8 0 n8, .slice a9 0 n9, .slice a10 0 n10, .slice a11 l.length n11, .slice a12 0 n12, .slice a13 0 n13, .slice a14 0 n14, .int .i64 0])
  have HX3 := Lib.hid (HX2.out.later hb3)
  have HO3 := Lib.hid (HO2.out.later hb3)
  have HB3 := Lib.hid (next HB2.out hb3)
  clear hb3 HX2 HO2 HB2
  generalize w2.alloc (.cells #[.int .u8 7, .string t, .string ⟨#[]⟩, .bool false, .slice a4 0 n4, .slice a5 0 n5, .slice a6 0 n6, .slice a7 0 n7, .slice a8 0 n8, .slice a9 0 n9, .slice a10 0 n10, .slice a11 l.length n11, .slice a12 0 n12, .slice a13 0 n13, .slice a14 0 n14, .int .i64 0] 35) = w3 at *
  generalize w2.heap.size = g at *
  have d0 := HG3.out.cell (i := 0) (v := .int .u8 7) rfl
  have f0 := HG3.out.free 0
  have hs := setCell_eq_setRow w3 g 0 _ _ _ (.int .u8 0) HG3.out
  have HD4 : Hid (DP w r g #[.int .u8 7, .string t, .string ⟨#[]⟩, .bool false, .slice a4 0 n4, .slice a5 0 n5, .slice a6 0 n6, .slice a7 0 n7, .slice a8 0 n8, .slice a9 0 n9, .slice a10 0 n10, .slice a11 l.length n11, .slice a12 0 n12, .slice a13 0 n13, .slice a14 0 n14, .int .i64 0] #[.int .u8 0, .string t, .string ⟨#[]⟩, .bool false, .slice a4 0 n4, .slice a5 0 n5, .slice a6 0 n6, .slice a7 0 n7, .slice a8 0 n8, .slice a9 0 n9, .slice a10 0 n10, .slice a11 l.length n11, .slice a12 0 n12, .slice a13 0 n13, .slice a14 0 n14, .int .i64 0] ⟨⟨#[]⟩, true⟩ (w3.setCell ⟨g, 0, none⟩ (.int .u8 0))) := Lib.hid (by
    have h1 := HLT.out
    have h2 := HSZ.out
    rw [hs]
    exact ⟨(setRow_other _ _ _ _ (by omega)).trans HX3.out, HG3.out.set _, ⟨(setRow_other _ _ _ _ (by omega)).trans HO3.out, below_setRow' HB3.out (by omega) _, by omega⟩, h1, by omega⟩)
  clear hs HG3 HX3 HO3 HB3
  go_upto_region 4 with fail
  clear d0 f0
  generalize w3.setCell ⟨g, 0, none⟩ (.int .u8 0) = w4 at *
  have c0 := HD4.out.x.cell (i := 0) (v := .int .u8 7) rfl
  have HC := Lib.hid (oputW r ⟨⟨#[]⟩, true⟩ ⟨#[68, 69, 76, 69, 84, 69, 32, 70, 82, 79, 77]⟩ w4 HD4.out.ob.row (by decide))
  go_wp2_with fail
  refine HC.out.mono ?_
  rintro e5 w5 ⟨rfl, hr5, hg5⟩
  have HD5 := Lib.hid (HD4.out.step hr5 hg5)
  clear hr5 hg5 HC HD4 c0
  have c1 := HD5.out.x.cell (i := 1) (v := .string t) rfl
  have HSA : Hid ((oPut ⟨#[68, 69, 76, 69, 84, 69, 32, 70, 82, 79, 77]⟩ ⟨⟨#[]⟩, true⟩).s.size + t.size ≤ 1000000000) := Lib.hid (by
    have h1 := HZ.out
    rw [← HRES.out] at h1
    have h2 := oMaybe_le ⟨#[87, 72, 69, 82, 69]⟩ l (oName t (oPut ⟨#[68, 69, 76, 69, 84, 69, 32, 70, 82, 79, 77]⟩ ⟨⟨#[]⟩, true⟩))
    have h3 := oName_le t (oPut ⟨#[68, 69, 76, 69, 84, 69, 32, 70, 82, 79, 77]⟩ ⟨⟨#[]⟩, true⟩)
    unfold oDel at h1
    omega)
  have HC := Lib.hid (onameW r _ t w5 HN.out HD5.out.ob.row HSA.out)
  go_wp2_with fail
  refine HC.out.mono ?_
  rintro e6 w6 ⟨rfl, hr6, hg6⟩
  have HD6 := Lib.hid (HD5.out.step hr6 hg6)
  clear hr6 hg6 HC HD5 c1
  have c11 := HD6.out.x.cell (i := 11) (v := .slice a11 l.length n11) rfl
  have HC := Lib.hid (omaybeW w r _ ⟨#[87, 72, 69, 82, 69]⟩ l _ w6 HP.out HL0.out HD6.out.ob (by have h1 := HZ.out; rw [← HRES.out] at h1; unfold oDel at h1; omega))
  go_wp2_with fail
  refine HC.out.mono ?_
  rintro e7 w7 ⟨rfl, hr7, hg7⟩
  have HD7 : Hid (DP w r g #[.int .u8 7, .string t, .string ⟨#[]⟩, .bool false, .slice a4 0 n4, .slice a5 0 n5, .slice a6 0 n6, .slice a7 0 n7, .slice a8 0 n8, .slice a9 0 n9, .slice a10 0 n10, .slice a11 l.length n11, .slice a12 0 n12, .slice a13 0 n13, .slice a14 0 n14, .int .i64 0] #[.int .u8 0, .string t, .string ⟨#[]⟩, .bool false, .slice a4 0 n4, .slice a5 0 n5, .slice a6 0 n6, .slice a7 0 n7, .slice a8 0 n8, .slice a9 0 n9, .slice a10 0 n10, .slice a11 l.length n11, .slice a12 0 n12, .slice a13 0 n13, .slice a14 0 n14, .int .i64 0] RES w7) := Lib.hid (by rw [← HRES.out]; exact HD6.out.step hr7 hg7)
  clear hr7 hg7 HC HD6 c11
  have d1 := HD7.out.lf.cell (i := 1) (v := .string t) rfl
  have d11 := HD7.out.lf.cell (i := 11) (v := .slice a11 l.length n11) rfl
  have f1 := HD7.out.lf.free 1
  have f11 := HD7.out.lf.free 11
  have hs1 := setCell_eq_setRow w7 g 1 _ _ _ (.string ⟨#[]⟩) HD7.out.lf
  have HD8 : Hid (DP w r g #[.int .u8 7, .string t, .string ⟨#[]⟩, .bool false, .slice a4 0 n4, .slice a5 0 n5, .slice a6 0 n6, .slice a7 0 n7, .slice a8 0 n8, .slice a9 0 n9, .slice a10 0 n10, .slice a11 l.length n11, .slice a12 0 n12, .slice a13 0 n13, .slice a14 0 n14, .int .i64 0] #[.int .u8 0, .string ⟨#[]⟩, .string ⟨#[]⟩, .bool false, .slice a4 0 n4, .slice a5 0 n5, .slice a6 0 n6, .slice a7 0 n7, .slice a8 0 n8, .slice a9 0 n9, .slice a10 0 n10, .slice a11 l.length n11, .slice a12 0 n12, .slice a13 0 n13, .slice a14 0 n14, .int .i64 0] RES (w7.setCell ⟨g, 1, none⟩ (.string ⟨#[]⟩))) := Lib.hid (by rw [hs1]; exact HD7.out.left _)
  have hs2 := setCell_eq_setRow (w7.setCell ⟨g, 1, none⟩ (.string ⟨#[]⟩)) g 11 _ _ _ (.slice none 0 0) HD8.out.lf
  have HD9 : Hid (DP w r g #[.int .u8 7, .string t, .string ⟨#[]⟩, .bool false, .slice a4 0 n4, .slice a5 0 n5, .slice a6 0 n6, .slice a7 0 n7, .slice a8 0 n8, .slice a9 0 n9, .slice a10 0 n10, .slice a11 l.length n11, .slice a12 0 n12, .slice a13 0 n13, .slice a14 0 n14, .int .i64 0] #[.int .u8 0, .string ⟨#[]⟩, .string ⟨#[]⟩, .bool false, .slice a4 0 n4, .slice a5 0 n5, .slice a6 0 n6, .slice a7 0 n7, .slice a8 0 n8, .slice a9 0 n9, .slice a10 0 n10, .slice none 0 0, .slice a12 0 n12, .slice a13 0 n13, .slice a14 0 n14, .int .i64 0] RES ((w7.setCell ⟨g, 1, none⟩ (.string ⟨#[]⟩)).setCell ⟨g, 11, none⟩ (.slice none 0 0))) := Lib.hid (by rw [hs2]; exact HD8.out.left _)
  clear hs1 hs2 HD7 HD8
  go_upto_region 91 with fail
  clear d1 d11 f1 f11
  generalize (w7.setCell ⟨g, 1, none⟩ (.string ⟨#[]⟩)).setCell ⟨g, 11, none⟩ (.slice none 0 0) = w9 at *
  obtain ⟨rs, rk⟩ := RES
  obtain rfl : rk = true := HOK.out
  have hz9 : ¬ (4096 : Int) < (rs.size : Int) := by have h := HZ.out; show ¬ _; have h' : rs.size ≤ 4096 := h; omega
  have o0 := HD9.out.ob.row.cell (i := 0) (v := .string rs) rfl
  have o1 := HD9.out.ob.row.cell (i := 1) (v := .bool true) rfl
  have hb := HD9.out.lf.b (n := 16) rfl
  have ho := HD9.out.lf.of
  have HC := Lib.hid (emptyW a4 a5 a6 a7 a8 a9 a10 none a12 a13 a14 n4 n5 n6 n7 n8 n9 n10 0 n12 n13 n14 w9)
  go_wp2_with fail
  refine HC.out.mono ?_
  rintro e10 w10 ⟨rfl, hb10⟩
  have HBZ := Lib.hid (HD9.out.ob.hb.trans (hb10.mono HD9.out.ob.hb.size))
  have p0 := (hb10.cell (cell_lt o0)).trans o0
  clear hb10 o0 o1 hb ho HC HD9
  go_wp2_with fail
  go_ret2
  exact ⟨rfl, HBZ.out⟩
end Go.Proofs.YtjgkeillmelkoaaGreat.Dt
namespace Go.Proofs.YtjgkeillmelkoaaGreat.Dt
open Go.RowKit Go.Proofs.YtjgkeillmelkoaaGreat.By

structure PIx where
  name : ByteArray
  cols : List Int
  uniq : Bool
structure PTb where
  name : ByteArray
  cols : List PCol
  key : List Int
  ixs : List PIx
def IntR (_ : World) (c : List Value) (n : Int) : Prop := c = [.int .i64 n]
abbrev IntsR (w : World) (v : Value) (l : List Int) : Prop := SlR 1 IntR w v l
def IxR (w : World) (c : List Value) (x : PIx) : Prop := ∃ v, c = [.string x.name, v, .bool x.uniq] ∧ IntsR w v x.cols
def TbR (w : World) (c : List Value) (x : PTb) : Prop := ∃ cv kv iv, c = [.string x.name, cv, kv, iv] ∧ SlR 3 ColR w cv x.cols ∧ IntsR w kv x.key ∧ SlR 3 IxR w iv x.ixs
abbrev CatR (w : World) (v : Value) (l : List PTb) : Prop := SlR 4 TbR w v l
/-- The place of the first one that is so; -1: there is none. -/
def idxL {α : Type} (p : α → Bool) : List α → Nat → Int
  | [], _ => -1
  | x :: l, i => if p x then (i : Int) else idxL p l (i + 1)
theorem dropC {α : Type} {l : List α} {i : Nat} {x : α} (h : l[i]? = some x) : l.drop i = x :: l.drop (i + 1) := by
  obtain ⟨hlt, e⟩ := List.getElem?_eq_some_iff.1 h
  rw [List.drop_eq_getElem_cons hlt, e]
theorem idx_yes {α : Type} {p : α → Bool} {l : List α} {i : Nat} {x : α} (h : l[i]? = some x) (hp : p x = true) : idxL p (l.drop i) i = (i : Int) := by rw [dropC h, idxL, if_pos hp]
theorem idx_no {α : Type} {p : α → Bool} {l : List α} {i : Nat} {x : α} (h : l[i]? = some x) (hp : p x = false) : idxL p (l.drop i) i = idxL p (l.drop (i + 1)) (i + 1) := by rw [dropC h, idxL, if_neg (by rw [hp]; decide)]
theorem slR_below {α : Type} {size : Nat} {R : World → List Value → α → Prop} (hR : ∀ (w w' : World) (c : List Value) (x : α), R w c x → Below w.heap.size w w' → R w' c x) {w w' : World} {v : Value} {l : List α} (h : SlR size R w v l) (hb : Below w.heap.size w w') : SlR size R w' v l := by
  obtain ⟨cs, ⟨a, c, rfl, hc, h1⟩, hl, h2⟩ := h
  refine ⟨cs, ⟨a, c, rfl, hc, fun i x hi => ?_⟩, hl, fun i c x hi hx => ⟨(h2 i c x hi hx).1, hR _ _ _ _ (h2 i c x hi hx).2 hb⟩⟩
  obtain ⟨b, o, rfl, h3⟩ := h1 i x hi
  exact ⟨b, o, rfl, fun j u hj => (hb.cell (cell_lt (h3 j u hj))).trans (h3 j u hj)⟩
theorem colsR_below {w w' : World} {v : Value} {l : List PCol} (h : SlR 3 ColR w v l) (hb : Below w.heap.size w w') : SlR 3 ColR w' v l := slR_below (fun _ _ _ _ h _ => h) h hb
theorem intsR_below {w w' : World} {v : Value} {l : List Int} (h : IntsR w v l) (hb : Below w.heap.size w w') : IntsR w' v l := slR_below (fun _ _ _ _ h _ => h) h hb
theorem ixsR_below {w w' : World} {v : Value} {l : List PIx} (h : SlR 3 IxR w v l) (hb : Below w.heap.size w w') : SlR 3 IxR w' v l := slR_below (fun _ _ _ _ ⟨v, e, h⟩ hb => ⟨v, e, intsR_below h hb⟩) h hb
theorem catR_below {w w' : World} {v : Value} {l : List PTb} (h : CatR w v l) (hb : Below w.heap.size w w') : CatR w' v l := slR_below (fun _ _ _ _ ⟨cv, kv, iv, e, h1, h2, h3⟩ hb => ⟨cv, kv, iv, e, colsR_below h1 hb, intsR_below h2 hb, ixsR_below h3 hb⟩) h hb
/-- A table's cells, an element of a row of tables. -/
theorem tb_at {w : World} {a : Option Addr} {n c k : Nat} {l : List PTb} {x : PTb} (h : CatR w (.slice a n c) l) (hk : l[k]? = some x) : ∃ b o cv kv iv, a = some ⟨b, o, none⟩ ∧ SlR 3 ColR w cv x.cols ∧ IntsR w kv x.key ∧ SlR 3 IxR w iv x.ixs ∧
    w.cell? ⟨b, o + k * 4, none⟩ = some (.string x.name) ∧ w.cell? ⟨b, o + k * 4 + 1, none⟩ = some cv ∧ w.cell? ⟨b, o + k * 4 + 2, none⟩ = some kv ∧ w.cell? ⟨b, o + k * 4 + 3, none⟩ = some iv := by
  obtain ⟨b, o, cs, rfl, _, ⟨cv, kv, iv, rfl, h1, h2, h3⟩, hc⟩ := h.get hk
  exact ⟨b, o, cv, kv, iv, rfl, h1, h2, h3, hc 0 _ rfl, hc 1 _ rfl, hc 2 _ rfl, hc 3 _ rfl⟩
theorem col_at {w : World} {a : Option Addr} {n c k : Nat} {l : List PCol} {x : PCol} (h : SlR 3 ColR w (.slice a n c) l) (hk : l[k]? = some x) : ∃ b o, a = some ⟨b, o, none⟩ ∧
    w.cell? ⟨b, o + k * 3, none⟩ = some (.string x.name) ∧ w.cell? ⟨b, o + k * 3 + 1, none⟩ = some (.int .u8 (x.ty : Int)) ∧ w.cell? ⟨b, o + k * 3 + 2, none⟩ = some (.bool x.nn) := by
  obtain ⟨b, o, cs, rfl, _, rfl, hc⟩ := h.get hk
  exact ⟨b, o, rfl, hc 0 _ rfl, hc 1 _ rfl, hc 2 _ rfl⟩
theorem ix_at {w : World} {a : Option Addr} {n c k : Nat} {l : List PIx} {x : PIx} (h : SlR 3 IxR w (.slice a n c) l) (hk : l[k]? = some x) : ∃ b o v, a = some ⟨b, o, none⟩ ∧ IntsR w v x.cols ∧
    w.cell? ⟨b, o + k * 3, none⟩ = some (.string x.name) ∧ w.cell? ⟨b, o + k * 3 + 1, none⟩ = some v ∧ w.cell? ⟨b, o + k * 3 + 2, none⟩ = some (.bool x.uniq) := by
  obtain ⟨b, o, cs, rfl, _, ⟨v, rfl, h1⟩, hc⟩ := h.get hk
  exact ⟨b, o, v, rfl, h1, hc 0 _ rfl, hc 1 _ rfl, hc 2 _ rfl⟩
theorem int_at {w : World} {a : Option Addr} {n c k : Nat} {l : List Int} {x : Int} (h : IntsR w (.slice a n c) l) (hk : l[k]? = some x) : ∃ b o, a = some ⟨b, o, none⟩ ∧ w.cell? ⟨b, o + k, none⟩ = some (.int .i64 x) := by
  obtain ⟨b, o, cs, rfl, _, rfl, hc⟩ := h.get hk
  have h0 := hc 0 _ rfl
  rw [Nat.mul_one, Nat.add_zero] at h0
  exact ⟨b, o, rfl, h0⟩
set_option maxRecDepth 100000 in
set_option maxHeartbeats 4000000 in
theorem hasW (l : List Int) (a : Option Addr) (c : Nat) (n : Int) (w : World) (hl : l.length ≤ 1000000) (h : IntsR w (.slice a l.length c) l) :
    Calls Tryz.prog 69 #[.slice a l.length c, .int .i64 n] w fun e w' => e = .returned (.bool (l.any fun x => x == n)) ∧ w = w' := by
  have H := Lib.hid h
  obtain ⟨R, hR⟩ : ∃ R, R = (l.any fun x => x == n) := ⟨_, rfl⟩
  rw [← hR]
  have HR := Lib.hid hR
  have HL := Lib.hid hl
  clear h hR hl
  go_enter Tryz.func69, Tryz.ntmps69
  go_wp2_with fail
  go_loopg [5] l.length (fun gk iv wr => ∃ i : Nat, iv = .int .i64 (i : Int) ∧ gk = l.length - i ∧ i ≤ l.length ∧ Hid (R = ((l.drop i).any fun x => x == n)) ∧ w = wr)
  case atStart => exact ⟨0, rfl, rfl, Nat.zero_le _, HR, rfl⟩
  case round =>
    obtain ⟨i, rfl, rfl, hi, HI, rfl⟩ := hrel
    by_cases hlt : i < l.length
    · obtain ⟨x, hx⟩ : ∃ x, l[i]? = some x := ⟨l[i], by simp⟩
      obtain ⟨b, o, rfl, c0⟩ := int_at H.out hx
      have ilt : (i : Int) < (l.length : Int) := by omega
      have ige : (0 : Int) ≤ (i : Int) := by omega
      have HD := Lib.hid (dropC hx)
      have HLT := Lib.hid hlt
      have i3 : wrap64 ((i : Int) + 1) = ((i + 1 : Nat) : Int) := by have := HL.out; unfold wrap64; omega
      obtain ⟨B, hB⟩ : ∃ B, (x == n) = B := ⟨_, rfl⟩
      have HI2 : Hid (R = (B || ((l.drop (i + 1)).any fun x => x == n))) := Lib.hid (by rw [HI.out, HD.out, List.any_cons, hB])
      clear hx hlt HI
      cases B with
      | true =>
        go_wp2_with fail
        go_ret
        exact ⟨by rw [HI2.out]; rfl, rfl⟩
      | false =>
        go_wp2_with fail
        go_roundg (l.length - (i + 1))
        case measure => exact Nat.sub_lt_sub_left HLT.out (Nat.lt_succ_self _)
        case rel => exact ⟨i + 1, by go_num, rfl, HLT.out, Lib.hid (by rw [HI2.out]; rfl), rfl⟩
    · obtain rfl : i = l.length := by omega
      have HF : Hid (R = false) := Lib.hid (by rw [HI.out, List.drop_length]; rfl)
      clear hlt hi
      go_wp2_with fail
      go_ret
      exact ⟨by rw [HF.out]; rfl, rfl⟩
end Go.Proofs.YtjgkeillmelkoaaGreat.Dt
namespace Go.Proofs.YtjgkeillmelkoaaGreat.Dt
open Go.RowKit Go.Proofs.YtjgkeillmelkoaaGreat.By

theorem str_dec (s t : ByteArray) : (s.toList == t.toList) = decide (s = t) := str_eq s t
set_option maxRecDepth 100000 in
set_option maxHeartbeats 4000000 in
theorem findW (l : List PTb) (a : Option Addr) (c : Nat) (s : ByteArray) (w : World) (hl : l.length ≤ 1000000) (h : CatR w (.slice a l.length c) l) :
    Calls Tryz.prog 37 #[.slice a l.length c, .string s] w fun e w' => e = .returned (.int .i64 (idxL (fun x => decide (x.name = s)) l 0)) ∧ w = w' := by
  have H := Lib.hid h
  obtain ⟨R, hR⟩ : ∃ R, R = idxL (fun x : PTb => decide (x.name = s)) l 0 := ⟨_, rfl⟩
  rw [← hR]
  have HR := Lib.hid hR
  have HL := Lib.hid hl
  clear h hR hl
  go_enter Tryz.func37, Tryz.ntmps37
  go_wp2_with fail
  go_loopg [5] l.length (fun gk iv wr => ∃ i : Nat, iv = .int .i64 (i : Int) ∧ gk = l.length - i ∧ i ≤ l.length ∧ Hid (R = idxL (fun x : PTb => decide (x.name = s)) (l.drop i) i) ∧ w = wr)
  case atStart => exact ⟨0, rfl, rfl, Nat.zero_le _, HR, rfl⟩
  case round =>
    obtain ⟨i, rfl, rfl, hi, HI, rfl⟩ := hrel
    by_cases hlt : i < l.length
    · obtain ⟨x, hx⟩ : ∃ x, l[i]? = some x := ⟨l[i], by simp⟩
      obtain ⟨b, o, cv, kv, iv, rfl, _, _, _, c0, _, _, _⟩ := tb_at H.out hx
      have ilt : (i : Int) < (l.length : Int) := by omega
      have ige : (0 : Int) ≤ (i : Int) := by omega
      have HX := Lib.hid hx
      have HLT := Lib.hid hlt
      have i3 : wrap64 ((i : Int) + 1) = ((i + 1 : Nat) : Int) := by have := HL.out; unfold wrap64; omega
      have es := str_dec x.name s
      obtain ⟨B, hB⟩ : ∃ B, decide (x.name = s) = B := ⟨_, rfl⟩
      rw [hB] at es
      have HB := Lib.hid hB
      clear hx hlt hB
      cases B with
      | true =>
        have HF : Hid (R = (i : Int)) := Lib.hid (by rw [HI.out, idx_yes HX.out HB.out])
        go_wp2_with fail
        go_ret
        exact ⟨by rw [HF.out]; rfl, rfl⟩
      | false =>
        have HF : Hid (R = idxL (fun x : PTb => decide (x.name = s)) (l.drop (i + 1)) (i + 1)) := Lib.hid (by rw [HI.out, idx_no HX.out HB.out])
        go_wp2_with fail
        go_roundg (l.length - (i + 1))
        case measure => exact Nat.sub_lt_sub_left HLT.out (Nat.lt_succ_self _)
        case rel => exact ⟨i + 1, by go_num, rfl, HLT.out, HF, rfl⟩
    · obtain rfl : i = l.length := by omega
      have HF : Hid (R = -1) := Lib.hid (by rw [HI.out, List.drop_length]; rfl)
      clear hlt hi
      go_wp2_with fail
      go_ret
      exact ⟨by rw [HF.out]; rfl, rfl⟩
set_option maxRecDepth 100000 in
set_option maxHeartbeats 4000000 in
theorem columnW (l : List PCol) (a ka ia : Option Addr) (c kn kc inn ic : Nat) (nm s : ByteArray) (w : World) (hl : l.length ≤ 1000000) (h : SlR 3 ColR w (.slice a l.length c) l) :
    Calls Tryz.prog 40 #[.agg #[.string nm, .slice a l.length c, .slice ka kn kc, .slice ia inn ic], .string s] w fun e w' => e = .returned (.int .i64 (idxL (fun x => decide (x.name = s)) l 0)) ∧ Below w.heap.size w w' := by
  have HBB : Hid (Below w.heap.size w (w.alloc (.cells #[.string nm, .slice a l.length c, .slice ka kn kc, .slice ia inn ic] 59))) := Lib.hid ((Below.refl _ _).alloc (Nat.le_refl _) _)
  have HX := Lib.hid (row_alloc w 59 #[.string nm, .slice a l.length c, .slice ka kn kc, .slice ia inn ic])
  have H0 := Lib.hid h
  obtain ⟨R, hR⟩ : ∃ R, R = idxL (fun x : PCol => decide (x.name = s)) l 0 := ⟨_, rfl⟩
  rw [← hR]
  have HR := Lib.hid hR
  have HL := Lib.hid hl
  have H : Hid (SlR 3 ColR (w.alloc (.cells #[.string nm, .slice a l.length c, .slice ka kn kc, .slice ia inn ic] 59)) (.slice a l.length c) l) := Lib.hid (colsR_below h HBB.out)
  clear h hR hl
  go_enter Tryz.func40, Tryz.ntmps40
  go_upto_region 1 with fail
  generalize w.alloc (.cells #[.string nm, .slice a l.length c, .slice ka kn kc, .slice ia inn ic] 59) = w1 at *
  have c1 := HX.out.cell (i := 1) (v := .slice a l.length c) rfl
  go_wp2_with fail
  go_loopg [5] l.length (fun gk iv wr => ∃ i : Nat, iv = .int .i64 (i : Int) ∧ gk = l.length - i ∧ i ≤ l.length ∧ Hid (R = idxL (fun x : PCol => decide (x.name = s)) (l.drop i) i) ∧ w1 = wr)
  case atStart => exact ⟨0, rfl, rfl, Nat.zero_le _, HR, rfl⟩
  case round =>
    obtain ⟨i, rfl, rfl, hi, HI, rfl⟩ := hrel
    by_cases hlt : i < l.length
    · obtain ⟨x, hx⟩ : ∃ x, l[i]? = some x := ⟨l[i], by simp⟩
      obtain ⟨b, o, rfl, c0, _, _⟩ := col_at H.out hx
      have ilt : (i : Int) < (l.length : Int) := by omega
      have ige : (0 : Int) ≤ (i : Int) := by omega
      have HXX := Lib.hid hx
      have HLT := Lib.hid hlt
      have i3 : wrap64 ((i : Int) + 1) = ((i + 1 : Nat) : Int) := by have := HL.out; unfold wrap64; omega
      have es := str_dec x.name s
      obtain ⟨B, hB⟩ : ∃ B, decide (x.name = s) = B := ⟨_, rfl⟩
      rw [hB] at es
      have HB := Lib.hid hB
      clear hx hlt hB
      cases B with
      | true =>
        have HF : Hid (R = (i : Int)) := Lib.hid (by rw [HI.out, idx_yes HXX.out HB.out])
        go_wp2_with fail
        go_ret
        exact ⟨by rw [HF.out]; rfl, HBB.out⟩
      | false =>
        have HF : Hid (R = idxL (fun x : PCol => decide (x.name = s)) (l.drop (i + 1)) (i + 1)) := Lib.hid (by rw [HI.out, idx_no HXX.out HB.out])
        go_wp2_with fail
        go_roundg (l.length - (i + 1))
        case measure => exact Nat.sub_lt_sub_left HLT.out (Nat.lt_succ_self _)
        case rel => exact ⟨i + 1, by go_num, rfl, HLT.out, HF, rfl⟩
    · obtain rfl : i = l.length := by omega
      have HF : Hid (R = -1) := Lib.hid (by rw [HI.out, List.drop_length]; rfl)
      clear hlt hi
      go_wp2_with fail
      go_ret
      exact ⟨by rw [HF.out]; rfl, HBB.out⟩
end Go.Proofs.YtjgkeillmelkoaaGreat.Dt
