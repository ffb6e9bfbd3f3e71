/-
  The walk of the laws' own 'two': an operation of two values.
-/
import Derived.Test.YtclkpbokngamiaaEvalLaw
import Derived.Test.YtclkpbokngamiaaLaterTail
import Derived.Laws.IdiomCopy
namespace Go.Proofs.Ytclkpbokngamiaa.Dt
open Go.RowKit Go.Proofs.Ytclkpbokngamiaa.By

/-- An expression's box, that nothing has been laid into; filled. -/
theorem exBox_new (w : World) (t : TypeId) : Box w.heap.size [.int .u8 0, .int .u8 0, .int .i64 0, .string ⟨#[]⟩, .string ⟨#[]⟩, .string ⟨#[]⟩, .int .i64 0, .slice none 0 0] (w.alloc (.cells #[.int .u8 0, .int .u8 0, .int .i64 0, .string ⟨#[]⟩, .string ⟨#[]⟩, .string ⟨#[]⟩, .int .i64 0, .slice none 0 0] t)) := by
  intro i u hu
  rcases i with _ | _ | _ | _ | _ | _ | _ | _ | i <;> simp at hu <;> subst hu <;> exact ⟨by go_simp, by go_simp⟩
theorem filled8 {w : World} {k : Nat} {a0 a1 a2 a3 a4 a5 a6 a7 : Value} (h : Box k [a0, a1, a2, a3, a4, a5, a6, a7] w) (b0 b1 b2 b3 b4 b5 b6 b7 : Value) :
    Box k [b0, b1, b2, b3, b4, b5, b6, b7] ((((((((w.setCell ⟨k, 0, none⟩ b0).setCell ⟨k, 1, none⟩ b1).setCell ⟨k, 2, none⟩ b2).setCell ⟨k, 3, none⟩ b3).setCell ⟨k, 4, none⟩ b4).setCell ⟨k, 5, none⟩ b5).setCell ⟨k, 6, none⟩ b6).setCell ⟨k, 7, none⟩ b7) :=
  (((((((h.set (i := 0) (u := b0) (by simp)).set (i := 1) (u := b1) (by simp)).set (i := 2) (u := b2) (by simp)).set (i := 3) (u := b3) (by simp)).set (i := 4) (u := b4) (by simp)).set (i := 5) (u := b5) (by simp)).set (i := 6) (u := b6) (by simp)).set (i := 7) (u := b7) (by simp)
theorem at8s (l : List Ex) (b : Nat) (w : World) (hb : ∀ (i : Nat) (x : Ex), l[i]? = some x → ∀ j u, x.cells[j]? = some u → w.cell? ⟨b, i * 8 + j, none⟩ = some u) : SlAt 8 Ex.cells w (.slice (some ⟨b, 0, none⟩) l.length l.length) l :=
  ⟨_, _, rfl, Nat.le_refl _, fun i x hx => ⟨b, 0, rfl, fun j u hu => by rw [Nat.zero_add]; exact hb i x hx j u hu⟩⟩

/-! A store of a whole expression, in one step. -/
def veilStore (a : Addr) (v : Value) := storeVar 27 a v
theorem veil_store (a : Addr) (v : Value) : storeVar 27 a v = veilStore a v := rfl
theorem ex_size : (Try.prog.info? 27).map (·.size) = some 8 := by kernel_rfl
theorem run_veil (W : World) (k : Nat) (p q : Int) (n m : Int) (s t u : ByteArray) (ad : Option Addr) (l c : Nat) (h0 : W.cell? ⟨k, 0, none⟩ = some (.int .u8 0)) (h1 : W.cell? ⟨k, 1, none⟩ = some (.int .u8 0)) (h2 : W.cell? ⟨k, 2, none⟩ = some (.int .i64 0)) (h3 : W.cell? ⟨k, 3, none⟩ = some (.string ⟨#[]⟩))
    (h4 : W.cell? ⟨k, 4, none⟩ = some (.string ⟨#[]⟩)) (h5 : W.cell? ⟨k, 5, none⟩ = some (.string ⟨#[]⟩)) (h6 : W.cell? ⟨k, 6, none⟩ = some (.int .i64 0)) (h7 : W.cell? ⟨k, 7, none⟩ = some (.slice none 0 0))
    (f0 : W.frozen? ⟨k, 0, none⟩ = false) (f1 : W.frozen? ⟨k, 1, none⟩ = false) (f2 : W.frozen? ⟨k, 2, none⟩ = false) (f3 : W.frozen? ⟨k, 3, none⟩ = false)
    (f4 : W.frozen? ⟨k, 4, none⟩ = false) (f5 : W.frozen? ⟨k, 5, none⟩ = false) (f6 : W.frozen? ⟨k, 6, none⟩ = false) (f7 : W.frozen? ⟨k, 7, none⟩ = false) :
    (veilStore ⟨k, 0, none⟩ (.agg #[.int .u8 p, .int .u8 q, .int .i64 n, .string s, .string t, .string u, .int .i64 m, .slice ad l c])).run Try.prog W = .ok () (W.setCells k 0 [.int .u8 p, .int .u8 q, .int .i64 n, .string s, .string t, .string u, .int .i64 m, .slice ad l c]) := by
  have hst := run_storeCells_cells (P := Try.prog) k 0 [.int .u8 p, .int .u8 q, .int .i64 n, .string s, .string t, .string u, .int .i64 m, .slice ad l c] 0 W
    (fun j hj => by
      rcases j with _ | _ | _ | _ | _ | _ | _ | _ | j
      · exact Option.isSome_iff_exists.2 ⟨_, h0⟩
      · exact Option.isSome_iff_exists.2 ⟨_, h1⟩
      · exact Option.isSome_iff_exists.2 ⟨_, h2⟩
      · exact Option.isSome_iff_exists.2 ⟨_, h3⟩
      · exact Option.isSome_iff_exists.2 ⟨_, h4⟩
      · exact Option.isSome_iff_exists.2 ⟨_, h5⟩
      · exact Option.isSome_iff_exists.2 ⟨_, h6⟩
      · exact Option.isSome_iff_exists.2 ⟨_, h7⟩
      · simp at hj; omega)
    (fun j hj => by
      rcases j with _ | _ | _ | _ | _ | _ | _ | _ | j
      · exact f0
      · exact f1
      · exact f2
      · exact f3
      · exact f4
      · exact f5
      · exact f6
      · exact f7
      · simp at hj; omega)
    (fun v hv => by simp at hv; rcases hv with rfl | rfl | rfl | rfl | rfl | rfl | rfl | rfl <;> rfl)
  have hs := ex_size
  cases hq : Try.prog.info? 27 with
  | none => simp [hq] at hs
  | some i =>
    have hi : i.size = 8 := by simpa [hq] using hs
    simp [veilStore, storeVar, sizeOf, typeInfo, hq, Value.cells, hi, hst]
theorem ofL8 (op : Nat) (a : Option Addr) (n c : Nat) (w : World) : Calls Try.prog 9 #[.int .u8 (op : Int), .slice a n c] w fun e w' =>
    e = .returned (.agg #[.int .u8 (op : Int), .int .u8 0, .int .i64 0, .string ⟨#[]⟩, .string ⟨#[]⟩, .string ⟨#[]⟩, .int .i64 0, .slice a n c]) ∧ Below w.heap.size w w' := ofL op a n c [] w
theorem below_sets {B j : Nat} {w : World} (hj : B ≤ j) : ∀ (cs : List Value) (o : Nat) (W : World), Below B w W → Below B w (W.setCells j o cs)
  | [], _, _, h => h
  | _ :: cs, o, _, h => below_sets hj cs (o + 1) _ (below_set h hj)
theorem box_sets {k : Nat} {cs : List Value} {W : World} (h : Box k cs W) (cs' : List Value) (hl : cs'.length = cs.length) : Box k cs' (W.setCells k 0 cs') := fun i u hu => by
  obtain ⟨hi, rfl⟩ := List.getElem?_eq_some_iff.1 hu
  refine ⟨?_, ?_⟩
  · have := World.cell?_setCells_in k cs' 0 W (fun j hj => by
      rw [Nat.zero_add]
      exact Option.isSome_iff_exists.2 ⟨_, (h j cs[j] (by simp only [List.getElem?_eq_getElem (show j < cs.length by omega)])).1⟩) i hi
    rwa [Nat.zero_add] at this
  · rw [World.frozen?_setCells]
    exact (h i cs[i] (by simp only [List.getElem?_eq_getElem (show i < cs.length by omega)])).2
theorem slAt_sets {α : Type} {size : Nat} {cells : α → List Value} {W : World} {b n c k : Nat} {l : List α} (h : SlAt size cells W (.slice (Option.some ⟨b, 0, none⟩) n c) l) (hb : b ≠ k) (cs : List Value) (o : Nat) : SlAt size cells (W.setCells k o cs) (.slice (Option.some ⟨b, 0, none⟩) n c) l := by
  obtain ⟨a, c', e, hc, h⟩ := h
  simp only [Value.slice.injEq] at e
  obtain ⟨rfl, rfl, rfl⟩ := e
  refine ⟨_, _, rfl, hc, fun i x hx => ?_⟩
  obtain ⟨b', o', e, h'⟩ := h i x hx
  refine ⟨b', o', e, fun j u hu => ?_⟩
  simp only [Option.some.injEq, Addr.mk.injEq] at e
  rw [World.cell?_setCells_out k cs o W ⟨b', o' + i * size + j, none⟩ (fun h1 _ => absurd (e.1.trans h1) hb)]
  exact h' j u hu

attribute [local go_sem ↓] veil_store
attribute [local go_sem] run_veil

def two8 (a b : V) : Array Value := #[.int .u8 ((exV a).op : Int), .int .u8 ((exV a).v.k : Int), .int .i64 (exV a).v.n, .string (exV a).v.s, .string (exV a).t, .string (exV a).m, .int .i64 (exV a).n, (exV a).kv, .int .u8 ((exV b).op : Int), .int .u8 ((exV b).v.k : Int), .int .i64 (exV b).v.n, .string (exV b).v.s, .string (exV b).t, .string (exV b).m, .int .i64 (exV b).n, (exV b).kv]

set_option maxRecDepth 100000 in
set_option maxHeartbeats 4000000 in
theorem twoL (op : Nat) (a b : V) (w : World) : Calls Try.prog 16 #[.int .u8 (op : Int), a.val, b.val] w fun e w' =>
    (∃ kv, e = .returned (exOf op kv [exV a, exV b]).val ∧ SlAt 8 Ex.cells w' kv [exV a, exV b]) ∧ Below w.heap.size w w' := by
  have hbA : Below w.heap.size w (((w.alloc (.cells #[.int .u8 (a.k : Int), .int .i64 a.n, .string a.s] 23)).alloc (.cells #[.int .u8 (b.k : Int), .int .i64 b.n, .string b.s] 23)).alloc (.cells #[.int .u8 0, .int .u8 0, .int .i64 0, .string ⟨#[]⟩, .string ⟨#[]⟩, .string ⟨#[]⟩, .int .i64 0, .slice none 0 0] 27)) := by go_grown
  have hbx := exBox_new ((w.alloc (.cells #[.int .u8 (a.k : Int), .int .i64 a.n, .string a.s] 23)).alloc (.cells #[.int .u8 (b.k : Int), .int .i64 b.n, .string b.s] 23)) 27
  rw [show ((w.alloc (.cells #[.int .u8 (a.k : Int), .int .i64 a.n, .string a.s] 23)).alloc (.cells #[.int .u8 (b.k : Int), .int .i64 b.n, .string b.s] 23)).heap.size = w.heap.size + 1 + 1 by simp] at hbx
  have x0 : (((w.alloc (.cells #[.int .u8 (a.k : Int), .int .i64 a.n, .string a.s] 23)).alloc (.cells #[.int .u8 (b.k : Int), .int .i64 b.n, .string b.s] 23)).alloc (.cells #[.int .u8 0, .int .u8 0, .int .i64 0, .string ⟨#[]⟩, .string ⟨#[]⟩, .string ⟨#[]⟩, .int .i64 0, .slice none 0 0] 27)).cell? ⟨w.heap.size, 0, none⟩ = some (.int .u8 (a.k : Int)) := by go_simp
  have x1 : (((w.alloc (.cells #[.int .u8 (a.k : Int), .int .i64 a.n, .string a.s] 23)).alloc (.cells #[.int .u8 (b.k : Int), .int .i64 b.n, .string b.s] 23)).alloc (.cells #[.int .u8 0, .int .u8 0, .int .i64 0, .string ⟨#[]⟩, .string ⟨#[]⟩, .string ⟨#[]⟩, .int .i64 0, .slice none 0 0] 27)).cell? ⟨w.heap.size, 1, none⟩ = some (.int .i64 a.n) := by go_simp
  have x2 : (((w.alloc (.cells #[.int .u8 (a.k : Int), .int .i64 a.n, .string a.s] 23)).alloc (.cells #[.int .u8 (b.k : Int), .int .i64 b.n, .string b.s] 23)).alloc (.cells #[.int .u8 0, .int .u8 0, .int .i64 0, .string ⟨#[]⟩, .string ⟨#[]⟩, .string ⟨#[]⟩, .int .i64 0, .slice none 0 0] 27)).cell? ⟨w.heap.size, 2, none⟩ = some (.string a.s) := by go_simp
  have y0 : (((w.alloc (.cells #[.int .u8 (a.k : Int), .int .i64 a.n, .string a.s] 23)).alloc (.cells #[.int .u8 (b.k : Int), .int .i64 b.n, .string b.s] 23)).alloc (.cells #[.int .u8 0, .int .u8 0, .int .i64 0, .string ⟨#[]⟩, .string ⟨#[]⟩, .string ⟨#[]⟩, .int .i64 0, .slice none 0 0] 27)).cell? ⟨w.heap.size + 1, 0, none⟩ = some (.int .u8 (b.k : Int)) := by go_simp
  have y1 : (((w.alloc (.cells #[.int .u8 (a.k : Int), .int .i64 a.n, .string a.s] 23)).alloc (.cells #[.int .u8 (b.k : Int), .int .i64 b.n, .string b.s] 23)).alloc (.cells #[.int .u8 0, .int .u8 0, .int .i64 0, .string ⟨#[]⟩, .string ⟨#[]⟩, .string ⟨#[]⟩, .int .i64 0, .slice none 0 0] 27)).cell? ⟨w.heap.size + 1, 1, none⟩ = some (.int .i64 b.n) := by go_simp
  have y2 : (((w.alloc (.cells #[.int .u8 (a.k : Int), .int .i64 a.n, .string a.s] 23)).alloc (.cells #[.int .u8 (b.k : Int), .int .i64 b.n, .string b.s] 23)).alloc (.cells #[.int .u8 0, .int .u8 0, .int .i64 0, .string ⟨#[]⟩, .string ⟨#[]⟩, .string ⟨#[]⟩, .int .i64 0, .slice none 0 0] 27)).cell? ⟨w.heap.size + 1, 2, none⟩ = some (.string b.s) := by go_simp
  have HBA := Lib.hid hbA
  have HBX := Lib.hid hbx
  clear hbA hbx
  go_enter Try.func16, Try.ntmps16
  go_wp2_with fail
  generalize hWA : (((w.alloc (.cells #[.int .u8 (a.k : Int), .int .i64 a.n, .string a.s] 23)).alloc (.cells #[.int .u8 (b.k : Int), .int .i64 b.n, .string b.s] 23)).alloc (.cells #[.int .u8 0, .int .u8 0, .int .i64 0, .string ⟨#[]⟩, .string ⟨#[]⟩, .string ⟨#[]⟩, .int .i64 0, .slice none 0 0] 27)) = WA at *
  clear hWA
  have hsl : ∀ w3 : World, Hid (SlAt 8 Ex.cells (w3.alloc (.cells (two8 a b) 27)) (.slice (some ⟨w3.heap.size, 0, none⟩) 2 2) [exV a, exV b]) := by
    intro w3
    refine at8s [exV a, exV b] _ _ ?_
    intro i x hx j u hu
    rcases i with _ | _ | i <;> simp at hx <;> subst hx <;> (rcases j with _ | _ | _ | _ | _ | _ | _ | _ | j <;> simp [Ex.cells, exV, Ex.op_mk, Ex.v_mk, Ex.t_mk, Ex.m_mk, Ex.n_mk, Ex.kv_mk] at hu <;> subst hu <;> simp only [two8] <;> first | (go_simp; done) | (go_simp; rfl))
  have HSL := Lib.hid hsl
  clear hsl
  have HBXD : Hid (Box (w.heap.size + 1 + 1) [.int .u8 0, .int .u8 0, .int .i64 0, .string ⟨#[]⟩, .string ⟨#[]⟩, .string ⟨#[]⟩, .int .i64 0, .slice none 0 0] WA.drew) := HBX
  go_region_with (first
    | (go_at_call 7; (with_reducible refine (withL a _).mono ?_); rintro e wa ⟨rfl, ha⟩; (first | (have ya0 := (ha.cell (cell_lt y0)).trans y0; have ya1 := (ha.cell (cell_lt y1)).trans y1; have ya2 := (ha.cell (cell_lt y2)).trans y2) | skip))
    | (go_at_call 7; (with_reducible refine (withL b _).mono ?_); rintro e wb ⟨rfl, hb⟩; (first | (have xb0 := (hb.cell (cell_lt x0)).trans x0; have xb1 := (hb.cell (cell_lt x1)).trans x1; have xb2 := (hb.cell (cell_lt x2)).trans x2) | skip))
    | (go_at_call 9; (with_reducible refine (ofL8 op (some ⟨_, 0, none⟩) 2 2 _).mono ?_); rintro e w5 ⟨rfl, hb5⟩; have HB5 := Lib.hid hb5; (first | (have hbx5 := HBXD.out.later (next ((next ha hb).alloc (next ha hb).size _) hb5)) | (have hbx5 := HBXD.out.later (next ((next hb ha).alloc (next hb ha).size _) hb5))); have HBX5 := Lib.hid hbx5; obtain ⟨g0, f0⟩ := hbx5 0 _ rfl; obtain ⟨g1, f1⟩ := hbx5 1 _ rfl; obtain ⟨g2, f2⟩ := hbx5 2 _ rfl; obtain ⟨g3, f3⟩ := hbx5 3 _ rfl; obtain ⟨g4, f4⟩ := hbx5 4 _ rfl; obtain ⟨g5, f5⟩ := hbx5 5 _ rfl; obtain ⟨g6, f6⟩ := hbx5 6 _ rfl; obtain ⟨g7, f7⟩ := hbx5 7 _ rfl; clear hbx5 hb5))
  all_goals first
    | (have hbel := next (next (next HBA.out.drew ha) hb) ((Below.refl _ wb).alloc (Nat.le_refl _) (.cells (two8 a b) 27)); have hbel5 := next hbel HB5.out; have hk : w.heap.size + 1 + 1 < wb.heap.size := Nat.lt_of_lt_of_le (HBX.out.lt) (next ha hb).size; have hq := box_sets HBX5.out [.int .u8 (op : Int), .int .u8 0, .int .i64 0, .string ⟨#[]⟩, .string ⟨#[]⟩, .string ⟨#[]⟩, .int .i64 0, .slice (some ⟨wb.heap.size, 0, none⟩) 2 2] rfl; have HSF := Lib.hid (((HSL.out wb).out.below HB5.out) |> fun h => slAt_sets h (k := w.heap.size + 1 + 1) (by omega) [.int .u8 (op : Int), .int .u8 0, .int .i64 0, .string ⟨#[]⟩, .string ⟨#[]⟩, .string ⟨#[]⟩, .int .i64 0, .slice (some ⟨wb.heap.size, 0, none⟩) 2 2] 0); have HBF := Lib.hid (below_sets (j := w.heap.size + 1 + 1) (by omega) [.int .u8 (op : Int), .int .u8 0, .int .i64 0, .string ⟨#[]⟩, .string ⟨#[]⟩, .string ⟨#[]⟩, .int .i64 0, .slice (some ⟨wb.heap.size, 0, none⟩) 2 2] 0 _ hbel5); have q0 := (hq 0 _ rfl).1; have q1 := (hq 1 _ rfl).1; have q2 := (hq 2 _ rfl).1; have q3 := (hq 3 _ rfl).1; have q4 := (hq 4 _ rfl).1; have q5 := (hq 5 _ rfl).1; have q6 := (hq 6 _ rfl).1; have q7 := (hq 7 _ rfl).1; clear hq hbel hbel5; generalize hW6 : w5.setCells (w.heap.size + 1 + 1) 0 [.int .u8 (op : Int), .int .u8 0, .int .i64 0, .string ⟨#[]⟩, .string ⟨#[]⟩, .string ⟨#[]⟩, .int .i64 0, .slice (some ⟨wb.heap.size, 0, none⟩) 2 2] = W6 at *; clear hW6 HBX5 HB5 g0 g1 g2 g3 g4 g5 g6 g7 f0 f1 f2 f3 f4 f5 f6 f7; go_wp2_with fail; refine bodyPost_ret (v := .agg #[.int .u8 (op : Int), .int .u8 0, .int .i64 0, .string ⟨#[]⟩, .string ⟨#[]⟩, .string ⟨#[]⟩, .int .i64 0, .slice (some ⟨wb.heap.size, 0, none⟩) 2 2]) (by simp [results, Try.results16, go_sem, q0, q1, q2, q3, q4, q5, q6, q7]) rfl ⟨⟨_, rfl, HSF.out⟩, HBF.out⟩)
    | (have hbel := next (next (next HBA.out.drew hb) ha) ((Below.refl _ wa).alloc (Nat.le_refl _) (.cells (two8 a b) 27)); have hbel5 := next hbel HB5.out; have hk : w.heap.size + 1 + 1 < wa.heap.size := Nat.lt_of_lt_of_le (HBX.out.lt) (next hb ha).size; have hq := box_sets HBX5.out [.int .u8 (op : Int), .int .u8 0, .int .i64 0, .string ⟨#[]⟩, .string ⟨#[]⟩, .string ⟨#[]⟩, .int .i64 0, .slice (some ⟨wa.heap.size, 0, none⟩) 2 2] rfl; have HSF := Lib.hid (((HSL.out wa).out.below HB5.out) |> fun h => slAt_sets h (k := w.heap.size + 1 + 1) (by omega) [.int .u8 (op : Int), .int .u8 0, .int .i64 0, .string ⟨#[]⟩, .string ⟨#[]⟩, .string ⟨#[]⟩, .int .i64 0, .slice (some ⟨wa.heap.size, 0, none⟩) 2 2] 0); have HBF := Lib.hid (below_sets (j := w.heap.size + 1 + 1) (by omega) [.int .u8 (op : Int), .int .u8 0, .int .i64 0, .string ⟨#[]⟩, .string ⟨#[]⟩, .string ⟨#[]⟩, .int .i64 0, .slice (some ⟨wa.heap.size, 0, none⟩) 2 2] 0 _ hbel5); have q0 := (hq 0 _ rfl).1; have q1 := (hq 1 _ rfl).1; have q2 := (hq 2 _ rfl).1; have q3 := (hq 3 _ rfl).1; have q4 := (hq 4 _ rfl).1; have q5 := (hq 5 _ rfl).1; have q6 := (hq 6 _ rfl).1; have q7 := (hq 7 _ rfl).1; clear hq hbel hbel5; generalize hW6 : w5.setCells (w.heap.size + 1 + 1) 0 [.int .u8 (op : Int), .int .u8 0, .int .i64 0, .string ⟨#[]⟩, .string ⟨#[]⟩, .string ⟨#[]⟩, .int .i64 0, .slice (some ⟨wa.heap.size, 0, none⟩) 2 2] = W6 at *; clear hW6 HBX5 HB5 g0 g1 g2 g3 g4 g5 g6 g7 f0 f1 f2 f3 f4 f5 f6 f7; go_wp2_with fail; refine bodyPost_ret (v := .agg #[.int .u8 (op : Int), .int .u8 0, .int .i64 0, .string ⟨#[]⟩, .string ⟨#[]⟩, .string ⟨#[]⟩, .int .i64 0, .slice (some ⟨wa.heap.size, 0, none⟩) 2 2]) (by simp [results, Try.results16, go_sem, q0, q1, q2, q3, q4, q5, q6, q7]) rfl ⟨⟨_, rfl, HSF.out⟩, HBF.out⟩)
end Go.Proofs.Ytclkpbokngamiaa.Dt
