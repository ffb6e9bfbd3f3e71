/-
  Boxes of values, slices of small numbers and of values that the call itself made: what the walks of the lower layers lean on.
-/
import Derived.Test.YtcimipebpfajgaaDoorOwn
import Derived.Test.YtcimipebpfajgaaDoorData
import Derived.Test.YtcimipebpfajgaaDoorTypesV
import Derived.Test.YtcimipebpfajgaaDoorQuiet
import Derived.Test.YtcimipebpfajgaaDoorLater
import Derived.Handy
import Derived.Lib.Hide
namespace Go.Proofs.YtcimipebpfajgaaDoor.Dt
open Go.RowKit Go.Proofs.YtcimipebpfajgaaDoor.By
/-- A result's box behind the call that fills it. -/
theorem res3 (w w1 : World) (t : TypeId) (a b c : Value) (hb : Below (w.alloc (.cells #[a, b, c] t)).heap.size (w.alloc (.cells #[a, b, c] t)) w1) :
    w1.cell? ⟨w.heap.size, 0, none⟩ = some a ∧ w1.cell? ⟨w.heap.size, 1, none⟩ = some b ∧ w1.cell? ⟨w.heap.size, 2, none⟩ = some c ∧
    w1.frozen? ⟨w.heap.size, 0, none⟩ = false ∧ w1.frozen? ⟨w.heap.size, 1, none⟩ = false ∧ w1.frozen? ⟨w.heap.size, 2, none⟩ = false ∧ Below w.heap.size w w1 ∧ w.heap.size < w1.heap.size := by
  have hlt : w.heap.size < (w.alloc (.cells #[a, b, c] t)).heap.size := by simp
  refine ⟨?_, ?_, ?_, ?_, ?_, ?_, ((Below.refl _ _).alloc (Nat.le_refl _) _).trans (hb.mono (Nat.le_of_lt hlt)), Nat.lt_of_lt_of_le hlt hb.size⟩
  · rw [hb.cell hlt]; go_simp
  · rw [hb.cell hlt]; go_simp
  · rw [hb.cell hlt]; go_simp
  · rw [hb.frozen hlt]; go_simp
  · rw [hb.frozen hlt]; go_simp
  · rw [hb.frozen hlt]; go_simp
theorem set_same3 (w : World) (a : Addr) (v u : Value) (h : w.cell? a = some u) : (w.setCell a v).cell? a = some v := by
  apply World.cell?_setCell_same
  exact h
theorem set_else3 (w : World) (k i j : Nat) (v : Value) (h : i ≠ j) : (w.setCell ⟨k, i, none⟩ v).cell? ⟨k, j, none⟩ = w.cell? ⟨k, j, none⟩ := by
  apply World.cell?_setCell_other
  intro e; cases e; exact h rfl
/-- A result's box, filled. -/
theorem filled3 (w : World) (k : Nat) (a b c x y z : Value) (ha : w.cell? ⟨k, 0, none⟩ = some a) (hb : w.cell? ⟨k, 1, none⟩ = some b) (hc : w.cell? ⟨k, 2, none⟩ = some c) :
    (w.setCell ⟨k, 0, none⟩ x).cell? ⟨k, 0, none⟩ = some x ∧ ((w.setCell ⟨k, 0, none⟩ x).setCell ⟨k, 1, none⟩ y).cell? ⟨k, 1, none⟩ = some y ∧ (((w.setCell ⟨k, 0, none⟩ x).setCell ⟨k, 1, none⟩ y).setCell ⟨k, 2, none⟩ z).cell? ⟨k, 2, none⟩ = some z :=
  ⟨set_same3 _ _ _ _ ha, set_same3 _ _ _ _ ((set_else3 _ _ _ _ _ (by omega)).trans hb), set_same3 _ _ _ _ ((set_else3 _ _ _ _ _ (by omega)).trans ((set_else3 _ _ _ _ _ (by omega)).trans hc))⟩
theorem cell_alloc_lt {W : World} {o : Obj} {p : Addr} (h : p.block < W.heap.size) : (W.alloc o).cell? p = W.cell? p := ((Below.refl _ W).alloc (Nat.le_refl _) o).cell h


theorem elU8 : By.Elem Tryd.prog 37 5 1 1 where
  slice := by kernel_rfl
  info := by
    have h : (Tryd.prog.info? 5).map (fun i => (i.zero, i.size, i.bytes)) = some (some (.int .u8 0), 1, 1) := by kernel_rfl
    obtain ⟨i, hi, h1, h2, h3⟩ := info_parts h
    exact ⟨i, _, hi, h1, h2, h3, rfl⟩
  pos := by decide

def uCells (l : List Nat) : List Value := l.map fun (k : Nat) => .int .u8 (k : Int)
/-- Owned kinds. -/
def OwnU (w : World) (base : Nat) (v : Value) (l : List Nat) : Prop := w.ownsRow base 5 1 v l.length (uCells l)
theorem OwnU.nil (w : World) (base : Nat) : OwnU w base (.slice none 0 0) [] := World.ownsRow_nil _ _ _ _
theorem OwnU.shape {w : World} {base : Nat} {v : Value} {l : List Nat} (h : OwnU w base v l) : ∃ a c, v = .slice a l.length c := by
  rcases h.2 with ⟨rfl, hn⟩ | ⟨g, cap, cur, rfl, _⟩
  · exact ⟨none, 0, by rw [hn]⟩
  · exact ⟨_, _, rfl⟩
theorem OwnU.at_ {w : World} {base : Nat} {v : Value} {l : List Nat} (h : OwnU w base v l) : U8sAt w v l := by
  rcases h.2 with ⟨rfl, hn⟩ | ⟨g, cap, cur, rfl, hg, hh, hn, hcap, hsz, ht⟩
  · obtain rfl : l = [] := List.eq_nil_of_length_eq_zero hn
    exact SlAt.nil _ _ _
  · refine ⟨_, cap, rfl, hn, fun i x hx => ⟨g, 0, rfl, fun j u hu => ?_⟩⟩
    obtain ⟨hi, rfl⟩ := List.getElem?_eq_some_iff.1 hx
    match j, hu with
    | 0, hu =>
      simp [u8Cells] at hu
      subst hu
      have := World.ownsRow.cellAt (w := w) (e := 5) (size := 1) h i (by omega)
      rw [Nat.zero_add, Nat.mul_one, Nat.add_zero, this]
      simp [uCells, hi]
    | j + 1, hu => simp [u8Cells] at hu
theorem OwnU.notBlock {w : World} {base : Nat} {v : Value} {l : List Nat} {k : Nat} (h : OwnU w base v l) (hk : w.heap.size ≤ k) : v.ownBlock ≠ some k := by
  intro e
  have := (World.ownsRow.lt h k e).2
  omega
theorem OwnU.below {w w' : World} {base : Nat} {v : Value} {l : List Nat} (h : OwnU w base v l) (hb : Below w.heap.size w w') : OwnU w' base v l :=
  World.ownsRow.kept (row := none) h ⟨hb.os, hb.tape, hb.output, hb.size, fun i hi _ => hb.block i hi⟩ (by cases v.ownBlock <;> simp)
theorem OwnU.snoc {w : World} {base : Nat} {v : Value} {l : List Nat} {k : Nat} (h : w.ownsRow base 5 1 v (l.length + 1) (uCells l ++ [.int .u8 (k : Int)])) : OwnU w base v (l ++ [k]) := by
  unfold OwnU
  rw [List.length_append]
  simpa [uCells] using h
theorem cell_grown {W w2 : World} {r : Option Nat} {b : Nat} (h : W.grownBy w2 r) (hk : b < W.heap.size) (hne : r ≠ some b) (o : Nat) : w2.cell? ⟨b, o, none⟩ = W.cell? ⟨b, o, none⟩ :=
  World.cell?_of_block (w := W) (h.block b hk (Ne.symm hne))

/-- A result's box: a value's, that nothing has been laid into. -/
structure ResBox (k : Nat) (w : World) : Prop where
  c0 : w.cell? ⟨k, 0, none⟩ = some (.int .u8 0)
  c1 : w.cell? ⟨k, 1, none⟩ = some (.int .i64 0)
  c2 : w.cell? ⟨k, 2, none⟩ = some (.string ⟨#[]⟩)
  f0 : w.frozen? ⟨k, 0, none⟩ = false
  f1 : w.frozen? ⟨k, 1, none⟩ = false
  f2 : w.frozen? ⟨k, 2, none⟩ = false
theorem ResBox.lt {k : Nat} {w : World} (h : ResBox k w) : k < w.heap.size := cell_lt h.c0
theorem ResBox.below {k B : Nat} {w w' : World} (h : ResBox k w) (hb : Below B w w') (hk : k < B) : ResBox k w' :=
  ⟨(hb.cell (p := ⟨k, 0, none⟩) hk).trans h.c0, (hb.cell (p := ⟨k, 1, none⟩) hk).trans h.c1, (hb.cell (p := ⟨k, 2, none⟩) hk).trans h.c2,
    (hb.frozen (p := ⟨k, 0, none⟩) hk).trans h.f0, (hb.frozen (p := ⟨k, 1, none⟩) hk).trans h.f1, (hb.frozen (p := ⟨k, 2, none⟩) hk).trans h.f2⟩
theorem ResBox.later {k : Nat} {w w' : World} (h : ResBox k w) (hb : Below w.heap.size w w') : ResBox k w' := h.below hb h.lt
theorem resBox_new (w : World) (t : TypeId) : ResBox w.heap.size (w.alloc (.cells #[.int .u8 0, .int .i64 0, .string ⟨#[]⟩] t)) := by
  constructor <;> go_simp


theorem elV : By.Elem Tryd.prog 28 26 3 32 where
  slice := by kernel_rfl
  info := by
    have h : (Tryd.prog.info? 26).map (fun i => (i.zero, i.size, i.bytes)) = some (some (.agg #[.int .u8 0, .int .i64 0, .string ⟨#[]⟩]), 3, 32) := by kernel_rfl
    obtain ⟨i, hi, h1, h2, h3⟩ := info_parts h
    exact ⟨i, _, hi, h1, h2, h3, rfl⟩
  pos := by decide

def vCells (l : List V) : List Value := l.flatMap V.cells
theorem vCells_get (l : List V) : ∀ (i : Nat) (x : V), l[i]? = some x → ∀ j u, x.cells[j]? = some u → (vCells l)[i * 3 + j]? = some u := by
  induction l with
  | nil => intro i x h; simp at h
  | cons y l ih =>
    intro i x h j u hu
    have hj : j < 3 := (List.getElem?_eq_some_iff.1 hu).1
    have e : vCells (y :: l) = y.cells ++ vCells l := rfl
    rcases i with _ | i
    · simp at h; subst h
      rw [e, List.getElem?_append_left (by show 0 * 3 + j < 3; omega), Nat.zero_mul, Nat.zero_add]
      exact hu
    · rw [e, List.getElem?_append_right (by show 3 ≤ _; omega), show (i + 1) * 3 + j - y.cells.length = i * 3 + j by show _ - 3 = _; omega]
      exact ih i x (by simpa using h) j u hu
/-- Owned values. -/
def OwnV (w : World) (base : Nat) (v : Value) (l : List V) : Prop := w.ownsRow base 26 3 v l.length (vCells l)
theorem OwnV.nil (w : World) (base : Nat) : OwnV w base (.slice none 0 0) [] := World.ownsRow_nil _ _ _ _
theorem OwnV.shape {w : World} {base : Nat} {v : Value} {l : List V} (h : OwnV w base v l) : ∃ a c, v = .slice a l.length c := by
  rcases h.2 with ⟨rfl, hn⟩ | ⟨g, cap, cur, rfl, _⟩
  · exact ⟨none, 0, by rw [hn]⟩
  · exact ⟨_, _, rfl⟩
theorem OwnV.at_ {w : World} {base : Nat} {v : Value} {l : List V} (h : OwnV w base v l) : VsAt w v l := by
  rcases h.2 with ⟨rfl, hn⟩ | ⟨g, cap, cur, rfl, hg, hh, hn, hcap, hsz, ht⟩
  · obtain rfl : l = [] := List.eq_nil_of_length_eq_zero hn
    exact SlAt.nil _ _ _
  · refine ⟨_, cap, rfl, hn, fun i x hx => ⟨g, 0, rfl, fun j u hu => ?_⟩⟩
    have := World.ownsRow.cells h rfl (i * 3 + j) u (vCells_get l i x hx j u hu)
    rw [Addr.add_lit, ← Nat.add_assoc] at this
    exact this
theorem OwnV.notBlock {w : World} {base : Nat} {v : Value} {l : List V} {k : Nat} (h : OwnV w base v l) (hk : w.heap.size ≤ k) : v.ownBlock ≠ some k := by
  intro e
  have := (World.ownsRow.lt h k e).2
  omega
theorem OwnV.below {w w' : World} {base : Nat} {v : Value} {l : List V} (h : OwnV w base v l) (hb : Below w.heap.size w w') : OwnV w' base v l :=
  World.ownsRow.kept (row := none) h ⟨hb.os, hb.tape, hb.output, hb.size, fun i hi _ => hb.block i hi⟩ (by cases v.ownBlock <;> simp)
theorem OwnV.snoc {w : World} {base : Nat} {v : Value} {l : List V} {x : V} (h : w.ownsRow base 26 3 v (l.length + 1) (vCells l ++ [.int .u8 (x.k : Int), .int .i64 x.n, .string x.s])) : OwnV w base v (l ++ [x]) := by
  unfold OwnV
  rw [List.length_append]
  have e : vCells (l ++ [x]) = vCells l ++ [.int .u8 (x.k : Int), .int .i64 x.n, .string x.s] := by simp [vCells, V.cells]
  rw [e]
  exact h
/-- A value in a block of its own. -/
theorem reads_V (w : World) (base : Nat) (x : V) (hb : base ≤ w.heap.size) (k : Nat) (hk : w.heap.size = k) :
    Reads (w.alloc (.cells #[.int .u8 (x.k : Int), .int .i64 x.n, .string x.s] 26)) 3 (.slice (some ⟨k, 0, none⟩) 1 1) 1 [.int .u8 (x.k : Int), .int .i64 x.n, .string x.s] := by
  subst hk
  exact reads_of_owns (World.ownsRow_lit w #[.int .u8 (x.k : Int), .int .i64 x.n, .string x.s] 1 hb (by unfold maxLen; omega) rfl)


theorem set_other (w : World) (k j i i' : Nat) (u : Value) (h : ¬ (j = k ∧ i = i')) : (w.setCell ⟨j, i, none⟩ u).cell? ⟨k, i', none⟩ = w.cell? ⟨k, i', none⟩ := by
  apply World.cell?_setCell_other
  intro e; cases e; exact h ⟨rfl, rfl⟩

/-- A box of these cells. -/
def Box (k : Nat) (cs : List Value) (w : World) : Prop := ∀ i u, cs[i]? = some u → w.cell? ⟨k, i, none⟩ = some u ∧ w.frozen? ⟨k, i, none⟩ = false
theorem Box.lt {k : Nat} {c : Value} {cs : List Value} {w : World} (h : Box k (c :: cs) w) : k < w.heap.size := cell_lt (h 0 c rfl).1
theorem Box.later {k : Nat} {cs : List Value} {w w' : World} (h : Box k cs w) (hb : Below w.heap.size w w') : Box k cs w' := fun i u hu =>
  ⟨(hb.cell (p := ⟨k, i, none⟩) (cell_lt (h i u hu).1)).trans (h i u hu).1, (hb.frozen (p := ⟨k, i, none⟩) (cell_lt (h i u hu).1)).trans (h i u hu).2⟩
theorem Box.else {k : Nat} {cs : List Value} {w : World} (h : Box k cs w) {j i : Nat} {u : Value} (hj : j ≠ k) : Box k cs (w.setCell ⟨j, i, none⟩ u) := fun i' u' hu => by
  refine ⟨?_, ?_⟩
  · rw [set_other _ _ _ _ _ _ (fun e => hj e.1)]; exact (h i' u' hu).1
  · rw [World.frozen?_setCell]; exact (h i' u' hu).2
theorem Box.set {k : Nat} {cs : List Value} {w : World} (h : Box k cs w) {i : Nat} {u : Value} (hi : i < cs.length) : Box k (cs.set i u) (w.setCell ⟨k, i, none⟩ u) := fun i' u' hu => by
  by_cases he : i = i'
  · subst he
    rw [List.getElem?_set_self hi] at hu
    cases hu
    have h1 := h i cs[i] (by simp [hi])
    exact ⟨set_same3 _ _ _ _ h1.1, by rw [World.frozen?_setCell]; exact h1.2⟩
  · rw [List.getElem?_set_ne he] at hu
    refine ⟨?_, ?_⟩
    · rw [set_other _ _ _ _ _ _ (fun e => he e.2)]; exact (h i' u' hu).1
    · rw [World.frozen?_setCell]; exact (h i' u' hu).2
section
variable {w W : World}
theorem below_set {B j i : Nat} {u : Value} (h : Below B w W) (hj : B ≤ j) : Below B w (W.setCell ⟨j, i, none⟩ u) := by
  have hsz := h.size
  go_grown
theorem ResBox.else {k j i : Nat} {u : Value} (h : ResBox k W) (hj : j ≠ k) : ResBox k (W.setCell ⟨j, i, none⟩ u) := by
  have hs : ∀ i', (W.setCell ⟨j, i, none⟩ u).cell? ⟨k, i', none⟩ = W.cell? ⟨k, i', none⟩ := fun i' => set_other _ _ _ _ _ _ (fun e => hj e.1)
  exact ⟨(hs 0).trans h.c0, (hs 1).trans h.c1, (hs 2).trans h.c2, by rw [World.frozen?_setCell]; exact h.f0, by rw [World.frozen?_setCell]; exact h.f1, by rw [World.frozen?_setCell]; exact h.f2⟩
end
end Go.Proofs.YtcimipebpfajgaaDoor.Dt
