/-
  Slices of small numbers that the call itself made; boxes of three cells.
-/
import Derived.Test.YtclkpbokngamiaaOwn
import Derived.Test.YtclkpbokngamiaaEvalTog
import Derived.Test.YtclkpbokngamiaaEvalNum
namespace Go.Proofs.Ytclkpbokngamiaa.Dt
open Go.RowKit Go.Proofs.Ytclkpbokngamiaa.By

theorem elU8 : By.Elem Try.prog 56 5 1 1 where
  slice := by kernel_rfl
  info := by
    have h : (Try.prog.info? 5).map (fun i => (i.zero, i.size, i.bytes)) = some (some (.int .u8 0), 1, 1) := by kernel_rfl
    obtain ⟨i, hi, h1, h2, h3⟩ := info_parts h
    exact ⟨i, _, hi, h1, h2, h3, rfl⟩
  pos := by decide

def uCells (l : List Nat) : List Value := l.map fun (k : Nat) => .int .u8 (k : Int)
/-- Owned kinds. -/
def OwnU (w : World) (base : Nat) (v : Value) (l : List Nat) : Prop := w.ownsRow base 5 1 v l.length (uCells l)
theorem OwnU.nil (w : World) (base : Nat) : OwnU w base (.slice none 0 0) [] := World.ownsRow_nil _ _ _ _
theorem OwnU.shape {w : World} {base : Nat} {v : Value} {l : List Nat} (h : OwnU w base v l) : ∃ a c, v = .slice a l.length c := by
  rcases h.2 with ⟨rfl, hn⟩ | ⟨g, cap, cur, rfl, _⟩
  · exact ⟨none, 0, by rw [hn]⟩
  · exact ⟨_, _, rfl⟩
theorem OwnU.at_ {w : World} {base : Nat} {v : Value} {l : List Nat} (h : OwnU w base v l) : U8sAt w v l := by
  rcases h.2 with ⟨rfl, hn⟩ | ⟨g, cap, cur, rfl, hg, hh, hn, hcap, hsz, ht⟩
  · obtain rfl : l = [] := List.eq_nil_of_length_eq_zero hn
    exact SlAt.nil _ _ _
  · refine ⟨_, cap, rfl, hn, fun i x hx => ⟨g, 0, rfl, fun j u hu => ?_⟩⟩
    obtain ⟨hi, rfl⟩ := List.getElem?_eq_some_iff.1 hx
    match j, hu with
    | 0, hu =>
      simp [u8Cells] at hu
      subst hu
      have := World.ownsRow.cellAt (w := w) (e := 5) (size := 1) h i (by omega)
      rw [Nat.zero_add, Nat.mul_one, Nat.add_zero, this]
      simp [uCells, hi]
    | j + 1, hu => simp [u8Cells] at hu
theorem OwnU.notBlock {w : World} {base : Nat} {v : Value} {l : List Nat} {k : Nat} (h : OwnU w base v l) (hk : w.heap.size ≤ k) : v.ownBlock ≠ some k := by
  intro e
  have := (World.ownsRow.lt h k e).2
  omega
theorem OwnU.below {w w' : World} {base : Nat} {v : Value} {l : List Nat} (h : OwnU w base v l) (hb : Below w.heap.size w w') : OwnU w' base v l :=
  World.ownsRow.kept (row := none) h ⟨hb.os, hb.tape, hb.output, hb.size, fun i hi _ => hb.block i hi⟩ (by cases v.ownBlock <;> simp)
theorem OwnU.snoc {w : World} {base : Nat} {v : Value} {l : List Nat} {k : Nat} (h : w.ownsRow base 5 1 v (l.length + 1) (uCells l ++ [.int .u8 (k : Int)])) : OwnU w base v (l ++ [k]) := by
  unfold OwnU
  rw [List.length_append]
  simpa [uCells] using h
theorem cell_grown {W w2 : World} {r : Option Nat} {b : Nat} (h : W.grownBy w2 r) (hk : b < W.heap.size) (hne : r ≠ some b) (o : Nat) : w2.cell? ⟨b, o, none⟩ = W.cell? ⟨b, o, none⟩ :=
  World.cell?_of_block (w := W) (h.block b hk (Ne.symm hne))

/-- A result's box: a value's, that nothing has been laid into. -/
structure ResBox (k : Nat) (w : World) : Prop where
  c0 : w.cell? ⟨k, 0, none⟩ = some (.int .u8 0)
  c1 : w.cell? ⟨k, 1, none⟩ = some (.int .i64 0)
  c2 : w.cell? ⟨k, 2, none⟩ = some (.string ⟨#[]⟩)
  f0 : w.frozen? ⟨k, 0, none⟩ = false
  f1 : w.frozen? ⟨k, 1, none⟩ = false
  f2 : w.frozen? ⟨k, 2, none⟩ = false
theorem ResBox.lt {k : Nat} {w : World} (h : ResBox k w) : k < w.heap.size := cell_lt h.c0
theorem ResBox.below {k B : Nat} {w w' : World} (h : ResBox k w) (hb : Below B w w') (hk : k < B) : ResBox k w' :=
  ⟨(hb.cell (p := ⟨k, 0, none⟩) hk).trans h.c0, (hb.cell (p := ⟨k, 1, none⟩) hk).trans h.c1, (hb.cell (p := ⟨k, 2, none⟩) hk).trans h.c2,
    (hb.frozen (p := ⟨k, 0, none⟩) hk).trans h.f0, (hb.frozen (p := ⟨k, 1, none⟩) hk).trans h.f1, (hb.frozen (p := ⟨k, 2, none⟩) hk).trans h.f2⟩
theorem ResBox.later {k : Nat} {w w' : World} (h : ResBox k w) (hb : Below w.heap.size w w') : ResBox k w' := h.below hb h.lt
theorem resBox_new (w : World) (t : TypeId) : ResBox w.heap.size (w.alloc (.cells #[.int .u8 0, .int .i64 0, .string ⟨#[]⟩] t)) := by
  constructor <;> go_simp
end Go.Proofs.Ytclkpbokngamiaa.Dt
