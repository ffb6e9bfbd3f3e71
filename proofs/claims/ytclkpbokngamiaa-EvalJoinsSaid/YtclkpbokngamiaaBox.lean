/-
  Boxes of the call's own: their cells, one by one.
-/
import Derived.Test.YtclkpbokngamiaaEvalWide
namespace Go.Proofs.Ytclkpbokngamiaa.Dt
open Go.RowKit Go.Proofs.Ytclkpbokngamiaa.By

theorem set_other (w : World) (k j i i' : Nat) (u : Value) (h : ¬ (j = k ∧ i = i')) : (w.setCell ⟨j, i, none⟩ u).cell? ⟨k, i', none⟩ = w.cell? ⟨k, i', none⟩ := by
  apply World.cell?_setCell_other
  intro e; cases e; exact h ⟨rfl, rfl⟩

/-- A box of these cells. -/
def Box (k : Nat) (cs : List Value) (w : World) : Prop := ∀ i u, cs[i]? = some u → w.cell? ⟨k, i, none⟩ = some u ∧ w.frozen? ⟨k, i, none⟩ = false
theorem Box.lt {k : Nat} {c : Value} {cs : List Value} {w : World} (h : Box k (c :: cs) w) : k < w.heap.size := cell_lt (h 0 c rfl).1
theorem Box.later {k : Nat} {cs : List Value} {w w' : World} (h : Box k cs w) (hb : Below w.heap.size w w') : Box k cs w' := fun i u hu =>
  ⟨(hb.cell (p := ⟨k, i, none⟩) (cell_lt (h i u hu).1)).trans (h i u hu).1, (hb.frozen (p := ⟨k, i, none⟩) (cell_lt (h i u hu).1)).trans (h i u hu).2⟩
theorem Box.else {k : Nat} {cs : List Value} {w : World} (h : Box k cs w) {j i : Nat} {u : Value} (hj : j ≠ k) : Box k cs (w.setCell ⟨j, i, none⟩ u) := fun i' u' hu => by
  refine ⟨?_, ?_⟩
  · rw [set_other _ _ _ _ _ _ (fun e => hj e.1)]; exact (h i' u' hu).1
  · rw [World.frozen?_setCell]; exact (h i' u' hu).2
theorem Box.set {k : Nat} {cs : List Value} {w : World} (h : Box k cs w) {i : Nat} {u : Value} (hi : i < cs.length) : Box k (cs.set i u) (w.setCell ⟨k, i, none⟩ u) := fun i' u' hu => by
  by_cases he : i = i'
  · subst he
    rw [List.getElem?_set_self hi] at hu
    cases hu
    have h1 := h i cs[i] (by simp [hi])
    exact ⟨set_same3 _ _ _ _ h1.1, by rw [World.frozen?_setCell]; exact h1.2⟩
  · rw [List.getElem?_set_ne he] at hu
    refine ⟨?_, ?_⟩
    · rw [set_other _ _ _ _ _ _ (fun e => he e.2)]; exact (h i' u' hu).1
    · rw [World.frozen?_setCell]; exact (h i' u' hu).2
end Go.Proofs.Ytclkpbokngamiaa.Dt
