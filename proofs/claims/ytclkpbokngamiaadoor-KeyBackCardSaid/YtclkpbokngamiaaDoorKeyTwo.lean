/-
  Rows one behind the other: what a copy of a row reads, and the two ends of a row.
-/
import Derived.Test.YtclkpbokngamiaaDoorKeyCut
import Derived.Test.YtclkpbokngamiaaDoorOpen
namespace Go.Proofs.YtclkpbokngamiaaDoor.Dt
open Go.ChangeShapes Go.WideShapes Go.RowKit Go.Proofs.YtclkpbokngamiaaDoor.By

def PlainV (v : Value) : Prop := v = .slice none 0 0 ∨ ∃ ad n c, v = .slice (some ad) n c
theorem arg_plainV {H : Type} {enc : TypeId × Value → H} {w : World} {base : Nat} {spare : Nat → Bool} {held : Bool} {t e : TypeId} (ht : Tryd.prog.underlying t = some (.slice e)) {r : Reach} {b0 : Nat} {v : Value} {d : DataW H} {ps : List MemPlace} (hv : Value.okWide Tryd.prog w r b0 t v) (h : DataW.Trod enc Tryd.prog w base spare held t v d ps) : PlainV v := by
  obtain ⟨fuel, h⟩ := h
  obtain ⟨a0, len, cap, rfl⟩ := okWide_slice ht hv
  rcases DataW.trod_slice ht h with ⟨h1, _⟩ | ⟨a, len', cap', _, _, _, _, h1, _⟩
  · simp [Value.cells] at h1
    obtain ⟨rfl, rfl, rfl⟩ := h1
    exact .inl rfl
  · exact .inr ⟨a, len', cap', by simpa [Value.cells] using h1⟩
theorem vCells_length (l : List V) : (vCells l).length = l.length * 3 := by
  induction l with
  | nil => rfl
  | cons v l ih =>
    show (v.cells ++ vCells l).length = _
    rw [List.length_append, ih, List.length_cons]
    show 3 + _ = _
    omega
theorem vCells_append (a b : List V) : vCells (a ++ b) = vCells a ++ vCells b := by unfold vCells; rw [List.flatMap_append]
theorem vCells_one (l : List V) (u : Value) (h : u ∈ vCells l) : u.oneCell' = true := by
  obtain ⟨x, _, hu⟩ := List.mem_flatMap.1 h
  simp only [V.cells, List.mem_cons, List.not_mem_nil, or_false] at hu
  rcases hu with rfl | rfl | rfl <;> rfl
theorem vCells_at : ∀ (l : List V) (j : Nat) (u : Value), (vCells l)[j]? = some u → ∃ x, l[j / 3]? = some x ∧ x.cells[j % 3]? = some u
  | [], j, u, h => by simp [vCells] at h
  | v :: l, j, u, h => by
    have e : vCells (v :: l) = v.cells ++ vCells l := rfl
    rw [e] at h
    by_cases hj : j < 3
    · rw [List.getElem?_append_left (show j < v.cells.length from hj)] at h
      refine ⟨v, ?_, ?_⟩
      · rw [Nat.div_eq_of_lt hj]; rfl
      · rw [Nat.mod_eq_of_lt hj]; exact h
    · rw [List.getElem?_append_right (show v.cells.length ≤ j from Nat.le_of_not_lt hj)] at h
      have h' : (vCells l)[j - 3]? = some u := h
      obtain ⟨x, h1, h2⟩ := vCells_at l (j - 3) u h'
      have e1 : j / 3 = (j - 3) / 3 + 1 := by omega
      have e2 : j % 3 = (j - 3) % 3 := by omega
      exact ⟨x, by rw [e1]; exact h1, by rw [e2]; exact h2⟩
theorem reads_Vs {w : World} {v : Value} {l : List V} (h : VsAt w v l) (hp : PlainV v) : Reads w 3 v l.length (vCells l) := by
  refine ⟨vCells_length l, ?_⟩
  obtain ⟨a, c, rfl, hc, hx⟩ := h
  rcases hp with hp | ⟨ad, n, c', hp⟩
  · simp only [Value.slice.injEq] at hp
    obtain ⟨rfl, h0, rfl⟩ := hp
    exact .inl ⟨by rw [h0], h0⟩
  · simp only [Value.slice.injEq] at hp
    obtain ⟨rfl, rfl, rfl⟩ := hp
    refine .inr ⟨ad, c, rfl, fun j u hu => ?_⟩
    obtain ⟨x, h1, h2⟩ := vCells_at l j u hu
    obtain ⟨b, o, he, hcell⟩ := hx (j / 3) x h1
    obtain rfl := Option.some.inj he
    have := hcell (j % 3) u h2
    rw [Addr.add_lit, show o + j = o + j / 3 * 3 + j % 3 by omega]
    exact this
theorem Reads.later' {w w' : World} {size : Nat} {v : Value} {m : Nat} {xs : List Value} (h : Reads w size v m xs) (hb : Below w.heap.size w w') : Reads w' size v m xs := by
  obtain ⟨h1, h2⟩ := h
  refine ⟨h1, ?_⟩
  rcases h2 with h2 | ⟨ad, c, h2, h3⟩
  · exact .inl h2
  · exact .inr ⟨ad, c, h2, fun j u hu => (hb.cell (cell_lt (h3 j u hu))).trans (h3 j u hu)⟩
theorem VsAt.rest {w : World} {a : Option Addr} {n c k : Nat} {l : List V} (h : VsAt w (.slice a n c) l) (hk : k ≤ l.length) {a' : Option Addr} (ha : ∀ b o, a = some ⟨b, o, none⟩ → k < l.length → a' = some ⟨b, o + k * 3, none⟩) : VsAt w (.slice a' (l.length - k) (c - k)) (l.drop k) := by
  obtain ⟨a0, c0, e, hc, hx⟩ := h
  simp only [Value.slice.injEq] at e
  obtain ⟨rfl, rfl, rfl⟩ := e
  refine ⟨a', c - k, by rw [List.length_drop], by rw [List.length_drop]; omega, fun i x hi => ?_⟩
  rw [List.getElem?_drop] at hi
  obtain ⟨b, o, he, hcell⟩ := hx (k + i) x hi
  have hlt := (List.getElem?_eq_some_iff.1 hi).1
  refine ⟨b, o + k * 3, ha b o he (by omega), fun j u hu => ?_⟩
  rw [show o + k * 3 + i * 3 + j = o + (k + i) * 3 + j by omega]
  exact hcell j u hu
theorem errK_append : ∀ {a b : List V}, errK a = 0 → errK (a ++ b) = errK b
  | [], _, _ => rfl
  | v :: a, b, h => by
    unfold errK at h
    by_cases hc : checkV v = 0
    · rw [if_pos hc] at h
      rw [List.cons_append, errK, if_pos hc, errK_append h]
    · rw [if_neg hc] at h
      exact absurd h hc
theorem allK_append (a b : List V) : allK (a ++ b) = allK a ++ allK b := by unfold allK; rw [List.flatMap_append]
end Go.Proofs.YtclkpbokngamiaaDoor.Dt
