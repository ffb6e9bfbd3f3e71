/-
  The reference's First reads loosely and puts again what it has read: plain laws, no program in sight.
-/
import Derived.Test.YtclkpbokngamiaaDoorKeySpec4
namespace Go.Proofs.YtclkpbokngamiaaDoor.Dt
open Go.RowKit Go.Proofs.YtclkpbokngamiaaDoor.By

/-- A value that might stand ahead, and nothing else does. -/
def Cand (l : List UInt8) (v : V) (n : Nat) : Prop := v.ok ∧ ∀ p, firstK l = some p → p = (v, n)
theorem cand_yes {l : List UInt8} {v : V} {n : Nat} (h : Cand l v n) (hn : n ≤ l.length) (hc : checkV v = 0) (h1 : oneK v = l.take n) : firstK l = some (v, n) := by
  have h2 := firstK_one hc h.1 (l.drop n)
  rw [h1, List.take_append_drop, List.length_take, Nat.min_eq_left hn] at h2
  exact h2
theorem cand_no {l : List UInt8} {v : V} {n : Nat} (h : Cand l v n) (hx : ¬ (n ≤ l.length ∧ checkV v = 0 ∧ oneK v = l.take n)) : firstK l = none := by
  cases hf : firstK l with
  | none => rfl
  | some p =>
    obtain rfl := h.2 p hf
    have h1 := firstK_len hf
    have h2 := firstK_back hf
    exact absurd ⟨h1.2, h2.2.1, h2.1⟩ hx
theorem cand_null (r : List UInt8) : Cand (1 :: r) nullV 1 := ⟨by decide, fun p hp => by
  change firstC 1 r = _ at hp
  unfold firstC at hp
  rw [if_pos rfl] at hp
  cases hp
  rfl⟩
theorem cand_short {r : List UInt8} (h : r.length < 8) : firstK (2 :: r) = none := by
  show firstC 2 r = _
  unfold firstC
  rw [if_neg (by decide), if_pos rfl, if_neg (by omega)]
theorem cand_number (r : List UInt8) : Cand (2 :: r) ⟨1, (Num.val8 r : Int) - 9223372036854775808, ByteArray.empty⟩ 9 := by
  have hlt := Num.val8_lt r
  refine ⟨⟨(by omega : 1 < 256), ⟨?_, ?_⟩, (by decide : ByteArray.empty.size ≤ 140737488351232)⟩, fun p hp => ?_⟩
  · simp only; omega
  · simp only; omega
  · change firstC 2 r = _ at hp
    unfold firstC at hp
    rw [if_neg (by decide), if_pos rfl] at hp
    split at hp
    · cases hp; rfl
    · cases hp
/-- What has been read, loosely, of a text so far. -/
def LooseAt (l : List UInt8) (i : Nat) (L : List UInt8) : Prop := 1 ≤ i ∧ i ≤ l.length ∧ L.length < i ∧ (unesc (l.drop 1) = none ∨ unesc (l.drop 1) = (unesc (l.drop i)).map fun r => (L ++ r.1, (i - 1) + r.2))
theorem LooseAt.start {l : List UInt8} (h : 1 ≤ l.length) : LooseAt l 1 [] := ⟨Nat.le_refl _, h, by simp, .inr (AtText.start h).2.2.2⟩
theorem LooseAt.other {l : List UInt8} {i : Nat} {L : List UInt8} {c : UInt8} (h : LooseAt l i L) (hc : l[i]? = some c) (h0 : c ≠ 0) : LooseAt l (i + 1) (L ++ [c]) := by
  obtain ⟨h1, h2, h3, h4⟩ := h
  have hi := (List.getElem?_eq_some_iff.1 hc).1
  refine ⟨by omega, by omega, by simp; omega, ?_⟩
  rcases h4 with h4 | h4
  · exact .inl h4
  · exact .inr (AtText.other ⟨h1, h2, h3, h4⟩ hc h0).2.2.2
theorem LooseAt.zero {l : List UInt8} {i : Nat} {L : List UInt8} {d : UInt8} (h : LooseAt l i L) (hc : l[i]? = some 0) (hd : l[i + 1]? = some d) (h0 : d ≠ 0) : LooseAt l (i + 2) (L ++ [0]) := by
  obtain ⟨h1, h2, h3, h4⟩ := h
  have hi := (List.getElem?_eq_some_iff.1 hd).1
  refine ⟨by omega, by omega, by simp; omega, ?_⟩
  rcases h4 with h4 | h4
  · exact .inl h4
  · by_cases h5 : d = 255
    · subst h5
      exact .inr (AtText.zero ⟨h1, h2, h3, h4⟩ hc hd).2.2.2
    · exact .inl (AtText.bad ⟨h1, h2, h3, h4⟩ hc hd h0 h5)
theorem firstK_text {c : UInt8} (h : c = 3 ∨ c = 4) (r : List UInt8) : firstK (c :: r) = textK c (unesc r) := by
  show firstC c r = _
  unfold firstC
  have h1 : c ≠ 1 := by rcases h with rfl | rfl <;> decide
  have h2 : c ≠ 2 := by rcases h with rfl | rfl <;> decide
  rw [if_neg h1, if_neg h2, if_pos h]
theorem LooseAt.done {c : UInt8} {r : List UInt8} {i : Nat} {L : List UInt8} (h34 : c = 3 ∨ c = 4) (h : LooseAt (c :: r) i L) (hs : L.length ≤ 140737488351232) (he : (c :: r).length ≤ i + 1 ∨ ((c :: r)[i]? = some 0 ∧ (c :: r)[i + 1]? = some 0)) : Cand (c :: r) ⟨c.toNat - 1, 0, ⟨L.toArray⟩⟩ (i + 2) := by
  have hsz := str_size L
  refine ⟨⟨(by have := c.toNat_lt; simp only; omega), ⟨(by omega : (-9223372036854775808 : Int) ≤ 0), (by omega : (0 : Int) ≤ 9223372036854775807)⟩, (by simp only; omega)⟩, fun p hp => ?_⟩
  rw [firstK_text h34] at hp
  obtain ⟨h1, h2, h3, h4⟩ := h
  have hd : (c :: r).drop 1 = r := rfl
  rw [hd] at h4
  rcases h4 with h4 | h4
  · rw [h4] at hp; cases hp
  · rcases he with he | ⟨e0, e1⟩
    · rw [h4, unesc_short (by rw [List.length_drop]; omega)] at hp; cases hp
    · have h5 := AtText.done ⟨h1, h2, h3, h4⟩ e0 e1
      rw [hd] at h5
      rw [h5] at hp
      unfold textK at hp
      simp only [Option.bind_some] at hp
      split at hp
      · cases hp; rfl
      · cases hp
theorem cand_other {c : UInt8} {r : List UInt8} (h1 : c ≠ 1) (h2 : c ≠ 2) (h34 : ¬ (c = 3 ∨ c = 4)) : firstK (c :: r) = none := by
  show firstC c r = _
  unfold firstC
  rw [if_neg h1, if_neg h2, if_neg h34]
end Go.Proofs.YtclkpbokngamiaaDoor.Dt
