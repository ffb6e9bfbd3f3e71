/-
  The value whose key stands ahead: plain laws, no program in sight.
-/
import Derived.Test.YtcimipebpfajgaaDoorKeySpec
import Derived.Test.YtcimipebpfajgaaDoorBytes
namespace Go.Proofs.YtcimipebpfajgaaDoor.Dt
open Go.RowKit Go.Proofs.YtcimipebpfajgaaDoor.By

/-- The text that stands up to its end, and how many bytes it and its end take. -/
def unesc : List UInt8 → Option (List UInt8 × Nat)
  | [] => none
  | [_] => none
  | c :: d :: l => if c ≠ 0 then (unesc (d :: l)).map (fun r => (c :: r.1, r.2 + 1)) else if d = 0 then some ([], 2) else if d = 255 then (unesc l).map (fun r => (0 :: r.1, r.2 + 2)) else none
theorem unesc_short {l : List UInt8} (h : l.length < 2) : unesc l = none := by
  match l, h with
  | [], _ => rfl
  | [_], _ => rfl
theorem unesc_other {c : UInt8} {l : List UInt8} (hc : c ≠ 0) : unesc (c :: l) = (unesc l).map (fun r => (c :: r.1, r.2 + 1)) := by
  cases l with
  | nil => rfl
  | cons d l => rw [unesc, if_pos hc]
theorem unesc_end (l : List UInt8) : unesc (0 :: 0 :: l) = some ([], 2) := by rw [unesc, if_neg (by simp), if_pos rfl]
theorem unesc_zero (l : List UInt8) : unesc (0 :: 255 :: l) = (unesc l).map (fun r => (0 :: r.1, r.2 + 2)) := by rw [unesc, if_neg (by simp), if_neg (by decide), if_pos rfl]
theorem unesc_bad {d : UInt8} {l : List UInt8} (h0 : d ≠ 0) (h1 : d ≠ 255) : unesc (0 :: d :: l) = none := by rw [unesc, if_neg (by simp), if_neg h0, if_neg h1]
/-- The value whose key stands ahead, and that key's length. -/
def textK (c : UInt8) (r : Option (List UInt8 × Nat)) : Option (V × Nat) := r.bind fun p => if p.1.length ≤ 1000 then some (⟨c.toNat - 1, 0, ⟨p.1.toArray⟩⟩, p.2 + 1) else none
def firstC (c : UInt8) (r : List UInt8) : Option (V × Nat) :=
  if c = 1 then some (⟨0, 0, ByteArray.empty⟩, 1) else if c = 2 then (if 8 ≤ r.length then some (⟨1, (Num.val8 r : Int) - 9223372036854775808, ByteArray.empty⟩, 9) else none)
    else if c = 3 ∨ c = 4 then textK c (unesc r) else none
def firstK : List UInt8 → Option (V × Nat)
  | [] => none
  | c :: r => firstC c r
/-- What the program says of it. -/
def FirstIs (o : Option (V × Nat)) (v : V) (n : Int) (ok : Bool) : Prop := match o with
  | some p => v = p.1 ∧ n = (p.2 : Int) ∧ ok = true
  | none => ok = false

theorem unesc_len : ∀ (m : Nat) (l : List UInt8), l.length ≤ m → ∀ t n, unesc l = some (t, n) → n ≤ l.length ∧ 2 ≤ n ∧ t.length + 2 ≤ n
  | 0, l, h, t, n, e => by
    rw [unesc_short (by omega)] at e; cases e
  | m + 1, l, h, t, n, e => by
    match l, h, e with
    | [], _, e => cases e
    | [_], _, e => cases e
    | c :: d :: l, h, e =>
      by_cases hc : c = 0
      · subst hc
        by_cases h0 : d = 0
        · subst h0
          rw [unesc_end] at e
          cases e
          simp
        · by_cases h1 : d = 255
          · subst h1
            rw [unesc_zero] at e
            cases hu : unesc l with
            | none => rw [hu] at e; cases e
            | some r =>
              rw [hu] at e
              cases e
              have := unesc_len m l (by simp at h; omega) r.1 r.2 hu
              simp only [List.length_cons]
              omega
          · rw [unesc_bad h0 h1] at e; cases e
      · rw [unesc_other hc] at e
        cases hu : unesc (d :: l) with
        | none => rw [hu] at e; cases e
        | some r =>
          rw [hu] at e
          cases e
          have := unesc_len m (d :: l) (by simp at h ⊢; omega) r.1 r.2 hu
          simp only [List.length_cons] at *
          omega
theorem firstK_len {l : List UInt8} {v : V} {n : Nat} (h : firstK l = some (v, n)) : 1 ≤ n ∧ n ≤ l.length := by
  match l, h with
  | [], h => cases h
  | c :: r, h =>
    change firstC c r = _ at h
    unfold firstC at h
    split at h
    · cases h; simp
    · split at h
      · split at h
        · cases h; simp; omega
        · cases h
      · split at h
        · unfold textK at h
          cases hu : unesc r with
          | none => rw [hu] at h; cases h
          | some p =>
            rw [hu] at h
            simp only [Option.bind_some] at h
            split at h
            · cases h
              have := unesc_len r.length r (Nat.le_refl _) p.1 p.2 hu
              simp only [List.length_cons]
              omega
            · cases h
        · cases h
/-- What has been read of a text so far. -/
def AtText (l : List UInt8) (i : Nat) (L : List UInt8) : Prop := 1 ≤ i ∧ i ≤ l.length ∧ L.length < i ∧ unesc (l.drop 1) = (unesc (l.drop i)).map fun r => (L ++ r.1, (i - 1) + r.2)
theorem AtText.start {l : List UInt8} (h : 1 ≤ l.length) : AtText l 1 [] := ⟨Nat.le_refl _, h, by simp, by
  cases unesc (l.drop 1) with
  | none => rfl
  | some r => simp⟩
theorem drop_at2 {l : List UInt8} {i : Nat} {c : UInt8} (h : l[i]? = some c) : l.drop i = c :: l.drop (i + 1) := by
  obtain ⟨hi, rfl⟩ := List.getElem?_eq_some_iff.1 h
  exact List.drop_eq_getElem_cons hi
theorem AtText.other {l : List UInt8} {i : Nat} {L : List UInt8} {c : UInt8} (h : AtText l i L) (hc : l[i]? = some c) (h0 : c ≠ 0) : AtText l (i + 1) (L ++ [c]) := by
  obtain ⟨h1, h2, h3, h4⟩ := h
  have hi := (List.getElem?_eq_some_iff.1 hc).1
  refine ⟨by omega, by omega, by simp; omega, ?_⟩
  rw [h4, drop_at2 hc, unesc_other h0]
  cases unesc (l.drop (i + 1)) with
  | none => rfl
  | some r => simp; omega
theorem AtText.zero {l : List UInt8} {i : Nat} {L : List UInt8} (h : AtText l i L) (hc : l[i]? = some 0) (hd : l[i + 1]? = some 255) : AtText l (i + 2) (L ++ [0]) := by
  obtain ⟨h1, h2, h3, h4⟩ := h
  have hi := (List.getElem?_eq_some_iff.1 hd).1
  refine ⟨by omega, by omega, by simp; omega, ?_⟩
  rw [h4, drop_at2 hc, drop_at2 hd, unesc_zero]
  cases unesc (l.drop (i + 2)) with
  | none => rfl
  | some r => simp; omega
theorem AtText.done {l : List UInt8} {i : Nat} {L : List UInt8} (h : AtText l i L) (hc : l[i]? = some 0) (hd : l[i + 1]? = some 0) : unesc (l.drop 1) = some (L, i + 1) := by
  obtain ⟨h1, h2, h3, h4⟩ := h
  rw [h4, drop_at2 hc, drop_at2 hd, unesc_end]
  simp; omega
theorem AtText.bad {l : List UInt8} {i : Nat} {L : List UInt8} {d : UInt8} (h : AtText l i L) (hc : l[i]? = some 0) (hd : l[i + 1]? = some d) (h0 : d ≠ 0) (h255 : d ≠ 255) : unesc (l.drop 1) = none := by
  rw [h.2.2.2, drop_at2 hc, drop_at2 hd, unesc_bad h0 h255]; rfl
theorem AtText.short {l : List UInt8} {i : Nat} {L : List UInt8} (h : AtText l i L) (hi : l.length ≤ i + 1) : unesc (l.drop 1) = none := by
  rw [h.2.2.2, unesc_short (by rw [List.length_drop]; omega)]; rfl
end Go.Proofs.YtcimipebpfajgaaDoor.Dt
