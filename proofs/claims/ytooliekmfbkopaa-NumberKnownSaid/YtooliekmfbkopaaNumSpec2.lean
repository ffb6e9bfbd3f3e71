/-
  Plain laws on numbers as bytes, there and back: no program in sight.
-/
import Derived.Test.YtooliekmfbkopaaNumSpec
namespace Go.Proofs.Ytooliekmfbkopaa.Num
open Go

/-- The number of bytes that bear their mark. -/
def dv (l : List UInt8) : Nat := l.foldl (fun n b => n * 128 + b.toNat % 128) 0
theorem dv_snoc (l : List UInt8) (c : UInt8) : dv (l ++ [c]) = dv l * 128 + c.toNat % 128 := by simp [dv]
theorem dv_lt (l : List UInt8) : dv l < 128 ^ l.length := by
  obtain ⟨r, rfl⟩ : ∃ r, l = r.reverse := ⟨l.reverse, by simp⟩
  induction r with
  | nil => simp [dv]
  | cons c r ih =>
    rw [List.reverse_cons, dv_snoc]
    simp only [List.length_append, List.length_singleton, Nat.pow_succ] at ih ⊢
    omega

theorem hi_mod (b : UInt8) (h : 128 ≤ b.toNat) : hi (b.toNat % 128) = b := by
  have := b.toNat_lt
  apply UInt8.toNat_inj.1
  simp only [hi, UInt8.toNat_ofNat']
  omega

theorem dg_dv (l : List UInt8) (hl : ∀ b ∈ l, 128 ≤ b.toNat) : (dg (dv l) l.length).map hi = l := by
  obtain ⟨r, rfl⟩ : ∃ r, l = r.reverse := ⟨l.reverse, by simp⟩
  induction r with
  | nil => simp [dv, dg_zero]
  | cons c r ih =>
    rw [List.reverse_cons] at hl ⊢
    have h1 := ih (fun b hb => hl b (List.mem_append_left _ hb))
    have hc := hl c (by simp)
    rw [dv_snoc, dg_step _ _ (Or.inr (by simp))]
    rw [show (dv r.reverse * 128 + c.toNat % 128) / 128 = dv r.reverse by omega, show (dv r.reverse * 128 + c.toNat % 128) % 128 = c.toNat % 128 by omega]
    simp only [List.length_append, List.length_singleton, Nat.add_sub_cancel, List.map_append, List.map_cons, List.map_nil]
    rw [h1, hi_mod c hc]

theorem dg_own : ∀ (s v : Nat), v ≤ s → dg v (dg v 0).length = dg v 0 := by
  intro s
  induction s with
  | zero => intro v h; obtain rfl : v = 0 := by omega
            rw [dg_zero]; exact dg_zero
  | succ s ih =>
    intro v h
    rcases Nat.eq_zero_or_pos v with h0 | h0
    · subst h0; rw [dg_zero]; exact dg_zero
    · have h1 := ih (v / 128) (by omega)
      have e := dg_step v 0 (Or.inl h0)
      rw [e, Nat.zero_sub] at *
      simp only [List.length_append, List.length_singleton]
      rw [dg_step v _ (Or.inr (by omega)), Nat.add_sub_cancel, h1]

theorem back_lo (l : List UInt8) (c : UInt8) (hl : ∀ b ∈ l, 128 ≤ b.toNat) (hk : l.length < 8) (hc : c.toNat < 128) :
    putL (dv l * 128 + c.toNat) = l ++ [c] ↔ (putL (dv l * 128 + c.toNat)).length = l.length + 1 := by
  refine ⟨fun h => by rw [h]; simp, fun h => ?_⟩
  have hv := dv_lt l
  have hv' : dv l < 128 ^ 7 := Nat.lt_of_lt_of_le hv (Nat.pow_le_pow_right (by omega) (by omega))
  have hs : dv l * 128 + c.toNat < 72057594037927936 := by omega
  have h1 := (putL_len_small _ hs).1
  rw [h] at h1
  have e1 : (dv l * 128 + c.toNat) / 128 = dv l := by omega
  have e2 : (dv l * 128 + c.toNat) % 128 = c.toNat := by omega
  rw [e1] at h1
  have h2 := dg_own _ (dv l) (Nat.le_refl _)
  rw [show (dg (dv l) 0).length = l.length by omega] at h2
  unfold putL
  rw [if_pos hs, e1, e2, ← h2, dg_dv l hl]
  simp

theorem back_8 (l : List UInt8) (c : UInt8) (hl : ∀ b ∈ l, 128 ≤ b.toNat) (hk : l.length = 8) :
    putL (dv l * 256 + c.toNat) = l ++ [c] ↔ (putL (dv l * 256 + c.toNat)).length = 9 := by
  refine ⟨fun h => by rw [h]; simp [hk], fun h => ?_⟩
  have hv := dv_lt l
  rw [hk] at hv
  have hc := c.toNat_lt
  rcases Nat.lt_or_ge (dv l * 256 + c.toNat) 72057594037927936 with hs | hs
  · have := (putL_len_small _ hs).2; omega
  · unfold putL
    rw [if_neg (by omega), show (dv l * 256 + c.toNat) / 256 = dv l by omega, show (dv l * 256 + c.toNat) % 256 = c.toNat by omega]
    have := dg_dv l hl
    rw [hk] at this
    rw [this]
    simp

/-- How Take's loop stands behind bytes that bear their mark. -/
theorem tk_dv (l : List UInt8) : ∀ k, k ≤ 8 → k ≤ l.length → (∀ b ∈ l.take k, 128 ≤ b.toNat) → tk (l.drop k) (dv (l.take k)) k = tk l 0 0 := by
  intro k
  induction k with
  | zero => intro _ _ _; simp [dv]
  | succ k ih =>
    intro h8 hk hb
    have hg : l[k]? = some l[k] := List.getElem?_eq_getElem (by omega)
    rw [take_snoc hg] at hb ⊢
    have h1 := ih (by omega) (by omega) (fun b hb' => hb b (List.mem_append_left _ hb'))
    have hc : 128 ≤ l[k].toNat := hb _ (List.mem_append_right _ (List.mem_singleton.2 rfl))
    have := (tk_go h1 hg (by omega) (by omega) (Nat.lt_of_lt_of_le (dv_lt _) (Nat.pow_le_pow_right (by omega) (by simp; omega)))).1
    rw [dv_snoc]
    exact this

/-- What Take comes to, by how many bytes bear their mark. -/
theorem refTake_at (l : List UInt8) (k : Nat) (hk8 : k ≤ 8) (hkl : k ≤ l.length) (hb : ∀ b ∈ l.take k, 128 ≤ b.toNat) (hstop : k < l.length → k < 8 → (l.getD k 0).toNat < 128) :
    (k = l.length → takeR l = (0, 0, 10)) ∧
    (k < l.length → ∀ m, m = (if k = 8 then 256 * dv (l.take k) + (l.getD k 0).toNat else 128 * dv (l.take k) + (l.getD k 0).toNat % 128) →
      takeR l = if putL m = l.take (k + 1) then (m, k + 1, 0) else (0, 0, 11)) := by
  have htk := tk_dv l k hk8 hkl hb
  refine ⟨fun h => takeR_short htk (by omega), fun h m hm => ?_⟩
  have hg : l[k]? = some (l.getD k 0) := by
    rw [List.getD, List.getElem?_eq_getElem h]; rfl
  have hlen : (l.take k).length = k := by simp; omega
  rw [take_snoc hg]
  by_cases h8 : k = 8
  · subst h8
    rw [if_pos rfl] at hm
    have e : m = dv (l.take 8) * 256 + (l.getD 8 0).toNat := by omega
    subst e
    rw [takeR_8 htk hg]
    have hiff := back_8 (l.take 8) (l.getD 8 0) hb hlen
    by_cases hL : (putL (dv (l.take 8) * 256 + (l.getD 8 0).toNat)).length = 9
    · rw [if_pos hL, if_pos (hiff.2 hL)]
    · rw [if_neg hL, if_neg (fun h => hL (hiff.1 h))]
  · rw [if_neg h8] at hm
    have hc := hstop h (by omega)
    have e : m = dv (l.take k) * 128 + (l.getD k 0).toNat := by omega
    subst e
    rw [takeR_lo htk hg (by omega) hc]
    have hiff := back_lo (l.take k) (l.getD k 0) hb (by omega) hc
    rw [hlen] at hiff
    by_cases hL : (putL (dv (l.take k) * 128 + (l.getD k 0).toNat)).length = k + 1
    · rw [if_pos hL, if_pos (hiff.2 hL)]
    · rw [if_neg hL, if_neg (fun h => hL (hiff.1 h))]
end Go.Proofs.Ytooliekmfbkopaa.Num
