/-
  The walks of the reference's order of values.
-/
import Derived.Test.YthiajonjleambaaDoorValueC
import Derived.StillTailTactics
namespace Go.Proofs.YthiajonjleambaaDoor.Dt
open Go.RowKit Go.Proofs.YthiajonjleambaaDoor.By
theorem cmpL_at : ∀ (l m : List UInt8) (k : Nat), k ≤ l.length → k ≤ m.length → l.take k = m.take k → cmpL l m = cmpL (l.drop k) (m.drop k) := by
  intro l
  induction l with
  | nil => intro m k h _ _; obtain rfl : k = 0 := (by simpa using h); rfl
  | cons a l ih =>
    intro m k h1 h2 h3
    rcases k with _ | k
    · rfl
    · rcases m with _ | ⟨b, m⟩
      · simp at h2
      · simp only [List.take_succ_cons, List.cons.injEq] at h3
        obtain ⟨rfl, h3⟩ := h3
        rw [List.drop_succ_cons, List.drop_succ_cons, ← ih m k (by simpa using h1) (by simpa using h2) h3]
        conv => lhs; unfold cmpL
        simp [UInt8.lt_irrefl]
theorem cmpL_nil (l m : List UInt8) (h : l = [] ∨ m = []) : cmpL l m = cmpI l.length m.length := by
  rcases h with rfl | rfl
  · cases m with
    | nil => rfl
    | cons b m => unfold cmpL cmpI; rw [if_pos (by first | (simp; done) | (simp; omega))]
  · cases l with
    | nil => rfl
    | cons b l => unfold cmpL cmpI; rw [if_neg (by first | (simp; done) | (simp; omega)), if_pos (by first | (simp; done) | (simp; omega))]
theorem cmpL_head (a b : UInt8) (l m : List UInt8) (h : a.toNat ≠ b.toNat) : cmpL (a :: l) (b :: m) = cmpI a.toNat b.toNat := by
  unfold cmpL cmpI
  simp only [UInt8.lt_iff_toNat_lt]
  by_cases h1 : a.toNat < b.toNat
  · rw [if_pos h1, if_pos (by omega)]
  · rw [if_neg h1, if_pos (by omega), if_neg (by omega), if_pos (by omega)]
theorem take_next (s : ByteArray) (k : Nat) (h : k < s.size) : s.data.toList.take (k + 1) = s.data.toList.take k ++ [s[k]] := by
  rw [List.take_succ_eq_append_getElem (by simpa using h)]; rfl
theorem drop_next (s : ByteArray) (k : Nat) (h : k < s.size) : s.data.toList.drop k = s[k] :: s.data.toList.drop (k + 1) := by
  rw [List.drop_eq_getElem_cons (by simpa using h)]; rfl
theorem len_bytes (s : ByteArray) : s.data.toList.length = s.size := by rw [Array.length_toList, ByteArray.size_data]

theorem cmpI_sub (a b k : Nat) (h1 : k ≤ a) (h2 : k ≤ b) : cmpI ((a - k : Nat) : Int) ((b - k : Nat) : Int) = cmpI a b := by
  unfold cmpI
  rcases Nat.lt_trichotomy a b with h | h | h
  · rw [if_pos (by omega), if_pos (by omega)]
  · subst h; rw [if_neg (by omega), if_neg (by omega)]; simp
  · rw [if_neg (by omega), if_pos (by omega), if_neg (by omega), if_pos (by omega)]
/-- The reference's order of two texts. -/
theorem texts (s t : ByteArray) (w : World) (hs : s.size ≤ 9223372036854775807) (_ht : t.size ≤ 9223372036854775807) :
    Calls Tryd.prog 28 #[.string s, .string t] w fun e w' => e = .returned (.int .i64 (cmpL s.data.toList t.data.toList)) ∧ Below w.heap.size w w' := by
  obtain ⟨r, hr⟩ : ∃ r, r = cmpL s.data.toList t.data.toList := ⟨_, rfl⟩
  rw [← hr]
  have HR := Lib.hid hr; clear hr
  go_enter Tryd.func28, Tryd.ntmps28
  go_wp2_with fail
  go_loopw [5] (fun i wr => ∃ k : Nat, i = .int .i64 (k : Int) ∧ k ≤ s.size ∧ k ≤ t.size ∧ Hid (s.data.toList.take k = t.data.toList.take k) ∧ Below w.heap.size w wr) (fun i _ => s.size - (intOf i).toNat)
  case atStart => exact ⟨0, rfl, Nat.zero_le _, Nat.zero_le _, rfl, Below.refl _ _⟩
  case round =>
    obtain ⟨k, rfl, hk1, hk2, hpre, hbel⟩ := hrel
    by_cases h1 : k < s.size
    · by_cases h2 : k < t.size
      · have i1 : (k : Int) < (s.size : Int) := by omega
        have i2 : (k : Int) < (t.size : Int) := by omega
        have b1 := (s[k]).toNat_lt
        have b2 := (t[k]).toNat_lt
        by_cases hne : s[k].toNat = t[k].toNat
        · have t1 : (((s[k]).toNat : Int) != ((t[k]).toNat : Int)) = false := by rw [hne]; simp
          have HN := Lib.hid hne; clear hne
          go_wp2_with fail
          go_quiet (fail)
          go_wp2_with fail
          go_roundw
          case rel => exact ⟨k + 1, by go_num, by omega, by omega, by unfold Hid; rw [take_next s k h1, take_next t k h2, hpre.out, UInt8.toNat_inj.1 HN.out], drewN_below hbel _⟩
          case measure => simp [intOf]; omega
        · have t1 : (((s[k]).toNat : Int) != ((t[k]).toNat : Int)) = true := by simp; omega
          have HN := Lib.hid hne; clear hne
          go_wp2_with fail
          go_quiet (fail)
          have hb2 := drewN_below hbel nq
          clear hbel
          generalize wr.drewN nq = W2 at *
          go_wp2_with fail
          go_quiet ((go_at_call 27; exact quiet_eq (numbers _ _ _)))
          go_wp2_with fail
          go_ret
          refine ⟨?_, drewN_below hb2 _⟩
          rw [HR.out, cmpL_at _ _ k (by rw [len_bytes]; exact hk1) (by rw [len_bytes]; exact hk2) hpre.out, drop_next s k h1, drop_next t k h2, cmpL_head _ _ _ _ HN.out]
          rfl
      · obtain rfl : k = t.size := by omega
        go_wp2_with fail
        refine (numbers _ _ _).mono ?_
        rintro e w1 ⟨rfl, rfl⟩
        go_wp2_with fail
        go_ret
        have er : r = cmpI s.size t.size := by
          rw [HR.out, cmpL_at _ _ _ (by rw [len_bytes]; exact hk1) (by rw [len_bytes]; exact hk2) hpre.out, cmpL_nil _ _ (.inr (List.drop_eq_nil_of_le (by rw [len_bytes]; omega))), List.length_drop, List.length_drop, len_bytes, len_bytes]
          exact cmpI_sub _ _ _ hk1 hk2
        exact ⟨by rw [er]; rfl, hbel⟩
    · obtain rfl : k = s.size := by omega
      go_wp2_with fail
      refine (numbers _ _ _).mono ?_
      rintro e w1 ⟨rfl, rfl⟩
      go_wp2_with fail
      go_ret
      have er : r = cmpI s.size t.size := by
        rw [HR.out, cmpL_at _ _ _ (by rw [len_bytes]; exact hk1) (by rw [len_bytes]; exact hk2) hpre.out, cmpL_nil _ _ (.inl (List.drop_eq_nil_of_le (by rw [len_bytes]; omega))), List.length_drop, List.length_drop, len_bytes, len_bytes]
        exact cmpI_sub _ _ _ hk1 hk2
      exact ⟨by rw [er]; rfl, hbel⟩

theorem refCompare (a b : V) (w : World) (ha : a.k < 256) (hb : b.k < 256) (hs : a.s.size ≤ 9223372036854775807) (ht : b.s.size ≤ 9223372036854775807) :
    Calls Tryd.prog 14 #[a.val, b.val] w fun e w' => e = .returned (.int .i64 (cmpV a b)) ∧ Below w.heap.size w w' := by
  obtain ⟨k, n, s⟩ := a
  obtain ⟨j, m, t⟩ := b
  by_cases h : k = j
  · subst h
    have hr : cmpV ⟨k, n, s⟩ ⟨k, m, t⟩ = if k = 1 then cmpI n m else if k = 2 ∨ k = 3 then cmpL s.data.toList t.data.toList else 0 := by simp only [cmpV]; rw [if_neg (by simp)]
    rw [hr]; clear hr
    by_cases h1 : k = 1
    · subst h1
      rw [if_pos rfl]
      go_enter Tryd.func14, Tryd.ntmps14
      go_wp2_with fail
      refine (numbers _ _ _).mono ?_
      rintro e w1 ⟨rfl, rfl⟩
      go_wp2_with fail
      go_ret
      exact ⟨rfl, by go_grown⟩
    · rw [if_neg h1]
      have e1 : ((k : Int) == 1) = false := by simp; omega
      by_cases h2 : k = 2 ∨ k = 3
      · rw [if_pos h2]
        rcases h2 with rfl | rfl
        all_goals
          go_enter Tryd.func14, Tryd.ntmps14
          go_wp2_with fail
          refine (texts _ _ _ hs ht).mono ?_
          rintro e w1 ⟨rfl, hb1⟩
          go_wp2_with fail
          go_ret
          exact ⟨rfl, (((Below.refl _ _).alloc (Nat.le_refl _) _).alloc (by simp) _).trans (hb1.mono (by simp; omega))⟩
      · rw [if_neg h2]
        have e2 : ((k : Int) == 2) = false := by simp; omega
        have e3 : ((k : Int) == 3) = false := by simp; omega
        go_enter Tryd.func14, Tryd.ntmps14
        go_wp2_with fail
        go_ret
        exact ⟨rfl, by go_grown⟩
  · have hr : cmpV ⟨k, n, s⟩ ⟨j, m, t⟩ = cmpI k j := by simp only [cmpV]; rw [if_pos h]
    rw [hr]; clear hr
    have hne : ((k : Int) != (j : Int)) = true := by simp; omega
    simp only at ha hb
    go_enter Tryd.func14, Tryd.ntmps14
    go_wp2_with fail
    refine (numbers _ _ _).mono ?_
    rintro e w1 ⟨rfl, rfl⟩
    go_wp2_with fail
    go_ret
    exact ⟨rfl, by go_grown⟩
end Go.Proofs.YthiajonjleambaaDoor.Dt
