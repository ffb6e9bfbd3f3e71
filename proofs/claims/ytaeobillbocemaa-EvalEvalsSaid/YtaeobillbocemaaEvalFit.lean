/-
  The walk of the reference's fit: which kinds go together.
-/
import Derived.Test.YtaeobillbocemaaEvalTog
import Derived.Test.YtaeobillbocemaaLaterTail
namespace Go.Proofs.Ytaeobillbocemaa.Dt
open Go.RowKit Go.Proofs.Ytaeobillbocemaa.By

/-- The loop, for either kind that is wanted. -/
def FitsIn (l : List Nat) (kind k : Nat) : Prop := (l.take k).all (fun k => decide (k = 0 ∨ k = kind)) = true

set_option maxHeartbeats 4000000 in
theorem fit (op : Nat) (v : Value) (l : List Nat) (w : World) (h : U8sAt w v l) (hl : l.length ≤ 140737488351232) (hs : ∀ k ∈ l, k < 256) (ho : op < 256) (h2 : 12 ≤ op → op ≤ 17 → 2 ≤ l.length) :
    Calls Try.prog 41 #[.int .u8 (op : Int), v] w fun e w' => e = .returned (.bool (togetherB op l)) ∧ Below w.heap.size w w' := by
  have hat := h
  obtain ⟨a, c, rfl⟩ := h.shape
  have HAT := Lib.hid h; clear h hat
  have HS := Lib.hid hs; clear hs
  unfold togetherB
  by_cases c1 : op = 5 ∨ op = 20 ∨ 22 ≤ op
  · rw [if_pos c1]
    by_cases x1 : op = 5
    · subst x1
      go_enter Try.func41, Try.ntmps41
      go_wp2_with fail
      go_ret
      exact ⟨rfl, by go_grown⟩
    · have e1 : ((op : Int) == 5) = false := by simp; omega
      by_cases x2 : op = 20
      · subst x2
        go_enter Try.func41, Try.ntmps41
        go_wp2_with fail
        go_ret
        exact ⟨rfl, by go_grown⟩
      · have e2 : ((op : Int) == 20) = false := by simp; omega
        have x3 : 22 ≤ op := by omega
        have e3 : decide ((22 : Int) ≤ (op : Int)) = true := decide_eq_true (by omega)
        go_enter Try.func41, Try.ntmps41
        go_wp2_with fail
        go_ret
        exact ⟨rfl, by go_grown⟩
  · rw [if_neg c1]
    have e1 : ((op : Int) == 5) = false := by simp; omega
    have e2 : ((op : Int) == 20) = false := by simp; omega
    have e3 : decide ((22 : Int) ≤ (op : Int)) = false := decide_eq_false (by omega)
    by_cases c3 : 12 ≤ op ∧ op ≤ 17
    · rw [if_neg (by omega), if_pos c3]
      obtain ⟨x1, x2⟩ := c3
      have e5 : decide ((12 : Int) ≤ (op : Int)) = true := decide_eq_true (by omega)
      have e6 : decide ((op : Int) ≤ 17) = true := decide_eq_true (by omega)
      have hl2 := h2 x1 x2
      obtain ⟨p, hp⟩ : ∃ p, l[0]? = some p := ⟨l[0], by simp⟩
      obtain ⟨q, hq⟩ : ∃ q, l[1]? = some q := ⟨l[1], by simp⟩
      obtain ⟨b, o, rfl, hbz, d0⟩ := at1 HAT.out hp
      obtain ⟨b', o', hbo, _, d1⟩ := at1 HAT.out hq
      cases hbo
      rw [Nat.add_zero] at d0
      have gp : l.getD 0 0 = p := by rw [List.getD, hp]; rfl
      have gq : l.getD 1 0 = q := by rw [List.getD, hq]; rfl
      rw [gp, gq]
      have i0 : (0 : Int) < (l.length : Int) := by omega
      have i1 : (1 : Int) < (l.length : Int) := by omega
      clear gp gq hp hq
      have m1 : ((p : Int) == (q : Int)) = decide (p = q) := by rw [Bool.eq_iff_iff]; simp; omega
      have m2 : ((p : Int) == 0) = decide (p = 0) := by rw [Bool.eq_iff_iff]; simp
      have m3 : ((q : Int) == 0) = decide (q = 0) := by rw [Bool.eq_iff_iff]; simp
      go_enter Try.func41, Try.ntmps41
      by_cases k1 : p = q
      · subst k1
        go_wp2_with fail
        go_quiet (fail)
        go_wp2_with fail
        go_ret
        exact ⟨ret_bool (by simp), drewN_below (Below.refl _ _) _⟩
      · rw [decide_eq_false k1] at m1
        by_cases k2 : p = 0
        · have K2 := Lib.hid k2
          rw [decide_eq_true k2] at m2
          clear k2
          go_wp2_with fail
          go_quiet (fail)
          go_wp2_with fail
          go_ret
          exact ⟨ret_bool (by simp [K2.out]), drewN_below (Below.refl _ _) _⟩
        · rw [decide_eq_false k2] at m2
          by_cases k3 : q = 0
          · have K3 := Lib.hid k3
            rw [decide_eq_true k3] at m3
            clear k3
            go_wp2_with fail
            go_quiet (fail)
            go_wp2_with fail
            go_ret
            exact ⟨ret_bool (by simp [K3.out]), drewN_below (Below.refl _ _) _⟩
          · rw [decide_eq_false k3] at m3
            go_wp2_with fail
            go_quiet (fail)
            go_wp2_with fail
            go_ret
            exact ⟨ret_bool (by simp [k1, k2, k3]), drewN_below (Below.refl _ _) _⟩
    · have hrest : ∀ want : Nat, (want = if op = 11 then 2 else 1) → (if op = 11 then allB 2 l else if 12 ≤ op ∧ op ≤ 17 then decide (l.getD 0 0 = l.getD 1 0 ∨ l.getD 0 0 = 0 ∨ l.getD 1 0 = 0) else allB 1 l) = allB want l := by
        intro want hw
        rw [hw, if_neg c3]
        split <;> rfl
      by_cases c2 : op = 11
      · rw [hrest 2 (by simp [c2])]
        subst c2
        clear hrest h2 c3 c1
        go_enter Try.func41, Try.ntmps41
        go_wp2_with fail
        go_loop [6] (fun i => ∃ k : Nat, i = .int .i64 (k : Int) ∧ k ≤ l.length ∧ Hid (FitsIn l 2 k)) (fun i => l.length - (intOf i).toNat)
        case atStart => exact ⟨0, rfl, Nat.zero_le _, rfl⟩
        case round =>
          obtain ⟨k, rfl, hkl, hall⟩ := hrel
          by_cases hlt : k < l.length
          · obtain ⟨y, hy⟩ : ∃ y, l[k]? = some y := ⟨l[k], by simp⟩
            have hyb : y < 256 := HS.out y (List.mem_of_getElem? hy)
            obtain ⟨b, o, rfl, hbz, d0⟩ := at1 HAT.out hy
            have HY := Lib.hid hy; clear hy
            have ilt : (k : Int) < (l.length : Int) := by omega
            by_cases h0 : y = 0
            · subst h0
              go_wp2_with fail
              go_round
              case rel => exact ⟨k + 1, by go_num, by omega, all_take hall.out HY.out (by simp)⟩
              case measure => simp [intOf]; omega
            · have e0 : ((y : Int) != 0) = true := by simp; omega
              by_cases h1 : y = 2
              · have e7 : ((y : Int) != 2) = false := by simp [h1]
                have H1 := Lib.hid h1; clear h1
                go_wp2_with fail
                go_round
                case rel => exact ⟨k + 1, by go_num, by omega, all_take hall.out HY.out (by simp [H1.out])⟩
                case measure => simp [intOf]; omega
              · have e7 : ((y : Int) != 2) = true := by simp; omega
                go_wp2_with fail
                go_ret
                exact ⟨ret_bool (by unfold allB; rw [all_not HY.out (by simp [h0, h1])]), by go_grown⟩
          · obtain rfl : k = l.length := by omega
            go_wp2_with fail
            go_ret
            have he := hall.out
            unfold FitsIn at he
            rw [List.take_length] at he
            exact ⟨ret_bool (by unfold allB; rw [he]), by go_grown⟩
      · rw [hrest 1 (by simp [c2])]
        have e4 : ((op : Int) == 11) = false := by simp; omega
        clear hrest h2
        by_cases x1 : 12 ≤ op
        · have e5 : decide ((12 : Int) ≤ (op : Int)) = true := decide_eq_true (by omega)
          have e6 : decide ((op : Int) ≤ 17) = false := decide_eq_false (by omega)
          clear c3 c1
          go_enter Try.func41, Try.ntmps41
          go_wp2_with fail
          go_loop [6] (fun i => ∃ k : Nat, i = .int .i64 (k : Int) ∧ k ≤ l.length ∧ Hid (FitsIn l 1 k)) (fun i => l.length - (intOf i).toNat)
          case atStart => exact ⟨0, rfl, Nat.zero_le _, rfl⟩
          case round =>
            obtain ⟨k, rfl, hkl, hall⟩ := hrel
            by_cases hlt : k < l.length
            · obtain ⟨y, hy⟩ : ∃ y, l[k]? = some y := ⟨l[k], by simp⟩
              have hyb : y < 256 := HS.out y (List.mem_of_getElem? hy)
              obtain ⟨b, o, rfl, hbz, d0⟩ := at1 HAT.out hy
              have HY := Lib.hid hy; clear hy
              have ilt : (k : Int) < (l.length : Int) := by omega
              by_cases h0 : y = 0
              · subst h0
                go_wp2_with fail
                go_round
                case rel => exact ⟨k + 1, by go_num, by omega, all_take hall.out HY.out (by simp)⟩
                case measure => simp [intOf]; omega
              · have e0 : ((y : Int) != 0) = true := by simp; omega
                by_cases h1 : y = 1
                · have e7 : ((y : Int) != 1) = false := by simp [h1]
                  have H1 := Lib.hid h1; clear h1
                  go_wp2_with fail
                  go_round
                  case rel => exact ⟨k + 1, by go_num, by omega, all_take hall.out HY.out (by simp [H1.out])⟩
                  case measure => simp [intOf]; omega
                · have e7 : ((y : Int) != 1) = true := by simp; omega
                  go_wp2_with fail
                  go_ret
                  exact ⟨ret_bool (by unfold allB; rw [all_not HY.out (by simp [h0, h1])]), by go_grown⟩
            · obtain rfl : k = l.length := by omega
              go_wp2_with fail
              go_ret
              have he := hall.out
              unfold FitsIn at he
              rw [List.take_length] at he
              exact ⟨ret_bool (by unfold allB; rw [he]), by go_grown⟩
        · have e5 : decide ((12 : Int) ≤ (op : Int)) = false := decide_eq_false (by omega)
          clear c3 c1
          go_enter Try.func41, Try.ntmps41
          go_wp2_with fail
          go_loop [6] (fun i => ∃ k : Nat, i = .int .i64 (k : Int) ∧ k ≤ l.length ∧ Hid (FitsIn l 1 k)) (fun i => l.length - (intOf i).toNat)
          case atStart => exact ⟨0, rfl, Nat.zero_le _, rfl⟩
          case round =>
            obtain ⟨k, rfl, hkl, hall⟩ := hrel
            by_cases hlt : k < l.length
            · obtain ⟨y, hy⟩ : ∃ y, l[k]? = some y := ⟨l[k], by simp⟩
              have hyb : y < 256 := HS.out y (List.mem_of_getElem? hy)
              obtain ⟨b, o, rfl, hbz, d0⟩ := at1 HAT.out hy
              have HY := Lib.hid hy; clear hy
              have ilt : (k : Int) < (l.length : Int) := by omega
              by_cases h0 : y = 0
              · subst h0
                go_wp2_with fail
                go_round
                case rel => exact ⟨k + 1, by go_num, by omega, all_take hall.out HY.out (by simp)⟩
                case measure => simp [intOf]; omega
              · have e0 : ((y : Int) != 0) = true := by simp; omega
                by_cases h1 : y = 1
                · have e7 : ((y : Int) != 1) = false := by simp [h1]
                  have H1 := Lib.hid h1; clear h1
                  go_wp2_with fail
                  go_round
                  case rel => exact ⟨k + 1, by go_num, by omega, all_take hall.out HY.out (by simp [H1.out])⟩
                  case measure => simp [intOf]; omega
                · have e7 : ((y : Int) != 1) = true := by simp; omega
                  go_wp2_with fail
                  go_ret
                  exact ⟨ret_bool (by unfold allB; rw [all_not HY.out (by simp [h0, h1])]), by go_grown⟩
            · obtain rfl : k = l.length := by omega
              go_wp2_with fail
              go_ret
              have he := hall.out
              unfold FitsIn at he
              rw [List.take_length] at he
              exact ⟨ret_bool (by unfold allB; rw [he]), by go_grown⟩
end Go.Proofs.Ytaeobillbocemaa.Dt
