/-
  The walks on kinds: which go together.
-/
import Derived.Test.YtclkpbokngamiaaDoSpec
import Derived.Test.YtclkpbokngamiaaEvalW
import Derived.Test.YtclkpbokngamiaaOpen
namespace Go.Proofs.Ytclkpbokngamiaa.Dt
open Go.RowKit Go.Proofs.Ytclkpbokngamiaa.By

theorem at1 {w : World} {a : Option Addr} {n c k : Nat} {l : List Nat} {y : Nat} (h : U8sAt w (.slice a n c) l) (hk : l[k]? = some y) :
    ∃ b o, a = some ⟨b, o, none⟩ ∧ b < w.heap.size ∧ w.cell? ⟨b, o + k, none⟩ = some (.int .u8 (y : Int)) := by
  obtain ⟨a', c', e, _, h⟩ := h
  simp only [Value.slice.injEq] at e
  obtain ⟨rfl, _, _⟩ := e
  obtain ⟨b, o, rfl, h'⟩ := h k y hk
  have h0 := h' 0 _ rfl
  rw [Nat.mul_one, Nat.add_zero] at h0
  exact ⟨b, o, rfl, cell_lt h0, h0⟩

theorem all (kind : Nat) (v : Value) (l : List Nat) (w : World) (h : U8sAt w v l) (hl : l.length ≤ 140737488351232) (hs : ∀ k ∈ l, k < 256) (hk : kind < 256) :
    Calls Try.prog 45 #[.int .u8 (kind : Int), v] w fun e w' => e = .returned (.bool (allB kind l)) ∧ w = w' := by
  obtain ⟨a, c, rfl⟩ := h.shape
  have HAT := Lib.hid h; clear h
  have HS := Lib.hid hs; clear hs
  go_enter Try.func45, Try.ntmps45
  go_wp2_with fail
  go_loop [9] (fun i => ∃ k : Nat, i = .int .i64 (k : Int) ∧ k ≤ l.length ∧ Hid ((l.take k).all (fun k => decide (k = 0 ∨ k = kind)) = true)) (fun i => l.length - (intOf i).toNat)
  case atStart => exact ⟨0, rfl, Nat.zero_le _, rfl⟩
  case round =>
    obtain ⟨k, rfl, hkl, hall⟩ := hrel
    by_cases hlt : k < l.length
    · obtain ⟨y, hy⟩ : ∃ y, l[k]? = some y := ⟨l[k], by simp⟩
      have hyb : y < 256 := HS.out y (List.mem_of_getElem? hy)
      obtain ⟨b, o, rfl, hbz, d0⟩ := at1 HAT.out hy
      have HY := Lib.hid hy; clear hy
      have ilt : (k : Int) < (l.length : Int) := by omega
      by_cases h0 : y = 0
      · subst h0
        go_wp2_with fail
        go_round
        case rel => exact ⟨k + 1, by go_num, by omega, all_take hall.out HY.out (by simp)⟩
        case measure => simp [intOf]; omega
      · have e0 : ((y : Int) != 0) = true := by simp; omega
        by_cases h1 : y = kind
        · subst h1
          go_wp2_with fail
          go_round
          case rel => exact ⟨k + 1, by go_num, by omega, all_take hall.out HY.out (by simp)⟩
          case measure => simp [intOf]; omega
        · have e1 : ((y : Int) != (kind : Int)) = true := by simp; omega
          go_wp2_with fail
          go_ret
          exact ⟨ret_bool (by unfold allB; rw [all_not HY.out (by simp [h0, h1])]), rfl⟩
    · obtain rfl : k = l.length := by omega
      go_wp2_with fail
      go_ret
      have he := hall.out
      rw [List.take_length] at he
      exact ⟨ret_bool (by unfold allB; rw [he]), rfl⟩

set_option maxHeartbeats 1000000 in
theorem together (op : Nat) (v : Value) (l : List Nat) (w : World) (h : U8sAt w v l) (hl : l.length ≤ 140737488351232) (hs : ∀ k ∈ l, k < 256) (ho : op < 256) (h2 : 12 ≤ op → op ≤ 17 → 2 ≤ l.length) :
    Calls Try.prog 37 #[.int .u8 (op : Int), v] w fun e w' => e = .returned (.bool (togetherB op l)) ∧ Below w.heap.size w w' := by
  have hat := h
  obtain ⟨a, c, rfl⟩ := h.shape
  have HALL := Lib.hid (fun kind w' hk (he : w = w') => all kind (.slice a l.length c) l w' (he ▸ h) hl hs hk)
  have HAT := Lib.hid h; clear h hat
  unfold togetherB
  by_cases c1 : op = 5 ∨ op = 20 ∨ 22 ≤ op
  · rw [if_pos c1]
    by_cases x1 : op = 5
    · subst x1
      go_enter Try.func37, Try.ntmps37
      go_wp2_with fail
      go_ret
      exact ⟨rfl, by go_grown⟩
    · have e1 : ((op : Int) == 5) = false := by simp; omega
      by_cases x2 : op = 20
      · subst x2
        go_enter Try.func37, Try.ntmps37
        go_wp2_with fail
        go_ret
        exact ⟨rfl, by go_grown⟩
      · have e2 : ((op : Int) == 20) = false := by simp; omega
        have x3 : 22 ≤ op := by omega
        have e3 : decide ((22 : Int) ≤ (op : Int)) = true := decide_eq_true (by omega)
        go_enter Try.func37, Try.ntmps37
        go_wp2_with fail
        go_ret
        exact ⟨rfl, by go_grown⟩
  · rw [if_neg c1]
    have e1 : ((op : Int) == 5) = false := by simp; omega
    have e2 : ((op : Int) == 20) = false := by simp; omega
    have e3 : decide ((22 : Int) ≤ (op : Int)) = false := decide_eq_false (by omega)
    by_cases c2 : op = 11
    · subst c2
      rw [if_pos rfl]
      go_enter Try.func37, Try.ntmps37
      go_wp2_with fail
      refine (HALL.out 2 _ (by omega) rfl).mono ?_
      rintro e w1 ⟨rfl, rfl⟩
      go_wp2_with fail
      go_ret
      exact ⟨rfl, by go_grown⟩
    · rw [if_neg c2]
      have e4 : ((op : Int) == 11) = false := by simp; omega
      by_cases c3 : 12 ≤ op ∧ op ≤ 17
      · rw [if_pos c3]
        obtain ⟨x1, x2⟩ := c3
        have e5 : decide ((12 : Int) ≤ (op : Int)) = true := decide_eq_true (by omega)
        have e6 : decide ((op : Int) ≤ 17) = true := decide_eq_true (by omega)
        have hl2 := h2 x1 x2
        obtain ⟨p, hp⟩ : ∃ p, l[0]? = some p := ⟨l[0], by simp⟩
        obtain ⟨q, hq⟩ : ∃ q, l[1]? = some q := ⟨l[1], by simp⟩
        obtain ⟨b, o, rfl, hbz, d0⟩ := at1 HAT.out hp
        obtain ⟨b', o', hbo, _, d1⟩ := at1 HAT.out hq
        cases hbo
        rw [Nat.add_zero] at d0
        have gp : l.getD 0 0 = p := by rw [List.getD, hp]; rfl
        have gq : l.getD 1 0 = q := by rw [List.getD, hq]; rfl
        rw [gp, gq]
        have i0 : (0 : Int) < (l.length : Int) := by omega
        have i1 : (1 : Int) < (l.length : Int) := by omega
        clear gp gq hp hq
        by_cases k1 : p = q
        · subst k1
          go_enter Try.func37, Try.ntmps37
          go_wp2_with fail
          go_quiet (fail)
          go_wp2_with fail
          go_ret
          exact ⟨ret_bool (by simp), drewN_below (Below.refl _ _) _⟩
        · have m1 : ((p : Int) == (q : Int)) = false := by simp; omega
          by_cases k2 : p = 0
          · have m2 : ((p : Int) == 0) = true := by simp [k2]
            have K2 := Lib.hid k2; clear k2
            go_enter Try.func37, Try.ntmps37
            go_wp2_with fail
            go_quiet (fail)
            go_wp2_with fail
            go_ret
            exact ⟨ret_bool (by simp [K2.out]), drewN_below (Below.refl _ _) _⟩
          · have m2 : ((p : Int) == 0) = false := by simp; omega
            by_cases k3 : q = 0
            · have m3 : ((q : Int) == 0) = true := by simp [k3]
              have K3 := Lib.hid k3; clear k3
              go_enter Try.func37, Try.ntmps37
              go_wp2_with fail
              go_quiet (fail)
              go_wp2_with fail
              go_ret
              exact ⟨ret_bool (by simp [K3.out]), drewN_below (Below.refl _ _) _⟩
            · have m3 : ((q : Int) == 0) = false := by simp; omega
              go_enter Try.func37, Try.ntmps37
              go_wp2_with fail
              go_quiet (fail)
              go_wp2_with fail
              go_ret
              exact ⟨ret_bool (by simp [k1, k2, k3]), drewN_below (Below.refl _ _) _⟩
      · rw [if_neg c3]
        by_cases x1 : 12 ≤ op
        · have e5 : decide ((12 : Int) ≤ (op : Int)) = true := decide_eq_true (by omega)
          have e6 : decide ((op : Int) ≤ 17) = false := decide_eq_false (by omega)
          go_enter Try.func37, Try.ntmps37
          go_wp2_with fail
          refine (HALL.out 1 _ (by omega) rfl).mono ?_
          rintro e w1 ⟨rfl, rfl⟩
          go_wp2_with fail
          go_ret
          exact ⟨rfl, by go_grown⟩
        · have e5 : decide ((12 : Int) ≤ (op : Int)) = false := decide_eq_false (by omega)
          go_enter Try.func37, Try.ntmps37
          go_wp2_with fail
          refine (HALL.out 1 _ (by omega) rfl).mono ?_
          rintro e w1 ⟨rfl, rfl⟩
          go_wp2_with fail
          go_ret
          exact ⟨rfl, by go_grown⟩
end Go.Proofs.Ytclkpbokngamiaa.Dt
