/-
  The walk of value.CompareRows: the order of rows.
-/
import Derived.Test.YtghfaeapgghhlaaDoorRowsCap
import Derived.Test.YtghfaeapgghhlaaDoorValueW
namespace Go.Proofs.YtghfaeapgghhlaaDoor.Dt
open Go.RowKit Go.Proofs.YtghfaeapgghhlaaDoor.By

set_option maxRecDepth 100000 in
set_option maxHeartbeats 8000000 in
theorem rowsW (rv tv : Value) (a b : List V) (w : World) (ha : VsAt w rv a) (hb : VsAt w tv b) (la : a.length ≤ 1000000) (lb : b.length ≤ 1000000) :
    Calls Tryd.prog 13 #[rv, tv] w fun e w' => e = .returned (.int .i64 (cmpRow a b)) ∧ Below w.heap.size w w' := by
  obtain ⟨ar, cr, rfl⟩ := ha.shape
  obtain ⟨at', ct, rfl⟩ := hb.shape
  have hca := ha.cap
  have hcb := hb.cap
  have HA := Lib.hid ha
  have HB := Lib.hid hb
  have LA := Lib.hid la
  have LB := Lib.hid lb
  have CA := Lib.hid hca
  have CB := Lib.hid hcb
  obtain ⟨R, hR⟩ : ∃ R, R = cmpRow a b := ⟨_, rfl⟩
  rw [← hR]
  have HR := Lib.hid hR
  clear ha hb la lb hR
  obtain ⟨m, hm⟩ : ∃ m, m = min a.length b.length := ⟨_, rfl⟩
  have hmi : min (a.length : Int) (b.length : Int) = (m : Int) := by omega
  have HM := Lib.hid hm
  clear hm
  go_enter Tryd.func13, Tryd.ntmps13
  go_wp2_with fail
  go_loopg [12] m (fun gk iv wr => ∃ k : Nat, iv = .int .i64 (k : Int) ∧ gk = m - k ∧ k ≤ m ∧ Hid (Below w.heap.size w wr) ∧ Hid (∀ j : Nat, j < k → ∀ x y : V, a[j]? = some x → b[j]? = some y → cmpV x y = 0))
  case atStart => exact ⟨0, rfl, rfl, Nat.zero_le _, Lib.hid (Below.refl _ _), Lib.hid (fun j hj => by omega)⟩
  case round =>
    obtain ⟨k, rfl, rfl, hkm, HBEL, HALL⟩ := hrel
    by_cases hlt : k < m
    · have ilt : (k : Int) < (m : Int) := by omega
      have hla : k < a.length := by have := HM.out; omega
      have hlb : k < b.length := by have := HM.out; omega
      have ja : (k : Int) < (a.length : Int) := by omega
      have jb : (k : Int) < (b.length : Int) := by omega
      obtain ⟨v, hv⟩ : ∃ v, a[k]? = some v := ⟨a[k], by simp⟩
      obtain ⟨u, hu⟩ : ∃ u, b[k]? = some u := ⟨b[k], by simp⟩
      obtain ⟨b1, o1, rfl, hbz1, d0, d1, d2⟩ := at3 (HA.out.below HBEL.out) hv
      obtain ⟨b2, o2, rfl, hbz2, e0, e1, e2⟩ := at3 (HB.out.below HBEL.out) hu
      have HV := Lib.hid hv
      have HU := Lib.hid hu
      have HLT := Lib.hid hlt
      have HKK : Hid (wrap64 ((k : Int) + 1) = ((k + 1 : Nat) : Int)) := Lib.hid (by have := LA.out; unfold wrap64; omega)
      obtain ⟨C, hC⟩ : ∃ C, C = cmpV v u := ⟨_, rfl⟩
      have HC := Lib.hid hC
      have HCMP : Hid (∀ W, Calls Tryd.prog 20 #[v.val, u.val] W fun e w' => e = .returned (.int .i64 C) ∧ Below W.heap.size W w') := Lib.hid (fun W => by
        rw [hC]; exact compare v u W)
      clear hv hu hlt hC hkm hla hlb hmi
      go_upto_region 4 with fail
      have l0 := lat_cell d0
      have l1 := lat_cell d1
      have l2 := lat_cell d2
      have m0 := lat_cell e0
      have m1 := lat_cell e1
      have m2 := lat_cell e2
      refine wp_region_later (by kernel_rfl) (by kernel_rfl) ?_
      repeat (go_big_quiet_step ((go_at_call 20; exact lat_calls (HCMP.out _))))
      refine wpQuiet_nil ?_
      refine later_out (fun w2 hb2 => ?_)
      have B2 := Lib.hid (next HBEL.out hb2)
      clear l0 l1 l2 m0 m1 m2 d0 d1 d2 e0 e1 e2 hb2 HCMP
      by_cases hz : C = 0
      · have hne : ((C : Int) != 0) = false := by rw [hz]; rfl
        have HAL := Lib.hid (show ∀ j : Nat, j < k + 1 → ∀ x y : V, a[j]? = some x → b[j]? = some y → cmpV x y = 0 from fun j hj x y hx hy => by
          by_cases hjk : j < k
          · exact HALL.out j hjk x y hx hy
          · obtain rfl : j = k := by omega
            rw [HV.out] at hx; rw [HU.out] at hy
            cases hx; cases hy
            rw [← HC.out, hz])
        clear hz
        go_wp2_with fail
        go_roundg (m - (k + 1))
        case measure => exact Nat.sub_lt_sub_left HLT.out (Nat.lt_succ_self _)
        case rel => exact ⟨k + 1, by first | exact congrArg (Value.int .i64) HKK.out | (simp; exact HKK.out), rfl, HLT.out, B2, HAL⟩
      · have hne : ((C : Int) != 0) = true := by simp [hz]
        have HRC : Hid (R = C) := Lib.hid (by
          rw [HR.out, HC.out]
          exact cmpRow_step HALL.out HV.out HU.out (by rw [← HC.out]; exact hz))
        clear hz
        go_wp2_with fail
        refine bodyPost_ret (v := .int .i64 C) (by simp [results, Tryd.results13, go_sem]) rfl ⟨by rw [HRC.out], B2.out⟩
    · have ilt : ¬ (k : Int) < (m : Int) := by omega
      have HRC : R = cmpI a.length b.length := by
        rw [HR.out]
        exact cmpRow_end fun j x y hx hy => HALL.out j (by have := (List.getElem?_eq_some_iff.1 hy).1; have := (List.getElem?_eq_some_iff.1 hx).1; have := HM.out; omega) x y hx hy
      unfold cmpI at HRC
      clear hlt hkm
      rcases Nat.lt_trichotomy a.length b.length with h | h | h
      · rw [if_pos (by omega)] at HRC
        have j1 : (a.length : Int) < (b.length : Int) := by omega
        have HRC := Lib.hid HRC
        clear h
        go_wp2_with fail
        refine bodyPost_ret (v := .int .i64 (-1)) (by simp [results, Tryd.results13, go_sem]) rfl ⟨by first | rfl | rw [HRC.out], HBEL.out⟩
      · rw [if_neg (by omega), if_neg (by omega)] at HRC
        have j1 : ¬ (a.length : Int) < (b.length : Int) := by omega
        have j2 : ¬ (b.length : Int) < (a.length : Int) := by omega
        have HRC := Lib.hid HRC
        clear h
        go_wp2_with fail
        refine bodyPost_ret (v := .int .i64 0) (by simp [results, Tryd.results13, go_sem]) rfl ⟨by first | rfl | rw [HRC.out], HBEL.out⟩
      · rw [if_neg (by omega), if_pos (by omega)] at HRC
        have j1 : ¬ (a.length : Int) < (b.length : Int) := by omega
        have j2 : (b.length : Int) < (a.length : Int) := by omega
        have HRC := Lib.hid HRC
        clear h
        go_wp2_with fail
        refine bodyPost_ret (v := .int .i64 1) (by simp [results, Tryd.results13, go_sem]) rfl ⟨by first | rfl | rw [HRC.out], HBEL.out⟩
end Go.Proofs.YtghfaeapgghhlaaDoor.Dt
