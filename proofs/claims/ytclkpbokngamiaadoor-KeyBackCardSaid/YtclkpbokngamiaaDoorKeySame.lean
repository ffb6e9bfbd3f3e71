/-
  The walk of the reference's Same: are two rows the same?
-/
import Derived.Test.YtclkpbokngamiaaDoorKeyRows
namespace Go.Proofs.YtclkpbokngamiaaDoor.Dt
open Go.RowKit Go.Proofs.YtclkpbokngamiaaDoor.By

set_option maxRecDepth 100000 in
set_option maxHeartbeats 8000000 in
theorem sameW (rv tv : Value) (a b : List V) (w : World) (ha : VsAt w rv a) (hb : VsAt w tv b) (la : a.length ≤ 140737488351232) (lb : b.length ≤ 140737488351232) :
    Calls Tryd.prog 17 #[rv, tv] w fun e w' => e = .returned (.bool (decide (a = b))) ∧ Below w.heap.size w w' := by
  obtain ⟨ar, cr, rfl⟩ := ha.shape
  obtain ⟨at', ct, rfl⟩ := hb.shape
  have hca := ha.cap
  have hcb := hb.cap
  have HA := Lib.hid ha
  have HB := Lib.hid hb
  have LA := Lib.hid la
  have LB := Lib.hid lb
  have CA := Lib.hid hca
  have CB := Lib.hid hcb
  obtain ⟨R, hR⟩ : ∃ R : Bool, R = decide (a = b) := ⟨_, rfl⟩
  rw [← hR]
  have HR := Lib.hid hR
  clear ha hb la lb hR
  by_cases hlen : a.length = b.length
  · have HLEN := Lib.hid hlen
    have i0 : ((a.length : Int) != (b.length : Int)) = false := by simp [hlen]
    clear hlen
    go_enter Tryd.func17, Tryd.ntmps17
    go_wp2_with fail
    go_loopg [5] a.length (fun gk iv wr => ∃ k : Nat, iv = .int .i64 (k : Int) ∧ gk = a.length - k ∧ k ≤ a.length ∧ Hid (Below w.heap.size w wr) ∧ Hid (∀ j : Nat, j < k → a[j]? = b[j]?))
    case atStart => exact ⟨0, rfl, rfl, Nat.zero_le _, Lib.hid (Below.refl _ _), Lib.hid (fun j hj => by omega)⟩
    case round =>
      obtain ⟨k, rfl, rfl, hka, HBEL, HALL⟩ := hrel
      by_cases hlt : k < a.length
      · have ilt : (k : Int) < (a.length : Int) := by omega
        have jlt : (k : Int) < (b.length : Int) := by have := HLEN.out; omega
        obtain ⟨v, hv⟩ : ∃ v, a[k]? = some v := ⟨a[k], by simp⟩
        obtain ⟨u, hu⟩ : ∃ u, b[k]? = some u := ⟨b[k]'(by have := HLEN.out; omega), by simp⟩
        obtain ⟨b1, o1, rfl, hbz1, d0, d1, d2⟩ := at3 (HA.out.below HBEL.out) hv
        obtain ⟨b2, o2, rfl, hbz2, e0, e1, e2⟩ := at3 (HB.out.below HBEL.out) hu
        have HV := Lib.hid hv
        have HU := Lib.hid hu
        have HLT := Lib.hid hlt
        have HKK : Hid (wrap64 ((k : Int) + 1) = ((k + 1 : Nat) : Int)) := Lib.hid (by have := LA.out; unfold wrap64; omega)
        obtain ⟨T, hT⟩ : ∃ T : Bool, T = !decide (v = u) := ⟨_, rfl⟩
        have hne := neq_told v u T (by rw [hT]; simp)
        have HT := Lib.hid hT
        clear hv hu hlt hka hT
        go_upto_region 6 with fail
        have l0 := lat_cell d0
        have l1 := lat_cell d1
        have l2 := lat_cell d2
        have m0 := lat_cell e0
        have m1 := lat_cell e1
        have m2 := lat_cell e2
        refine wp_region_later (by kernel_rfl) (by kernel_rfl) ?_
        repeat (go_big_quiet_step (fail))
        refine wpQuiet_nil ?_
        refine later_out (fun w2 hb2 => ?_)
        have B2 := Lib.hid (next HBEL.out hb2)
        clear l0 l1 l2 m0 m1 m2 d0 d1 d2 e0 e1 e2 hb2 hne
        cases T
        · have HAL := Lib.hid (show ∀ j : Nat, j < k + 1 → a[j]? = b[j]? from fun j hj => by
            by_cases hjk : j < k
            · exact HALL.out j hjk
            · obtain rfl : j = k := by omega
              have h := HT.out
              simp at h
              rw [HV.out, HU.out, h])
          go_wp2_with fail
          go_roundg (a.length - (k + 1))
          case measure => exact Nat.sub_lt_sub_left HLT.out (Nat.lt_succ_self _)
          case rel => exact ⟨k + 1, by first | exact congrArg (Value.int .i64) HKK.out | (simp; exact HKK.out), rfl, HLT.out, B2, HAL⟩
        · have HRC : Hid (R = false) := Lib.hid (by
            rw [HR.out, decide_eq_false_iff_not]
            intro e
            have h := HT.out
            simp at h
            have h2 := HV.out
            rw [e, HU.out] at h2
            exact h (Option.some.inj h2).symm)
          go_wp2_with fail
          refine bodyPost_ret (v := .bool false) (by simp [results, Tryd.results17, go_sem]) rfl ⟨by rw [HRC.out], B2.out⟩
      · have ilt : ¬ (k : Int) < (a.length : Int) := by omega
        have HRC : Hid (R = true) := Lib.hid (by
          rw [HR.out, decide_eq_true_eq]
          apply List.ext_getElem?
          intro j
          by_cases hj : j < k
          · exact HALL.out j hj
          · have := HLEN.out
            rw [List.getElem?_eq_none (by omega), List.getElem?_eq_none (by omega)])
        clear hlt hka
        go_wp2_with fail
        refine bodyPost_ret (v := .bool true) (by simp [results, Tryd.results17, go_sem]) rfl ⟨by rw [HRC.out], HBEL.out⟩
  · have i0 : ((a.length : Int) != (b.length : Int)) = true := by simp; omega
    have HRC : Hid (R = false) := Lib.hid (by
      rw [HR.out, decide_eq_false_iff_not]
      intro e
      exact hlen (by rw [e]))
    clear hlen
    go_enter Tryd.func17, Tryd.ntmps17
    go_wp2_with fail
    refine bodyPost_ret (v := .bool false) (by simp [results, Tryd.results17, go_sem]) rfl ⟨by rw [HRC.out], Below.refl _ _⟩
end Go.Proofs.YtclkpbokngamiaaDoor.Dt
