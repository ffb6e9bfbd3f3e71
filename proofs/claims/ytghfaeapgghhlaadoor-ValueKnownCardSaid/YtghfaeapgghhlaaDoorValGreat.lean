/-
  What is more than is gone through: a text, a row.
-/
import Derived.Test.YtghfaeapgghhlaaDoorValWorks
namespace Go.Proofs.YtghfaeapgghhlaaDoor.Dt
open Go.RowKit Go.Proofs.YtghfaeapgghhlaaDoor.By

theorem longW (s : ByteArray) (w : World) : Calls Tryd.prog 15 #[.string s] w fun e w' => e = .returned (.bool (decide (16384 < s.size))) ∧ w = w' := by
  by_cases h : 16384 < s.size
  · have h' : (16384 : Int) < (s.size : Int) := by omega
    rw [decide_eq_true h]
    clear h
    go_enter Tryd.func15, Tryd.ntmps15
    go_wp2_with fail
    refine bodyPost_ret (v := .bool true) (by simp [results, Tryd.results15, go_sem]; try omega) rfl ⟨rfl, rfl⟩
  · have h' : ¬ (16384 : Int) < (s.size : Int) := by omega
    rw [decide_eq_false h]
    clear h
    go_enter Tryd.func15, Tryd.ntmps15
    go_wp2_with fail
    refine bodyPost_ret (v := .bool false) (by simp [results, Tryd.results15, go_sem]; try omega) rfl ⟨rfl, rfl⟩

set_option maxRecDepth 100000 in
set_option maxHeartbeats 8000000 in
theorem greatW (rv : Value) (a : List V) (w : World) (ha : VsAt w rv a) (la : a.length ≤ 140737488351232) :
    Calls Tryd.prog 12 #[rv] w fun e w' => (∃ B : Bool, e = .returned (.bool B) ∧ (B = false → a.length ≤ 100 ∧ ∀ v ∈ a, v.s.size ≤ 4096)) ∧ Below w.heap.size w w' := by
  obtain ⟨ar, cr, rfl⟩ := ha.shape
  have hca := ha.cap
  have HA := Lib.hid ha
  have LA := Lib.hid la
  clear ha la
  by_cases h100 : 100 < a.length
  · have h' : (100 : Int) < (a.length : Int) := by omega
    clear h100
    go_enter Tryd.func12, Tryd.ntmps12
    go_wp2_with fail
    go_ret
    exact ⟨⟨true, rfl, fun h => by cases h⟩, Below.refl _ _⟩
  · have h' : ¬ (100 : Int) < (a.length : Int) := by omega
    have H100 : Hid (a.length ≤ 100) := Lib.hid (by omega)
    clear h100
    go_enter Tryd.func12, Tryd.ntmps12
    go_wp2_with fail
    go_loopg [10] a.length (fun gk iv wr => ∃ k : Nat, iv = .int .i64 (k : Int) ∧ gk = a.length - k ∧ k ≤ a.length ∧ Hid (Below w.heap.size w wr) ∧ Hid (∀ j : Nat, j < k → ∀ x : V, a[j]? = some x → x.s.size ≤ 4096))
    case atStart => exact ⟨0, rfl, rfl, Nat.zero_le _, Lib.hid (Below.refl _ _), Lib.hid (fun j hj => by omega)⟩
    case round =>
      obtain ⟨k, rfl, rfl, hk, HBEL, HALL⟩ := hrel
      by_cases hlt : k < a.length
      · have ilt : (k : Int) < (a.length : Int) := by omega
        obtain ⟨v, hv⟩ : ∃ v, a[k]? = some v := ⟨a[k], by simp⟩
        obtain ⟨b1, o1, rfl, hbz1, d0, d1, d2⟩ := at3 (HA.out.below HBEL.out) hv
        have HV := Lib.hid hv
        have HLT := Lib.hid hlt
        have HKK : Hid (wrap64 ((k : Int) + 1) = ((k + 1 : Nat) : Int)) := Lib.hid (by have := H100.out; unfold wrap64; omega)
        have HB3 : Hid (Below w.heap.size w (wr.alloc (.cells #[.int .u8 (v.k : Int), .int .i64 v.n, .string v.s] 27))) := Lib.hid (HBEL.out.alloc HBEL.out.size _)
        by_cases h4 : 4096 < v.s.size
        · have j4 : (4096 : Int) < (v.s.size : Int) := by omega
          clear hv hlt hk h4
          go_wp2_with fail
          refine bodyPost_ret (v := .bool true) (by simp [results, Tryd.results12, go_sem]) rfl ⟨by first | exact ⟨true, rfl, fun h => by cases h⟩ | exact .inr rfl | exact .inr ⟨rfl, fun h => by cases h⟩ | simp, HB3.out⟩
        · have j4 : ¬ (4096 : Int) < (v.s.size : Int) := by omega
          have HAL := Lib.hid (show ∀ j : Nat, j < k + 1 → ∀ x : V, a[j]? = some x → x.s.size ≤ 4096 from fun j hj x hx => by
            by_cases hjk : j < k
            · exact HALL.out j hjk x hx
            · obtain rfl : j = k := by omega
              rw [HV.out] at hx
              cases hx
              omega)
          clear hv hlt hk h4
          go_wp2_with fail
          go_roundg (a.length - (k + 1))
          case measure => exact Nat.sub_lt_sub_left HLT.out (Nat.lt_succ_self _)
          case rel => exact ⟨k + 1, by first | exact congrArg (Value.int .i64) HKK.out | (simp; done) | (simp; exact HKK.out), rfl, HLT.out, HB3, HAL⟩
      · have ilt : ¬ (k : Int) < (a.length : Int) := by omega
        have HAL2 : Hid (∀ v ∈ a, v.s.size ≤ 4096) := Lib.hid (fun v hv => by
          obtain ⟨j, hj, rfl⟩ := List.getElem_of_mem hv
          exact HALL.out j (by omega) _ (List.getElem?_eq_getElem hj))
        clear hlt hk
        go_wp2_with fail
        refine bodyPost_ret (v := .bool false) (by simp [results, Tryd.results12, go_sem]) rfl ⟨by first | exact ⟨false, rfl, fun _ => ⟨H100.out, HAL2.out⟩⟩ | exact .inl ⟨rfl, H100.out, HAL2.out⟩, HBEL.out⟩
end Go.Proofs.YtghfaeapgghhlaaDoor.Dt
