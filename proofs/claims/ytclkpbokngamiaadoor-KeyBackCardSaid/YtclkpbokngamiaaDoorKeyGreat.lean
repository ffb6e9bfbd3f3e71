/-
  The walk of the laws' own 'great': where it says no there are not many values.
-/
import Derived.Test.YtclkpbokngamiaaDoorKeyWorks
namespace Go.Proofs.YtclkpbokngamiaaDoor.Dt
open Go.RowKit Go.Proofs.YtclkpbokngamiaaDoor.By

set_option maxRecDepth 100000 in
set_option maxHeartbeats 4000000 in
theorem greatK (rv : Value) (row : List V) (w : World) (hrow : VsAt w rv row) (hl : row.length ≤ 140737488351232) :
    Calls Tryd.prog 11 #[rv] w fun e w' => (e = .returned (.bool true) ∨ (e = .returned (.bool false) ∧ row.length ≤ 60)) ∧ Below w.heap.size w w' := by
  obtain ⟨ar, cr, rfl⟩ := hrow.shape
  have HROW := Lib.hid hrow
  have HL := Lib.hid hl
  clear hrow hl
  by_cases h60 : 60 < row.length
  · have e1 : decide ((60 : Int) < (row.length : Int)) = true := decide_eq_true (by omega)
    clear h60
    go_enter Tryd.func11, Tryd.ntmps11
    go_wp2_with fail
    go_ret
    exact ⟨by first | exact .inl rfl | simp, by go_grown⟩
  have e1 : decide ((60 : Int) < (row.length : Int)) = false := decide_eq_false (by omega)
  have H60 : Hid (row.length ≤ 60) := Lib.hid (by omega)
  clear h60
  go_enter Tryd.func11, Tryd.ntmps11
  go_wp2_with fail
  go_loopg [10] row.length (fun gk i wr => ∃ k : Nat, i = .int .i64 (k : Int) ∧ gk = row.length - k ∧ k ≤ row.length ∧ Hid (Below w.heap.size w wr))
  case atStart => exact ⟨0, rfl, rfl, Nat.zero_le _, Lib.hid (Below.refl _ _)⟩
  case round =>
    obtain ⟨k, rfl, rfl, hkl, HBEL⟩ := hrel
    by_cases hlt : k < row.length
    · obtain ⟨v, hy⟩ : ∃ v, row[k]? = some v := ⟨row[k], by simp⟩
      obtain ⟨b, o, rfl, hbz, d0, d1, d2⟩ := at3 (HROW.out.below HBEL.out) hy
      have ilt : (k : Int) < (row.length : Int) := by omega
      have HLT := Lib.hid hlt
      have HKK : Hid (wrap64 ((k : Int) + 1) = ((k + 1 : Nat) : Int)) := Lib.hid (by have := H60.out; unfold wrap64; omega)
      have HBN : Hid (Below w.heap.size w (wr.alloc (.cells #[.int .u8 (v.k : Int), .int .i64 v.n, .string v.s] 39))) := Lib.hid (HBEL.out.alloc HBEL.out.size _)
      clear hy hlt
      by_cases hs : 4096 < v.s.size
      · have es : decide ((4096 : Int) < (v.s.size : Int)) = true := decide_eq_true (by omega)
        clear hs
        go_wp2_with fail
        go_ret
        exact ⟨by first | exact .inl rfl | simp, HBN.out⟩
      · have es : decide ((4096 : Int) < (v.s.size : Int)) = false := decide_eq_false (by omega)
        clear hs
        go_wp2_with fail
        go_roundg (row.length - (k + 1))
        case measure => exact Nat.sub_lt_sub_left HLT.out (Nat.lt_succ_self _)
        case rel => exact ⟨k + 1, by first | exact congrArg (Value.int .i64) HKK.out | (simp; exact HKK.out), rfl, HLT.out, HBN⟩
    · obtain rfl : k = row.length := by omega
      clear hlt hkl
      go_wp2_with fail
      go_ret
      exact ⟨by first | exact .inr ⟨rfl, H60.out⟩ | exact H60.out | (simp; exact H60.out), HBEL.out⟩
end Go.Proofs.YtclkpbokngamiaaDoor.Dt
