/-
  The walks of package number.
-/
import Derived.Test.YthiajonjleambaaProg
import Derived.Test.YthiajonjleambaaBytes
import Derived.Test.YthiajonjleambaaNumSpec
import Derived.Outline
import Derived.Deep.QuietTactic
import Derived.Lib.Hide
import Derived.BigQuiet
namespace Go.Proofs.Ythiajonjleambaa.Num
open Go.RowKit Go.Proofs.Ythiajonjleambaa.By

theorem cv_u8 : Try.prog.underlying 27 = some (.slice 5) := by kernel_rfl
theorem ty_u8 : Try.prog.underlying 5 = some (.int .u8) := by kernel_rfl
theorem ty_str : Try.prog.underlying 9 = some .string := by kernel_rfl

theorem takeFour_short (s : ByteArray) (w : World) (h : s.data.toList.length < 4) :
    Calls Try.prog 10 #[.string s] w fun e w' => e = .returned (.tuple #[.int .u32 0, .int .i64 10]) ∧ ∃ n, w' = w.drewN n := by
  have hs : s.size < 4 := by simpa using h
  go_enter Try.func10, Try.ntmps10
  go_wp2
  go_ret2
  exact ⟨rfl, 0, rfl⟩

theorem takeFour_ok (s : ByteArray) (w : World) (h : 4 ≤ s.data.toList.length) :
    Calls Try.prog 10 #[.string s] w fun e w' => e = .returned (.tuple #[.int .u32 (val4 s.data.toList), .int .i64 0]) ∧ ∃ n, w' = w.drewN n := by
  have hs : 4 ≤ s.size := by simpa using h
  have hv : ∀ h0 h1 h2 h3, (val4 s.data.toList : Int) = bits .or .u32 (bits .or .u32 (bits .or .u32 (((s[0]'h0).toNat : Int) % 4294967296 * 16777216 % 4294967296) (((s[1]'h1).toNat : Int) % 4294967296 * 65536 % 4294967296)) (((s[2]'h2).toNat : Int) % 4294967296 * 256 % 4294967296)) (((s[3]'h3).toNat : Int) % 4294967296) := by
    intro h0 h1 h2 h3
    rw [four_bytes, ← getD_bytes s 0 h0, ← getD_bytes s 1 h1, ← getD_bytes s 2 h2, ← getD_bytes s 3 h3]
    rfl
  clear h
  have i0 : 0 < s.size := by omega
  have i1 : (1 : Int) < (s.size : Int) := by omega
  have i2 : (2 : Int) < (s.size : Int) := by omega
  have i3 : (3 : Int) < (s.size : Int) := by omega
  generalize (val4 s.data.toList : Int) = v at *
  have H := Lib.hid hv; clear hv
  go_enter Try.func10, Try.ntmps10
  go_wp2
  go_quiet (fail)
  go_wp2
  go_ret2
  exact ⟨by rw [H.out]; rfl, _, rfl⟩

end Go.Proofs.Ythiajonjleambaa.Num
