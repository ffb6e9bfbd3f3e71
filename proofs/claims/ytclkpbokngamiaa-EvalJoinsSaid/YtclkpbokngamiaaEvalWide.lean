/-
  Sums of 128 bits.
-/
import Derived.Test.YtclkpbokngamiaaEvalTop
import Derived.Laws.Externs
namespace Go.Proofs.Ytclkpbokngamiaa.Dt
open Go.RowKit Go.Proofs.Ytclkpbokngamiaa.By

theorem add64 (x y : Int) (hx : 0 ≤ x) (hy : 0 ≤ y) (w : World) :
    (callFunc 42 #[.int .u64 x, .int .u64 y, .int .u64 0]).run Try.prog w = .ok (.value (.tuple #[.int .u64 ((x + y) % 18446744073709551616), .int .u64 ((x + y) / 18446744073709551616)])) w := by
  rw [run_callFunc_extern Try.func42 (by kernel_rfl) (by kernel_rfl) (by kernel_rfl) (e := add64Entry) (by kernel_rfl), run_add64 x y 0 hx hy (by omega) (by omega)]
  simp only [Result.andThen, Int.add_zero]

def wideCells (t : Int) : List Value := [.int .i64 (t / 18446744073709551616), .int .u64 (t % 18446744073709551616)]

theorem wide_sum (t n hi lo c : Int) (h0 : -1329227995784915872903807060280344576 ≤ t) (h1 : t ≤ 1329227995784915872903807060280344576) (hn : -9223372036854775808 ≤ n ∧ n ≤ 9223372036854775807) (hhi : hi = t / 18446744073709551616) (hlo : lo = t % 18446744073709551616)
    (hc : c = (lo + n % 18446744073709551616) / 18446744073709551616) :
    wrap64 (wrap64 (hi + n / 9223372036854775808) + wrap64 c) = (t + n) / 18446744073709551616 ∧ (lo + n % 18446744073709551616) % 18446744073709551616 = (t + n) % 18446744073709551616 := by
  have hc2 : c = 0 ∨ c = 1 := by omega
  have e1 : wrap64 c = c := by unfold wrap64; omega
  have e2 : wrap64 (hi + n / 9223372036854775808) = hi + n / 9223372036854775808 := by unfold wrap64; omega
  have e3 : wrap64 (hi + n / 9223372036854775808 + c) = hi + n / 9223372036854775808 + c := by unfold wrap64; omega
  rw [e1, e2, e3]
  have hm := Int.emod_add_mul_ediv n 18446744073709551616
  refine ⟨?_, by omega⟩
  by_cases hs : n < 0
  · have : n / 9223372036854775808 = -1 := by omega
    rw [this]
    omega
  · have : n / 9223372036854775808 = 0 := by omega
    rw [this]
    omega

set_option maxRecDepth 100000 in
theorem wideAdd (t n : Int) (w : World) (h0 : -1329227995784915872903807060280344576 ≤ t) (h1 : t ≤ 1329227995784915872903807060280344576) (hn : inR n) :
    Calls Try.prog 33 #[.agg #[.int .i64 (t / 18446744073709551616), .int .u64 (t % 18446744073709551616)], .int .i64 n] w fun e w' =>
      e = .returned (.agg #[.int .i64 ((t + n) / 18446744073709551616), .int .u64 ((t + n) % 18446744073709551616)]) ∧ Below w.heap.size w w' := by
  unfold inR at hn
  obtain ⟨hi, hhi⟩ : ∃ hi, hi = t / 18446744073709551616 := ⟨_, rfl⟩
  obtain ⟨lo, hlo⟩ : ∃ lo, lo = t % 18446744073709551616 := ⟨_, rfl⟩
  have had := fun W => add64 lo (n % 18446744073709551616) (by omega) (by omega) W
  have hu : IntKind.u64.wrap n = n % 18446744073709551616 := rfl
  rw [← hu] at had
  rw [← hhi, ← hlo]
  have HU := Lib.hid hu
  clear hu
  obtain ⟨c, hc⟩ : ∃ c, c = (lo + IntKind.u64.wrap n) / 18446744073709551616 := ⟨_, rfl⟩
  rw [← hc] at had
  have HC := Lib.hid hc
  clear hc
  have HALL := Lib.hid (And.intro hhi (And.intro hlo (And.intro h0 (And.intro h1 hn))))
  clear hhi hlo h0 h1 hn
  go_enter Try.func33, Try.ntmps33
  go_wp2_with fail
  refine bodyPost_ret (v := .agg #[.int .i64 (wrap64 (wrap64 (hi + n / 9223372036854775808) + wrap64 c)), .int .u64 ((lo + IntKind.u64.wrap n) % 18446744073709551616)]) (by simp [results, Try.results33, go_sem]) rfl ⟨?_, ?_⟩
  · obtain ⟨hhi, hlo, h0, h1, hn⟩ := HALL.out
    obtain ⟨e1, e2⟩ := wide_sum t n hi lo c h0 h1 hn hhi hlo (by rw [HC.out, HU.out])
    rw [HU.out, e1, e2]
  · go_grown
end Go.Proofs.Ytclkpbokngamiaa.Dt
