/-
  The walk of key.First.
-/
import Derived.Test.YtcimipebpfajgaaDoorKeyWorks
namespace Go.Proofs.YtcimipebpfajgaaDoor.Dt
open Go.RowKit Go.Proofs.YtcimipebpfajgaaDoor.By

set_option maxRecDepth 100000 in
set_option maxHeartbeats 16000000 in
theorem keyFirstW (s : ByteArray) (w : World) (hs : s.size ≤ 1000000) :
    Calls Tryd.prog 7 #[.string s] w fun e w' =>
      ((∃ v n, firstK s.data.toList = some (v, n) ∧ e = .returned (.tuple #[.int .i64 (n : Int), .int .i64 0])) ∨ (firstK s.data.toList = none ∧ e = .returned (.tuple #[.int .i64 0, .int .i64 7]))) ∧ Below w.heap.size w w' := by
  have HE := Lib.hid (firstW s w (by omega))
  clear hs
  go_enter Tryd.func7, Tryd.ntmps7
  go_wp2_with fail
  refine HE.out.mono ?_
  rintro e w1 ⟨⟨v, n, ok, rfl, hf⟩, hb1⟩
  have HB1 := Lib.hid hb1
  clear hb1 HE
  cases hk : firstK s.data.toList with
  | none =>
    rw [hk] at hf
    obtain rfl : ok = false := hf
    have HK := Lib.hid hk
    clear hk
    go_wp2_with fail
    refine bodyPost_ret (v := .tuple #[.int .i64 0, .int .i64 7]) (by simp [results, Tryd.results7, go_sem]) rfl ⟨by first | exact .inr ⟨HK.out, rfl⟩ | simpa using HK.out, ?_⟩
    have := HB1.out
    exact this.alloc this.size _
  | some p =>
    obtain ⟨v0, n0⟩ := p
    rw [hk] at hf
    obtain ⟨rfl, rfl, rfl⟩ := hf
    have HK := Lib.hid hk
    clear hk
    go_wp2_with fail
    refine bodyPost_ret (v := .tuple #[.int .i64 (n0 : Int), .int .i64 0]) (by simp [results, Tryd.results7, go_sem]) rfl ⟨by first | exact .inl ⟨_, _, HK.out, rfl⟩ | exact ⟨_, _, HK.out, rfl⟩, ?_⟩
    have := HB1.out
    exact this.alloc this.size _

end Go.Proofs.YtcimipebpfajgaaDoor.Dt
