/-
  The walks of what the statements on numbers share.
-/
import Derived.Test.YtooliekmfbkopaaNumTake
import Derived.Test.YtooliekmfbkopaaNumRefTake
namespace Go.Proofs.Ytooliekmfbkopaa.Num
open Go.RowKit Go.Proofs.Ytooliekmfbkopaa.By

theorem is_any (n size e : Int) (w : World) :
    Calls Try.prog 32 #[.int .u64 n, .int .i64 size, .int .i64 e] w fun r w' => ∃ a b c : Addr, r = .returned (.func (.func 51) #[] #[.pointer (some a), .pointer (some b), .pointer (some c)]) ∧
      w'.cell? a = some (.int .u64 n) ∧ w'.cell? b = some (.int .i64 size) ∧ w'.cell? c = some (.int .i64 e) ∧ a.block < w'.heap.size ∧ b.block < w'.heap.size ∧ c.block < w'.heap.size ∧ Below w.heap.size w w' := by
  go_enter Try.func32, Try.ntmps32
  go_wp2_with fail
  go_ret
  refine ⟨_, _, _, rfl, ?_, ?_, ?_, ?_, ?_, ?_, ?_⟩
  · go_simp
  · go_simp
  · go_simp
  · simp; omega
  · simp
  · simp
  · exact (((Below.refl _ _).alloc (Nat.le_refl _) _).alloc (by simp) _).alloc (by simp; omega) _

theorem isC_any (n size e : Int) (w : World) (a b c : Addr) (h1 : w.cell? a = some (.int .u64 n)) (h2 : w.cell? b = some (.int .i64 size)) (h3 : w.cell? c = some (.int .i64 e)) :
    Calls Try.prog 51 #[.int .u64 n, .int .i64 size, .int .i64 e, .pointer (some a), .pointer (some b), .pointer (some c)] w fun r w' => r = .returned (.bool true) ∧ w = w' := by
  go_enter Try.func51, Try.ntmps51
  go_wp2_with fail
  go_ret
  exact ⟨by simp, rfl⟩
theorem putL_300 : putL 300 = [130, 44] := by
  simp [putL, dg, hi]
theorem takeR_300 : takeR ([130, 44] ++ [120]) = (300, 2, 0) := by
  simp [takeR, tk, putL_300]
theorem be8_1 : be8 1 = [0, 0, 0, 0, 0, 0, 0, 1] := by
  simp [be8, be4]
set_option maxRecDepth 100000 in
theorem works (w : World) :
    Calls Try.prog 34 #[] w fun r w' => r = .returned (.bool true) ∧ Below w.heap.size w w' := by
  go_enter Try.func34, Try.ntmps34
  go_wp2_with fail
  refine (put 300 _ (by omega)).mono ?_
  rintro e w1 ⟨rfl, hb1⟩
  rw [putL_300]
  go_wp2_with fail
  have ht : takeR ((⟨[130, 44].toArray⟩ : ByteArray) ++ ⟨[120].toArray⟩).data.toList = (300, 2, 0) := by
    rw [ByteArray.mk_append_mk]; exact takeR_300
  refine (take _ _ (by unfold maxLen; rw [ByteArray.mk_append_mk]; decide)).mono ?_
  rintro e w2 ⟨rfl, hb2⟩
  rw [ht]
  go_wp2_with fail
  refine (size 300 _ (by omega)).mono ?_
  rintro e w3 ⟨rfl, rfl⟩
  rw [putL_300]
  go_wp2_with fail
  refine (eight 1 _ (by omega) (by omega)).mono ?_
  rintro e w4 ⟨rfl, hb4⟩
  rw [show (1 : Int).toNat = 1 from rfl, be8_1]
  go_wp2_with fail
  go_ret
  exact ⟨by simp, (hb1.trans (hb2.mono hb1.size)).trans (hb4.mono (Nat.le_trans hb1.size hb2.size))⟩
end Go.Proofs.Ytooliekmfbkopaa.Num
