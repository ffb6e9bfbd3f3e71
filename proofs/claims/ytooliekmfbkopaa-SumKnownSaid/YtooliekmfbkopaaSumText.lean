/-
  The walks of Text and of the reference's Text.
-/
import Derived.Test.YtooliekmfbkopaaSumRef
namespace Go.Proofs.Ytooliekmfbkopaa.Sum
open Go.RowKit Go.Proofs.Ytooliekmfbkopaa.By Go.Proofs.Ytooliekmfbkopaa.Num

def textL (p : Nat × Nat) : List UInt8 := be4 p.1 ++ be4 p.2
theorem text_add (a b : Nat) : (⟨(be4 a).toArray⟩ : ByteArray) ++ ⟨(be4 b).toArray⟩ = ⟨(textL (a, b)).toArray⟩ := by
  rw [ByteArray.mk_append_mk]; rfl

theorem fourN (n : Nat) (w : World) : Calls Try.prog 37 #[.int .u32 (n : Int)] w fun e w' => e = .returned (str (be4 n)) ∧ Below w.heap.size w w' :=
  four n w (by omega)
theorem fixedN (n : Nat) (w : World) (h : n < 18446744073709551616) : Calls Try.prog 41 #[.int .u64 (n : Int), .int .i64 4] w fun e w' => e = .returned (str (be4 n)) ∧ Below w.heap.size w w' := by
  have := fixed n 4 w h (by omega)
  rw [be_four] at this
  exact this

set_option maxRecDepth 100000 in
set_option maxHeartbeats 1000000 in
theorem text (p : Nat × Nat) (w : World) :
    Calls Try.prog 28 #[pairV p] w fun e w' => e = .returned (str (textL p)) ∧ Below w.heap.size w w' := by
  have hadd := fun w => run_string_add_sum (P := Try.prog) w ⟨(be4 p.1).toArray⟩ ⟨(be4 p.2).toArray⟩ (by show 4 + 4 ≤ 9223372036854775807; omega)
  rw [text_add] at hadd
  go_enter Try.func28, Try.ntmps28
  go_wp2_with fail
  go_region_with (first | (go_at_call 37; (with_reducible refine (fourN p.1 _).mono ?_); rintro e w1 ⟨rfl, hb1⟩; have k0 : w1.cell? ⟨w.heap.size, 0, none⟩ = some (.int .u32 (p.1 : Int)) := (by rw [hb1.cell (by simp)]; go_simp); have k1 : w1.cell? ⟨w.heap.size, 1, none⟩ = some (.int .u32 (p.2 : Int)) := (by rw [hb1.cell (by simp)]; go_simp)) | (go_at_call 37; (with_reducible refine (fourN p.2 _).mono ?_); rintro e w2 ⟨rfl, hb2⟩))
  all_goals go_wp2_with fail
  all_goals
    go_ret
    exact ⟨rfl, (((Below.refl _ _).alloc (Nat.le_refl _) _).drew.trans (hb1.mono (by simp))).trans (hb2.mono (Nat.le_trans (by simp) hb1.size))⟩

set_option maxRecDepth 100000 in
set_option maxHeartbeats 1000000 in
theorem refText (p : Nat × Nat) (w : World) (h1 : p.1 < 4294967296) (h2 : p.2 < 4294967296) :
    Calls Try.prog 29 #[pairV p] w fun e w' => e = .returned (str (textL p)) ∧ Below w.heap.size w w' := by
  have hadd := fun w => run_string_add_sum (P := Try.prog) w ⟨(be4 p.1).toArray⟩ ⟨(be4 p.2).toArray⟩ (by show 4 + 4 ≤ 9223372036854775807; omega)
  rw [text_add] at hadd
  have hw1 := u64_in p.1 (by omega)
  have hw2 := u64_in p.2 (by omega)
  have H1 := Lib.hid h1; clear h1
  have H2 := Lib.hid h2; clear h2
  go_enter Try.func29, Try.ntmps29
  go_wp2_with fail
  go_region_with (first | (go_at_call 41; (with_reducible refine (fixedN p.1 _ (Nat.lt_trans H1.out (by decide))).mono ?_); rintro e w1 ⟨rfl, hb1⟩; have k0 : w1.cell? ⟨w.heap.size, 0, none⟩ = some (.int .u32 (p.1 : Int)) := (by rw [hb1.cell (by simp)]; go_simp); have k1 : w1.cell? ⟨w.heap.size, 1, none⟩ = some (.int .u32 (p.2 : Int)) := (by rw [hb1.cell (by simp)]; go_simp)) | (go_at_call 41; (with_reducible refine (fixedN p.2 _ (Nat.lt_trans H2.out (by decide))).mono ?_); rintro e w2 ⟨rfl, hb2⟩))
  all_goals go_wp2_with fail
  all_goals
    go_ret
    exact ⟨rfl, (((Below.refl _ _).alloc (Nat.le_refl _) _).drew.trans (hb1.mono (by simp))).trans (hb2.mono (Nat.le_trans (by simp) hb1.size))⟩

end Go.Proofs.Ytooliekmfbkopaa.Sum
