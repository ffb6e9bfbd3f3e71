/-
  The law's own works: a text is cut into tokens.
-/
import Derived.Test.YtghfaeapgghhlaaDoorLexToks
import Derived.Test.YtghfaeapgghhlaaDoorLexEq
namespace Go.Proofs.YtghfaeapgghhlaaDoor.Dt
open Go.RowKit Go.Proofs.YtghfaeapgghhlaaDoor.By

def worksL : List Tk := [⟨1, ⟨#[83, 69, 76, 69, 67, 84]⟩, 0, 0⟩, ⟨2, ⟨#[97, 49]⟩, 0, 7⟩, ⟨6, ⟨#[44]⟩, 0, 9⟩, ⟨3, ⟨#[]⟩, 2, 10⟩]
theorem works_toks : toksL (ByteArray.data ⟨#[83, 69, 76, 69, 67, 84, 32, 97, 49, 44, 50]⟩).toList = .inr worksL := by decide +kernel
set_option maxRecDepth 100000 in
set_option maxHeartbeats 8000000 in
theorem lexWorks (w : World) (hw : LX w) : Calls Tryd.prog 23 #[] w fun e w' => e = .returned (.bool true) ∧ Below w.heap.size w w' := by
  have h := tokensLexW ⟨#[83, 69, 76, 69, 67, 84, 32, 97, 49, 44, 50]⟩ w hw (by decide)
  rw [works_toks] at h
  have HT := Lib.hid h
  clear h hw
  go_enter Tryd.func23, Tryd.ntmps23
  go_wp2_with fail
  refine HT.out.mono ?_
  rintro e w1 ⟨⟨v, rfl, hat⟩, hb1⟩
  obtain ⟨a, c, rfl⟩ := hat.shape
  have hcap : (4 : Nat) ≤ c := by
    obtain ⟨a', c', e, hc, _⟩ := hat
    simp only [Value.slice.injEq] at e
    obtain ⟨_, _, rfl⟩ := e
    exact hc
  have HB1 := Lib.hid hb1
  have hb2 : Below w1.heap.size w1 (w1.alloc (.cells #[.int .i64 0, .int .i64 0] 43)) := (Below.refl _ _).alloc (Nat.le_refl _) _
  have HB2 := Lib.hid (next hb1 hb2)
  have HA := Lib.hid (SlAt.below hat hb2)
  clear hat hb1 hb2 HT
  go_upto_region 2 with fail
  have s0 : (w1.alloc (.cells #[.int .i64 0, .int .i64 0] 43)).cell? ⟨w1.heap.size, 0, none⟩ = some (.int .i64 0) := by go_simp
  have s1 : (w1.alloc (.cells #[.int .i64 0, .int .i64 0] 43)).cell? ⟨w1.heap.size, 1, none⟩ = some (.int .i64 0) := by go_simp
  generalize w1.alloc (.cells #[.int .i64 0, .int .i64 0] 43) = w2 at *
  generalize w1.heap.size = q at *
  obtain ⟨b0, o0, e0, _, x00, x01, x02, x03⟩ := at4 HA.out (k := 0) rfl
  obtain ⟨b1, o1, e1, _, x10, x11, x12, x13⟩ := at4 HA.out (k := 1) rfl
  obtain ⟨b2, o2, e2, _, x20, x21, x22, x23⟩ := at4 HA.out (k := 2) rfl
  obtain ⟨b3, o3, e3, _, x30, x31, x32, x33⟩ := at4 HA.out (k := 3) rfl
  subst e0
  cases e1
  cases e2
  cases e3
  replace x00 : w2.cell? ⟨b0, o0, none⟩ = some (.int .u8 1) := x00
  replace x01 : w2.cell? ⟨b0, o0 + 1, none⟩ = some (.string ⟨#[83, 69, 76, 69, 67, 84]⟩) := x01
  replace x02 : w2.cell? ⟨b0, o0 + 2, none⟩ = some (.int .u64 0) := x02
  replace x03 : w2.cell? ⟨b0, o0 + 3, none⟩ = some (.int .i64 0) := x03
  replace x10 : w2.cell? ⟨b0, o0 + 4, none⟩ = some (.int .u8 2) := x10
  replace x11 : w2.cell? ⟨b0, o0 + 4 + 1, none⟩ = some (.string ⟨#[97, 49]⟩) := x11
  replace x12 : w2.cell? ⟨b0, o0 + 4 + 2, none⟩ = some (.int .u64 0) := x12
  replace x13 : w2.cell? ⟨b0, o0 + 4 + 3, none⟩ = some (.int .i64 7) := x13
  replace x20 : w2.cell? ⟨b0, o0 + 8, none⟩ = some (.int .u8 6) := x20
  replace x21 : w2.cell? ⟨b0, o0 + 8 + 1, none⟩ = some (.string ⟨#[44]⟩) := x21
  replace x22 : w2.cell? ⟨b0, o0 + 8 + 2, none⟩ = some (.int .u64 0) := x22
  replace x23 : w2.cell? ⟨b0, o0 + 8 + 3, none⟩ = some (.int .i64 9) := x23
  replace x30 : w2.cell? ⟨b0, o0 + 12, none⟩ = some (.int .u8 3) := x30
  replace x31 : w2.cell? ⟨b0, o0 + 12 + 1, none⟩ = some (.string ⟨#[]⟩) := x31
  replace x32 : w2.cell? ⟨b0, o0 + 12 + 2, none⟩ = some (.int .u64 2) := x32
  replace x33 : w2.cell? ⟨b0, o0 + 12 + 3, none⟩ = some (.int .i64 10) := x33
  have qs : ∀ W, (binOp .eql 43 (.agg #[.int .i64 0, .int .i64 0]) (.agg #[.int .i64 0, .int .i64 0])).run Tryd.prog W = .ok (.bool true) W := eq_toldS 0 0 0 0 true (by simp)
  have q0 : ∀ W, (binOp .eql 48 (.agg #[.int .u8 1, .string ⟨#[83, 69, 76, 69, 67, 84]⟩, .int .u64 0, .int .i64 0]) (.agg #[.int .u8 1, .string ⟨#[83, 69, 76, 69, 67, 84]⟩, .int .u64 0, .int .i64 0])).run Tryd.prog W = .ok (.bool true) W := eq_toldT ⟨1, ⟨#[83, 69, 76, 69, 67, 84]⟩, 0, 0⟩ ⟨1, ⟨#[83, 69, 76, 69, 67, 84]⟩, 0, 0⟩ true (by simp)
  have q1 : ∀ W, (binOp .eql 48 (.agg #[.int .u8 2, .string ⟨#[97, 49]⟩, .int .u64 0, .int .i64 7]) (.agg #[.int .u8 2, .string ⟨#[97, 49]⟩, .int .u64 0, .int .i64 7])).run Tryd.prog W = .ok (.bool true) W := eq_toldT ⟨2, ⟨#[97, 49]⟩, 0, 7⟩ ⟨2, ⟨#[97, 49]⟩, 0, 7⟩ true (by simp)
  have q2 : ∀ W, (binOp .eql 48 (.agg #[.int .u8 6, .string ⟨#[44]⟩, .int .u64 0, .int .i64 9]) (.agg #[.int .u8 6, .string ⟨#[44]⟩, .int .u64 0, .int .i64 9])).run Tryd.prog W = .ok (.bool true) W := eq_toldT ⟨6, ⟨#[44]⟩, 0, 9⟩ ⟨6, ⟨#[44]⟩, 0, 9⟩ true (by simp)
  have q3 : ∀ W, (binOp .eql 48 (.agg #[.int .u8 3, .string ⟨#[]⟩, .int .u64 2, .int .i64 10]) (.agg #[.int .u8 3, .string ⟨#[]⟩, .int .u64 2, .int .i64 10])).run Tryd.prog W = .ok (.bool true) W := eq_toldT ⟨3, ⟨#[]⟩, 2, 10⟩ ⟨3, ⟨#[]⟩, 2, 10⟩ true (by simp)
  have k4 : (4 : Int) ≤ (c : Int) := by omega
  clear HA
  go_wp2_with fail
  go_ret
  exact ⟨rfl, HB2.out⟩
end Go.Proofs.YtghfaeapgghhlaaDoor.Dt
