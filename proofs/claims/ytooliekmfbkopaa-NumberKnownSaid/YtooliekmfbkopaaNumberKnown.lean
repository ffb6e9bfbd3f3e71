/- NumberKnown: the document's examples on numbers. No conditions. -/
import Derived.Test.YtooliekmfbkopaaLift
import Derived.Test.YtooliekmfbkopaaNumLaw
import Derived.Test.YtooliekmfbkopaaNumSpec4
import Derived.Test.YtooliekmfbkopaaNumFold
namespace Go.Proofs.Ytooliekmfbkopaa.NumberKnown
open Go.ChangeShapes Go.WideShapes Go.ChangeAt Go.RowKit Go.Proofs.Ytooliekmfbkopaa.By
open Go.Proofs.Ytooliekmfbkopaa.Num
theorem p0 : putL 0 = [0] := by simp [putL, dg]
theorem p127 : putL 127 = [127] := by simp [putL, dg]
theorem p128 : putL 128 = [129, 0] := by simp [putL, dg, hi]
theorem p16384 : putL 16384 = [129, 128, 0] := by simp [putL, dg, hi]
theorem pmax : putL 18446744073709551615 = [255, 255, 255, 255, 255, 255, 255, 255, 255] := by simp [putL, dg, hi]
theorem s8 : (putL 72057594037927935).length = 8 := by simp [putL, dg, hi]
theorem s9 : (putL 72057594037927936).length = 9 := putL_len_large _ (by omega) (by omega)
theorem t1 : takeR [129, 0, 7] = (128, 2, 0) := by simp [takeR, tk, p128]
theorem t2 : takeR [] = (0, 0, 10) := by simp [takeR, tk]
theorem t3 : takeR [129] = (0, 0, 10) := by simp [takeR, tk]
theorem t4 : takeR [128, 0] = (0, 0, 11) := by simp [takeR, tk, p0]
theorem t5 : takeR [128, 128, 128, 128, 128, 128, 128, 128, 5] = (0, 0, 11) := by simp [takeR, tk, putL, dg]
theorem f1 : foldN (-1) = 1 := by decide
theorem f2 : foldN 1 = 2 := by decide
theorem f3 : foldN (-9223372036854775808) = 18446744073709551615 := by unfold foldN; rw [if_neg (by omega)]; omega
theorem f4 : unfoldN 2 = 1 := by decide
theorem v8 : val8 [0, 0, 0, 0, 0, 0, 1, 2, 9] = 258 := by decide
theorem b4 : be4 258 = [0, 0, 1, 2] := by decide
set_option maxRecDepth 100000 in
set_option maxHeartbeats 4000000 in
theorem walk (w : World) :
    Calls Try.prog 19 #[] w fun e w' => e = .returned (.bool true) ∧ Below w.heap.size w w' := by
  have hbel : Below w.heap.size w w := Below.refl _ _
  go_enter Try.func19, Try.ntmps19
  go_wp2_with fail
  refine (put 0 _ (by omega)).mono ?_
  rintro e w1 ⟨rfl, hx⟩
  replace hbel := hbel.trans (hx.mono hbel.size)
  clear hx
  rw [p0]
  go_wp2_with fail
  refine (put 127 _ (by omega)).mono ?_
  rintro e w2 ⟨rfl, hx⟩
  replace hbel := hbel.trans (hx.mono hbel.size)
  clear hx
  rw [p127]
  go_wp2_with fail
  refine (put 128 _ (by omega)).mono ?_
  rintro e w3 ⟨rfl, hx⟩
  replace hbel := hbel.trans (hx.mono hbel.size)
  clear hx
  rw [p128]
  go_wp2_with fail
  refine (put 16384 _ (by omega)).mono ?_
  rintro e w4 ⟨rfl, hx⟩
  replace hbel := hbel.trans (hx.mono hbel.size)
  clear hx
  rw [p16384]
  go_wp2_with fail
  refine (put 18446744073709551615 _ (by omega)).mono ?_
  rintro e w5 ⟨rfl, hx⟩
  replace hbel := hbel.trans (hx.mono hbel.size)
  clear hx
  rw [pmax]
  go_wp2_with fail
  refine (size 72057594037927935 _ (by omega)).mono ?_
  rintro e w6 ⟨rfl, rfl⟩
  rw [s8]
  go_wp2_with fail
  refine (size 72057594037927936 _ (by omega)).mono ?_
  rintro e w7 ⟨rfl, rfl⟩
  rw [s9]
  go_wp2_with fail
  refine (is_any _ _ _ _).mono ?_
  rintro e w8 ⟨a, b, c, rfl, ha, hb, hc, sa, sb, sc, hx⟩
  go_wp2_with fail
  refine (take _ _ (by unfold maxLen; decide)).mono ?_
  rintro e w9 ⟨rfl, hy⟩
  rw [show takeR (⟨#[129, 0, 7]⟩ : ByteArray).data.toList = _ from t1]
  go_wp2_with fail
  refine (isC_any _ _ _ _ a b c ((hy.cell sa).trans ha) ((hy.cell sb).trans hb) ((hy.cell sc).trans hc)).mono ?_
  rintro e wc ⟨rfl, rfl⟩
  replace hbel := (hbel.trans (hx.mono hbel.size)).trans (hy.mono (Nat.le_trans hbel.size hx.size))
  clear hx hy ha hb hc sa sb sc
  go_wp2_with fail
  refine (is_any _ _ _ _).mono ?_
  rintro e w10 ⟨a, b, c, rfl, ha, hb, hc, sa, sb, sc, hx⟩
  go_wp2_with fail
  refine (take _ _ (by unfold maxLen; decide)).mono ?_
  rintro e w11 ⟨rfl, hy⟩
  rw [show takeR (⟨#[]⟩ : ByteArray).data.toList = _ from t2]
  go_wp2_with fail
  refine (isC_any _ _ _ _ a b c ((hy.cell sa).trans ha) ((hy.cell sb).trans hb) ((hy.cell sc).trans hc)).mono ?_
  rintro e wc ⟨rfl, rfl⟩
  replace hbel := (hbel.trans (hx.mono hbel.size)).trans (hy.mono (Nat.le_trans hbel.size hx.size))
  clear hx hy ha hb hc sa sb sc
  go_wp2_with fail
  refine (is_any _ _ _ _).mono ?_
  rintro e w12 ⟨a, b, c, rfl, ha, hb, hc, sa, sb, sc, hx⟩
  go_wp2_with fail
  refine (take _ _ (by unfold maxLen; decide)).mono ?_
  rintro e w13 ⟨rfl, hy⟩
  rw [show takeR (⟨#[129]⟩ : ByteArray).data.toList = _ from t3]
  go_wp2_with fail
  refine (isC_any _ _ _ _ a b c ((hy.cell sa).trans ha) ((hy.cell sb).trans hb) ((hy.cell sc).trans hc)).mono ?_
  rintro e wc ⟨rfl, rfl⟩
  replace hbel := (hbel.trans (hx.mono hbel.size)).trans (hy.mono (Nat.le_trans hbel.size hx.size))
  clear hx hy ha hb hc sa sb sc
  go_wp2_with fail
  refine (is_any _ _ _ _).mono ?_
  rintro e w14 ⟨a, b, c, rfl, ha, hb, hc, sa, sb, sc, hx⟩
  go_wp2_with fail
  refine (take _ _ (by unfold maxLen; decide)).mono ?_
  rintro e w15 ⟨rfl, hy⟩
  rw [show takeR (⟨#[128, 0]⟩ : ByteArray).data.toList = _ from t4]
  go_wp2_with fail
  refine (isC_any _ _ _ _ a b c ((hy.cell sa).trans ha) ((hy.cell sb).trans hb) ((hy.cell sc).trans hc)).mono ?_
  rintro e wc ⟨rfl, rfl⟩
  replace hbel := (hbel.trans (hx.mono hbel.size)).trans (hy.mono (Nat.le_trans hbel.size hx.size))
  clear hx hy ha hb hc sa sb sc
  go_wp2_with fail
  refine (is_any _ _ _ _).mono ?_
  rintro e w16 ⟨a, b, c, rfl, ha, hb, hc, sa, sb, sc, hx⟩
  go_wp2_with fail
  refine (take _ _ (by unfold maxLen; decide)).mono ?_
  rintro e w17 ⟨rfl, hy⟩
  rw [show takeR (⟨#[128, 128, 128, 128, 128, 128, 128, 128, 5]⟩ : ByteArray).data.toList = _ from t5]
  go_wp2_with fail
  refine (isC_any _ _ _ _ a b c ((hy.cell sa).trans ha) ((hy.cell sb).trans hb) ((hy.cell sc).trans hc)).mono ?_
  rintro e wc ⟨rfl, rfl⟩
  replace hbel := (hbel.trans (hx.mono hbel.size)).trans (hy.mono (Nat.le_trans hbel.size hx.size))
  clear hx hy ha hb hc sa sb sc
  go_wp2_with fail
  refine (fold (-1) _ (by omega) (by omega)).mono ?_
  rintro e wf ⟨rfl, rfl⟩
  rw [f1]
  go_wp2_with fail
  refine (fold 1 _ (by omega) (by omega)).mono ?_
  rintro e wf ⟨rfl, rfl⟩
  rw [f2]
  go_wp2_with fail
  refine (fold (-9223372036854775808) _ (by omega) (by omega)).mono ?_
  rintro e wf ⟨rfl, rfl⟩
  rw [f3]
  go_wp2_with fail
  refine (Num.unfold 2 _ (by omega)).mono ?_
  rintro e wf ⟨rfl, rfl⟩
  rw [f4]
  go_wp2_with fail
  refine (takeFour_short _ _ (by decide)).mono ?_
  rintro e wf ⟨rfl, n1, rfl⟩
  go_wp2_with fail
  refine (takeEight_ok _ _ (by decide)).mono ?_
  rintro e wf ⟨rfl, n2, rfl⟩
  rw [show val8 (⟨#[0, 0, 0, 0, 0, 0, 1, 2, 9]⟩ : ByteArray).data.toList = _ from v8]
  go_wp2_with fail
  refine (four _ _ (by omega)).mono ?_
  rintro e wg ⟨rfl, hx⟩
  rw [show be4 (258 : Int).toNat = _ from b4]
  go_wp2_with fail
  go_ret
  exact ⟨by rfl, (below_drewN hbel _).trans (hx.mono hbel.size)⟩

theorem own : ownKnob Try.prog.godebug = none := by kernel_rfl
theorem laid : laidOutB Try.prog = true := by kernel_rfl

theorem opened {H : Type} (enc : TypeId × Value → H) (W : World) (args : Array Value) (ds : List (DataW H)) (p : List MemPlace) :
    Lift.Owes enc Try.prog 19 Try.f19.params.toList W args ds p := by
  intro hA hval hsz _
  rw [Try.params19] at hA hval hsz
  obtain ⟨rfl, rfl, rfl⟩ := trodAll_none hA
  exact walk  W 

set_option maxRecDepth 100000 in
theorem lifted (os : Os) (started : os.Started) (H : Type) (enc : TypeId × Value → H) :
    ReturnsInHanded {} Try.checked os 19 .any (Rows.numberKnownSpec.pre6 enc Try.prog Try.f19 Rows.numberKnownRow.domain false)
      (Rows.numberKnownSpec.post enc Try.prog Try.f19 false true false false) := by
  refine Lift.lifted (C := Try.checked) own started (by kernel_rfl) Try.func19
    (ChangeSpec.witness6 (enc := enc) (C := Try.checked) false ⟨#[], #[], []⟩ 8 (by kernel_rfl) (by kernel_rfl) (by kernel_rfl) (by kernel_rfl))
    laid (by rw [Try.params19]; intro t ht; simp at ht; skip) rfl 4 rfl Try.underlying4
    (fun ds hds => by match ds, hds with | [], _ => rfl) (opened enc)

theorem said : Rows.NumberKnownSaid :=
  OpenClaim.holds_of_wide 19 Try.f19 rfl rfl rfl rfl rfl rfl rfl ⟨rfl, rfl, rfl, rfl, rfl⟩ rfl rfl rfl rfl rfl (by kernel_rfl) Try.func19 (by kernel_rfl)
    (of_decide_eq_true (by kernel_rfl)) (by unfold Func.isWrapper; first | (rw [if_pos (by decide +kernel)]; kernel_rfl) | (rw [if_neg (by decide +kernel)]; exact ⟨rfl, rfl⟩))
    (fun os started H enc _ => lifted os started H enc)
#print axioms said
end Go.Proofs.Ytooliekmfbkopaa.NumberKnown
