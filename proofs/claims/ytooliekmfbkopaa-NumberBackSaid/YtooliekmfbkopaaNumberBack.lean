/- NumberBack: what is put is taken, whatever stands behind it; a beginning of it is too short. No conditions. -/
import Derived.Test.YtooliekmfbkopaaLift
import Derived.Test.YtooliekmfbkopaaNumLaw
import Derived.Test.YtooliekmfbkopaaNumSpec4
namespace Go.Proofs.Ytooliekmfbkopaa.NumberBack
open Go.ChangeShapes Go.WideShapes Go.ChangeAt Go.RowKit Go.Proofs.Ytooliekmfbkopaa.By
open Go.Proofs.Ytooliekmfbkopaa.Num
set_option maxRecDepth 100000 in
set_option maxHeartbeats 4000000 in
theorem walk (n : Nat) (s : ByteArray) (w : World) (hn : n < 18446744073709551616) (hs : s.size ≤ 140737488351232) :
    Calls Try.prog 11 #[.int .u64 (n : Int), .string s] w fun e w' => e = .returned (.bool true) ∧ Below w.heap.size w w' := by
  have HN := Lib.hid hn
  have hl := putL_len n hn
  have htake : takeR (putL n ++ s.data.toList) = (n, (putL n).length, 0) := takeR_put n _ hn
  have HT := Lib.hid htake; clear htake hn
  obtain ⟨hl1, hl9⟩ := hl
  have happ : (⟨(putL n).toArray⟩ : ByteArray) ++ s = ⟨(putL n ++ s.data.toList).toArray⟩ := by
    apply ByteArray.ext; simp [ByteArray.data_append]
  have HA := Lib.hid happ; clear happ
  go_enter Try.func11, Try.ntmps11
  go_wp2_with fail
  refine (put n _ HN.out).mono ?_
  rintro e w1 ⟨rfl, hb1⟩
  go_wp2_with fail
  refine (is_any _ _ _ _).mono ?_
  rintro e w2 ⟨a, b, c, rfl, ha, hb, hc, sa, sb, sc, hb2⟩
  go_wp2_with fail
  rw [HA.out]
  refine (take _ _ (by unfold maxLen; show (putL n ++ s.data.toList).length ≤ _; simp; omega)).mono ?_
  rintro e w3 ⟨rfl, hb3⟩
  rw [show (takeR (⟨(putL n ++ s.data.toList).toArray⟩ : ByteArray).data.toList) = (n, (putL n).length, 0) from HT.out]
  go_wp2_with fail
  refine (isC_any _ _ _ _ a b c (by rw [hb3.cell sa]; exact ha) (by rw [hb3.cell sb]; exact hb) (by rw [hb3.cell sc]; exact hc)).mono ?_
  rintro e w4 ⟨rfl, rfl⟩
  go_wp2_with fail
  refine (size n _ HN.out).mono ?_
  rintro e w4 ⟨rfl, rfl⟩
  have hbel : Below w.heap.size w w3 := (hb1.trans (hb2.mono hb1.size)).trans (hb3.mono (Nat.le_trans hb1.size hb2.size))
  clear hb1 hb2 hb3 ha hb hc sa sb sc
  go_wp2_with fail
  go_loopw [41] (fun iv wr => ∃ k : Nat, iv = .int .i64 (k : Int) ∧ k ≤ (putL n).length ∧ Below w.heap.size w wr) (fun iv _ => (10 - intOf iv).toNat)
  case atStart => exact ⟨0, rfl, Nat.zero_le _, hbel⟩
  case round =>
    obtain ⟨k, rfl, hk, hbr⟩ := hrel
    by_cases hlt : k < (putL n).length
    · have hcut : takeR ((⟨(putL n).toArray⟩ : ByteArray).extract 0 k).data.toList = (0, 0, 10) := by
        rw [show ((⟨(putL n).toArray⟩ : ByteArray).extract 0 k).data.toList = (putL n).take k by simp]
        exact takeR_cut n k HN.out hlt
      have HC := Lib.hid hcut; clear hcut
      have hlt' : (k : Int) < ((putL n).length : Int) := by omega
      have hk' : (k : Int) ≤ ((putL n).length : Int) := by omega
      go_wp2_with fail
      go_region_with (first | (go_at_call 32; refine (is_any _ _ _ _).mono ?_; rintro e wi ⟨a, b, c, rfl, ha, hb, hc, sa, sb, sc, hbi⟩) | (go_at_call 33; refine (take _ _ (by unfold maxLen; simp [ByteArray.size_extract]; omega)).mono ?_; rintro e wt ⟨rfl, hbt⟩; rw [HC.out]; have ha' := (hbt.cell sa).trans ha; have hb' := (hbt.cell sb).trans hb; have hc' := (hbt.cell sc).trans hc) | (go_at_call 51; refine (isC_any _ _ _ _ _ _ _ (by assumption) (by assumption) (by assumption)).mono ?_; rintro e wc ⟨rfl, rfl⟩))
      all_goals go_wp2_with fail
      all_goals
        go_roundw
        case rel => exact ⟨k + 1, by go_num, by omega, (hbr.drew.trans (hbi.mono hbr.size)).trans (hbt.mono (Nat.le_trans hbr.size hbi.size))⟩
        case measure => simp [intOf]; omega
    · go_wp2_with fail
      go_ret
      exact ⟨rfl, hbr⟩

theorem own : ownKnob Try.prog.godebug = none := by kernel_rfl
theorem laid : laidOutB Try.prog = true := by kernel_rfl

theorem opened {H : Type} (enc : TypeId × Value → H) (W : World) (args : Array Value) (ds : List (DataW H)) (p : List MemPlace) :
    Lift.Owes enc Try.prog 11 Try.f11.params.toList W args ds p := by
  intro hA hval hsz _
  rw [Try.params11] at hA hval hsz
  obtain ⟨v0, vs0, d0, ds0, p0, q0, hargs, rfl, rfl, h0, r0⟩ := trodAll_cons hA
  obtain ⟨v1, vs1, d1, ds1, p1, q1, rfl, rfl, rfl, h1, r1⟩ := trodAll_cons r0
  obtain ⟨rfl, rfl, rfl⟩ := trodAll_nil r1
  obtain rfl : args = #[v0, v1] := by cases args; simp_all
  obtain ⟨base0, hv0⟩ := hval 0 _ v0 rfl rfl
  obtain ⟨a0, rfl, rfl, rfl, wa0⟩ := open_int Try.underlying22 hv0 h0
  obtain ⟨l0, u0⟩ := bounds_u64 wa0
  obtain ⟨n0, rfl⟩ := Int.eq_ofNat_of_zero_le l0
  obtain ⟨base1, hv1⟩ := hval 1 _ v1 rfl rfl
  obtain ⟨s1, rfl, rfl, rfl, ws1⟩ := ChangeMaps.open_string Try.underlying9 hv1 h1
  have z1 := sized_string hsz (j := 1) rfl rfl
  simp only [reachBytes, Array.length_toList] at z1
  exact walk n0 s1 W (by omega) z1

set_option maxRecDepth 100000 in
theorem lifted (os : Os) (started : os.Started) (H : Type) (enc : TypeId × Value → H) :
    ReturnsInHanded {} Try.checked os 11 .any (Rows.numberBackSpec.pre6 enc Try.prog Try.f11 Rows.numberBackRow.domain false)
      (Rows.numberBackSpec.post enc Try.prog Try.f11 false true false false) := by
  refine Lift.lifted (C := Try.checked) own started (by kernel_rfl) Try.func11
    (ChangeSpec.witness6 (enc := enc) (C := Try.checked) false ⟨#[], #[.int .u64 0, .string ByteArray.empty], []⟩ 8 (by kernel_rfl) (by kernel_rfl) (by kernel_rfl) (by kernel_rfl))
    laid (by rw [Try.params11]; intro t ht; simp at ht; rcases ht with rfl | rfl <;> exact ⟨by kernel_rfl, of_decide_eq_true (by kernel_rfl)⟩) rfl 4 rfl Try.underlying4
    (fun ds hds => by match ds, hds with | [_, _], _ => rfl) (opened enc)

theorem said : Rows.NumberBackSaid :=
  OpenClaim.holds_of_wide 11 Try.f11 rfl rfl rfl rfl rfl rfl rfl ⟨rfl, rfl, rfl, rfl, rfl⟩ rfl rfl rfl rfl rfl (by kernel_rfl) Try.func11 (by kernel_rfl)
    (of_decide_eq_true (by kernel_rfl)) (by unfold Func.isWrapper; first | (rw [if_pos (by decide +kernel)]; kernel_rfl) | (rw [if_neg (by decide +kernel)]; exact ⟨rfl, rfl⟩))
    (fun os started H enc _ => lifted os started H enc)
#print axioms said
end Go.Proofs.Ytooliekmfbkopaa.NumberBack
