/- NumberForm: what is taken of any bytes is put as just these bytes. No conditions. -/
import Derived.Test.YtooliekmfbkopaaLift
import Derived.Test.YtooliekmfbkopaaNumLaw
import Derived.Test.YtooliekmfbkopaaNumSpec4
namespace Go.Proofs.Ytooliekmfbkopaa.NumberForm
open Go.ChangeShapes Go.WideShapes Go.ChangeAt Go.RowKit Go.Proofs.Ytooliekmfbkopaa.By
open Go.Proofs.Ytooliekmfbkopaa.Num
set_option maxRecDepth 100000 in
set_option maxHeartbeats 4000000 in
theorem walk (s : ByteArray) (w : World) (hs : s.size ≤ 140737488351232) :
    Calls Try.prog 14 #[.string s] w fun e w' => e = .returned (.bool true) ∧ Below w.heap.size w w' := by
  have hc := takeR_cases s.data.toList
  rcases hc with hc | hc | ⟨n, k, hc, h1, h2, h9, h64, hp⟩
  · have HC := Lib.hid hc; clear hc
    go_enter Try.func14, Try.ntmps14
    go_wp2_with fail
    refine (works _).mono ?_
    rintro e w1 ⟨rfl, hb1⟩
    go_wp2_with fail
    refine (take s _ (by unfold maxLen; omega)).mono ?_
    rintro e w2 ⟨rfl, hb2⟩
    rw [HC.out]
    go_wp2_with fail
    go_ret
    exact ⟨rfl, hb1.trans (hb2.mono hb1.size)⟩
  · have HC := Lib.hid hc; clear hc
    go_enter Try.func14, Try.ntmps14
    go_wp2_with fail
    refine (works _).mono ?_
    rintro e w1 ⟨rfl, hb1⟩
    go_wp2_with fail
    refine (take s _ (by unfold maxLen; omega)).mono ?_
    rintro e w2 ⟨rfl, hb2⟩
    rw [HC.out]
    go_wp2_with fail
    go_ret
    exact ⟨rfl, hb1.trans (hb2.mono hb1.size)⟩
  · have HC := Lib.hid hc; clear hc
    have HP := Lib.hid hp; clear hp
    have H64 := Lib.hid h64; clear h64
    have hks : k ≤ s.size := by simpa using h2
    have h1' : (1 : Int) ≤ (k : Int) := by omega
    have hks' : (k : Int) ≤ (s.size : Int) := by omega
    have h9' : (k : Int) ≤ 9 := by omega
    clear h2
    have hif : (if (9 : Int) < (s.size : Int) then (9 : Int) else (s.size : Int)) = 9 ∨ (if (9 : Int) < (s.size : Int) then (9 : Int) else (s.size : Int)) = (s.size : Int) := by split <;> simp
    rcases hif with hif | hif
    all_goals
      go_enter Try.func14, Try.ntmps14
      go_wp2_with fail
      refine (works _).mono ?_
      rintro e w1 ⟨rfl, hb1⟩
      go_wp2_with fail
      refine (take s _ (by unfold maxLen; omega)).mono ?_
      rintro e w2 ⟨rfl, hb2⟩
      rw [HC.out]
      go_wp2_with fail
      go_region_with (go_at_call 21; refine (put n _ H64.out).mono ?_; rintro e w3 ⟨rfl, hb3⟩)
      all_goals go_wp2_with fail
      all_goals
        go_ret
        refine ⟨congrArg (fun x => Ending.returned (.bool x)) (show (putL n == (s.extract 0 k).toList) = true from ?_), (hb1.trans (hb2.mono hb1.size)).trans (((Below.refl _ _).drew).trans (hb3.mono (Nat.le_trans hb1.size hb2.size)))⟩
        rw [HP.out, ByteArray.toList_eq]; simp

theorem own : ownKnob Try.prog.godebug = none := by kernel_rfl
theorem laid : laidOutB Try.prog = true := by kernel_rfl

theorem opened {H : Type} (enc : TypeId × Value → H) (W : World) (args : Array Value) (ds : List (DataW H)) (p : List MemPlace) :
    Lift.Owes enc Try.prog 14 Try.f14.params.toList W args ds p := by
  intro hA hval hsz _
  rw [Try.params14] at hA hval hsz
  obtain ⟨v0, vs0, d0, ds0, p0, q0, hargs, rfl, rfl, h0, r0⟩ := trodAll_cons hA
  obtain ⟨rfl, rfl, rfl⟩ := trodAll_nil r0
  obtain rfl : args = #[v0] := by cases args; simp_all
  obtain ⟨base0, hv0⟩ := hval 0 _ v0 rfl rfl
  obtain ⟨s0, rfl, rfl, rfl, ws0⟩ := ChangeMaps.open_string Try.underlying9 hv0 h0
  have z0 := sized_string hsz (j := 0) rfl rfl
  simp only [reachBytes, Array.length_toList] at z0
  exact walk s0 W z0

set_option maxRecDepth 100000 in
theorem lifted (os : Os) (started : os.Started) (H : Type) (enc : TypeId × Value → H) :
    ReturnsInHanded {} Try.checked os 14 .any (Rows.numberFormSpec.pre6 enc Try.prog Try.f14 Rows.numberFormRow.domain false)
      (Rows.numberFormSpec.post enc Try.prog Try.f14 false true false false) := by
  refine Lift.lifted (C := Try.checked) own started (by kernel_rfl) Try.func14
    (ChangeSpec.witness6 (enc := enc) (C := Try.checked) false ⟨#[], #[.string ByteArray.empty], []⟩ 8 (by kernel_rfl) (by kernel_rfl) (by kernel_rfl) (by kernel_rfl))
    laid (by rw [Try.params14]; intro t ht; simp at ht; rcases ht with rfl <;> exact ⟨by kernel_rfl, of_decide_eq_true (by kernel_rfl)⟩) rfl 4 rfl Try.underlying4
    (fun ds hds => by match ds, hds with | [_], _ => rfl) (opened enc)

theorem said : Rows.NumberFormSaid :=
  OpenClaim.holds_of_wide 14 Try.f14 rfl rfl rfl rfl rfl rfl rfl ⟨rfl, rfl, rfl, rfl, rfl⟩ rfl rfl rfl rfl rfl (by kernel_rfl) Try.func14 (by kernel_rfl)
    (of_decide_eq_true (by kernel_rfl)) (by unfold Func.isWrapper; first | (rw [if_pos (by decide +kernel)]; kernel_rfl) | (rw [if_neg (by decide +kernel)]; exact ⟨rfl, rfl⟩))
    (fun os started H enc _ => lifted os started H enc)
#print axioms said
end Go.Proofs.Ytooliekmfbkopaa.NumberForm
