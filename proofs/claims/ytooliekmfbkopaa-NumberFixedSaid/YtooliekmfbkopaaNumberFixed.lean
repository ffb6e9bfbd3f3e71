/- NumberFixed: any numbers as four and eight bytes, and what any bytes begin with, are the reference's. No conditions. -/
import Derived.Test.YtooliekmfbkopaaLift
import Derived.Test.YtooliekmfbkopaaNumLaw
namespace Go.Proofs.Ytooliekmfbkopaa.NumberFixed
open Go.ChangeShapes Go.WideShapes Go.ChangeAt Go.RowKit Go.Proofs.Ytooliekmfbkopaa.By
open Go.Proofs.Ytooliekmfbkopaa.Num
theorem fixed4 (a : Nat) (w : World) (h : a < 4294967296) : Calls Try.prog 41 #[.int .u64 (a : Int), .int .i64 4] w fun e w' => e = .returned (str (be4 a)) ∧ Below w.heap.size w w' := by
  have := fixed a 4 w (by omega) (by omega)
  rw [be_four] at this
  exact this
theorem fixed8 (a : Nat) (w : World) (h : a < 18446744073709551616) : Calls Try.prog 41 #[.int .u64 (a : Int), .int .i64 8] w fun e w' => e = .returned (str (be8 a)) ∧ Below w.heap.size w w' := by
  have := fixed a 8 w h (by omega)
  rw [be_eight] at this
  exact this
set_option maxRecDepth 100000 in
theorem walk (a b : Nat) (s : ByteArray) (w : World) (ha : a < 4294967296) (hb : b < 18446744073709551616) (hs : s.size ≤ 140737488351232) :
    Calls Try.prog 18 #[.int .u32 (a : Int), .int .u64 (b : Int), .string s] w fun e w' => e = .returned (.bool true) ∧ Below w.heap.size w w' := by
  have HA := Lib.hid ha; clear ha
  have HB := Lib.hid hb; clear hb
  have hwa : IntKind.u64.wrap (a : Int) = (a : Int) := u64_in a (by have := HA.out; omega)
  go_enter Try.func18, Try.ntmps18
  go_wp2_with fail
  refine (works _).mono ?_
  rintro e w1 ⟨rfl, hb1⟩
  go_wp2_with fail
  refine (four _ _ (by omega)).mono ?_
  rintro e w2 ⟨rfl, hb2⟩
  go_wp2_with fail
  refine (fixed4 a _ HA.out).mono ?_
  rintro e w3 ⟨rfl, hb3⟩
  go_wp2_with fail
  refine (eight _ _ (by omega) (by have := HB.out; omega)).mono ?_
  rintro e w4 ⟨rfl, hb4⟩
  go_wp2_with fail
  refine (fixed8 b _ HB.out).mono ?_
  rintro e w5 ⟨rfl, hb5⟩
  have hbel : Below w.heap.size w w5 := (((hb1.trans (hb2.mono hb1.size)).trans (hb3.mono (Nat.le_trans hb1.size hb2.size))).trans (hb4.mono (Nat.le_trans (Nat.le_trans hb1.size hb2.size) hb3.size))).trans (hb5.mono (Nat.le_trans (Nat.le_trans (Nat.le_trans hb1.size hb2.size) hb3.size) hb4.size))
  clear hb1 hb2 hb3 hb4 hb5
  rcases Nat.lt_or_ge s.size 4 with h4 | h4
  · go_wp2_with fail
    refine (takeFour_short s _ (by simpa using h4)).mono ?_
    rintro e w6 ⟨rfl, n1, rfl⟩
    go_wp2_with fail
    refine (takeEight_short s _ (by simp; omega)).mono ?_
    rintro e w6 ⟨rfl, n2, rfl⟩
    go_wp2_with fail
    go_ret
    exact ⟨rfl, below_drewN hbel _⟩
  · have e4 : val (s.extract 0 4).data.toList = val4 s.data.toList := by
      rw [← val_four _ (by simpa using h4)]; simp
    have hw4 : IntKind.u64.wrap (val4 s.data.toList : Int) = (val4 s.data.toList : Int) := u64_in _ (by have := val4_lt s.data.toList; omega)
    rcases Nat.lt_or_ge s.size 8 with h8 | h8
    · go_wp2_with fail
      refine (takeFour_ok s _ (by simpa using h4)).mono ?_
      rintro e w6 ⟨rfl, n1, rfl⟩
      go_wp2_with fail
      refine (takeEight_short s _ (by simp; omega)).mono ?_
      rintro e w6 ⟨rfl, n2, rfl⟩
      go_wp2_with fail
      refine (value _ _ (by simp [ByteArray.size_extract]; omega)).mono ?_
      rintro e w6 ⟨rfl, rfl⟩
      rw [e4]
      go_wp2_with fail
      go_ret
      exact ⟨rfl, below_drewN hbel _⟩
    · have e8 : val (s.extract 0 8).data.toList = val8 s.data.toList := by
        rw [← val_eight _ (by simpa using h8)]; simp
      go_wp2_with fail
      refine (takeFour_ok s _ (by simpa using h4)).mono ?_
      rintro e w6 ⟨rfl, n1, rfl⟩
      go_wp2_with fail
      refine (takeEight_ok s _ (by simpa using h8)).mono ?_
      rintro e w6 ⟨rfl, n2, rfl⟩
      go_wp2_with fail
      refine (value _ _ (by simp [ByteArray.size_extract]; omega)).mono ?_
      rintro e w6 ⟨rfl, rfl⟩
      rw [e4]
      go_wp2_with fail
      refine (value _ _ (by simp [ByteArray.size_extract]; omega)).mono ?_
      rintro e w6 ⟨rfl, rfl⟩
      rw [e8]
      go_wp2_with fail
      go_ret
      exact ⟨by simp, below_drewN hbel _⟩

theorem own : ownKnob Try.prog.godebug = none := by kernel_rfl
theorem laid : laidOutB Try.prog = true := by kernel_rfl

theorem opened {H : Type} (enc : TypeId × Value → H) (W : World) (args : Array Value) (ds : List (DataW H)) (p : List MemPlace) :
    Lift.Owes enc Try.prog 18 Try.f18.params.toList W args ds p := by
  intro hA hval hsz _
  rw [Try.params18] at hA hval hsz
  obtain ⟨v0, vs0, d0, ds0, p0, q0, hargs, rfl, rfl, h0, r0⟩ := trodAll_cons hA
  obtain ⟨v1, vs1, d1, ds1, p1, q1, rfl, rfl, rfl, h1, r1⟩ := trodAll_cons r0
  obtain ⟨v2, vs2, d2, ds2, p2, q2, rfl, rfl, rfl, h2, r2⟩ := trodAll_cons r1
  obtain ⟨rfl, rfl, rfl⟩ := trodAll_nil r2
  obtain rfl : args = #[v0, v1, v2] := by cases args; simp_all
  obtain ⟨base0, hv0⟩ := hval 0 _ v0 rfl rfl
  obtain ⟨a0, rfl, rfl, rfl, wa0⟩ := open_int Try.underlying26 hv0 h0
  obtain ⟨l0, u0⟩ := bounds_u32 wa0
  obtain ⟨n0, rfl⟩ := Int.eq_ofNat_of_zero_le l0
  obtain ⟨base1, hv1⟩ := hval 1 _ v1 rfl rfl
  obtain ⟨a1, rfl, rfl, rfl, wa1⟩ := open_int Try.underlying22 hv1 h1
  obtain ⟨l1, u1⟩ := bounds_u64 wa1
  obtain ⟨n1, rfl⟩ := Int.eq_ofNat_of_zero_le l1
  obtain ⟨base2, hv2⟩ := hval 2 _ v2 rfl rfl
  obtain ⟨s2, rfl, rfl, rfl, ws2⟩ := ChangeMaps.open_string Try.underlying9 hv2 h2
  have z2 := sized_string hsz (j := 2) rfl rfl
  simp only [reachBytes, Array.length_toList] at z2
  exact walk n0 n1 s2 W (by omega) (by omega) z2

set_option maxRecDepth 100000 in
theorem lifted (os : Os) (started : os.Started) (H : Type) (enc : TypeId × Value → H) :
    ReturnsInHanded {} Try.checked os 18 .any (Rows.numberFixedSpec.pre6 enc Try.prog Try.f18 Rows.numberFixedRow.domain false)
      (Rows.numberFixedSpec.post enc Try.prog Try.f18 false true false false) := by
  refine Lift.lifted (C := Try.checked) own started (by kernel_rfl) Try.func18
    (ChangeSpec.witness6 (enc := enc) (C := Try.checked) false ⟨#[], #[.int .u32 0, .int .u64 0, .string ByteArray.empty], []⟩ 8 (by kernel_rfl) (by kernel_rfl) (by kernel_rfl) (by kernel_rfl))
    laid (by rw [Try.params18]; intro t ht; simp at ht; rcases ht with rfl | rfl | rfl <;> exact ⟨by kernel_rfl, of_decide_eq_true (by kernel_rfl)⟩) rfl 4 rfl Try.underlying4
    (fun ds hds => by match ds, hds with | [_, _, _], _ => rfl) (opened enc)

theorem said : Rows.NumberFixedSaid :=
  OpenClaim.holds_of_wide 18 Try.f18 rfl rfl rfl rfl rfl rfl rfl ⟨rfl, rfl, rfl, rfl, rfl⟩ rfl rfl rfl rfl rfl (by kernel_rfl) Try.func18 (by kernel_rfl)
    (of_decide_eq_true (by kernel_rfl)) (by unfold Func.isWrapper; first | (rw [if_pos (by decide +kernel)]; kernel_rfl) | (rw [if_neg (by decide +kernel)]; exact ⟨rfl, rfl⟩))
    (fun os started H enc _ => lifted os started H enc)
#print axioms said
end Go.Proofs.Ytooliekmfbkopaa.NumberFixed
