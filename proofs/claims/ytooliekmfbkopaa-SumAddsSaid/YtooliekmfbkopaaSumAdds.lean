/- SumAdds: whatever pair and bytes, the pair that they make of it is the reference's. No conditions. -/
import Derived.Test.YtooliekmfbkopaaLift
import Derived.Test.YtooliekmfbkopaaSumRef
import Derived.Test.YtooliekmfbkopaaSumEq
import Derived.Lib.SmallJoins
namespace Go.Proofs.Ytooliekmfbkopaa.SumAdds
open Go.ChangeShapes Go.WideShapes Go.ChangeAt Go.RowKit Go.Proofs.Ytooliekmfbkopaa.By
set_option linter.unusedVariables false
open Go.Proofs.Ytooliekmfbkopaa.Sum
attribute [local go_sem high] eql_pair neq_pair
theorem refAdd0 (s : ByteArray) (w : World) (hs : s.size ≤ 140737488351232) :
    Calls Try.prog 25 #[.agg #[.int .u32 0, .int .u32 0], .string s] w fun e w' => e = .returned (pairV (addL (0, 0) s.data.toList)) ∧ Below w.heap.size w w' := refAdd (0, 0) s w hs
set_option maxRecDepth 100000 in
set_option maxHeartbeats 4000000 in
theorem walk (a b : Nat) (s : ByteArray) (w : World) (ha : a < 4294967296) (hb : b < 4294967296) (hs : s.size ≤ 140737488351232) :
    Calls Try.prog 4 #[.agg #[.int .u32 (a : Int), .int .u32 (b : Int)], .string s] w fun e w' => e = .returned (.bool true) ∧ Below w.heap.size w w' := by
  have HS := Lib.hid hs; clear hs ha hb
  obtain ⟨q, hq⟩ : ∃ q, q = addL (a, b) s.data.toList := ⟨_, rfl⟩
  obtain ⟨r, hr⟩ : ∃ r, r = addL (0, 0) s.data.toList := ⟨_, rfl⟩
  have h1 : ∀ u, Calls Try.prog 24 #[.agg #[.int .u32 (a : Int), .int .u32 (b : Int)], .string s] u fun e w' => e = .returned (.agg #[.int .u32 (q.1 : Int), .int .u32 (q.2 : Int)]) ∧ Below u.heap.size u w' := fun u => hq ▸ add (a, b) s u
  have h2 : ∀ u, Calls Try.prog 25 #[.agg #[.int .u32 (a : Int), .int .u32 (b : Int)], .string s] u fun e w' => e = .returned (.agg #[.int .u32 (q.1 : Int), .int .u32 (q.2 : Int)]) ∧ Below u.heap.size u w' := fun u => hq ▸ refAdd (a, b) s u HS.out
  have h3 : ∀ u, Calls Try.prog 26 #[.string s] u fun e w' => e = .returned (.agg #[.int .u32 (r.1 : Int), .int .u32 (r.2 : Int)]) ∧ Below u.heap.size u w' := fun u => hr ▸ of s u
  have h4 : ∀ u, Calls Try.prog 25 #[.agg #[.int .u32 0, .int .u32 0], .string s] u fun e w' => e = .returned (.agg #[.int .u32 (r.1 : Int), .int .u32 (r.2 : Int)]) ∧ Below u.heap.size u w' := fun u => hr ▸ refAdd0 s u HS.out
  have H1 := Lib.hid h1
  have H2 := Lib.hid h2
  have H3 := Lib.hid h3
  have H4 := Lib.hid h4
  clear h1 h2 h3 h4 hq hr
  rcases Nat.lt_or_ge 65536 s.size with hm | hm
  · go_enter Try.func4, Try.ntmps4
    go_wp2_with fail
    refine (works _).mono ?_
    rintro e w1 ⟨rfl, hb1⟩
    go_wp2_with fail
    go_ret
    exact ⟨rfl, ((Below.refl _ _).alloc (Nat.le_refl _) _).trans (hb1.mono (by simp))⟩
  · go_enter Try.func4, Try.ntmps4
    go_wp2_with fail
    go_region_with (first | (go_at_call 24; refine (H1.out _).mono ?_; rintro e w1 ⟨rfl, hb1⟩; have k0 : w1.cell? ⟨w.heap.size, 0, none⟩ = some (.int .u32 (a : Int)) := (by rw [hb1.cell (by simp)]; go_simp); have k1 : w1.cell? ⟨w.heap.size, 1, none⟩ = some (.int .u32 (b : Int)) := (by rw [hb1.cell (by simp)]; go_simp)) | (go_at_call 25; (with_reducible refine (H2.out _).mono ?_); rintro e w2 ⟨rfl, hb2⟩) | (go_at_call 25; (with_reducible refine (H4.out _).mono ?_); rintro e w4 ⟨rfl, hb4⟩) | (go_at_call 26; refine (H3.out _).mono ?_; rintro e w3 ⟨rfl, hb3⟩) | (go_at_call 23; refine (works _).mono ?_; rintro e w5 ⟨rfl, hb5⟩))
    all_goals go_wp2_with fail
    all_goals go_ret
    all_goals exact ⟨rfl, next (next (next (next (next ((Below.refl _ _).alloc (Nat.le_refl _) _).drew hb1) hb2) hb3) hb4) hb5⟩

theorem own : ownKnob Try.prog.godebug = none := by kernel_rfl
theorem laid : laidOutB Try.prog = true := by kernel_rfl

theorem opened {H : Type} (enc : TypeId × Value → H) (W : World) (args : Array Value) (ds : List (DataW H)) (p : List MemPlace) :
    Lift.Owes enc Try.prog 4 Try.f4.params.toList W args ds p := by
  intro hA hval hsz _
  rw [Try.params4] at hA hval hsz
  obtain ⟨v0, vs0, d0, ds0, p0, q0, hargs, rfl, rfl, h0, r0⟩ := trodAll_cons hA
  obtain ⟨v1, vs1, d1, ds1, p1, q1, rfl, rfl, rfl, h1, r1⟩ := trodAll_cons r0
  obtain ⟨rfl, rfl, rfl⟩ := trodAll_nil r1
  obtain rfl : args = #[v0, v1] := by cases args; simp_all
  obtain ⟨base0, hv0⟩ := hval 0 _ v0 rfl rfl
  obtain ⟨x0, y0, e0, g0, m0, rfl, rfl, rfl, hx0, hy0⟩ := Joins.open_agg2 Try.underlying28 (by kernel_rfl) (by kernel_rfl) hv0 h0
  obtain ⟨xn0, cx0, rfl, wx0⟩ := DataW.trod_int Try.underlying26 hx0
  simp at cx0; subst cx0
  obtain ⟨lx0, ux0⟩ := bounds_u32 wx0
  obtain ⟨xm0, rfl⟩ := Int.eq_ofNat_of_zero_le lx0
  obtain ⟨yn0, cy0, rfl, wy0⟩ := DataW.trod_int Try.underlying26 hy0
  simp at cy0; subst cy0
  obtain ⟨ly0, uy0⟩ := bounds_u32 wy0
  obtain ⟨ym0, rfl⟩ := Int.eq_ofNat_of_zero_le ly0
  obtain ⟨base1, hv1⟩ := hval 1 _ v1 rfl rfl
  obtain ⟨s1, rfl, rfl, rfl, ws1⟩ := ChangeMaps.open_string Try.underlying9 hv1 h1
  have z1 := sized_string hsz (j := 1) rfl rfl
  simp only [reachBytes, Array.length_toList] at z1
  exact walk xm0 ym0 s1 W (by omega) (by omega) z1

set_option maxRecDepth 100000 in
theorem lifted (os : Os) (started : os.Started) (H : Type) (enc : TypeId × Value → H) :
    ReturnsInHanded {} Try.checked os 4 .any (Rows.sumAddsSpec.pre6 enc Try.prog Try.f4 Rows.sumAddsRow.domain false)
      (Rows.sumAddsSpec.post enc Try.prog Try.f4 false true false false) := by
  refine Lift.lifted (C := Try.checked) own started (by kernel_rfl) Try.func4
    (ChangeSpec.witness6 (enc := enc) (C := Try.checked) false ⟨#[], #[.agg #[.int .u32 0, .int .u32 0], .string ByteArray.empty], []⟩ 8 (by kernel_rfl) (by kernel_rfl) (by kernel_rfl) (by kernel_rfl))
    laid (by rw [Try.params4]; intro t ht; simp at ht; rcases ht with rfl | rfl <;> exact ⟨by kernel_rfl, of_decide_eq_true (by kernel_rfl)⟩) rfl 4 rfl Try.underlying4
    (fun ds hds => by match ds, hds with | [_, _], _ => rfl) (opened enc)

theorem said : Rows.SumAddsSaid :=
  OpenClaim.holds_of_wide 4 Try.f4 rfl rfl rfl rfl rfl rfl rfl ⟨rfl, rfl, rfl, rfl, rfl⟩ rfl rfl rfl rfl rfl (by kernel_rfl) Try.func4 (by kernel_rfl)
    (of_decide_eq_true (by kernel_rfl)) (by unfold Func.isWrapper; first | (rw [if_pos (by decide +kernel)]; kernel_rfl) | (rw [if_neg (by decide +kernel)]; exact ⟨rfl, rfl⟩))
    (fun os started H enc _ => lifted os started H enc)
#print axioms said
end Go.Proofs.Ytooliekmfbkopaa.SumAdds
