/- SumApart: whatever two pairs and bytes, the pairs are the same behind the bytes (added, or taken back) just if they were the same ahead of them. No conditions. -/
import Derived.Test.YtooliekmfbkopaaLift
import Derived.Test.YtooliekmfbkopaaSumBackW
import Derived.Test.YtooliekmfbkopaaSumEq
import Derived.Test.YtooliekmfbkopaaLater
import Derived.Test.YtooliekmfbkopaaQuiet
import Derived.Lib.SmallJoins
namespace Go.Proofs.Ytooliekmfbkopaa.SumApart
open Go.ChangeShapes Go.WideShapes Go.ChangeAt Go.RowKit Go.Proofs.Ytooliekmfbkopaa.By
set_option linter.unusedVariables false
open Go.Proofs.Ytooliekmfbkopaa.Sum
theorem eq_told (p q : Nat × Nat) (b : Bool) (h : (p = q) = (b = true)) (w : World) : (binOp .eql 28 (.agg #[.int .u32 (p.1 : Int), .int .u32 (p.2 : Int)]) (.agg #[.int .u32 (q.1 : Int), .int .u32 (q.2 : Int)])).run Try.prog w = .ok (.bool b) w := by
  rw [eql_pair]
  congr 2
  rw [Bool.eq_iff_iff, ← h, Bool.and_eq_true, beq_iff_eq, beq_iff_eq]
  constructor
  · rintro ⟨h1, h2⟩; exact Prod.ext (by omega) (by omega)
  · rintro rfl; exact ⟨rfl, rfl⟩
theorem walk_at (p q x y c d : Nat × Nat) (t : Bool) (s : ByteArray) (w : World)
    (h1 : ∀ u, Calls Try.prog 24 #[.agg #[.int .u32 (p.1 : Int), .int .u32 (p.2 : Int)], .string s] u fun e w' => e = .returned (.agg #[.int .u32 (x.1 : Int), .int .u32 (x.2 : Int)]) ∧ Below u.heap.size u w')
    (h2 : ∀ u, Calls Try.prog 24 #[.agg #[.int .u32 (q.1 : Int), .int .u32 (q.2 : Int)], .string s] u fun e w' => e = .returned (.agg #[.int .u32 (y.1 : Int), .int .u32 (y.2 : Int)]) ∧ Below u.heap.size u w')
    (h3 : ∀ u, Calls Try.prog 31 #[.agg #[.int .u32 (p.1 : Int), .int .u32 (p.2 : Int)], .string s] u fun e w' => e = .returned (.agg #[.int .u32 (c.1 : Int), .int .u32 (c.2 : Int)]) ∧ Below u.heap.size u w')
    (h4 : ∀ u, Calls Try.prog 31 #[.agg #[.int .u32 (q.1 : Int), .int .u32 (q.2 : Int)], .string s] u fun e w' => e = .returned (.agg #[.int .u32 (d.1 : Int), .int .u32 (d.2 : Int)]) ∧ Below u.heap.size u w')
    (e1 : (p = q) = (t = true)) (e2 : (x = y) = (t = true)) (e3 : (c = d) = (t = true)) (hm : s.size ≤ 65536) :
    Calls Try.prog 10 #[.agg #[.int .u32 (p.1 : Int), .int .u32 (p.2 : Int)], .agg #[.int .u32 (q.1 : Int), .int .u32 (q.2 : Int)], .string s] w fun e w' => e = .returned (.bool true) ∧ Below w.heap.size w w' := by
  have H1 := Lib.hid h1
  have H2 := Lib.hid h2
  have H3 := Lib.hid h3
  have H4 := Lib.hid h4
  have E1 := eq_told _ _ _ e1
  have E2 := eq_told _ _ _ e2
  have E3 := eq_told _ _ _ e3
  clear h1 h2 h3 h4 e1 e2 e3
  cases t
  all_goals
    go_enter Try.func10, Try.ntmps10
    go_wp2_with fail
    have hbel : Below w.heap.size w ((w.alloc (.cells #[.int .u32 (p.1 : Int), .int .u32 (p.2 : Int)] 28)).alloc (.cells #[.int .u32 (q.1 : Int), .int .u32 (q.2 : Int)] 28)) := ((Below.refl _ _).alloc (Nat.le_refl _) _).alloc (by simp) _
    have o0 := lat_cell (w := ((w.alloc (.cells #[.int .u32 (p.1 : Int), .int .u32 (p.2 : Int)] 28)).alloc (.cells #[.int .u32 (q.1 : Int), .int .u32 (q.2 : Int)] 28))) (p := ⟨w.heap.size, 0, none⟩) (v := .int .u32 (p.1 : Int)) (by go_simp)
    have o1 := lat_cell (w := ((w.alloc (.cells #[.int .u32 (p.1 : Int), .int .u32 (p.2 : Int)] 28)).alloc (.cells #[.int .u32 (q.1 : Int), .int .u32 (q.2 : Int)] 28))) (p := ⟨w.heap.size, 1, none⟩) (v := .int .u32 (p.2 : Int)) (by go_simp)
    have o2 := lat_cell (w := ((w.alloc (.cells #[.int .u32 (p.1 : Int), .int .u32 (p.2 : Int)] 28)).alloc (.cells #[.int .u32 (q.1 : Int), .int .u32 (q.2 : Int)] 28))) (p := ⟨w.heap.size + 1, 0, none⟩) (v := .int .u32 (q.1 : Int)) (by go_simp)
    have o3 := lat_cell (w := ((w.alloc (.cells #[.int .u32 (p.1 : Int), .int .u32 (p.2 : Int)] 28)).alloc (.cells #[.int .u32 (q.1 : Int), .int .u32 (q.2 : Int)] 28))) (p := ⟨w.heap.size + 1, 1, none⟩) (v := .int .u32 (q.2 : Int)) (by go_simp)
    generalize (w.alloc (.cells #[.int .u32 (p.1 : Int), .int .u32 (p.2 : Int)] 28)).alloc (.cells #[.int .u32 (q.1 : Int), .int .u32 (q.2 : Int)] 28) = W at *
    refine wp_region_later (by kernel_rfl) (by kernel_rfl) ?_
    repeat (go_big_quiet_step ((first | (go_at_call 24; (with_reducible refine lat_calls (H1.out _))) | (go_at_call 24; (with_reducible refine lat_calls (H2.out _))) | (go_at_call 31; (with_reducible refine lat_calls (H3.out _))) | (go_at_call 31; (with_reducible refine lat_calls (H4.out _))) | (go_at_call 23; (with_reducible refine lat_calls (works _))))))
    refine wpQuiet_nil ?_
    refine later_out (fun w2 hb2 => ?_)
    go_wp2_with fail
    go_ret
    exact ⟨rfl, next hbel hb2⟩
set_option maxRecDepth 100000 in
set_option maxHeartbeats 4000000 in
theorem walk (a b c d : Nat) (s : ByteArray) (w : World) (ha : a < 4294967296) (hb : b < 4294967296) (hc : c < 4294967296) (hd : d < 4294967296) (hs : s.size ≤ 140737488351232) :
    Calls Try.prog 10 #[.agg #[.int .u32 (a : Int), .int .u32 (b : Int)], .agg #[.int .u32 (c : Int), .int .u32 (d : Int)], .string s] w fun e w' => e = .returned (.bool true) ∧ Below w.heap.size w w' := by
  by_cases hm : 65536 < s.size
  · have HS := Lib.hid (And.intro (And.intro ha hb) (And.intro hc hd)); clear ha hb hc hd
    go_enter Try.func10, Try.ntmps10
    go_wp2_with fail
    refine (works _).mono ?_
    rintro e w1 ⟨rfl, hb1⟩
    go_wp2_with fail
    go_ret
    exact ⟨rfl, (((Below.refl _ _).alloc (Nat.le_refl _) _).alloc (by simp) _).trans (hb1.mono (by simp; omega))⟩
  · refine walk_at (a, b) (c, d) _ _ _ _ (decide ((a, b) = (c, d))) s w (fun u => add (a, b) s u) (fun u => add (c, d) s u) (fun u => back (a, b) s u hs ha hb) (fun u => back (c, d) s u hs hc hd) (by simp) ?_ ?_ (by omega)
    · simp only [decide_eq_true_eq, eq_iff_iff]
      constructor
      · intro h
        have := congrArg (fun p => backL p s.data.toList) h
        simpa only [backL_addL (a, b) _ ha hb, backL_addL (c, d) _ hc hd] using this
      · intro h; rw [h]
    · simp only [decide_eq_true_eq, eq_iff_iff]
      constructor
      · intro h
        have := congrArg (fun p => addL p s.data.toList) h
        simpa only [addL_backL (a, b) _ ha hb, addL_backL (c, d) _ hc hd] using this
      · intro h; rw [h]

theorem own : ownKnob Try.prog.godebug = none := by kernel_rfl
theorem laid : laidOutB Try.prog = true := by kernel_rfl

theorem opened {H : Type} (enc : TypeId × Value → H) (W : World) (args : Array Value) (ds : List (DataW H)) (p : List MemPlace) :
    Lift.Owes enc Try.prog 10 Try.f10.params.toList W args ds p := by
  intro hA hval hsz _
  rw [Try.params10] at hA hval hsz
  obtain ⟨v0, vs0, d0, ds0, p0, q0, hargs, rfl, rfl, h0, r0⟩ := trodAll_cons hA
  obtain ⟨v1, vs1, d1, ds1, p1, q1, rfl, rfl, rfl, h1, r1⟩ := trodAll_cons r0
  obtain ⟨v2, vs2, d2, ds2, p2, q2, rfl, rfl, rfl, h2, r2⟩ := trodAll_cons r1
  obtain ⟨rfl, rfl, rfl⟩ := trodAll_nil r2
  obtain rfl : args = #[v0, v1, v2] := by cases args; simp_all
  obtain ⟨base0, hv0⟩ := hval 0 _ v0 rfl rfl
  obtain ⟨x0, y0, e0, g0, m0, rfl, rfl, rfl, hx0, hy0⟩ := Joins.open_agg2 Try.underlying28 (by kernel_rfl) (by kernel_rfl) hv0 h0
  obtain ⟨xn0, cx0, rfl, wx0⟩ := DataW.trod_int Try.underlying26 hx0
  simp at cx0; subst cx0
  obtain ⟨lx0, ux0⟩ := bounds_u32 wx0
  obtain ⟨xm0, rfl⟩ := Int.eq_ofNat_of_zero_le lx0
  obtain ⟨yn0, cy0, rfl, wy0⟩ := DataW.trod_int Try.underlying26 hy0
  simp at cy0; subst cy0
  obtain ⟨ly0, uy0⟩ := bounds_u32 wy0
  obtain ⟨ym0, rfl⟩ := Int.eq_ofNat_of_zero_le ly0
  obtain ⟨base1, hv1⟩ := hval 1 _ v1 rfl rfl
  obtain ⟨x1, y1, e1, g1, m1, rfl, rfl, rfl, hx1, hy1⟩ := Joins.open_agg2 Try.underlying28 (by kernel_rfl) (by kernel_rfl) hv1 h1
  obtain ⟨xn1, cx1, rfl, wx1⟩ := DataW.trod_int Try.underlying26 hx1
  simp at cx1; subst cx1
  obtain ⟨lx1, ux1⟩ := bounds_u32 wx1
  obtain ⟨xm1, rfl⟩ := Int.eq_ofNat_of_zero_le lx1
  obtain ⟨yn1, cy1, rfl, wy1⟩ := DataW.trod_int Try.underlying26 hy1
  simp at cy1; subst cy1
  obtain ⟨ly1, uy1⟩ := bounds_u32 wy1
  obtain ⟨ym1, rfl⟩ := Int.eq_ofNat_of_zero_le ly1
  obtain ⟨base2, hv2⟩ := hval 2 _ v2 rfl rfl
  obtain ⟨s2, rfl, rfl, rfl, ws2⟩ := ChangeMaps.open_string Try.underlying9 hv2 h2
  have z2 := sized_string hsz (j := 2) rfl rfl
  simp only [reachBytes, Array.length_toList] at z2
  exact walk xm0 ym0 xm1 ym1 s2 W (by omega) (by omega) (by omega) (by omega) z2

set_option maxRecDepth 100000 in
theorem lifted (os : Os) (started : os.Started) (H : Type) (enc : TypeId × Value → H) :
    ReturnsInHanded {} Try.checked os 10 .any (Rows.sumApartSpec.pre6 enc Try.prog Try.f10 Rows.sumApartRow.domain false)
      (Rows.sumApartSpec.post enc Try.prog Try.f10 false true false false) := by
  refine Lift.lifted (C := Try.checked) own started (by kernel_rfl) Try.func10
    (ChangeSpec.witness6 (enc := enc) (C := Try.checked) false ⟨#[], #[.agg #[.int .u32 0, .int .u32 0], .agg #[.int .u32 0, .int .u32 0], .string ByteArray.empty], []⟩ 8 (by kernel_rfl) (by kernel_rfl) (by kernel_rfl) (by kernel_rfl))
    laid (by rw [Try.params10]; intro t ht; simp at ht; rcases ht with rfl | rfl | rfl <;> exact ⟨by kernel_rfl, of_decide_eq_true (by kernel_rfl)⟩) rfl 4 rfl Try.underlying4
    (fun ds hds => by match ds, hds with | [_, _, _], _ => rfl) (opened enc)

theorem said : Rows.SumApartSaid :=
  OpenClaim.holds_of_wide 10 Try.f10 rfl rfl rfl rfl rfl rfl rfl ⟨rfl, rfl, rfl, rfl, rfl⟩ rfl rfl rfl rfl rfl (by kernel_rfl) Try.func10 (by kernel_rfl)
    (of_decide_eq_true (by kernel_rfl)) (by unfold Func.isWrapper; first | (rw [if_pos (by decide +kernel)]; kernel_rfl) | (rw [if_neg (by decide +kernel)]; exact ⟨rfl, rfl⟩))
    (fun os started H enc _ => lifted os started H enc)
#print axioms said
end Go.Proofs.Ytooliekmfbkopaa.SumApart
