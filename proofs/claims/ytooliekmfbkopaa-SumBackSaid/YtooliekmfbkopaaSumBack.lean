/- SumBack: whatever pair and bytes, what the bytes added is taken back by them, and what they took back is added again. No conditions. -/
import Derived.Test.YtooliekmfbkopaaLift
import Derived.Test.YtooliekmfbkopaaSumBackW
import Derived.Test.YtooliekmfbkopaaSumEq
import Derived.Test.YtooliekmfbkopaaLater
import Derived.Test.YtooliekmfbkopaaQuiet
import Derived.Lib.SmallJoins
namespace Go.Proofs.Ytooliekmfbkopaa.SumBack
open Go.ChangeShapes Go.WideShapes Go.ChangeAt Go.RowKit Go.Proofs.Ytooliekmfbkopaa.By
set_option linter.unusedVariables false
open Go.Proofs.Ytooliekmfbkopaa.Sum
theorem eq_same (p : Nat × Nat) (w : World) : (binOp .eql 28 (.agg #[.int .u32 (p.1 : Int), .int .u32 (p.2 : Int)]) (.agg #[.int .u32 (p.1 : Int), .int .u32 (p.2 : Int)])).run Try.prog w = .ok (.bool true) w := by
  rw [eql_pair]; simp
theorem addL_lt (p : Nat × Nat) (l : List UInt8) (h1 : p.1 < 4294967296) (h2 : p.2 < 4294967296) : (addL p l).1 < 4294967296 ∧ (addL p l).2 < 4294967296 := by
  have e : p = backL (addL p l) l := (backL_addL p l h1 h2).symm
  rw [addB_blocks _ l p (Nat.le_refl _)]
  generalize blocksL l = bs
  clear e
  induction bs generalizing p with
  | nil => exact ⟨h1, h2⟩
  | cons b bs ih => exact ih _ (step_small _ _ _).1 (step_small _ _ _).2
set_option maxRecDepth 100000 in
set_option maxHeartbeats 4000000 in
theorem walk (a b : Nat) (s : ByteArray) (w : World) (ha : a < 4294967296) (hb : b < 4294967296) (hs : s.size ≤ 140737488351232) :
    Calls Try.prog 9 #[.agg #[.int .u32 (a : Int), .int .u32 (b : Int)], .string s] w fun e w' => e = .returned (.bool true) ∧ Below w.heap.size w w' := by
  by_cases hm : 65536 < s.size
  · have HS := Lib.hid (And.intro ha hb); clear ha hb
    go_enter Try.func9, Try.ntmps9
    go_wp2_with fail
    refine (works _).mono ?_
    rintro e w1 ⟨rfl, hb1⟩
    go_wp2_with fail
    go_ret
    exact ⟨rfl, ((Below.refl _ _).alloc (Nat.le_refl _) _).trans (hb1.mono (by simp))⟩
  · obtain ⟨p, hp⟩ : ∃ p : Nat × Nat, p = (a, b) := ⟨_, rfl⟩
    obtain ⟨x, hx⟩ : ∃ x, x = addL p s.data.toList := ⟨_, rfl⟩
    obtain ⟨y, hy⟩ : ∃ y, y = backL p s.data.toList := ⟨_, rfl⟩
    have hp1 : p.1 < 4294967296 := by rw [hp]; exact ha
    have hp2 : p.2 < 4294967296 := by rw [hp]; exact hb
    have h1 : ∀ u, Calls Try.prog 24 #[.agg #[.int .u32 (p.1 : Int), .int .u32 (p.2 : Int)], .string s] u fun e w' => e = .returned (.agg #[.int .u32 (x.1 : Int), .int .u32 (x.2 : Int)]) ∧ Below u.heap.size u w' := fun u => hx ▸ add p s u
    have h2 : ∀ u, Calls Try.prog 31 #[.agg #[.int .u32 (x.1 : Int), .int .u32 (x.2 : Int)], .string s] u fun e w' => e = .returned (.agg #[.int .u32 (p.1 : Int), .int .u32 (p.2 : Int)]) ∧ Below u.heap.size u w' := by
      intro u
      have hl := addL_lt p s.data.toList hp1 hp2
      have := back x s u hs (by rw [hx]; exact hl.1) (by rw [hx]; exact hl.2)
      rw [show backL x s.data.toList = p by rw [hx]; exact backL_addL p _ hp1 hp2] at this
      exact this
    have h3 : ∀ u, Calls Try.prog 31 #[.agg #[.int .u32 (p.1 : Int), .int .u32 (p.2 : Int)], .string s] u fun e w' => e = .returned (.agg #[.int .u32 (y.1 : Int), .int .u32 (y.2 : Int)]) ∧ Below u.heap.size u w' := fun u => hy ▸ back p s u hs hp1 hp2
    have h4 : ∀ u, Calls Try.prog 24 #[.agg #[.int .u32 (y.1 : Int), .int .u32 (y.2 : Int)], .string s] u fun e w' => e = .returned (.agg #[.int .u32 (p.1 : Int), .int .u32 (p.2 : Int)]) ∧ Below u.heap.size u w' := by
      intro u
      have := add y s u
      rw [show addL y s.data.toList = p by rw [hy]; exact addL_backL p _ hp1 hp2] at this
      exact this
    have ea : (a : Int) = (p.1 : Int) := by rw [hp]
    have eb : (b : Int) = (p.2 : Int) := by rw [hp]
    rw [ea, eb]
    have H1 := Lib.hid h1
    have H2 := Lib.hid h2
    have H3 := Lib.hid h3
    have H4 := Lib.hid h4
    clear h1 h2 h3 h4 hx hy hp ea eb ha hb hp1 hp2 hs
    have hq := eq_same p
    go_enter Try.func9, Try.ntmps9
    go_wp2_with fail
    have hbel : Below w.heap.size w (w.alloc (.cells #[.int .u32 (p.1 : Int), .int .u32 (p.2 : Int)] 28)) := (Below.refl _ _).alloc (Nat.le_refl _) _
    have o0 := lat_cell (w := w.alloc (.cells #[.int .u32 (p.1 : Int), .int .u32 (p.2 : Int)] 28)) (p := ⟨w.heap.size, 0, none⟩) (v := .int .u32 (p.1 : Int)) (by go_simp)
    have o1 := lat_cell (w := w.alloc (.cells #[.int .u32 (p.1 : Int), .int .u32 (p.2 : Int)] 28)) (p := ⟨w.heap.size, 1, none⟩) (v := .int .u32 (p.2 : Int)) (by go_simp)
    generalize w.alloc (.cells #[.int .u32 (p.1 : Int), .int .u32 (p.2 : Int)] 28) = W at *
    refine wp_region_later (by kernel_rfl) (by kernel_rfl) ?_
    repeat (go_big_quiet_step ((first | (go_at_call 24; (with_reducible refine lat_calls (H1.out _))) | (go_at_call 24; (with_reducible refine lat_calls (H4.out _))) | (go_at_call 31; (with_reducible refine lat_calls (H2.out _))) | (go_at_call 31; (with_reducible refine lat_calls (H3.out _))) | (go_at_call 23; (with_reducible refine lat_calls (works _))))))
    refine wpQuiet_nil ?_
    refine later_out (fun w2 hb2 => ?_)
    go_wp2_with fail
    go_ret
    exact ⟨rfl, next hbel hb2⟩

theorem own : ownKnob Try.prog.godebug = none := by kernel_rfl
theorem laid : laidOutB Try.prog = true := by kernel_rfl

theorem opened {H : Type} (enc : TypeId × Value → H) (W : World) (args : Array Value) (ds : List (DataW H)) (p : List MemPlace) :
    Lift.Owes enc Try.prog 9 Try.f9.params.toList W args ds p := by
  intro hA hval hsz _
  rw [Try.params9] at hA hval hsz
  obtain ⟨v0, vs0, d0, ds0, p0, q0, hargs, rfl, rfl, h0, r0⟩ := trodAll_cons hA
  obtain ⟨v1, vs1, d1, ds1, p1, q1, rfl, rfl, rfl, h1, r1⟩ := trodAll_cons r0
  obtain ⟨rfl, rfl, rfl⟩ := trodAll_nil r1
  obtain rfl : args = #[v0, v1] := by cases args; simp_all
  obtain ⟨base0, hv0⟩ := hval 0 _ v0 rfl rfl
  obtain ⟨x0, y0, e0, g0, m0, rfl, rfl, rfl, hx0, hy0⟩ := Joins.open_agg2 Try.underlying28 (by kernel_rfl) (by kernel_rfl) hv0 h0
  obtain ⟨xn0, cx0, rfl, wx0⟩ := DataW.trod_int Try.underlying26 hx0
  simp at cx0; subst cx0
  obtain ⟨lx0, ux0⟩ := bounds_u32 wx0
  obtain ⟨xm0, rfl⟩ := Int.eq_ofNat_of_zero_le lx0
  obtain ⟨yn0, cy0, rfl, wy0⟩ := DataW.trod_int Try.underlying26 hy0
  simp at cy0; subst cy0
  obtain ⟨ly0, uy0⟩ := bounds_u32 wy0
  obtain ⟨ym0, rfl⟩ := Int.eq_ofNat_of_zero_le ly0
  obtain ⟨base1, hv1⟩ := hval 1 _ v1 rfl rfl
  obtain ⟨s1, rfl, rfl, rfl, ws1⟩ := ChangeMaps.open_string Try.underlying9 hv1 h1
  have z1 := sized_string hsz (j := 1) rfl rfl
  simp only [reachBytes, Array.length_toList] at z1
  exact walk xm0 ym0 s1 W (by omega) (by omega) z1

set_option maxRecDepth 100000 in
theorem lifted (os : Os) (started : os.Started) (H : Type) (enc : TypeId × Value → H) :
    ReturnsInHanded {} Try.checked os 9 .any (Rows.sumBackSpec.pre6 enc Try.prog Try.f9 Rows.sumBackRow.domain false)
      (Rows.sumBackSpec.post enc Try.prog Try.f9 false true false false) := by
  refine Lift.lifted (C := Try.checked) own started (by kernel_rfl) Try.func9
    (ChangeSpec.witness6 (enc := enc) (C := Try.checked) false ⟨#[], #[.agg #[.int .u32 0, .int .u32 0], .string ByteArray.empty], []⟩ 8 (by kernel_rfl) (by kernel_rfl) (by kernel_rfl) (by kernel_rfl))
    laid (by rw [Try.params9]; intro t ht; simp at ht; rcases ht with rfl | rfl <;> exact ⟨by kernel_rfl, of_decide_eq_true (by kernel_rfl)⟩) rfl 4 rfl Try.underlying4
    (fun ds hds => by match ds, hds with | [_, _], _ => rfl) (opened enc)

theorem said : Rows.SumBackSaid :=
  OpenClaim.holds_of_wide 9 Try.f9 rfl rfl rfl rfl rfl rfl rfl ⟨rfl, rfl, rfl, rfl, rfl⟩ rfl rfl rfl rfl rfl (by kernel_rfl) Try.func9 (by kernel_rfl)
    (of_decide_eq_true (by kernel_rfl)) (by unfold Func.isWrapper; first | (rw [if_pos (by decide +kernel)]; kernel_rfl) | (rw [if_neg (by decide +kernel)]; exact ⟨rfl, rfl⟩))
    (fun os started H enc _ => lifted os started H enc)
#print axioms said
end Go.Proofs.Ytooliekmfbkopaa.SumBack
