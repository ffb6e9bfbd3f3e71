/- SumOne: whatever pair and two words, one block of the two words makes of the pair what the paper's two sums say. No conditions. -/
import Derived.Test.YtooliekmfbkopaaLift
import Derived.Test.YtooliekmfbkopaaSumRef
import Derived.Test.YtooliekmfbkopaaSumEq
import Derived.Lib.SmallJoins
import Derived.Deep.DeepCutAuto
namespace Go.Proofs.Ytooliekmfbkopaa.SumOne
open Go.ChangeShapes Go.WideShapes Go.ChangeAt Go.RowKit Go.Proofs.Ytooliekmfbkopaa.By
set_option linter.unusedVariables false
open Go.Proofs.Ytooliekmfbkopaa.Sum
attribute [local go_sem high] eql_pair neq_pair
theorem val4_four (x : Nat) (m : List UInt8) (hx : x < 4294967296) : Num.val4 (Num.be4 x ++ m) = x := by
  simp only [Num.val4, Num.be4, List.cons_append, List.nil_append, List.getD_cons_zero, List.getD_cons_succ, UInt8.toNat_ofNat']
  omega
theorem addL_one (a b x y : Nat) (hx : x < 4294967296) (hy : y < 4294967296) : addL (a, b) (Num.be4 x ++ Num.be4 y) = Sum.step (a, b) x y := by
  rw [addL_cons _ _ (by simp [Num.be4]), val4_four x _ hx, List.drop_left' (Num.be4_length x)]
  have h : Num.val4 (Num.be4 y) = y := by simpa using val4_four y [] hy
  rw [h, show (Num.be4 x ++ Num.be4 y).drop 8 = [] from rfl, addL_nil]
theorem block_else (w : World) (k m i j : Nat) (v : Value) (h : k ≠ m) : (w.setCell ⟨k, i, none⟩ v).cell? ⟨m, j, none⟩ = w.cell? ⟨m, j, none⟩ := by
  apply World.cell?_setCell_other
  intro e; cases e; exact h rfl
set_option maxRecDepth 100000 in
set_option maxHeartbeats 4000000 in
theorem walk (a b x y : Nat) (w : World) (ha : a < 4294967296) (hb : b < 4294967296) (hx : x < 4294967296) (hy : y < 4294967296) :
    Calls Try.prog 8 #[.agg #[.int .u32 (a : Int), .int .u32 (b : Int)], .int .u32 (x : Int), .int .u32 (y : Int)] w fun e w' => e = .returned (.bool true) ∧ Below w.heap.size w w' := by
  obtain ⟨z, hz⟩ : ∃ z : ByteArray, z = ⟨(Num.be4 x ++ Num.be4 y).toArray⟩ := ⟨_, rfl⟩
  obtain ⟨q, hq⟩ : ∃ q, q = Sum.step (a, b) x y := ⟨_, rfl⟩
  have h1 : ∀ u, Calls Try.prog 24 #[.agg #[.int .u32 (a : Int), .int .u32 (b : Int)], .string z] u fun e w' => e = .returned (.agg #[.int .u32 (q.1 : Int), .int .u32 (q.2 : Int)]) ∧ Below u.heap.size u w' := by
    intro u
    have := add (a, b) z u
    rw [show z.data.toList = Num.be4 x ++ Num.be4 y by rw [hz], addL_one a b x y hx hy, ← hq] at this
    exact this
  have H1 := Lib.hid h1
  have HQ := Lib.hid hq
  have HZ := Lib.hid hz
  have HA := Lib.hid (And.intro ha (And.intro hb (And.intro hx hy)))
  clear h1 hq hz ha hb hx hy
  go_enter Try.func8, Try.ntmps8
  go_upto_region 2 with (fail)
  have hbel : Below w.heap.size w ((w.alloc (.cells #[.int .u32 (a : Int), .int .u32 (b : Int)] 28)).alloc (.cells #[.int .u8 ((x : Int) / 16777216 % 256), .int .u8 ((x : Int) / 65536 % 256), .int .u8 ((x : Int) / 256 % 256), .int .u8 ((x : Int) % 256), .int .u8 ((y : Int) / 16777216 % 256), .int .u8 ((y : Int) / 65536 % 256), .int .u8 ((y : Int) / 256 % 256), .int .u8 ((y : Int) % 256)] 37)) := ((Below.refl _ _).alloc (Nat.le_refl _) _).alloc (by simp) _
  have hsz : w.heap.size + 1 < ((w.alloc (.cells #[.int .u32 (a : Int), .int .u32 (b : Int)] 28)).alloc (.cells #[.int .u8 ((x : Int) / 16777216 % 256), .int .u8 ((x : Int) / 65536 % 256), .int .u8 ((x : Int) / 256 % 256), .int .u8 ((x : Int) % 256), .int .u8 ((y : Int) / 16777216 % 256), .int .u8 ((y : Int) / 65536 % 256), .int .u8 ((y : Int) / 256 % 256), .int .u8 ((y : Int) % 256)] 37)).heap.size := by simp
  have o0 : World.cell? ((w.alloc (.cells #[.int .u32 (a : Int), .int .u32 (b : Int)] 28)).alloc (.cells #[.int .u8 ((x : Int) / 16777216 % 256), .int .u8 ((x : Int) / 65536 % 256), .int .u8 ((x : Int) / 256 % 256), .int .u8 ((x : Int) % 256), .int .u8 ((y : Int) / 16777216 % 256), .int .u8 ((y : Int) / 65536 % 256), .int .u8 ((y : Int) / 256 % 256), .int .u8 ((y : Int) % 256)] 37)) ⟨w.heap.size, 0, none⟩ = some (.int .u32 (a : Int)) := by go_simp
  have o1 : World.cell? ((w.alloc (.cells #[.int .u32 (a : Int), .int .u32 (b : Int)] 28)).alloc (.cells #[.int .u8 ((x : Int) / 16777216 % 256), .int .u8 ((x : Int) / 65536 % 256), .int .u8 ((x : Int) / 256 % 256), .int .u8 ((x : Int) % 256), .int .u8 ((y : Int) / 16777216 % 256), .int .u8 ((y : Int) / 65536 % 256), .int .u8 ((y : Int) / 256 % 256), .int .u8 ((y : Int) % 256)] 37)) ⟨w.heap.size, 1, none⟩ = some (.int .u32 (b : Int)) := by go_simp
  have d0 : World.cell? ((w.alloc (.cells #[.int .u32 (a : Int), .int .u32 (b : Int)] 28)).alloc (.cells #[.int .u8 ((x : Int) / 16777216 % 256), .int .u8 ((x : Int) / 65536 % 256), .int .u8 ((x : Int) / 256 % 256), .int .u8 ((x : Int) % 256), .int .u8 ((y : Int) / 16777216 % 256), .int .u8 ((y : Int) / 65536 % 256), .int .u8 ((y : Int) / 256 % 256), .int .u8 ((y : Int) % 256)] 37)) ⟨w.heap.size + 1, 0, none⟩ = some (.int .u8 ((x : Int) / 16777216 % 256)) := by go_simp
  have d1 : World.cell? ((w.alloc (.cells #[.int .u32 (a : Int), .int .u32 (b : Int)] 28)).alloc (.cells #[.int .u8 ((x : Int) / 16777216 % 256), .int .u8 ((x : Int) / 65536 % 256), .int .u8 ((x : Int) / 256 % 256), .int .u8 ((x : Int) % 256), .int .u8 ((y : Int) / 16777216 % 256), .int .u8 ((y : Int) / 65536 % 256), .int .u8 ((y : Int) / 256 % 256), .int .u8 ((y : Int) % 256)] 37)) ⟨w.heap.size + 1, 1, none⟩ = some (.int .u8 ((x : Int) / 65536 % 256)) := by go_simp
  have d2 : World.cell? ((w.alloc (.cells #[.int .u32 (a : Int), .int .u32 (b : Int)] 28)).alloc (.cells #[.int .u8 ((x : Int) / 16777216 % 256), .int .u8 ((x : Int) / 65536 % 256), .int .u8 ((x : Int) / 256 % 256), .int .u8 ((x : Int) % 256), .int .u8 ((y : Int) / 16777216 % 256), .int .u8 ((y : Int) / 65536 % 256), .int .u8 ((y : Int) / 256 % 256), .int .u8 ((y : Int) % 256)] 37)) ⟨w.heap.size + 1, 2, none⟩ = some (.int .u8 ((x : Int) / 256 % 256)) := by go_simp
  have d3 : World.cell? ((w.alloc (.cells #[.int .u32 (a : Int), .int .u32 (b : Int)] 28)).alloc (.cells #[.int .u8 ((x : Int) / 16777216 % 256), .int .u8 ((x : Int) / 65536 % 256), .int .u8 ((x : Int) / 256 % 256), .int .u8 ((x : Int) % 256), .int .u8 ((y : Int) / 16777216 % 256), .int .u8 ((y : Int) / 65536 % 256), .int .u8 ((y : Int) / 256 % 256), .int .u8 ((y : Int) % 256)] 37)) ⟨w.heap.size + 1, 3, none⟩ = some (.int .u8 ((x : Int) % 256)) := by go_simp
  have d4 : World.cell? ((w.alloc (.cells #[.int .u32 (a : Int), .int .u32 (b : Int)] 28)).alloc (.cells #[.int .u8 ((x : Int) / 16777216 % 256), .int .u8 ((x : Int) / 65536 % 256), .int .u8 ((x : Int) / 256 % 256), .int .u8 ((x : Int) % 256), .int .u8 ((y : Int) / 16777216 % 256), .int .u8 ((y : Int) / 65536 % 256), .int .u8 ((y : Int) / 256 % 256), .int .u8 ((y : Int) % 256)] 37)) ⟨w.heap.size + 1, 4, none⟩ = some (.int .u8 ((y : Int) / 16777216 % 256)) := by go_simp
  have d5 : World.cell? ((w.alloc (.cells #[.int .u32 (a : Int), .int .u32 (b : Int)] 28)).alloc (.cells #[.int .u8 ((x : Int) / 16777216 % 256), .int .u8 ((x : Int) / 65536 % 256), .int .u8 ((x : Int) / 256 % 256), .int .u8 ((x : Int) % 256), .int .u8 ((y : Int) / 16777216 % 256), .int .u8 ((y : Int) / 65536 % 256), .int .u8 ((y : Int) / 256 % 256), .int .u8 ((y : Int) % 256)] 37)) ⟨w.heap.size + 1, 5, none⟩ = some (.int .u8 ((y : Int) / 65536 % 256)) := by go_simp
  have d6 : World.cell? ((w.alloc (.cells #[.int .u32 (a : Int), .int .u32 (b : Int)] 28)).alloc (.cells #[.int .u8 ((x : Int) / 16777216 % 256), .int .u8 ((x : Int) / 65536 % 256), .int .u8 ((x : Int) / 256 % 256), .int .u8 ((x : Int) % 256), .int .u8 ((y : Int) / 16777216 % 256), .int .u8 ((y : Int) / 65536 % 256), .int .u8 ((y : Int) / 256 % 256), .int .u8 ((y : Int) % 256)] 37)) ⟨w.heap.size + 1, 6, none⟩ = some (.int .u8 ((y : Int) / 256 % 256)) := by go_simp
  have d7 : World.cell? ((w.alloc (.cells #[.int .u32 (a : Int), .int .u32 (b : Int)] 28)).alloc (.cells #[.int .u8 ((x : Int) / 16777216 % 256), .int .u8 ((x : Int) / 65536 % 256), .int .u8 ((x : Int) / 256 % 256), .int .u8 ((x : Int) % 256), .int .u8 ((y : Int) / 16777216 % 256), .int .u8 ((y : Int) / 65536 % 256), .int .u8 ((y : Int) / 256 % 256), .int .u8 ((y : Int) % 256)] 37)) ⟨w.heap.size + 1, 7, none⟩ = some (.int .u8 ((y : Int) % 256)) := by go_simp
  generalize (w.alloc (.cells #[.int .u32 (a : Int), .int .u32 (b : Int)] 28)).alloc (.cells #[.int .u8 ((x : Int) / 16777216 % 256), .int .u8 ((x : Int) / 65536 % 256), .int .u8 ((x : Int) / 256 % 256), .int .u8 ((x : Int) % 256), .int .u8 ((y : Int) / 16777216 % 256), .int .u8 ((y : Int) / 65536 % 256), .int .u8 ((y : Int) / 256 % 256), .int .u8 ((y : Int) % 256)] 37) = W at *
  have hsz0 : w.heap.size < W.heap.size := by omega
  go_cut [8] (fun s8 wx => ∃ n, s8 = .pointer (some ⟨n, 0, none⟩) ∧ Below w.heap.size w wx ∧ wx.cell? ⟨w.heap.size, 0, none⟩ = some (.int .u32 (a : Int)) ∧ wx.cell? ⟨w.heap.size, 1, none⟩ = some (.int .u32 (b : Int)) ∧ wx.cell? ⟨n, 0, none⟩ = some (.int .u32 (q.1 : Int)) ∧ wx.cell? ⟨n, 1, none⟩ = some (.int .u32 (q.2 : Int)) ∧ n < wx.heap.size)
  case first =>
    have hcv : ∀ U : World, U.cell? ⟨w.heap.size + 1, 0, none⟩ = some (.int .u8 ((x : Int) / 16777216 % 256)) → U.cell? ⟨w.heap.size + 1, 1, none⟩ = some (.int .u8 ((x : Int) / 65536 % 256)) → U.cell? ⟨w.heap.size + 1, 2, none⟩ = some (.int .u8 ((x : Int) / 256 % 256)) → U.cell? ⟨w.heap.size + 1, 3, none⟩ = some (.int .u8 ((x : Int) % 256)) → U.cell? ⟨w.heap.size + 1, 4, none⟩ = some (.int .u8 ((y : Int) / 16777216 % 256)) → U.cell? ⟨w.heap.size + 1, 5, none⟩ = some (.int .u8 ((y : Int) / 65536 % 256)) → U.cell? ⟨w.heap.size + 1, 6, none⟩ = some (.int .u8 ((y : Int) / 256 % 256)) → U.cell? ⟨w.heap.size + 1, 7, none⟩ = some (.int .u8 ((y : Int) % 256)) → (convert 38 9 (Value.slice (some ⟨w.heap.size + 1, 0, none⟩) 8 8)).run Try.prog U = Result.ok (.string z) U := by
      intro U e0 e1 e2 e3 e4 e5 e6 e7
      rw [HZ.out]
      refine By.conv_at U _ _ _ Num.cv_u8 Num.ty_u8 Num.ty_str _ 0 8 8 (Num.be4 x ++ Num.be4 y) rfl ?_
      intro i hi
      have hi' : i < 8 := hi
      rw [Nat.zero_add]
      match i, hi' with
      | 0, _ => rw [e0]; simp [By.byte, Num.be4]
      | 1, _ => rw [e1]; simp [By.byte, Num.be4]
      | 2, _ => rw [e2]; simp [By.byte, Num.be4]
      | 3, _ => rw [e3]; simp [By.byte, Num.be4]
      | 4, _ => rw [e4]; simp [By.byte, Num.be4]
      | 5, _ => rw [e5]; simp [By.byte, Num.be4]
      | 6, _ => rw [e6]; simp [By.byte, Num.be4]
      | 7, _ => rw [e7]; simp [By.byte, Num.be4]
    go_region_with (go_at_call 24; (with_reducible refine (H1.out _).mono ?_); rintro e w4 ⟨rfl, hb4⟩; have hs4 : W.heap.size ≤ w4.heap.size := (Nat.le_trans (by simp) hb4.size); have p0 : w4.cell? ⟨w.heap.size, 0, none⟩ = some (.int .u32 (a : Int)) := (by rw [hb4.cell (by simp; omega)]; go_simp); have p1 : w4.cell? ⟨w.heap.size, 1, none⟩ = some (.int .u32 (b : Int)) := (by rw [hb4.cell (by simp; omega)]; go_simp); have hl4 := hb4.size; have hc4 := (fun p h => hb4.cell (p := p) h); have hf4 := (fun p h => hb4.frozen (p := p) h))
    all_goals go_wp2_with fail
    all_goals (go_meet; refine ⟨_, rfl, ?_, ?_, ?_, ?_, ?_, ?_⟩)
    all_goals have hA : w.heap.size < w4.heap.size := (by omega)
    all_goals first
      | exact (next hbel.drew hb4).alloc (Nat.le_of_lt hA) _
      | exact Below.setCell (Below.setCell (next (hbel.drew.alloc (Nat.le_of_lt hsz0) _) hb4) (Nat.le_of_lt hsz0) _) (Nat.le_of_lt hsz0) _
      | (rw [block_else _ _ _ _ _ _ (by omega), block_else _ _ _ _ _ _ (by omega)]; first | exact p0 | exact p1)
      | (refine (set_else _ _ _ _ _ (by omega)).trans (set_same _ _ _ (.int .u32 0) ?_); rw [hc4 _ (by simp)]; go_simp; done)
      | (refine set_same _ _ _ (.int .u32 0) ((set_else _ _ _ _ _ (by omega)).trans ?_); rw [hc4 _ (by simp)]; go_simp; done)
      | (go_simp; done)
      | (simp at hl4 ⊢; omega)
      | trace_state
  case rest =>
    obtain ⟨n, rfl, hbc, g0, g1, g2, g3, g4⟩ := hcut
    have t1 : ((q.1 : Nat) : Int) = ((a : Int) + x + b) % 4294967296 := by rw [HQ.out]; simp only [Sum.step]; omega
    have t2 : ((q.2 : Nat) : Int) = ((b : Int) + y + (a + x + b)) % 4294967296 := by rw [HQ.out]; simp only [Sum.step]; omega
    go_wp2_with fail
    refine (works _).mono ?_
    rintro e w5 ⟨rfl, hb5⟩
    go_wp2_with fail
    go_ret
    exact ⟨rfl, next hbc hb5⟩

theorem own : ownKnob Try.prog.godebug = none := by kernel_rfl
theorem laid : laidOutB Try.prog = true := by kernel_rfl

theorem opened {H : Type} (enc : TypeId × Value → H) (W : World) (args : Array Value) (ds : List (DataW H)) (p : List MemPlace) :
    Lift.Owes enc Try.prog 8 Try.f8.params.toList W args ds p := by
  intro hA hval hsz _
  rw [Try.params8] at hA hval hsz
  obtain ⟨v0, vs0, d0, ds0, p0, q0, hargs, rfl, rfl, h0, r0⟩ := trodAll_cons hA
  obtain ⟨v1, vs1, d1, ds1, p1, q1, rfl, rfl, rfl, h1, r1⟩ := trodAll_cons r0
  obtain ⟨v2, vs2, d2, ds2, p2, q2, rfl, rfl, rfl, h2, r2⟩ := trodAll_cons r1
  obtain ⟨rfl, rfl, rfl⟩ := trodAll_nil r2
  obtain rfl : args = #[v0, v1, v2] := by cases args; simp_all
  obtain ⟨base0, hv0⟩ := hval 0 _ v0 rfl rfl
  obtain ⟨x0, y0, e0, g0, m0, rfl, rfl, rfl, hx0, hy0⟩ := Joins.open_agg2 Try.underlying28 (by kernel_rfl) (by kernel_rfl) hv0 h0
  obtain ⟨xn0, cx0, rfl, wx0⟩ := DataW.trod_int Try.underlying26 hx0
  simp at cx0; subst cx0
  obtain ⟨lx0, ux0⟩ := bounds_u32 wx0
  obtain ⟨xm0, rfl⟩ := Int.eq_ofNat_of_zero_le lx0
  obtain ⟨yn0, cy0, rfl, wy0⟩ := DataW.trod_int Try.underlying26 hy0
  simp at cy0; subst cy0
  obtain ⟨ly0, uy0⟩ := bounds_u32 wy0
  obtain ⟨ym0, rfl⟩ := Int.eq_ofNat_of_zero_le ly0
  obtain ⟨base1, hv1⟩ := hval 1 _ v1 rfl rfl
  obtain ⟨a1, rfl, rfl, rfl, wa1⟩ := open_int Try.underlying26 hv1 h1
  obtain ⟨l1, u1⟩ := bounds_u32 wa1
  obtain ⟨n1, rfl⟩ := Int.eq_ofNat_of_zero_le l1
  obtain ⟨base2, hv2⟩ := hval 2 _ v2 rfl rfl
  obtain ⟨a2, rfl, rfl, rfl, wa2⟩ := open_int Try.underlying26 hv2 h2
  obtain ⟨l2, u2⟩ := bounds_u32 wa2
  obtain ⟨n2, rfl⟩ := Int.eq_ofNat_of_zero_le l2
  exact walk xm0 ym0 n1 n2 W (by omega) (by omega) (by omega) (by omega)

set_option maxRecDepth 100000 in
theorem lifted (os : Os) (started : os.Started) (H : Type) (enc : TypeId × Value → H) :
    ReturnsInHanded {} Try.checked os 8 .any (Rows.sumOneSpec.pre6 enc Try.prog Try.f8 Rows.sumOneRow.domain false)
      (Rows.sumOneSpec.post enc Try.prog Try.f8 false true false false) := by
  refine Lift.lifted (C := Try.checked) own started (by kernel_rfl) Try.func8
    (ChangeSpec.witness6 (enc := enc) (C := Try.checked) false ⟨#[], #[.agg #[.int .u32 0, .int .u32 0], .int .u32 0, .int .u32 0], []⟩ 8 (by kernel_rfl) (by kernel_rfl) (by kernel_rfl) (by kernel_rfl))
    laid (by rw [Try.params8]; intro t ht; simp at ht; rcases ht with rfl | rfl | rfl <;> exact ⟨by kernel_rfl, of_decide_eq_true (by kernel_rfl)⟩) rfl 4 rfl Try.underlying4
    (fun ds hds => by match ds, hds with | [_, _, _], _ => rfl) (opened enc)

theorem said : Rows.SumOneSaid :=
  OpenClaim.holds_of_wide 8 Try.f8 rfl rfl rfl rfl rfl rfl rfl ⟨rfl, rfl, rfl, rfl, rfl⟩ rfl rfl rfl rfl rfl (by kernel_rfl) Try.func8 (by kernel_rfl)
    (of_decide_eq_true (by kernel_rfl)) (by unfold Func.isWrapper; first | (rw [if_pos (by decide +kernel)]; kernel_rfl) | (rw [if_neg (by decide +kernel)]; exact ⟨rfl, rfl⟩))
    (fun os started H enc _ => lifted os started H enc)
#print axioms said
end Go.Proofs.Ytooliekmfbkopaa.SumOne
