/- SumTexts: whatever pair and bytes, a text says its pair and its eight bytes are read off, and shorter bytes are told. No conditions. -/
import Derived.Test.YtooliekmfbkopaaLift
import Derived.Test.YtooliekmfbkopaaSumTake
import Derived.Test.YtooliekmfbkopaaSumText
import Derived.Lib.SmallJoins
import Derived.Deep.DeepCutAuto
namespace Go.Proofs.Ytooliekmfbkopaa.SumTexts
open Go.ChangeShapes Go.WideShapes Go.ChangeAt Go.RowKit Go.Proofs.Ytooliekmfbkopaa.By
set_option linter.unusedVariables false
open Go.Proofs.Ytooliekmfbkopaa.Sum
attribute [local go_sem high] eql_pair neq_pair
theorem val4_be4 (x : Nat) (m : List UInt8) (hx : x < 4294967296) : Num.val4 (Num.be4 x ++ m) = x := by
  simp only [Num.val4, Num.be4, List.cons_append, List.nil_append, List.getD_cons_zero, List.getD_cons_succ, UInt8.toNat_ofNat']
  omega
theorem takeP_text (a b : Nat) (ha : a < 4294967296) (hb : b < 4294967296) (l : List UInt8) : takeP (textL (a, b) ++ l) = (a, b) := by
  simp only [takeP, textL, List.append_assoc]
  rw [val4_be4 a _ ha, List.drop_left' (Num.be4_length a), val4_be4 b _ hb]
set_option maxRecDepth 100000 in
set_option maxHeartbeats 40000000 in
theorem walk (a b : Nat) (s : ByteArray) (w : World) (ha : a < 4294967296) (hb : b < 4294967296) (hs : s.size ≤ 140737488351232) :
    Calls Try.prog 5 #[.agg #[.int .u32 (a : Int), .int .u32 (b : Int)], .string s] w fun e w' => e = .returned (.bool true) ∧ Below w.heap.size w w' := by
  obtain ⟨x, hx⟩ : ∃ x : ByteArray, x = ⟨(textL (a, b)).toArray⟩ := ⟨_, rfl⟩
  have hxs : x.size = 8 := by rw [hx]; rfl
  have h1 : ∀ u, Calls Try.prog 28 #[.agg #[.int .u32 (a : Int), .int .u32 (b : Int)]] u fun e w' => e = .returned (.string x) ∧ Below u.heap.size u w' := fun u => hx ▸ text (a, b) u
  have h2 : ∀ u, Calls Try.prog 29 #[.agg #[.int .u32 (a : Int), .int .u32 (b : Int)]] u fun e w' => e = .returned (.string x) ∧ Below u.heap.size u w' := fun u => hx ▸ refText (a, b) u ha hb
  obtain ⟨T, hT⟩ : ∃ T : ByteArray, T = x ++ s := ⟨_, rfl⟩
  have hadd := fun w => run_string_add_sum (P := Try.prog) w x s (by rw [hxs]; omega)
  rw [← hT] at hadd
  have h3 : ∀ u, Calls Try.prog 27 #[.string T] u fun e w' => e = .returned (.tuple #[.agg #[.int .u32 (a : Int), .int .u32 (b : Int)], .int .i64 0]) ∧ Below u.heap.size u w' := by
    intro u
    refine (take_ok T u (by rw [hT, ByteArray.size_append, hxs]; omega)).mono ?_
    rintro e w' ⟨rfl, h⟩
    refine ⟨?_, h⟩
    have : T.data.toList = textL (a, b) ++ s.data.toList := by rw [hT, hx]; simp
    rw [this, takeP_text a b ha hb]
  have H1 := Lib.hid h1
  have H2 := Lib.hid h2
  have H3 := Lib.hid h3
  clear h1 h2 h3 hx hT hxs
  rcases Nat.lt_or_ge s.size 8 with hm | hm
  · have H4 : Hid (∀ u, Calls Try.prog 27 #[.string s] u fun e w' => e = .returned (.tuple #[.agg #[.int .u32 0, .int .u32 0], .int .i64 10]) ∧ Below u.heap.size u w') := Lib.hid fun u => take_short s u hm
    have HS := Lib.hid hs; clear hs ha hb
    go_enter Try.func5, Try.ntmps5
    go_wp2_with fail
    refine (H4.out _).mono ?_
    rintro e w1 ⟨rfl, hb1⟩
    have k0 : w1.cell? ⟨w.heap.size, 0, none⟩ = some (.int .u32 (a : Int)) := by rw [hb1.cell (by simp)]; go_simp
    have k1 : w1.cell? ⟨w.heap.size, 1, none⟩ = some (.int .u32 (b : Int)) := by rw [hb1.cell (by simp)]; go_simp
    have n1 : w.heap.size < w1.heap.size := Nat.lt_of_lt_of_le (by simp) hb1.size
    go_wp2_with fail
    refine (H1.out _).mono ?_
    rintro e w2 ⟨rfl, hb2⟩
    have l0 : w2.cell? ⟨w.heap.size, 0, none⟩ = some (.int .u32 (a : Int)) := by rw [hb2.cell (by simp; omega)]; go_simp
    have l1 : w2.cell? ⟨w.heap.size, 1, none⟩ = some (.int .u32 (b : Int)) := by rw [hb2.cell (by simp; omega)]; go_simp
    have l2 : w2.cell? ⟨w1.heap.size, 0, none⟩ = some (.int .u32 0) := by rw [hb2.cell (by simp)]; go_simp
    have l3 : w2.cell? ⟨w1.heap.size, 1, none⟩ = some (.int .u32 0) := by rw [hb2.cell (by simp)]; go_simp
    have n2 : w1.heap.size < w2.heap.size := Nat.lt_of_lt_of_le (by simp) hb2.size
    go_wp2_with fail
    refine (H3.out _).mono ?_
    rintro e w3 ⟨rfl, hb3⟩
    have m0 : w3.cell? ⟨w.heap.size, 0, none⟩ = some (.int .u32 (a : Int)) := by rw [hb3.cell (by simp; omega)]; go_simp
    have m1 : w3.cell? ⟨w.heap.size, 1, none⟩ = some (.int .u32 (b : Int)) := by rw [hb3.cell (by simp; omega)]; go_simp
    have m2 : w3.cell? ⟨w1.heap.size, 0, none⟩ = some (.int .u32 0) := by rw [hb3.cell (by simp; omega)]; go_simp
    have m3 : w3.cell? ⟨w1.heap.size, 1, none⟩ = some (.int .u32 0) := by rw [hb3.cell (by simp; omega)]; go_simp
    have n3 : w1.heap.size < w3.heap.size := Nat.lt_of_lt_of_le n2 hb3.size
    go_upto_region 3 with (fail)
    have n0 : w.heap.size < w3.heap.size := Nat.lt_trans n1 n3
    have hbel : Below w.heap.size w (w3.alloc (.cells #[.int .u32 (a : Int), .int .u32 (b : Int)] 28)) := (((((((Below.refl _ _).alloc (Nat.le_refl _) _).trans (hb1.mono (by simp))).alloc (by omega) _).trans (hb2.mono (by simp; omega))).trans (hb3.mono (by omega)))).alloc (by omega) _
    have hsz : w3.heap.size < (w3.alloc (.cells #[.int .u32 (a : Int), .int .u32 (b : Int)] 28)).heap.size := by simp
    have o0 : World.cell? (w3.alloc (.cells #[.int .u32 (a : Int), .int .u32 (b : Int)] 28)) ⟨w.heap.size, 0, none⟩ = some (.int .u32 (a : Int)) := by go_simp
    have o1 : World.cell? (w3.alloc (.cells #[.int .u32 (a : Int), .int .u32 (b : Int)] 28)) ⟨w.heap.size, 1, none⟩ = some (.int .u32 (b : Int)) := by go_simp
    have o2 : World.cell? (w3.alloc (.cells #[.int .u32 (a : Int), .int .u32 (b : Int)] 28)) ⟨w1.heap.size, 0, none⟩ = some (.int .u32 0) := by go_simp
    have o3 : World.cell? (w3.alloc (.cells #[.int .u32 (a : Int), .int .u32 (b : Int)] 28)) ⟨w1.heap.size, 1, none⟩ = some (.int .u32 0) := by go_simp
    have o4 : World.cell? (w3.alloc (.cells #[.int .u32 (a : Int), .int .u32 (b : Int)] 28)) ⟨w3.heap.size, 0, none⟩ = some (.int .u32 (a : Int)) := by go_simp
    have o5 : World.cell? (w3.alloc (.cells #[.int .u32 (a : Int), .int .u32 (b : Int)] 28)) ⟨w3.heap.size, 1, none⟩ = some (.int .u32 (b : Int)) := by go_simp
    generalize w3.alloc (.cells #[.int .u32 (a : Int), .int .u32 (b : Int)] 28) = W at *
    clear hb1 hb2 hb3 k0 k1 l0 l1 l2 l3 m0 m1 m2 m3
    go_cut [35] (fun s35 wx => s35 = .bool false ∧ Below w.heap.size w wx ∧ wx.cell? ⟨w1.heap.size, 0, none⟩ = some (.int .u32 0) ∧ wx.cell? ⟨w1.heap.size, 1, none⟩ = some (.int .u32 0))
    case first =>
      go_region_with (first | (go_at_call 28; (with_reducible refine (H1.out _).mono ?_); rintro e w4 ⟨rfl, hb4⟩; have p0 : w4.cell? ⟨w.heap.size, 0, none⟩ = some (.int .u32 (a : Int)) := (by rw [hb4.cell (by simp; omega)]; go_simp); have p1 : w4.cell? ⟨w.heap.size, 1, none⟩ = some (.int .u32 (b : Int)) := (by rw [hb4.cell (by simp; omega)]; go_simp); have p2 : w4.cell? ⟨w1.heap.size, 0, none⟩ = some (.int .u32 0) := (by rw [hb4.cell (by simp; omega)]; go_simp); have p3 : w4.cell? ⟨w1.heap.size, 1, none⟩ = some (.int .u32 0) := (by rw [hb4.cell (by simp; omega)]; go_simp); have p4 : w4.cell? ⟨w3.heap.size, 0, none⟩ = some (.int .u32 (a : Int)) := (by rw [hb4.cell (by simp; omega)]; go_simp); have p5 : w4.cell? ⟨w3.heap.size, 1, none⟩ = some (.int .u32 (b : Int)) := (by rw [hb4.cell (by simp; omega)]; go_simp); have hsz4 : w3.heap.size < w4.heap.size := (Nat.lt_of_lt_of_le (by simp; omega) hb4.size)) | (go_at_call 29; (with_reducible refine (H2.out _).mono ?_); rintro e w5 ⟨rfl, hb5⟩; have q0 : w5.cell? ⟨w.heap.size, 0, none⟩ = some (.int .u32 (a : Int)) := (by rw [hb5.cell (by simp; omega)]; go_simp); have q1 : w5.cell? ⟨w.heap.size, 1, none⟩ = some (.int .u32 (b : Int)) := (by rw [hb5.cell (by simp; omega)]; go_simp); have q2 : w5.cell? ⟨w1.heap.size, 0, none⟩ = some (.int .u32 0) := (by rw [hb5.cell (by simp; omega)]; go_simp); have q3 : w5.cell? ⟨w1.heap.size, 1, none⟩ = some (.int .u32 0) := (by rw [hb5.cell (by simp; omega)]; go_simp); have q4 : w5.cell? ⟨w3.heap.size, 0, none⟩ = some (.int .u32 (a : Int)) := (by rw [hb5.cell (by simp; omega)]; go_simp); have q5 : w5.cell? ⟨w3.heap.size, 1, none⟩ = some (.int .u32 (b : Int)) := (by rw [hb5.cell (by simp; omega)]; go_simp)))
      all_goals (go_wp2_with fail; go_meet; exact ⟨rfl, next (next hbel.drew hb4) hb5, q2, q3⟩)
    case rest =>
      obtain ⟨rfl, hbc, g0, g1⟩ := hcut
      go_wp2_with fail
      go_ret
      exact ⟨rfl, hbc⟩
  · obtain ⟨r, hr⟩ : ∃ r, r = takeP s.data.toList := ⟨_, rfl⟩
    have H4 : Hid (∀ u, Calls Try.prog 27 #[.string s] u fun e w' => e = .returned (.tuple #[.agg #[.int .u32 (r.1 : Int), .int .u32 (r.2 : Int)], .int .i64 0]) ∧ Below u.heap.size u w') := Lib.hid fun u => hr ▸ take_ok s u hm
    have H5 : Hid (∀ u, Calls Try.prog 30 #[.string s] u fun e w' => e = .returned (.agg #[.int .u32 (r.1 : Int), .int .u32 (r.2 : Int)]) ∧ Below u.heap.size u w') := Lib.hid fun u => hr ▸ refTake s u hm hs
    clear hr
    have hm' : (s.size : Int) < 8 ↔ False := iff_of_false (by omega) id
    have HS := Lib.hid hs; clear hs ha hb
    go_enter Try.func5, Try.ntmps5
    go_wp2_with fail
    refine (H4.out _).mono ?_
    rintro e w1 ⟨rfl, hb1⟩
    have k0 : w1.cell? ⟨w.heap.size, 0, none⟩ = some (.int .u32 (a : Int)) := by rw [hb1.cell (by simp)]; go_simp
    have k1 : w1.cell? ⟨w.heap.size, 1, none⟩ = some (.int .u32 (b : Int)) := by rw [hb1.cell (by simp)]; go_simp
    have n1 : w.heap.size < w1.heap.size := Nat.lt_of_lt_of_le (by simp) hb1.size
    go_wp2_with fail
    refine (H1.out _).mono ?_
    rintro e w2 ⟨rfl, hb2⟩
    have l0 : w2.cell? ⟨w.heap.size, 0, none⟩ = some (.int .u32 (a : Int)) := by rw [hb2.cell (by simp; omega)]; go_simp
    have l1 : w2.cell? ⟨w.heap.size, 1, none⟩ = some (.int .u32 (b : Int)) := by rw [hb2.cell (by simp; omega)]; go_simp
    have l2 : w2.cell? ⟨w1.heap.size, 0, none⟩ = some (.int .u32 (r.1 : Int)) := by rw [hb2.cell (by simp)]; go_simp
    have l3 : w2.cell? ⟨w1.heap.size, 1, none⟩ = some (.int .u32 (r.2 : Int)) := by rw [hb2.cell (by simp)]; go_simp
    have n2 : w1.heap.size < w2.heap.size := Nat.lt_of_lt_of_le (by simp) hb2.size
    go_wp2_with fail
    refine (H3.out _).mono ?_
    rintro e w3 ⟨rfl, hb3⟩
    have m0 : w3.cell? ⟨w.heap.size, 0, none⟩ = some (.int .u32 (a : Int)) := by rw [hb3.cell (by simp; omega)]; go_simp
    have m1 : w3.cell? ⟨w.heap.size, 1, none⟩ = some (.int .u32 (b : Int)) := by rw [hb3.cell (by simp; omega)]; go_simp
    have m2 : w3.cell? ⟨w1.heap.size, 0, none⟩ = some (.int .u32 (r.1 : Int)) := by rw [hb3.cell (by simp; omega)]; go_simp
    have m3 : w3.cell? ⟨w1.heap.size, 1, none⟩ = some (.int .u32 (r.2 : Int)) := by rw [hb3.cell (by simp; omega)]; go_simp
    have n3 : w1.heap.size < w3.heap.size := Nat.lt_of_lt_of_le n2 hb3.size
    go_upto_region 3 with (fail)
    have n0 : w.heap.size < w3.heap.size := Nat.lt_trans n1 n3
    have hbel : Below w.heap.size w (w3.alloc (.cells #[.int .u32 (a : Int), .int .u32 (b : Int)] 28)) := (((((((Below.refl _ _).alloc (Nat.le_refl _) _).trans (hb1.mono (by simp))).alloc (by omega) _).trans (hb2.mono (by simp; omega))).trans (hb3.mono (by omega)))).alloc (by omega) _
    have hsz : w3.heap.size < (w3.alloc (.cells #[.int .u32 (a : Int), .int .u32 (b : Int)] 28)).heap.size := by simp
    have o0 : World.cell? (w3.alloc (.cells #[.int .u32 (a : Int), .int .u32 (b : Int)] 28)) ⟨w.heap.size, 0, none⟩ = some (.int .u32 (a : Int)) := by go_simp
    have o1 : World.cell? (w3.alloc (.cells #[.int .u32 (a : Int), .int .u32 (b : Int)] 28)) ⟨w.heap.size, 1, none⟩ = some (.int .u32 (b : Int)) := by go_simp
    have o2 : World.cell? (w3.alloc (.cells #[.int .u32 (a : Int), .int .u32 (b : Int)] 28)) ⟨w1.heap.size, 0, none⟩ = some (.int .u32 (r.1 : Int)) := by go_simp
    have o3 : World.cell? (w3.alloc (.cells #[.int .u32 (a : Int), .int .u32 (b : Int)] 28)) ⟨w1.heap.size, 1, none⟩ = some (.int .u32 (r.2 : Int)) := by go_simp
    have o4 : World.cell? (w3.alloc (.cells #[.int .u32 (a : Int), .int .u32 (b : Int)] 28)) ⟨w3.heap.size, 0, none⟩ = some (.int .u32 (a : Int)) := by go_simp
    have o5 : World.cell? (w3.alloc (.cells #[.int .u32 (a : Int), .int .u32 (b : Int)] 28)) ⟨w3.heap.size, 1, none⟩ = some (.int .u32 (b : Int)) := by go_simp
    generalize w3.alloc (.cells #[.int .u32 (a : Int), .int .u32 (b : Int)] 28) = W at *
    clear hb1 hb2 hb3 k0 k1 l0 l1 l2 l3 m0 m1 m2 m3
    go_cut [35] (fun s35 wx => s35 = .bool false ∧ Below w.heap.size w wx ∧ wx.cell? ⟨w1.heap.size, 0, none⟩ = some (.int .u32 (r.1 : Int)) ∧ wx.cell? ⟨w1.heap.size, 1, none⟩ = some (.int .u32 (r.2 : Int)) ∧ w1.heap.size < wx.heap.size)
    case first =>
      go_region_with (first | (go_at_call 28; (with_reducible refine (H1.out _).mono ?_); rintro e w4 ⟨rfl, hb4⟩; have p0 : w4.cell? ⟨w.heap.size, 0, none⟩ = some (.int .u32 (a : Int)) := (by rw [hb4.cell (by simp; omega)]; go_simp); have p1 : w4.cell? ⟨w.heap.size, 1, none⟩ = some (.int .u32 (b : Int)) := (by rw [hb4.cell (by simp; omega)]; go_simp); have p2 : w4.cell? ⟨w1.heap.size, 0, none⟩ = some (.int .u32 (r.1 : Int)) := (by rw [hb4.cell (by simp; omega)]; go_simp); have p3 : w4.cell? ⟨w1.heap.size, 1, none⟩ = some (.int .u32 (r.2 : Int)) := (by rw [hb4.cell (by simp; omega)]; go_simp); have p4 : w4.cell? ⟨w3.heap.size, 0, none⟩ = some (.int .u32 (a : Int)) := (by rw [hb4.cell (by simp; omega)]; go_simp); have p5 : w4.cell? ⟨w3.heap.size, 1, none⟩ = some (.int .u32 (b : Int)) := (by rw [hb4.cell (by simp; omega)]; go_simp); have hsz4 : w3.heap.size < w4.heap.size := (Nat.lt_of_lt_of_le (by simp; omega) hb4.size)) | (go_at_call 29; (with_reducible refine (H2.out _).mono ?_); rintro e w5 ⟨rfl, hb5⟩; have q0 : w5.cell? ⟨w.heap.size, 0, none⟩ = some (.int .u32 (a : Int)) := (by rw [hb5.cell (by simp; omega)]; go_simp); have q1 : w5.cell? ⟨w.heap.size, 1, none⟩ = some (.int .u32 (b : Int)) := (by rw [hb5.cell (by simp; omega)]; go_simp); have q2 : w5.cell? ⟨w1.heap.size, 0, none⟩ = some (.int .u32 (r.1 : Int)) := (by rw [hb5.cell (by simp; omega)]; go_simp); have q3 : w5.cell? ⟨w1.heap.size, 1, none⟩ = some (.int .u32 (r.2 : Int)) := (by rw [hb5.cell (by simp; omega)]; go_simp); have q4 : w5.cell? ⟨w3.heap.size, 0, none⟩ = some (.int .u32 (a : Int)) := (by rw [hb5.cell (by simp; omega)]; go_simp); have q5 : w5.cell? ⟨w3.heap.size, 1, none⟩ = some (.int .u32 (b : Int)) := (by rw [hb5.cell (by simp; omega)]; go_simp)))
      all_goals (go_wp2_with fail; go_meet; exact ⟨rfl, next (next hbel.drew hb4) hb5, q2, q3, Nat.lt_of_lt_of_le (Nat.lt_trans n3 hsz4) hb5.size⟩)
    case rest =>
      obtain ⟨rfl, hbc, g0, g1, g2⟩ := hcut
      go_wp2_with fail
      go_region_with (go_at_call 30; (with_reducible refine (H5.out _).mono ?_); rintro e w6 ⟨rfl, hb6⟩; have j0 : w6.cell? ⟨w1.heap.size, 0, none⟩ = some (.int .u32 (r.1 : Int)) := (by rw [hb6.cell (by simp; omega)]; go_simp); have j1 : w6.cell? ⟨w1.heap.size, 1, none⟩ = some (.int .u32 (r.2 : Int)) := (by rw [hb6.cell (by simp; omega)]; go_simp))
      all_goals go_wp2_with fail
      all_goals go_ret
      all_goals exact ⟨rfl, next hbc.drew hb6⟩

theorem own : ownKnob Try.prog.godebug = none := by kernel_rfl
theorem laid : laidOutB Try.prog = true := by kernel_rfl

theorem opened {H : Type} (enc : TypeId × Value → H) (W : World) (args : Array Value) (ds : List (DataW H)) (p : List MemPlace) :
    Lift.Owes enc Try.prog 5 Try.f5.params.toList W args ds p := by
  intro hA hval hsz _
  rw [Try.params5] at hA hval hsz
  obtain ⟨v0, vs0, d0, ds0, p0, q0, hargs, rfl, rfl, h0, r0⟩ := trodAll_cons hA
  obtain ⟨v1, vs1, d1, ds1, p1, q1, rfl, rfl, rfl, h1, r1⟩ := trodAll_cons r0
  obtain ⟨rfl, rfl, rfl⟩ := trodAll_nil r1
  obtain rfl : args = #[v0, v1] := by cases args; simp_all
  obtain ⟨base0, hv0⟩ := hval 0 _ v0 rfl rfl
  obtain ⟨x0, y0, e0, g0, m0, rfl, rfl, rfl, hx0, hy0⟩ := Joins.open_agg2 Try.underlying28 (by kernel_rfl) (by kernel_rfl) hv0 h0
  obtain ⟨xn0, cx0, rfl, wx0⟩ := DataW.trod_int Try.underlying26 hx0
  simp at cx0; subst cx0
  obtain ⟨lx0, ux0⟩ := bounds_u32 wx0
  obtain ⟨xm0, rfl⟩ := Int.eq_ofNat_of_zero_le lx0
  obtain ⟨yn0, cy0, rfl, wy0⟩ := DataW.trod_int Try.underlying26 hy0
  simp at cy0; subst cy0
  obtain ⟨ly0, uy0⟩ := bounds_u32 wy0
  obtain ⟨ym0, rfl⟩ := Int.eq_ofNat_of_zero_le ly0
  obtain ⟨base1, hv1⟩ := hval 1 _ v1 rfl rfl
  obtain ⟨s1, rfl, rfl, rfl, ws1⟩ := ChangeMaps.open_string Try.underlying9 hv1 h1
  have z1 := sized_string hsz (j := 1) rfl rfl
  simp only [reachBytes, Array.length_toList] at z1
  exact walk xm0 ym0 s1 W (by omega) (by omega) z1

set_option maxRecDepth 100000 in
theorem lifted (os : Os) (started : os.Started) (H : Type) (enc : TypeId × Value → H) :
    ReturnsInHanded {} Try.checked os 5 .any (Rows.sumTextsSpec.pre6 enc Try.prog Try.f5 Rows.sumTextsRow.domain false)
      (Rows.sumTextsSpec.post enc Try.prog Try.f5 false true false false) := by
  refine Lift.lifted (C := Try.checked) own started (by kernel_rfl) Try.func5
    (ChangeSpec.witness6 (enc := enc) (C := Try.checked) false ⟨#[], #[.agg #[.int .u32 0, .int .u32 0], .string ByteArray.empty], []⟩ 8 (by kernel_rfl) (by kernel_rfl) (by kernel_rfl) (by kernel_rfl))
    laid (by rw [Try.params5]; intro t ht; simp at ht; rcases ht with rfl | rfl <;> exact ⟨by kernel_rfl, of_decide_eq_true (by kernel_rfl)⟩) rfl 4 rfl Try.underlying4
    (fun ds hds => by match ds, hds with | [_, _], _ => rfl) (opened enc)

theorem said : Rows.SumTextsSaid :=
  OpenClaim.holds_of_wide 5 Try.f5 rfl rfl rfl rfl rfl rfl rfl ⟨rfl, rfl, rfl, rfl, rfl⟩ rfl rfl rfl rfl rfl (by kernel_rfl) Try.func5 (by kernel_rfl)
    (of_decide_eq_true (by kernel_rfl)) (by unfold Func.isWrapper; first | (rw [if_pos (by decide +kernel)]; kernel_rfl) | (rw [if_neg (by decide +kernel)]; exact ⟨rfl, rfl⟩))
    (fun os started H enc _ => lifted os started H enc)
#print axioms said
end Go.Proofs.Ytooliekmfbkopaa.SumTexts
