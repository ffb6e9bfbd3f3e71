/-
  The walk of the laws' own 'works'.
-/
import Derived.Test.YtclkpbokngamiaaEvalTwo
namespace Go.Proofs.Ytclkpbokngamiaa.Dt
open Go.RowKit Go.Proofs.Ytclkpbokngamiaa.By

theorem vs_one (W : World) (v : V) : VsAt (W.alloc (.cells #[.int .u8 (v.k : Int), .int .i64 v.n, .string v.s] 23)) (.slice (some ⟨W.heap.size, 0, none⟩) 1 1) [v] := by
  refine ⟨_, _, rfl, Nat.le_refl _, fun i x hx => ⟨W.heap.size, 0, rfl, fun j u hu => ?_⟩⟩
  rcases i with _ | i <;> simp at hx
  subst hx
  rcases j with _ | _ | _ | j <;> simp [V.cells] at hu <;> subst hu <;> go_simp
theorem rows_one (W : World) (t : TypeId) (h1 : Value) (l1 : List V) : SlAt 1 Rw.cells (W.alloc (.cells #[h1] t)) (.slice (some ⟨W.heap.size, 0, none⟩) 1 1) [⟨h1, l1⟩] := by
  refine ⟨_, _, rfl, Nat.le_refl _, fun i x hx => ⟨W.heap.size, 0, rfl, fun j u hu => ?_⟩⟩
  rcases i with _ | i <;> simp at hx
  subst hx
  rcases j with _ | j <;> simp [Rw.cells] at hu
  subst hu
  go_simp
theorem rows_two (W : World) (t : TypeId) (h1 h2 : Value) (l1 l2 : List V) : SlAt 1 Rw.cells (W.alloc (.cells #[h1, h2] t)) (.slice (some ⟨W.heap.size, 0, none⟩) 2 2) [⟨h1, l1⟩, ⟨h2, l2⟩] := by
  refine ⟨_, _, rfl, Nat.le_refl _, fun i x hx => ⟨W.heap.size, 0, rfl, fun j u hu => ?_⟩⟩
  rcases i with _ | _ | i <;> simp at hx <;> subst hx <;> (rcases j with _ | j <;> simp [Rw.cells] at hu <;> subst hu <;> go_simp)
theorem ex_one (W : World) (x : Ex) : SlAt 8 Ex.cells (W.alloc (.cells #[.int .u8 (x.op : Int), .int .u8 (x.v.k : Int), .int .i64 x.v.n, .string x.v.s, .string x.t, .string x.m, .int .i64 x.n, x.kv] 27)) (.slice (some ⟨W.heap.size, 0, none⟩) 1 1) [x] := by
  refine ⟨_, _, rfl, Nat.le_refl _, fun i y hx => ⟨W.heap.size, 0, rfl, fun j u hu => ?_⟩⟩
  rcases i with _ | i <;> simp at hx
  subst hx
  rcases j with _ | _ | _ | _ | _ | _ | _ | _ | j <;> simp [Ex.cells] at hu <;> subst hu <;> go_simp

theorem isYes (v : V) (e : Nat) (p q : Addr) (w : World) (hc : Caught p q v e w) :
    Calls Try.prog 23 #[v.val, .int .i64 (e : Int), .pointer (some p), .pointer (some q)] w fun r w' => r = .returned (.bool true) ∧ Below w.heap.size w w' := by
  have := isW v v e e p q w hc
  simpa using this
theorem num_check (n : Int) : checkV (numV n) = 0 := by simp [checkV, badV, numV]
theorem eval5 (kv : Value) : evalS [] (exOf 6 kv [exV (numV 2), exV (numV 3)]) = (numV 5, 0) := by
  rw [eval_two [] (by omega) (by omega), if_pos ⟨num_check 2, num_check 3⟩]
  simp [doS, togetherB, allB, numV, nullB, reckonS, overS, inR]
theorem op_exOf (op : Nat) (kv : Value) (ks : List Ex) : (exOf op kv ks).op = op := rfl
theorem fold7 (kv : Value) : foldS [[numV 3], [numV 4]] 1 (exOf 21 kv [exC 0]) = (numV 7, 0) := by
  rw [fold_one _ _ (by omega) (by omega) (by omega)]
  simp [toldS, toldAll, one_C, toldStep, toldEnd, overS, inR, numV, op_exOf]

set_option maxRecDepth 100000 in
set_option maxHeartbeats 8000000 in
theorem works (w : World) : Calls Try.prog 6 #[] w fun e w' => e = .returned (.bool true) ∧ Below w.heap.size w w' := by
  go_enter Try.func6, Try.ntmps6
  go_wp2_with fail
  refine (numberL 5 _).mono ?_
  rintro e w1 ⟨rfl, hb1⟩
  have B1 := Lib.hid (hb1)
  clear hb1
  go_wp2_with fail
  refine (isL (numV 5) 0 _).mono ?_
  rintro e w2 ⟨⟨p, q, rfl, hc0⟩, hb2⟩
  have B2 := Lib.hid (next B1.out hb2)
  have HC := Lib.hid hc0
  clear hc0
  clear hb2
  go_wp2_with fail
  refine (numberL 2 _).mono ?_
  rintro e w3 ⟨rfl, hb3⟩
  have B3 := Lib.hid (next B2.out hb3)
  have HC3 := Lib.hid (HC.out.later hb3)
  clear hb3
  go_wp2_with fail
  refine (numberL 3 _).mono ?_
  rintro e w4 ⟨rfl, hb4⟩
  have B4 := Lib.hid (next B3.out hb4)
  have HC4 := Lib.hid (HC3.out.later hb4)
  clear hb4
  go_wp2_with fail
  refine (twoL 6 (numV 2) (numV 3) _).mono ?_
  rintro e w5 ⟨⟨kv, rfl, hs0⟩, hb5⟩
  have B5 := Lib.hid (next B4.out hb5)
  have HC5 := Lib.hid (HC4.out.later hb5)
  have HS := Lib.hid hs0
  clear hs0
  clear hb5
  go_wp2_with fail
  have HE5 := Lib.hid (eval5 kv)
  have hev := evalW (exOf 6 kv [exV (numV 2), exV (numV 3)]) (.slice none 0 0) [] w5 (exOf_in HS.out (fun y hy => by simp at hy; rcases hy with rfl | rfl <;> exact exV_in _ _)) (exOf_ok (by omega) (by simp) (fun y hy => by simp at hy; rcases hy with rfl | rfl <;> exact exV_ok (numV_ok ⟨by omega, by omega⟩))) (SlAt.nil _ _ _) (fun v hv => by cases hv) (by simp)
  rw [HE5.out] at hev
  refine (hev).mono ?_
  rintro e w6 ⟨rfl, hb6⟩
  have B6 := Lib.hid (next B5.out hb6)
  have HC6 := Lib.hid (HC5.out.later hb6)
  clear hev
  clear hb6
  go_wp2_with fail
  refine (isYes (numV 5) 0 p q _ HC6.out).mono ?_
  rintro e w7 ⟨rfl, hb7⟩
  have B7 := Lib.hid (next B6.out hb7)
  clear hb7
  go_wp2_with fail
  refine (numberL 7 _).mono ?_
  rintro e w8 ⟨rfl, hb8⟩
  have B8 := Lib.hid (next B7.out hb8)
  clear hb8
  go_wp2_with fail
  refine (isL (numV 7) 0 _).mono ?_
  rintro e w9 ⟨⟨p2, q2, rfl, hc0⟩, hb9⟩
  have B9 := Lib.hid (next B8.out hb9)
  have HD9 := Lib.hid hc0
  clear hc0
  clear hb9
  go_wp2_with fail
  refine (columnL 0 _).mono ?_
  rintro e w10 ⟨rfl, hb10⟩
  have B10 := Lib.hid (next B9.out hb10)
  have HD10 := Lib.hid (HD9.out.later hb10)
  clear hb10
  go_wp2_with fail
  refine (ofL 21 (some ⟨w10.heap.size, 0, none⟩) 1 1 [exC 0] _).mono ?_
  rintro e w11 ⟨rfl, hb11⟩
  have B11 := Lib.hid (next (B10.out.alloc B10.out.size _) hb11)
  have HD11 := Lib.hid (HD10.out.later (next ((Below.refl _ w10).alloc (Nat.le_refl _) _) hb11))
  have HX11 := Lib.hid ((ex_one w10 (exC 0)).below hb11)
  clear hb11
  go_wp2_with fail
  refine (numberL 3 _).mono ?_
  rintro e w12 ⟨rfl, hb12⟩
  have B12 := Lib.hid (next B11.out hb12)
  have HD12 := Lib.hid (HD11.out.later hb12)
  have HX12 := Lib.hid (HX11.out.below hb12)
  clear hb12
  go_wp2_with fail
  refine (numberL 4 _).mono ?_
  rintro e w13 ⟨rfl, hb13⟩
  have B13 := Lib.hid (next (B12.out.alloc B12.out.size _) hb13)
  have HA12 : Hid (Below w12.heap.size w12 w13) := Lib.hid (next ((Below.refl _ w12).alloc (Nat.le_refl _) _) hb13)
  have HD13 := Lib.hid (HD12.out.later HA12.out)
  have HX13 := Lib.hid (HX12.out.below HA12.out)
  have HR13 := Lib.hid ((vs_one w12 (numV 3)).below hb13)
  have z12 : w12.heap.size < w13.heap.size := Nat.lt_of_lt_of_le (by simp) hb13.size
  clear hb13
  go_wp2_with fail
  have hbC : Below w13.heap.size w13 ((w13.alloc (.cells #[.int .u8 ((numV 4).k : Int), .int .i64 (numV 4).n, .string (numV 4).s] 23)).alloc (.cells #[.slice (some ⟨w12.heap.size, 0, none⟩) 1 1, .slice (some ⟨w13.heap.size, 0, none⟩) 1 1] 49)) := by go_grown
  have hro : RowsAt ((w13.alloc (.cells #[.int .u8 ((numV 4).k : Int), .int .i64 (numV 4).n, .string (numV 4).s] 23)).alloc (.cells #[.slice (some ⟨w12.heap.size, 0, none⟩) 1 1, .slice (some ⟨w13.heap.size, 0, none⟩) 1 1] 49)) (.slice (some ⟨w13.heap.size + 1, 0, none⟩) 2 2) [⟨.slice (some ⟨w12.heap.size, 0, none⟩) 1 1, [numV 3]⟩, ⟨.slice (some ⟨w13.heap.size, 0, none⟩) 1 1, [numV 4]⟩] := by
    refine ⟨?_, ?_⟩
    · have := rows_two (w13.alloc (.cells #[.int .u8 ((numV 4).k : Int), .int .i64 (numV 4).n, .string (numV 4).s] 23)) 49 (.slice (some ⟨w12.heap.size, 0, none⟩) 1 1) (.slice (some ⟨w13.heap.size, 0, none⟩) 1 1) [numV 3] [numV 4]
      simpa using this
    · intro r hr
      simp at hr
      rcases hr with rfl | rfl
      · exact HR13.out.below hbC
      · exact (vs_one w13 (numV 4)).below (by go_grown)
  have hfo := fold (exOf 21 (.slice (some ⟨w10.heap.size, 0, none⟩) 1 1) [exC 0]) _ _ 1 _ (exOf_in (HX13.out.below hbC) (fun y hy => by simp at hy; subst hy; exact exC_in _ _)) (exOf_ok (by omega) (by simp) (fun y hy => by simp at hy; subst hy; exact exC_ok ⟨by omega, by omega⟩)) hro (fun r hr v hv => by
    simp at hr
    rcases hr with rfl | rfl
    · simp at hv; subst hv; exact numV_ok ⟨by omega, by omega⟩
    · simp at hv; subst hv; exact numV_ok ⟨by omega, by omega⟩) (by simp) (by omega) (by omega)
  rw [show foldS ([(⟨.slice (some ⟨w12.heap.size, 0, none⟩) 1 1, [numV 3]⟩ : Rw), ⟨.slice (some ⟨w13.heap.size, 0, none⟩) 1 1, [numV 4]⟩].map Rw.l) 1 (exOf 21 (.slice (some ⟨w10.heap.size, 0, none⟩) 1 1) [exC 0]) = (numV 7, 0) from fold7 _] at hfo
  have HFO := Lib.hid hfo
  have HBC := Lib.hid hbC
  clear hfo hbC hro
  refine (HFO.out).mono ?_
  rintro e w14 ⟨rfl, hb14⟩
  have B14 := Lib.hid (next (next B13.out HBC.out) hb14)
  have HD14 := Lib.hid (HD13.out.later (next HBC.out hb14))
  clear hb14
  go_wp2_with fail
  refine (isYes (numV 7) 0 p2 q2 _ HD14.out).mono ?_
  rintro e w15 ⟨rfl, hb15⟩
  have B15 := Lib.hid (next B14.out hb15)
  clear hb15
  go_wp2_with fail
  refine (numberL 2 _).mono ?_
  rintro e w16 ⟨rfl, hb16⟩
  have B16 := Lib.hid (next B15.out hb16)
  clear hb16
  go_wp2_with fail
  refine (trueW (numV 2) _).mono ?_
  rintro e w17 ⟨rfl, hb17⟩
  have B17 := Lib.hid (next B16.out hb17)
  clear hb17
  go_wp2_with fail
  refine (trueW nullV _).mono ?_
  rintro e w18 ⟨rfl, hb18⟩
  have B18 := Lib.hid (next B17.out hb18)
  clear hb18
  go_wp2_with fail
  go_ret
  exact ⟨ret_bool (by simp [trueB, nullV]), B18.out⟩
end Go.Proofs.Ytclkpbokngamiaa.Dt
