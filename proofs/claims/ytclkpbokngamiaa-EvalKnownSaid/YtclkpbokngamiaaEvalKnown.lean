/- EvalKnown: the document's examples of what expressions come to. No conditions. -/
import Derived.Test.YtclkpbokngamiaaLift
import Derived.Test.YtclkpbokngamiaaKinOps2
import Derived.Test.YtclkpbokngamiaaEvalKind
namespace Go.Proofs.Ytclkpbokngamiaa.EvalKnown
open Go.ChangeShapes Go.WideShapes Go.ChangeAt Go.RowKit Go.Proofs.Ytclkpbokngamiaa.By
set_option linter.unusedVariables false
open Go.Proofs.Ytclkpbokngamiaa.Dt
theorem ev0 (k0 : Value) : evalS [] (exOf 6 k0 [exV (numV 9223372036854775807), exV (numV 1)]) = (nullV, 152) := by kernel_rfl
theorem ev1 (k0 : Value) : evalS [] (exOf 3 k0 [exV (numV (-9223372036854775808))]) = (nullV, 152) := by kernel_rfl
theorem ev2 (k0 : Value) : evalS [] (exOf 9 k0 [exV (numV 7), exV (numV 0)]) = (nullV, 0) := by kernel_rfl
theorem ev3 (k0 : Value) : evalS [] (exOf 9 k0 [exV (numV (-7)), exV (numV 2)]) = ((numV (-3)), 0) := by kernel_rfl
theorem ev4 (k0 : Value) : evalS [] (exOf 10 k0 [exV (numV (-7)), exV (numV 2)]) = ((numV (-1)), 0) := by kernel_rfl
theorem ev5 (k0 : Value) : evalS [] (exOf 18 k0 [exV (numV 0), exV nullV]) = ((numV 0), 0) := by kernel_rfl
theorem ev6 (k0 : Value) : evalS [] (exOf 18 k0 [exV (numV 1), exV nullV]) = (nullV, 0) := by kernel_rfl
theorem ev7 (k0 : Value) : evalS [] (exOf 19 k0 [exV (numV 1), exV nullV]) = ((numV 1), 0) := by kernel_rfl
theorem ev8 (k0 : Value) : evalS [] (exOf 4 k0 [exV nullV]) = (nullV, 0) := by kernel_rfl
theorem ev9 (k0 : Value) : evalS [] (exOf 12 k0 [exV (numV 1), exV (V.mk 2 0 ⟨#[97]⟩)]) = (nullV, 150) := by kernel_rfl
theorem ev10 (k0 : Value) : evalS [] (exOf 14 k0 [exV (V.mk 2 0 ⟨#[97]⟩), exV (V.mk 2 0 ⟨#[98]⟩)]) = ((numV 1), 0) := by kernel_rfl
theorem ev11 (k0 : Value) : evalS [] (exOf 12 k0 [exV nullV, exV (numV 1)]) = (nullV, 0) := by kernel_rfl
theorem ev12 (k0 : Value) : evalS [] (exOf 6 k0 [exV (numV 1), exV (V.mk 2 0 ⟨#[97]⟩)]) = (nullV, 150) := by kernel_rfl
theorem fo13 (k0 : Value) : foldS [[(numV 1)], [nullV], [(numV 2)]] 1 (exOf 21 k0 [exC 0]) = ((numV 3), 0) := by kernel_rfl
theorem fo14 (k0 : Value) : foldS [] 1 (exOf 21 k0 [exC 0]) = (nullV, 0) := by kernel_rfl
theorem fo15 (k0 : Value) : foldS [] 0 (exOf 20 k0 []) = ((numV 0), 0) := by kernel_rfl
theorem ty1 (k0 : Value) : typeS [] false (exOf 20 k0 []) = (0, 151) := by kernel_rfl
theorem ty2 (k0 k1 : Value) : typeS [] true (exOf 21 k0 [exOf 20 k1 []]) = (0, 151) := by kernel_rfl
set_option maxRecDepth 100000 in
set_option maxHeartbeats 16000000 in
theorem walk (w : World) :
    Calls Try.prog 5 #[] w fun e w' => e = .returned (.bool true) ∧ Below w.heap.size w w' := by
  have hbn : Box w.heap.size nullV.cells (w.alloc (.cells #[.int .u8 0, .int .i64 0, .string ⟨#[]⟩] 23)) := fun i u hu => by
    rcases i with _ | _ | _ | i <;> simp [V.cells, nullV] at hu <;> subst hu <;> exact ⟨by go_simp; try rfl, by go_simp⟩
  have HBN0 := Lib.hid hbn
  have HB0 := Lib.hid (show Below w.heap.size w (w.alloc (.cells #[.int .u8 0, .int .i64 0, .string ⟨#[]⟩] 23)) by go_grown)
  clear hbn
  go_enter Try.func5, Try.ntmps5
  go_wp2_with fail
  generalize hW0 : w.alloc (.cells #[.int .u8 0, .int .i64 0, .string ⟨#[]⟩] 23) = w0 at *
  clear hW0
  refine (ofL 20 none 0 0 [] _).mono ?_
  rintro e w1 ⟨rfl, hb1⟩
  have HB1 := Lib.hid (next HB0.out hb1)
  have HBN1 := Lib.hid (HBN0.out.later hb1)
  clear hb1 HB0 HBN0
  go_wp2_with fail
  have hty := typeW (exOf 20 (.slice none 0 0) []) (.slice none 0 0) [] false w1 (fun k hk => by cases hk) (by simp) (exOf_in (SlAt.nil _ _ _) (fun y hy => by cases hy)) (exOf_ok (by omega) (by simp) (fun y hy => by cases hy)) (SlAt.nil _ _ _)
  rw [ty1] at hty
  refine hty.mono ?_
  clear hty
  rintro e w2 ⟨rfl, hb2⟩
  have HB2 := Lib.hid (next HB1.out hb2)
  have HBN2 := Lib.hid (HBN1.out.later hb2)
  clear hb2 HB1 HBN1
  go_wp2_with fail
  refine (ofL 20 none 0 0 [] _).mono ?_
  rintro e w3 ⟨rfl, hb3⟩
  have HB3 := Lib.hid (next HB2.out hb3)
  have HBN3 := Lib.hid (HBN2.out.later hb3)
  clear hb3 HB2 HBN2
  go_wp2_with fail
  refine (ofL 21 (some ⟨w3.heap.size, 0, none⟩) 1 1 [exOf 20 (.slice none 0 0) []] _).mono ?_
  rintro e w4 ⟨rfl, hb4⟩
  have B4 : Hid (Below w3.heap.size w3 w4) := Lib.hid (next ((Below.refl _ w3).alloc (Nat.le_refl _) _) hb4)
  have HS4 := Lib.hid ((ex_one w3 (exOf 20 (.slice none 0 0) [])).below hb4)
  have HB4 := Lib.hid (next HB3.out B4.out)
  have HBN4 := Lib.hid (HBN3.out.later B4.out)
  clear hb4 HB3 HBN3 B4
  go_wp2_with fail
  have hty := typeW (exOf 21 (.slice (some ⟨w3.heap.size, 0, none⟩) 1 1) [exOf 20 (.slice none 0 0) []]) (.slice none 0 0) [] true w4 (fun k hk => by cases hk) (by simp)
    (exOf_in HS4.out (fun y hy => by simp at hy; subst hy; exact exOf_in (SlAt.nil _ _ _) (fun y hy => by cases hy)))
    (exOf_ok (by omega) (by simp) (fun y hy => by simp at hy; subst hy; exact exOf_ok (by omega) (by simp) (fun y hy => by cases hy))) (SlAt.nil _ _ _)
  rw [ty2] at hty
  refine hty.mono ?_
  clear hty HS4
  rintro e w5 ⟨rfl, hb5⟩
  have HB5 := Lib.hid (next HB4.out hb5)
  have HBN := Lib.hid (HBN4.out.later hb5)
  clear hb5 HB4 HBN4
  go_wp2_with fail
  have hsz : ∀ x, x = Try.ntmps5 → True := fun _ _ => trivial
  clear hsz
  refine wp_region_kin' (fun j => ([(.is (.bool true)), (.is (.bool true)), (.is (V.val nullV)), (.got nullV 152), (.is (V.val (numV 9223372036854775807))), (.is (V.val (numV 1))), (.ex (fun x => ∃ k0 : Value, x = exOf 6 k0 [exV (numV 9223372036854775807), exV (numV 1)])), (.is (resV (nullV, 152))), (.is (V.val nullV)), (.is (.int .i64 ((152 : Nat) : Int))), (.is (.bool true)), (.is (.bool true)), (.is (.bool true)), (.is (V.val nullV)), (.got nullV 152), (.is (V.val (numV (-9223372036854775808)))), (.is (Ex.val (exV (numV (-9223372036854775808))))), (.kids (fun ks => ks = [exV (numV (-9223372036854775808))])), (.ex (fun x => ∃ k0 : Value, x = exOf 3 k0 [exV (numV (-9223372036854775808))])), (.is (resV (nullV, 152))), (.is (V.val nullV)), (.is (.int .i64 ((152 : Nat) : Int))), (.is (.bool true)), (.is (.bool true)), (.is (.bool true)), (.is (V.val nullV)), (.got nullV 0), (.is (V.val (numV 7))), (.is (V.val (numV 0))), (.ex (fun x => ∃ k0 : Value, x = exOf 9 k0 [exV (numV 7), exV (numV 0)])), (.is (resV (nullV, 0))), (.is (V.val nullV)), (.is (.int .i64 ((0 : Nat) : Int))), (.is (.bool true)), (.is (.bool true)), (.is (.bool true)), (.is (V.val (numV (-3)))), (.got (numV (-3)) 0), (.is (V.val (numV (-7)))), (.is (V.val (numV 2))), (.ex (fun x => ∃ k0 : Value, x = exOf 9 k0 [exV (numV (-7)), exV (numV 2)])), (.is (resV ((numV (-3)), 0))), (.is (V.val (numV (-3)))), (.is (.int .i64 ((0 : Nat) : Int))), (.is (.bool true)), (.is (.bool true)), (.is (.bool true)), (.is (V.val (numV (-1)))), (.got (numV (-1)) 0), (.is (V.val (numV (-7)))), (.is (V.val (numV 2))), (.ex (fun x => ∃ k0 : Value, x = exOf 10 k0 [exV (numV (-7)), exV (numV 2)])), (.is (resV ((numV (-1)), 0))), (.is (V.val (numV (-1)))), (.is (.int .i64 ((0 : Nat) : Int))), (.is (.bool true)), (.is (.bool true)), (.is (.bool true)), (.is (V.val (numV 0))), (.got (numV 0) 0), (.is (V.val (numV 0))), (.is (V.val nullV)), (.ex (fun x => ∃ k0 : Value, x = exOf 18 k0 [exV (numV 0), exV nullV])), (.is (resV ((numV 0), 0))), (.is (V.val (numV 0))), (.is (.int .i64 ((0 : Nat) : Int))), (.is (.bool true)), (.is (.bool true)), (.is (.bool true)), (.is (V.val nullV)), (.got nullV 0), (.is (V.val (numV 1))), (.is (V.val nullV)), (.ex (fun x => ∃ k0 : Value, x = exOf 18 k0 [exV (numV 1), exV nullV])), (.is (resV (nullV, 0))), (.is (V.val nullV)), (.is (.int .i64 ((0 : Nat) : Int))), (.is (.bool true)), (.is (.bool true)), (.is (.bool true)), (.is (V.val (numV 1))), (.got (numV 1) 0), (.is (V.val (numV 1))), (.is (V.val nullV)), (.ex (fun x => ∃ k0 : Value, x = exOf 19 k0 [exV (numV 1), exV nullV])), (.is (resV ((numV 1), 0))), (.is (V.val (numV 1))), (.is (.int .i64 ((0 : Nat) : Int))), (.is (.bool true)), (.is (.bool true)), (.is (.bool true)), (.is (V.val nullV)), (.got nullV 0), (.is (V.val nullV)), (.is (Ex.val (exV nullV))), (.kids (fun ks => ks = [exV nullV])), (.ex (fun x => ∃ k0 : Value, x = exOf 4 k0 [exV nullV])), (.is (resV (nullV, 0))), (.is (V.val nullV)), (.is (.int .i64 ((0 : Nat) : Int))), (.is (.bool true)), (.is (.bool true)), (.is (.bool true)), (.is (V.val nullV)), (.got nullV 150), (.is (V.val (numV 1))), (.is (V.val (V.mk 2 0 ⟨#[97]⟩))), (.ex (fun x => ∃ k0 : Value, x = exOf 12 k0 [exV (numV 1), exV (V.mk 2 0 ⟨#[97]⟩)])), (.is (resV (nullV, 150))), (.is (V.val nullV)), (.is (.int .i64 ((150 : Nat) : Int))), (.is (.bool true)), (.is (.bool true)), (.is (.bool true)), (.is (V.val (numV 1))), (.got (numV 1) 0), (.is (V.val (V.mk 2 0 ⟨#[97]⟩))), (.is (V.val (V.mk 2 0 ⟨#[98]⟩))), (.ex (fun x => ∃ k0 : Value, x = exOf 14 k0 [exV (V.mk 2 0 ⟨#[97]⟩), exV (V.mk 2 0 ⟨#[98]⟩)])), (.is (resV ((numV 1), 0))), (.is (V.val (numV 1))), (.is (.int .i64 ((0 : Nat) : Int))), (.is (.bool true)), (.is (.bool true)), (.is (.bool true)), (.is (V.val nullV)), (.got nullV 0), (.is (V.val nullV)), (.is (V.val (numV 1))), (.ex (fun x => ∃ k0 : Value, x = exOf 12 k0 [exV nullV, exV (numV 1)])), (.is (resV (nullV, 0))), (.is (V.val nullV)), (.is (.int .i64 ((0 : Nat) : Int))), (.is (.bool true)), (.is (.bool true)), (.is (.bool true)), (.is (V.val nullV)), (.got nullV 150), (.is (V.val (numV 1))), (.is (V.val (V.mk 2 0 ⟨#[97]⟩))), (.ex (fun x => ∃ k0 : Value, x = exOf 6 k0 [exV (numV 1), exV (V.mk 2 0 ⟨#[97]⟩)])), (.is (resV (nullV, 150))), (.is (V.val nullV)), (.is (.int .i64 ((150 : Nat) : Int))), (.is (.bool true)), (.is (.bool true)), (.is (.bool true)), (.is (.int .u8 0)), (.is (.bool true)), (.is (.bool true)), (.is (.bool true)), (.is (.int .i64 151)), (.is (.bool true)), (.is (.bool true)), (.is (.bool true)), (.is (.int .u8 0)), (.is (.bool true)), (.is (.bool true)), (.is (.bool true)), (.is (.int .i64 151)), (.is (.bool true)), (.is (.bool true)), (.is (.bool true)), (.is (V.val (numV 3))), (.got (numV 3) 0), (.is (Ex.val (exC 0))), (.kids (fun ks => ks = [exC 0])), (.ex (fun x => ∃ k0 : Value, x = exOf 21 k0 [exC 0])), (.is (V.val (numV 1))), (.vs [(numV 1)]), (.is (V.val nullV)), (.vs [nullV]), (.is (V.val (numV 2))), (.vs [(numV 2)]), (.rows [[(numV 1)], [nullV], [(numV 2)]]), (.is (resV ((numV 3), 0))), (.is (V.val (numV 3))), (.is (.int .i64 ((0 : Nat) : Int))), (.is (.bool true)), (.is (.bool true)), (.is (.bool true)), (.is (V.val nullV)), (.got nullV 0), (.is (Ex.val (exC 0))), (.kids (fun ks => ks = [exC 0])), (.ex (fun x => ∃ k0 : Value, x = exOf 21 k0 [exC 0])), (.is (resV (nullV, 0))), (.is (V.val nullV)), (.is (.int .i64 ((0 : Nat) : Int))), (.is (.bool true)), (.is (.bool true)), (.is (.bool true)), (.is (V.val (numV 0))), (.got (numV 0) 0), (.ex (fun x => ∃ k0 : Value, x = exOf 20 k0 [])), (.is (resV ((numV 0), 0))), (.is (V.val (numV 0))), (.is (.int .i64 ((0 : Nat) : Int))), (.is (.bool true)), (.is (.bool true)), (.is (.bool true))] : List Kn).getD j (.is undef)) 219 (by simp) (by kernel_rfl) (by kernel_rfl) ?_ ?_
  · intro i hi A w1 hother hb hd
    rcases Nat.lt_or_ge i 40 with hc | hc
    · obtain ⟨m, rfl⟩ : ∃ m, i = 0 + m := ⟨i - 0, by omega⟩
      replace hc : m < 40 := by omega
      match m, hc with
      | 0, _ =>
        exact kin_works rfl (wanted_none rfl) rfl rfl
      | 1, _ =>
        have e19 := (hd _ rfl ⟨0, .data⟩ (by simp) rfl).eq (.bool true) rfl 19 (by kernel_rfl) (by decide)
        exact kin_move rfl (wanted_none rfl) rfl _ e19 rfl
      | 2, _ =>
        have hg := (hd _ rfl ⟨1, .guard⟩ (by simp) rfl).eq (.bool true) rfl 20 (by kernel_rfl) (by decide)
        have e1 : A.eval (.tmp 1) = .pointer (some ⟨w.heap.size, 0, none⟩) := hother 1 (by kernel_rfl)
        exact kin_loadV rfl (wanted_some rfl (by kernel_rfl) hg) rfl _ e1 nullV _ HBN.out hb rfl
      | 3, _ =>
        have hg := (hd _ rfl ⟨1, .guard⟩ (by simp) rfl).eq (.bool true) rfl 20 (by kernel_rfl) (by decide)
        have e21 := (hd _ rfl ⟨2, .data⟩ (by simp) rfl).eq (V.val nullV) rfl 21 (by kernel_rfl) (by decide)
        exact kin_is rfl (wanted_some rfl (by kernel_rfl) hg) rfl nullV 152 e21 rfl rfl
      | 4, _ =>
        have hg := (hd _ rfl ⟨1, .guard⟩ (by simp) rfl).eq (.bool true) rfl 20 (by kernel_rfl) (by decide)
        exact kin_number rfl (wanted_some rfl (by kernel_rfl) hg) rfl 9223372036854775807 rfl rfl
      | 5, _ =>
        have hg := (hd _ rfl ⟨1, .guard⟩ (by simp) rfl).eq (.bool true) rfl 20 (by kernel_rfl) (by decide)
        exact kin_number rfl (wanted_some rfl (by kernel_rfl) hg) rfl 1 rfl rfl
      | 6, _ =>
        have hg := (hd _ rfl ⟨1, .guard⟩ (by simp) rfl).eq (.bool true) rfl 20 (by kernel_rfl) (by decide)
        have e23 := (hd _ rfl ⟨4, .data⟩ (by simp) rfl).eq (V.val (numV 9223372036854775807)) rfl 23 (by kernel_rfl) (by decide)
        have e24 := (hd _ rfl ⟨5, .data⟩ (by simp) rfl).eq (V.val (numV 1)) rfl 24 (by kernel_rfl) (by decide)
        exact kin_two rfl (wanted_some rfl (by kernel_rfl) hg) rfl 6 (by omega) rfl (numV 9223372036854775807) (numV 1) e23 e24 (okV (numV 9223372036854775807)) (okV (numV 1)) (fun x => ∃ k0 : Value, x = exOf 6 k0 [exV (numV 9223372036854775807), exV (numV 1)]) rfl (fun kv => ⟨kv, rfl⟩)
      | 7, _ =>
        have hg := (hd _ rfl ⟨1, .guard⟩ (by simp) rfl).eq (.bool true) rfl 20 (by kernel_rfl) (by decide)
        obtain ⟨v25, k25, e25⟩ := (hd _ rfl ⟨6, .data⟩ (by simp) rfl).get (.ex (fun x => ∃ k0 : Value, x = exOf 6 k0 [exV (numV 9223372036854775807), exV (numV 1)])) rfl 25 (by kernel_rfl) (by decide)
        exact kin_eval rfl (wanted_some rfl (by kernel_rfl) hg) rfl v25 e25 (fun x => ∃ k0 : Value, x = exOf 6 k0 [exV (numV 9223372036854775807), exV (numV 1)]) k25 (nullV, 152) rfl (by rintro x ⟨b0, rfl⟩; exact ev0 _)
      | 8, _ =>
        have hg := (hd _ rfl ⟨1, .guard⟩ (by simp) rfl).eq (.bool true) rfl 20 (by kernel_rfl) (by decide)
        have e26 := (hd _ rfl ⟨7, .data⟩ (by simp) rfl).eq (resV (nullV, 152)) rfl 26 (by kernel_rfl) (by decide)
        exact kin_ext0 rfl (wanted_some rfl (by kernel_rfl) hg) rfl _ e26 rfl
      | 9, _ =>
        have hg := (hd _ rfl ⟨1, .guard⟩ (by simp) rfl).eq (.bool true) rfl 20 (by kernel_rfl) (by decide)
        have e26 := (hd _ rfl ⟨7, .data⟩ (by simp) rfl).eq (resV (nullV, 152)) rfl 26 (by kernel_rfl) (by decide)
        exact kin_ext1 rfl (wanted_some rfl (by kernel_rfl) hg) rfl _ e26 rfl
      | 10, _ =>
        have hg := (hd _ rfl ⟨1, .guard⟩ (by simp) rfl).eq (.bool true) rfl 20 (by kernel_rfl) (by decide)
        obtain ⟨v22, k22, e22⟩ := (hd _ rfl ⟨3, .data⟩ (by simp) rfl).get (.got nullV 152) rfl 22 (by kernel_rfl) (by decide)
        have e27 := (hd _ rfl ⟨8, .data⟩ (by simp) rfl).eq (V.val nullV) rfl 27 (by kernel_rfl) (by decide)
        have e28 := (hd _ rfl ⟨9, .data⟩ (by simp) rfl).eq (.int .i64 ((152 : Nat) : Int)) rfl 28 (by kernel_rfl) (by decide)
        exact kin_yes rfl (wanted_some rfl (by kernel_rfl) hg) rfl v22 e22 nullV 152 k22 e27 e28 rfl
      | 11, _ =>
        have e20 := (hd _ rfl ⟨1, .data⟩ (by simp) rfl).eq (.bool true) rfl 20 (by kernel_rfl) (by decide)
        have e29 := (hd _ rfl ⟨10, .data⟩ (by simp) rfl).eq (.bool true) rfl 29 (by kernel_rfl) (by decide)
        exact kin_and rfl (wanted_none rfl) rfl true e20 e29 rfl
      | 12, _ =>
        have e30 := (hd _ rfl ⟨11, .data⟩ (by simp) rfl).eq (.bool true) rfl 30 (by kernel_rfl) (by decide)
        exact kin_move rfl (wanted_none rfl) rfl _ e30 rfl
      | 13, _ =>
        have hg := (hd _ rfl ⟨12, .guard⟩ (by simp) rfl).eq (.bool true) rfl 31 (by kernel_rfl) (by decide)
        have e1 : A.eval (.tmp 1) = .pointer (some ⟨w.heap.size, 0, none⟩) := hother 1 (by kernel_rfl)
        exact kin_loadV rfl (wanted_some rfl (by kernel_rfl) hg) rfl _ e1 nullV _ HBN.out hb rfl
      | 14, _ =>
        have hg := (hd _ rfl ⟨12, .guard⟩ (by simp) rfl).eq (.bool true) rfl 31 (by kernel_rfl) (by decide)
        have e32 := (hd _ rfl ⟨13, .data⟩ (by simp) rfl).eq (V.val nullV) rfl 32 (by kernel_rfl) (by decide)
        exact kin_is rfl (wanted_some rfl (by kernel_rfl) hg) rfl nullV 152 e32 rfl rfl
      | 15, _ =>
        have hg := (hd _ rfl ⟨12, .guard⟩ (by simp) rfl).eq (.bool true) rfl 31 (by kernel_rfl) (by decide)
        exact kin_number rfl (wanted_some rfl (by kernel_rfl) hg) rfl (-9223372036854775808) rfl rfl
      | 16, _ =>
        have hg := (hd _ rfl ⟨12, .guard⟩ (by simp) rfl).eq (.bool true) rfl 31 (by kernel_rfl) (by decide)
        have e34 := (hd _ rfl ⟨15, .data⟩ (by simp) rfl).eq (V.val (numV (-9223372036854775808))) rfl 34 (by kernel_rfl) (by decide)
        exact kin_with rfl (wanted_some rfl (by kernel_rfl) hg) rfl (numV (-9223372036854775808)) e34 rfl
      | 17, _ =>
        have hg := (hd _ rfl ⟨12, .guard⟩ (by simp) rfl).eq (.bool true) rfl 31 (by kernel_rfl) (by decide)
        have e35 := (hd _ rfl ⟨16, .data⟩ (by simp) rfl).eq (Ex.val (exV (numV (-9223372036854775808)))) rfl 35 (by kernel_rfl) (by decide)
        have o35 : (exV (numV (-9223372036854775808))).Ok := exV_ok (okV (numV (-9223372036854775808)))
        exact kin_kids1 rfl (wanted_some rfl (by kernel_rfl) hg) rfl (exV (numV (-9223372036854775808))) e35 (exV_in (numV (-9223372036854775808)) w1) o35 (fun ks => ks = [exV (numV (-9223372036854775808))]) rfl (rfl)
      | 18, _ =>
        have hg := (hd _ rfl ⟨12, .guard⟩ (by simp) rfl).eq (.bool true) rfl 31 (by kernel_rfl) (by decide)
        obtain ⟨v36, k36, e36⟩ := (hd _ rfl ⟨17, .data⟩ (by simp) rfl).get (.kids (fun ks => ks = [exV (numV (-9223372036854775808))])) rfl 36 (by kernel_rfl) (by decide)
        exact kin_of rfl (wanted_some rfl (by kernel_rfl) hg) rfl 3 (by omega) rfl v36 e36 (fun ks => ks = [exV (numV (-9223372036854775808))]) k36 (fun x => ∃ k0 : Value, x = exOf 3 k0 [exV (numV (-9223372036854775808))]) rfl (fun kv ks h => ⟨kv, by rw [h]⟩)
      | 19, _ =>
        have hg := (hd _ rfl ⟨12, .guard⟩ (by simp) rfl).eq (.bool true) rfl 31 (by kernel_rfl) (by decide)
        obtain ⟨v37, k37, e37⟩ := (hd _ rfl ⟨18, .data⟩ (by simp) rfl).get (.ex (fun x => ∃ k0 : Value, x = exOf 3 k0 [exV (numV (-9223372036854775808))])) rfl 37 (by kernel_rfl) (by decide)
        exact kin_eval rfl (wanted_some rfl (by kernel_rfl) hg) rfl v37 e37 (fun x => ∃ k0 : Value, x = exOf 3 k0 [exV (numV (-9223372036854775808))]) k37 (nullV, 152) rfl (by rintro x ⟨b0, rfl⟩; exact ev1 _)
      | 20, _ =>
        have hg := (hd _ rfl ⟨12, .guard⟩ (by simp) rfl).eq (.bool true) rfl 31 (by kernel_rfl) (by decide)
        have e38 := (hd _ rfl ⟨19, .data⟩ (by simp) rfl).eq (resV (nullV, 152)) rfl 38 (by kernel_rfl) (by decide)
        exact kin_ext0 rfl (wanted_some rfl (by kernel_rfl) hg) rfl _ e38 rfl
      | 21, _ =>
        have hg := (hd _ rfl ⟨12, .guard⟩ (by simp) rfl).eq (.bool true) rfl 31 (by kernel_rfl) (by decide)
        have e38 := (hd _ rfl ⟨19, .data⟩ (by simp) rfl).eq (resV (nullV, 152)) rfl 38 (by kernel_rfl) (by decide)
        exact kin_ext1 rfl (wanted_some rfl (by kernel_rfl) hg) rfl _ e38 rfl
      | 22, _ =>
        have hg := (hd _ rfl ⟨12, .guard⟩ (by simp) rfl).eq (.bool true) rfl 31 (by kernel_rfl) (by decide)
        obtain ⟨v33, k33, e33⟩ := (hd _ rfl ⟨14, .data⟩ (by simp) rfl).get (.got nullV 152) rfl 33 (by kernel_rfl) (by decide)
        have e39 := (hd _ rfl ⟨20, .data⟩ (by simp) rfl).eq (V.val nullV) rfl 39 (by kernel_rfl) (by decide)
        have e40 := (hd _ rfl ⟨21, .data⟩ (by simp) rfl).eq (.int .i64 ((152 : Nat) : Int)) rfl 40 (by kernel_rfl) (by decide)
        exact kin_yes rfl (wanted_some rfl (by kernel_rfl) hg) rfl v33 e33 nullV 152 k33 e39 e40 rfl
      | 23, _ =>
        have e31 := (hd _ rfl ⟨12, .data⟩ (by simp) rfl).eq (.bool true) rfl 31 (by kernel_rfl) (by decide)
        have e41 := (hd _ rfl ⟨22, .data⟩ (by simp) rfl).eq (.bool true) rfl 41 (by kernel_rfl) (by decide)
        exact kin_and rfl (wanted_none rfl) rfl true e31 e41 rfl
      | 24, _ =>
        have e42 := (hd _ rfl ⟨23, .data⟩ (by simp) rfl).eq (.bool true) rfl 42 (by kernel_rfl) (by decide)
        exact kin_move rfl (wanted_none rfl) rfl _ e42 rfl
      | 25, _ =>
        have hg := (hd _ rfl ⟨24, .guard⟩ (by simp) rfl).eq (.bool true) rfl 43 (by kernel_rfl) (by decide)
        have e1 : A.eval (.tmp 1) = .pointer (some ⟨w.heap.size, 0, none⟩) := hother 1 (by kernel_rfl)
        exact kin_loadV rfl (wanted_some rfl (by kernel_rfl) hg) rfl _ e1 nullV _ HBN.out hb rfl
      | 26, _ =>
        have hg := (hd _ rfl ⟨24, .guard⟩ (by simp) rfl).eq (.bool true) rfl 43 (by kernel_rfl) (by decide)
        have e44 := (hd _ rfl ⟨25, .data⟩ (by simp) rfl).eq (V.val nullV) rfl 44 (by kernel_rfl) (by decide)
        exact kin_is rfl (wanted_some rfl (by kernel_rfl) hg) rfl nullV 0 e44 rfl rfl
      | 27, _ =>
        have hg := (hd _ rfl ⟨24, .guard⟩ (by simp) rfl).eq (.bool true) rfl 43 (by kernel_rfl) (by decide)
        exact kin_number rfl (wanted_some rfl (by kernel_rfl) hg) rfl 7 rfl rfl
      | 28, _ =>
        have hg := (hd _ rfl ⟨24, .guard⟩ (by simp) rfl).eq (.bool true) rfl 43 (by kernel_rfl) (by decide)
        exact kin_number rfl (wanted_some rfl (by kernel_rfl) hg) rfl 0 rfl rfl
      | 29, _ =>
        have hg := (hd _ rfl ⟨24, .guard⟩ (by simp) rfl).eq (.bool true) rfl 43 (by kernel_rfl) (by decide)
        have e46 := (hd _ rfl ⟨27, .data⟩ (by simp) rfl).eq (V.val (numV 7)) rfl 46 (by kernel_rfl) (by decide)
        have e47 := (hd _ rfl ⟨28, .data⟩ (by simp) rfl).eq (V.val (numV 0)) rfl 47 (by kernel_rfl) (by decide)
        exact kin_two rfl (wanted_some rfl (by kernel_rfl) hg) rfl 9 (by omega) rfl (numV 7) (numV 0) e46 e47 (okV (numV 7)) (okV (numV 0)) (fun x => ∃ k0 : Value, x = exOf 9 k0 [exV (numV 7), exV (numV 0)]) rfl (fun kv => ⟨kv, rfl⟩)
      | 30, _ =>
        have hg := (hd _ rfl ⟨24, .guard⟩ (by simp) rfl).eq (.bool true) rfl 43 (by kernel_rfl) (by decide)
        obtain ⟨v48, k48, e48⟩ := (hd _ rfl ⟨29, .data⟩ (by simp) rfl).get (.ex (fun x => ∃ k0 : Value, x = exOf 9 k0 [exV (numV 7), exV (numV 0)])) rfl 48 (by kernel_rfl) (by decide)
        exact kin_eval rfl (wanted_some rfl (by kernel_rfl) hg) rfl v48 e48 (fun x => ∃ k0 : Value, x = exOf 9 k0 [exV (numV 7), exV (numV 0)]) k48 (nullV, 0) rfl (by rintro x ⟨b0, rfl⟩; exact ev2 _)
      | 31, _ =>
        have hg := (hd _ rfl ⟨24, .guard⟩ (by simp) rfl).eq (.bool true) rfl 43 (by kernel_rfl) (by decide)
        have e49 := (hd _ rfl ⟨30, .data⟩ (by simp) rfl).eq (resV (nullV, 0)) rfl 49 (by kernel_rfl) (by decide)
        exact kin_ext0 rfl (wanted_some rfl (by kernel_rfl) hg) rfl _ e49 rfl
      | 32, _ =>
        have hg := (hd _ rfl ⟨24, .guard⟩ (by simp) rfl).eq (.bool true) rfl 43 (by kernel_rfl) (by decide)
        have e49 := (hd _ rfl ⟨30, .data⟩ (by simp) rfl).eq (resV (nullV, 0)) rfl 49 (by kernel_rfl) (by decide)
        exact kin_ext1 rfl (wanted_some rfl (by kernel_rfl) hg) rfl _ e49 rfl
      | 33, _ =>
        have hg := (hd _ rfl ⟨24, .guard⟩ (by simp) rfl).eq (.bool true) rfl 43 (by kernel_rfl) (by decide)
        obtain ⟨v45, k45, e45⟩ := (hd _ rfl ⟨26, .data⟩ (by simp) rfl).get (.got nullV 0) rfl 45 (by kernel_rfl) (by decide)
        have e50 := (hd _ rfl ⟨31, .data⟩ (by simp) rfl).eq (V.val nullV) rfl 50 (by kernel_rfl) (by decide)
        have e51 := (hd _ rfl ⟨32, .data⟩ (by simp) rfl).eq (.int .i64 ((0 : Nat) : Int)) rfl 51 (by kernel_rfl) (by decide)
        exact kin_yes rfl (wanted_some rfl (by kernel_rfl) hg) rfl v45 e45 nullV 0 k45 e50 e51 rfl
      | 34, _ =>
        have e43 := (hd _ rfl ⟨24, .data⟩ (by simp) rfl).eq (.bool true) rfl 43 (by kernel_rfl) (by decide)
        have e52 := (hd _ rfl ⟨33, .data⟩ (by simp) rfl).eq (.bool true) rfl 52 (by kernel_rfl) (by decide)
        exact kin_and rfl (wanted_none rfl) rfl true e43 e52 rfl
      | 35, _ =>
        have e53 := (hd _ rfl ⟨34, .data⟩ (by simp) rfl).eq (.bool true) rfl 53 (by kernel_rfl) (by decide)
        exact kin_move rfl (wanted_none rfl) rfl _ e53 rfl
      | 36, _ =>
        have hg := (hd _ rfl ⟨35, .guard⟩ (by simp) rfl).eq (.bool true) rfl 54 (by kernel_rfl) (by decide)
        exact kin_number rfl (wanted_some rfl (by kernel_rfl) hg) rfl (-3) rfl rfl
      | 37, _ =>
        have hg := (hd _ rfl ⟨35, .guard⟩ (by simp) rfl).eq (.bool true) rfl 54 (by kernel_rfl) (by decide)
        have e55 := (hd _ rfl ⟨36, .data⟩ (by simp) rfl).eq (V.val (numV (-3))) rfl 55 (by kernel_rfl) (by decide)
        exact kin_is rfl (wanted_some rfl (by kernel_rfl) hg) rfl (numV (-3)) 0 e55 rfl rfl
      | 38, _ =>
        have hg := (hd _ rfl ⟨35, .guard⟩ (by simp) rfl).eq (.bool true) rfl 54 (by kernel_rfl) (by decide)
        exact kin_number rfl (wanted_some rfl (by kernel_rfl) hg) rfl (-7) rfl rfl
      | 39, _ =>
        have hg := (hd _ rfl ⟨35, .guard⟩ (by simp) rfl).eq (.bool true) rfl 54 (by kernel_rfl) (by decide)
        exact kin_number rfl (wanted_some rfl (by kernel_rfl) hg) rfl 2 rfl rfl
      | n + 40, hc => omega
    rcases Nat.lt_or_ge i 80 with hc | hc
    · obtain ⟨m, rfl⟩ : ∃ m, i = 40 + m := ⟨i - 40, by omega⟩
      replace hc : m < 40 := by omega
      match m, hc with
      | 0, _ =>
        have hg := (hd _ rfl ⟨35, .guard⟩ (by simp) rfl).eq (.bool true) rfl 54 (by kernel_rfl) (by decide)
        have e57 := (hd _ rfl ⟨38, .data⟩ (by simp) rfl).eq (V.val (numV (-7))) rfl 57 (by kernel_rfl) (by decide)
        have e58 := (hd _ rfl ⟨39, .data⟩ (by simp) rfl).eq (V.val (numV 2)) rfl 58 (by kernel_rfl) (by decide)
        exact kin_two rfl (wanted_some rfl (by kernel_rfl) hg) rfl 9 (by omega) rfl (numV (-7)) (numV 2) e57 e58 (okV (numV (-7))) (okV (numV 2)) (fun x => ∃ k0 : Value, x = exOf 9 k0 [exV (numV (-7)), exV (numV 2)]) rfl (fun kv => ⟨kv, rfl⟩)
      | 1, _ =>
        have hg := (hd _ rfl ⟨35, .guard⟩ (by simp) rfl).eq (.bool true) rfl 54 (by kernel_rfl) (by decide)
        obtain ⟨v59, k59, e59⟩ := (hd _ rfl ⟨40, .data⟩ (by simp) rfl).get (.ex (fun x => ∃ k0 : Value, x = exOf 9 k0 [exV (numV (-7)), exV (numV 2)])) rfl 59 (by kernel_rfl) (by decide)
        exact kin_eval rfl (wanted_some rfl (by kernel_rfl) hg) rfl v59 e59 (fun x => ∃ k0 : Value, x = exOf 9 k0 [exV (numV (-7)), exV (numV 2)]) k59 ((numV (-3)), 0) rfl (by rintro x ⟨b0, rfl⟩; exact ev3 _)
      | 2, _ =>
        have hg := (hd _ rfl ⟨35, .guard⟩ (by simp) rfl).eq (.bool true) rfl 54 (by kernel_rfl) (by decide)
        have e60 := (hd _ rfl ⟨41, .data⟩ (by simp) rfl).eq (resV ((numV (-3)), 0)) rfl 60 (by kernel_rfl) (by decide)
        exact kin_ext0 rfl (wanted_some rfl (by kernel_rfl) hg) rfl _ e60 rfl
      | 3, _ =>
        have hg := (hd _ rfl ⟨35, .guard⟩ (by simp) rfl).eq (.bool true) rfl 54 (by kernel_rfl) (by decide)
        have e60 := (hd _ rfl ⟨41, .data⟩ (by simp) rfl).eq (resV ((numV (-3)), 0)) rfl 60 (by kernel_rfl) (by decide)
        exact kin_ext1 rfl (wanted_some rfl (by kernel_rfl) hg) rfl _ e60 rfl
      | 4, _ =>
        have hg := (hd _ rfl ⟨35, .guard⟩ (by simp) rfl).eq (.bool true) rfl 54 (by kernel_rfl) (by decide)
        obtain ⟨v56, k56, e56⟩ := (hd _ rfl ⟨37, .data⟩ (by simp) rfl).get (.got (numV (-3)) 0) rfl 56 (by kernel_rfl) (by decide)
        have e61 := (hd _ rfl ⟨42, .data⟩ (by simp) rfl).eq (V.val (numV (-3))) rfl 61 (by kernel_rfl) (by decide)
        have e62 := (hd _ rfl ⟨43, .data⟩ (by simp) rfl).eq (.int .i64 ((0 : Nat) : Int)) rfl 62 (by kernel_rfl) (by decide)
        exact kin_yes rfl (wanted_some rfl (by kernel_rfl) hg) rfl v56 e56 (numV (-3)) 0 k56 e61 e62 rfl
      | 5, _ =>
        have e54 := (hd _ rfl ⟨35, .data⟩ (by simp) rfl).eq (.bool true) rfl 54 (by kernel_rfl) (by decide)
        have e63 := (hd _ rfl ⟨44, .data⟩ (by simp) rfl).eq (.bool true) rfl 63 (by kernel_rfl) (by decide)
        exact kin_and rfl (wanted_none rfl) rfl true e54 e63 rfl
      | 6, _ =>
        have e64 := (hd _ rfl ⟨45, .data⟩ (by simp) rfl).eq (.bool true) rfl 64 (by kernel_rfl) (by decide)
        exact kin_move rfl (wanted_none rfl) rfl _ e64 rfl
      | 7, _ =>
        have hg := (hd _ rfl ⟨46, .guard⟩ (by simp) rfl).eq (.bool true) rfl 65 (by kernel_rfl) (by decide)
        exact kin_number rfl (wanted_some rfl (by kernel_rfl) hg) rfl (-1) rfl rfl
      | 8, _ =>
        have hg := (hd _ rfl ⟨46, .guard⟩ (by simp) rfl).eq (.bool true) rfl 65 (by kernel_rfl) (by decide)
        have e66 := (hd _ rfl ⟨47, .data⟩ (by simp) rfl).eq (V.val (numV (-1))) rfl 66 (by kernel_rfl) (by decide)
        exact kin_is rfl (wanted_some rfl (by kernel_rfl) hg) rfl (numV (-1)) 0 e66 rfl rfl
      | 9, _ =>
        have hg := (hd _ rfl ⟨46, .guard⟩ (by simp) rfl).eq (.bool true) rfl 65 (by kernel_rfl) (by decide)
        exact kin_number rfl (wanted_some rfl (by kernel_rfl) hg) rfl (-7) rfl rfl
      | 10, _ =>
        have hg := (hd _ rfl ⟨46, .guard⟩ (by simp) rfl).eq (.bool true) rfl 65 (by kernel_rfl) (by decide)
        exact kin_number rfl (wanted_some rfl (by kernel_rfl) hg) rfl 2 rfl rfl
      | 11, _ =>
        have hg := (hd _ rfl ⟨46, .guard⟩ (by simp) rfl).eq (.bool true) rfl 65 (by kernel_rfl) (by decide)
        have e68 := (hd _ rfl ⟨49, .data⟩ (by simp) rfl).eq (V.val (numV (-7))) rfl 68 (by kernel_rfl) (by decide)
        have e69 := (hd _ rfl ⟨50, .data⟩ (by simp) rfl).eq (V.val (numV 2)) rfl 69 (by kernel_rfl) (by decide)
        exact kin_two rfl (wanted_some rfl (by kernel_rfl) hg) rfl 10 (by omega) rfl (numV (-7)) (numV 2) e68 e69 (okV (numV (-7))) (okV (numV 2)) (fun x => ∃ k0 : Value, x = exOf 10 k0 [exV (numV (-7)), exV (numV 2)]) rfl (fun kv => ⟨kv, rfl⟩)
      | 12, _ =>
        have hg := (hd _ rfl ⟨46, .guard⟩ (by simp) rfl).eq (.bool true) rfl 65 (by kernel_rfl) (by decide)
        obtain ⟨v70, k70, e70⟩ := (hd _ rfl ⟨51, .data⟩ (by simp) rfl).get (.ex (fun x => ∃ k0 : Value, x = exOf 10 k0 [exV (numV (-7)), exV (numV 2)])) rfl 70 (by kernel_rfl) (by decide)
        exact kin_eval rfl (wanted_some rfl (by kernel_rfl) hg) rfl v70 e70 (fun x => ∃ k0 : Value, x = exOf 10 k0 [exV (numV (-7)), exV (numV 2)]) k70 ((numV (-1)), 0) rfl (by rintro x ⟨b0, rfl⟩; exact ev4 _)
      | 13, _ =>
        have hg := (hd _ rfl ⟨46, .guard⟩ (by simp) rfl).eq (.bool true) rfl 65 (by kernel_rfl) (by decide)
        have e71 := (hd _ rfl ⟨52, .data⟩ (by simp) rfl).eq (resV ((numV (-1)), 0)) rfl 71 (by kernel_rfl) (by decide)
        exact kin_ext0 rfl (wanted_some rfl (by kernel_rfl) hg) rfl _ e71 rfl
      | 14, _ =>
        have hg := (hd _ rfl ⟨46, .guard⟩ (by simp) rfl).eq (.bool true) rfl 65 (by kernel_rfl) (by decide)
        have e71 := (hd _ rfl ⟨52, .data⟩ (by simp) rfl).eq (resV ((numV (-1)), 0)) rfl 71 (by kernel_rfl) (by decide)
        exact kin_ext1 rfl (wanted_some rfl (by kernel_rfl) hg) rfl _ e71 rfl
      | 15, _ =>
        have hg := (hd _ rfl ⟨46, .guard⟩ (by simp) rfl).eq (.bool true) rfl 65 (by kernel_rfl) (by decide)
        obtain ⟨v67, k67, e67⟩ := (hd _ rfl ⟨48, .data⟩ (by simp) rfl).get (.got (numV (-1)) 0) rfl 67 (by kernel_rfl) (by decide)
        have e72 := (hd _ rfl ⟨53, .data⟩ (by simp) rfl).eq (V.val (numV (-1))) rfl 72 (by kernel_rfl) (by decide)
        have e73 := (hd _ rfl ⟨54, .data⟩ (by simp) rfl).eq (.int .i64 ((0 : Nat) : Int)) rfl 73 (by kernel_rfl) (by decide)
        exact kin_yes rfl (wanted_some rfl (by kernel_rfl) hg) rfl v67 e67 (numV (-1)) 0 k67 e72 e73 rfl
      | 16, _ =>
        have e65 := (hd _ rfl ⟨46, .data⟩ (by simp) rfl).eq (.bool true) rfl 65 (by kernel_rfl) (by decide)
        have e74 := (hd _ rfl ⟨55, .data⟩ (by simp) rfl).eq (.bool true) rfl 74 (by kernel_rfl) (by decide)
        exact kin_and rfl (wanted_none rfl) rfl true e65 e74 rfl
      | 17, _ =>
        have e75 := (hd _ rfl ⟨56, .data⟩ (by simp) rfl).eq (.bool true) rfl 75 (by kernel_rfl) (by decide)
        exact kin_move rfl (wanted_none rfl) rfl _ e75 rfl
      | 18, _ =>
        have hg := (hd _ rfl ⟨57, .guard⟩ (by simp) rfl).eq (.bool true) rfl 76 (by kernel_rfl) (by decide)
        exact kin_number rfl (wanted_some rfl (by kernel_rfl) hg) rfl 0 rfl rfl
      | 19, _ =>
        have hg := (hd _ rfl ⟨57, .guard⟩ (by simp) rfl).eq (.bool true) rfl 76 (by kernel_rfl) (by decide)
        have e77 := (hd _ rfl ⟨58, .data⟩ (by simp) rfl).eq (V.val (numV 0)) rfl 77 (by kernel_rfl) (by decide)
        exact kin_is rfl (wanted_some rfl (by kernel_rfl) hg) rfl (numV 0) 0 e77 rfl rfl
      | 20, _ =>
        have hg := (hd _ rfl ⟨57, .guard⟩ (by simp) rfl).eq (.bool true) rfl 76 (by kernel_rfl) (by decide)
        exact kin_number rfl (wanted_some rfl (by kernel_rfl) hg) rfl 0 rfl rfl
      | 21, _ =>
        have hg := (hd _ rfl ⟨57, .guard⟩ (by simp) rfl).eq (.bool true) rfl 76 (by kernel_rfl) (by decide)
        have e1 : A.eval (.tmp 1) = .pointer (some ⟨w.heap.size, 0, none⟩) := hother 1 (by kernel_rfl)
        exact kin_loadV rfl (wanted_some rfl (by kernel_rfl) hg) rfl _ e1 nullV _ HBN.out hb rfl
      | 22, _ =>
        have hg := (hd _ rfl ⟨57, .guard⟩ (by simp) rfl).eq (.bool true) rfl 76 (by kernel_rfl) (by decide)
        have e79 := (hd _ rfl ⟨60, .data⟩ (by simp) rfl).eq (V.val (numV 0)) rfl 79 (by kernel_rfl) (by decide)
        have e80 := (hd _ rfl ⟨61, .data⟩ (by simp) rfl).eq (V.val nullV) rfl 80 (by kernel_rfl) (by decide)
        exact kin_two rfl (wanted_some rfl (by kernel_rfl) hg) rfl 18 (by omega) rfl (numV 0) nullV e79 e80 (okV (numV 0)) (okV nullV) (fun x => ∃ k0 : Value, x = exOf 18 k0 [exV (numV 0), exV nullV]) rfl (fun kv => ⟨kv, rfl⟩)
      | 23, _ =>
        have hg := (hd _ rfl ⟨57, .guard⟩ (by simp) rfl).eq (.bool true) rfl 76 (by kernel_rfl) (by decide)
        obtain ⟨v81, k81, e81⟩ := (hd _ rfl ⟨62, .data⟩ (by simp) rfl).get (.ex (fun x => ∃ k0 : Value, x = exOf 18 k0 [exV (numV 0), exV nullV])) rfl 81 (by kernel_rfl) (by decide)
        exact kin_eval rfl (wanted_some rfl (by kernel_rfl) hg) rfl v81 e81 (fun x => ∃ k0 : Value, x = exOf 18 k0 [exV (numV 0), exV nullV]) k81 ((numV 0), 0) rfl (by rintro x ⟨b0, rfl⟩; exact ev5 _)
      | 24, _ =>
        have hg := (hd _ rfl ⟨57, .guard⟩ (by simp) rfl).eq (.bool true) rfl 76 (by kernel_rfl) (by decide)
        have e82 := (hd _ rfl ⟨63, .data⟩ (by simp) rfl).eq (resV ((numV 0), 0)) rfl 82 (by kernel_rfl) (by decide)
        exact kin_ext0 rfl (wanted_some rfl (by kernel_rfl) hg) rfl _ e82 rfl
      | 25, _ =>
        have hg := (hd _ rfl ⟨57, .guard⟩ (by simp) rfl).eq (.bool true) rfl 76 (by kernel_rfl) (by decide)
        have e82 := (hd _ rfl ⟨63, .data⟩ (by simp) rfl).eq (resV ((numV 0), 0)) rfl 82 (by kernel_rfl) (by decide)
        exact kin_ext1 rfl (wanted_some rfl (by kernel_rfl) hg) rfl _ e82 rfl
      | 26, _ =>
        have hg := (hd _ rfl ⟨57, .guard⟩ (by simp) rfl).eq (.bool true) rfl 76 (by kernel_rfl) (by decide)
        obtain ⟨v78, k78, e78⟩ := (hd _ rfl ⟨59, .data⟩ (by simp) rfl).get (.got (numV 0) 0) rfl 78 (by kernel_rfl) (by decide)
        have e83 := (hd _ rfl ⟨64, .data⟩ (by simp) rfl).eq (V.val (numV 0)) rfl 83 (by kernel_rfl) (by decide)
        have e84 := (hd _ rfl ⟨65, .data⟩ (by simp) rfl).eq (.int .i64 ((0 : Nat) : Int)) rfl 84 (by kernel_rfl) (by decide)
        exact kin_yes rfl (wanted_some rfl (by kernel_rfl) hg) rfl v78 e78 (numV 0) 0 k78 e83 e84 rfl
      | 27, _ =>
        have e76 := (hd _ rfl ⟨57, .data⟩ (by simp) rfl).eq (.bool true) rfl 76 (by kernel_rfl) (by decide)
        have e85 := (hd _ rfl ⟨66, .data⟩ (by simp) rfl).eq (.bool true) rfl 85 (by kernel_rfl) (by decide)
        exact kin_and rfl (wanted_none rfl) rfl true e76 e85 rfl
      | 28, _ =>
        have e86 := (hd _ rfl ⟨67, .data⟩ (by simp) rfl).eq (.bool true) rfl 86 (by kernel_rfl) (by decide)
        exact kin_move rfl (wanted_none rfl) rfl _ e86 rfl
      | 29, _ =>
        have hg := (hd _ rfl ⟨68, .guard⟩ (by simp) rfl).eq (.bool true) rfl 87 (by kernel_rfl) (by decide)
        have e1 : A.eval (.tmp 1) = .pointer (some ⟨w.heap.size, 0, none⟩) := hother 1 (by kernel_rfl)
        exact kin_loadV rfl (wanted_some rfl (by kernel_rfl) hg) rfl _ e1 nullV _ HBN.out hb rfl
      | 30, _ =>
        have hg := (hd _ rfl ⟨68, .guard⟩ (by simp) rfl).eq (.bool true) rfl 87 (by kernel_rfl) (by decide)
        have e88 := (hd _ rfl ⟨69, .data⟩ (by simp) rfl).eq (V.val nullV) rfl 88 (by kernel_rfl) (by decide)
        exact kin_is rfl (wanted_some rfl (by kernel_rfl) hg) rfl nullV 0 e88 rfl rfl
      | 31, _ =>
        have hg := (hd _ rfl ⟨68, .guard⟩ (by simp) rfl).eq (.bool true) rfl 87 (by kernel_rfl) (by decide)
        exact kin_number rfl (wanted_some rfl (by kernel_rfl) hg) rfl 1 rfl rfl
      | 32, _ =>
        have hg := (hd _ rfl ⟨68, .guard⟩ (by simp) rfl).eq (.bool true) rfl 87 (by kernel_rfl) (by decide)
        have e1 : A.eval (.tmp 1) = .pointer (some ⟨w.heap.size, 0, none⟩) := hother 1 (by kernel_rfl)
        exact kin_loadV rfl (wanted_some rfl (by kernel_rfl) hg) rfl _ e1 nullV _ HBN.out hb rfl
      | 33, _ =>
        have hg := (hd _ rfl ⟨68, .guard⟩ (by simp) rfl).eq (.bool true) rfl 87 (by kernel_rfl) (by decide)
        have e90 := (hd _ rfl ⟨71, .data⟩ (by simp) rfl).eq (V.val (numV 1)) rfl 90 (by kernel_rfl) (by decide)
        have e91 := (hd _ rfl ⟨72, .data⟩ (by simp) rfl).eq (V.val nullV) rfl 91 (by kernel_rfl) (by decide)
        exact kin_two rfl (wanted_some rfl (by kernel_rfl) hg) rfl 18 (by omega) rfl (numV 1) nullV e90 e91 (okV (numV 1)) (okV nullV) (fun x => ∃ k0 : Value, x = exOf 18 k0 [exV (numV 1), exV nullV]) rfl (fun kv => ⟨kv, rfl⟩)
      | 34, _ =>
        have hg := (hd _ rfl ⟨68, .guard⟩ (by simp) rfl).eq (.bool true) rfl 87 (by kernel_rfl) (by decide)
        obtain ⟨v92, k92, e92⟩ := (hd _ rfl ⟨73, .data⟩ (by simp) rfl).get (.ex (fun x => ∃ k0 : Value, x = exOf 18 k0 [exV (numV 1), exV nullV])) rfl 92 (by kernel_rfl) (by decide)
        exact kin_eval rfl (wanted_some rfl (by kernel_rfl) hg) rfl v92 e92 (fun x => ∃ k0 : Value, x = exOf 18 k0 [exV (numV 1), exV nullV]) k92 (nullV, 0) rfl (by rintro x ⟨b0, rfl⟩; exact ev6 _)
      | 35, _ =>
        have hg := (hd _ rfl ⟨68, .guard⟩ (by simp) rfl).eq (.bool true) rfl 87 (by kernel_rfl) (by decide)
        have e93 := (hd _ rfl ⟨74, .data⟩ (by simp) rfl).eq (resV (nullV, 0)) rfl 93 (by kernel_rfl) (by decide)
        exact kin_ext0 rfl (wanted_some rfl (by kernel_rfl) hg) rfl _ e93 rfl
      | 36, _ =>
        have hg := (hd _ rfl ⟨68, .guard⟩ (by simp) rfl).eq (.bool true) rfl 87 (by kernel_rfl) (by decide)
        have e93 := (hd _ rfl ⟨74, .data⟩ (by simp) rfl).eq (resV (nullV, 0)) rfl 93 (by kernel_rfl) (by decide)
        exact kin_ext1 rfl (wanted_some rfl (by kernel_rfl) hg) rfl _ e93 rfl
      | 37, _ =>
        have hg := (hd _ rfl ⟨68, .guard⟩ (by simp) rfl).eq (.bool true) rfl 87 (by kernel_rfl) (by decide)
        obtain ⟨v89, k89, e89⟩ := (hd _ rfl ⟨70, .data⟩ (by simp) rfl).get (.got nullV 0) rfl 89 (by kernel_rfl) (by decide)
        have e94 := (hd _ rfl ⟨75, .data⟩ (by simp) rfl).eq (V.val nullV) rfl 94 (by kernel_rfl) (by decide)
        have e95 := (hd _ rfl ⟨76, .data⟩ (by simp) rfl).eq (.int .i64 ((0 : Nat) : Int)) rfl 95 (by kernel_rfl) (by decide)
        exact kin_yes rfl (wanted_some rfl (by kernel_rfl) hg) rfl v89 e89 nullV 0 k89 e94 e95 rfl
      | 38, _ =>
        have e87 := (hd _ rfl ⟨68, .data⟩ (by simp) rfl).eq (.bool true) rfl 87 (by kernel_rfl) (by decide)
        have e96 := (hd _ rfl ⟨77, .data⟩ (by simp) rfl).eq (.bool true) rfl 96 (by kernel_rfl) (by decide)
        exact kin_and rfl (wanted_none rfl) rfl true e87 e96 rfl
      | 39, _ =>
        have e97 := (hd _ rfl ⟨78, .data⟩ (by simp) rfl).eq (.bool true) rfl 97 (by kernel_rfl) (by decide)
        exact kin_move rfl (wanted_none rfl) rfl _ e97 rfl
      | n + 40, hc => omega
    rcases Nat.lt_or_ge i 120 with hc | hc
    · obtain ⟨m, rfl⟩ : ∃ m, i = 80 + m := ⟨i - 80, by omega⟩
      replace hc : m < 40 := by omega
      match m, hc with
      | 0, _ =>
        have hg := (hd _ rfl ⟨79, .guard⟩ (by simp) rfl).eq (.bool true) rfl 98 (by kernel_rfl) (by decide)
        exact kin_number rfl (wanted_some rfl (by kernel_rfl) hg) rfl 1 rfl rfl
      | 1, _ =>
        have hg := (hd _ rfl ⟨79, .guard⟩ (by simp) rfl).eq (.bool true) rfl 98 (by kernel_rfl) (by decide)
        have e99 := (hd _ rfl ⟨80, .data⟩ (by simp) rfl).eq (V.val (numV 1)) rfl 99 (by kernel_rfl) (by decide)
        exact kin_is rfl (wanted_some rfl (by kernel_rfl) hg) rfl (numV 1) 0 e99 rfl rfl
      | 2, _ =>
        have hg := (hd _ rfl ⟨79, .guard⟩ (by simp) rfl).eq (.bool true) rfl 98 (by kernel_rfl) (by decide)
        exact kin_number rfl (wanted_some rfl (by kernel_rfl) hg) rfl 1 rfl rfl
      | 3, _ =>
        have hg := (hd _ rfl ⟨79, .guard⟩ (by simp) rfl).eq (.bool true) rfl 98 (by kernel_rfl) (by decide)
        have e1 : A.eval (.tmp 1) = .pointer (some ⟨w.heap.size, 0, none⟩) := hother 1 (by kernel_rfl)
        exact kin_loadV rfl (wanted_some rfl (by kernel_rfl) hg) rfl _ e1 nullV _ HBN.out hb rfl
      | 4, _ =>
        have hg := (hd _ rfl ⟨79, .guard⟩ (by simp) rfl).eq (.bool true) rfl 98 (by kernel_rfl) (by decide)
        have e101 := (hd _ rfl ⟨82, .data⟩ (by simp) rfl).eq (V.val (numV 1)) rfl 101 (by kernel_rfl) (by decide)
        have e102 := (hd _ rfl ⟨83, .data⟩ (by simp) rfl).eq (V.val nullV) rfl 102 (by kernel_rfl) (by decide)
        exact kin_two rfl (wanted_some rfl (by kernel_rfl) hg) rfl 19 (by omega) rfl (numV 1) nullV e101 e102 (okV (numV 1)) (okV nullV) (fun x => ∃ k0 : Value, x = exOf 19 k0 [exV (numV 1), exV nullV]) rfl (fun kv => ⟨kv, rfl⟩)
      | 5, _ =>
        have hg := (hd _ rfl ⟨79, .guard⟩ (by simp) rfl).eq (.bool true) rfl 98 (by kernel_rfl) (by decide)
        obtain ⟨v103, k103, e103⟩ := (hd _ rfl ⟨84, .data⟩ (by simp) rfl).get (.ex (fun x => ∃ k0 : Value, x = exOf 19 k0 [exV (numV 1), exV nullV])) rfl 103 (by kernel_rfl) (by decide)
        exact kin_eval rfl (wanted_some rfl (by kernel_rfl) hg) rfl v103 e103 (fun x => ∃ k0 : Value, x = exOf 19 k0 [exV (numV 1), exV nullV]) k103 ((numV 1), 0) rfl (by rintro x ⟨b0, rfl⟩; exact ev7 _)
      | 6, _ =>
        have hg := (hd _ rfl ⟨79, .guard⟩ (by simp) rfl).eq (.bool true) rfl 98 (by kernel_rfl) (by decide)
        have e104 := (hd _ rfl ⟨85, .data⟩ (by simp) rfl).eq (resV ((numV 1), 0)) rfl 104 (by kernel_rfl) (by decide)
        exact kin_ext0 rfl (wanted_some rfl (by kernel_rfl) hg) rfl _ e104 rfl
      | 7, _ =>
        have hg := (hd _ rfl ⟨79, .guard⟩ (by simp) rfl).eq (.bool true) rfl 98 (by kernel_rfl) (by decide)
        have e104 := (hd _ rfl ⟨85, .data⟩ (by simp) rfl).eq (resV ((numV 1), 0)) rfl 104 (by kernel_rfl) (by decide)
        exact kin_ext1 rfl (wanted_some rfl (by kernel_rfl) hg) rfl _ e104 rfl
      | 8, _ =>
        have hg := (hd _ rfl ⟨79, .guard⟩ (by simp) rfl).eq (.bool true) rfl 98 (by kernel_rfl) (by decide)
        obtain ⟨v100, k100, e100⟩ := (hd _ rfl ⟨81, .data⟩ (by simp) rfl).get (.got (numV 1) 0) rfl 100 (by kernel_rfl) (by decide)
        have e105 := (hd _ rfl ⟨86, .data⟩ (by simp) rfl).eq (V.val (numV 1)) rfl 105 (by kernel_rfl) (by decide)
        have e106 := (hd _ rfl ⟨87, .data⟩ (by simp) rfl).eq (.int .i64 ((0 : Nat) : Int)) rfl 106 (by kernel_rfl) (by decide)
        exact kin_yes rfl (wanted_some rfl (by kernel_rfl) hg) rfl v100 e100 (numV 1) 0 k100 e105 e106 rfl
      | 9, _ =>
        have e98 := (hd _ rfl ⟨79, .data⟩ (by simp) rfl).eq (.bool true) rfl 98 (by kernel_rfl) (by decide)
        have e107 := (hd _ rfl ⟨88, .data⟩ (by simp) rfl).eq (.bool true) rfl 107 (by kernel_rfl) (by decide)
        exact kin_and rfl (wanted_none rfl) rfl true e98 e107 rfl
      | 10, _ =>
        have e108 := (hd _ rfl ⟨89, .data⟩ (by simp) rfl).eq (.bool true) rfl 108 (by kernel_rfl) (by decide)
        exact kin_move rfl (wanted_none rfl) rfl _ e108 rfl
      | 11, _ =>
        have hg := (hd _ rfl ⟨90, .guard⟩ (by simp) rfl).eq (.bool true) rfl 109 (by kernel_rfl) (by decide)
        have e1 : A.eval (.tmp 1) = .pointer (some ⟨w.heap.size, 0, none⟩) := hother 1 (by kernel_rfl)
        exact kin_loadV rfl (wanted_some rfl (by kernel_rfl) hg) rfl _ e1 nullV _ HBN.out hb rfl
      | 12, _ =>
        have hg := (hd _ rfl ⟨90, .guard⟩ (by simp) rfl).eq (.bool true) rfl 109 (by kernel_rfl) (by decide)
        have e110 := (hd _ rfl ⟨91, .data⟩ (by simp) rfl).eq (V.val nullV) rfl 110 (by kernel_rfl) (by decide)
        exact kin_is rfl (wanted_some rfl (by kernel_rfl) hg) rfl nullV 0 e110 rfl rfl
      | 13, _ =>
        have hg := (hd _ rfl ⟨90, .guard⟩ (by simp) rfl).eq (.bool true) rfl 109 (by kernel_rfl) (by decide)
        have e1 : A.eval (.tmp 1) = .pointer (some ⟨w.heap.size, 0, none⟩) := hother 1 (by kernel_rfl)
        exact kin_loadV rfl (wanted_some rfl (by kernel_rfl) hg) rfl _ e1 nullV _ HBN.out hb rfl
      | 14, _ =>
        have hg := (hd _ rfl ⟨90, .guard⟩ (by simp) rfl).eq (.bool true) rfl 109 (by kernel_rfl) (by decide)
        have e112 := (hd _ rfl ⟨93, .data⟩ (by simp) rfl).eq (V.val nullV) rfl 112 (by kernel_rfl) (by decide)
        exact kin_with rfl (wanted_some rfl (by kernel_rfl) hg) rfl nullV e112 rfl
      | 15, _ =>
        have hg := (hd _ rfl ⟨90, .guard⟩ (by simp) rfl).eq (.bool true) rfl 109 (by kernel_rfl) (by decide)
        have e113 := (hd _ rfl ⟨94, .data⟩ (by simp) rfl).eq (Ex.val (exV nullV)) rfl 113 (by kernel_rfl) (by decide)
        have o113 : (exV nullV).Ok := exV_ok (okV nullV)
        exact kin_kids1 rfl (wanted_some rfl (by kernel_rfl) hg) rfl (exV nullV) e113 (exV_in nullV w1) o113 (fun ks => ks = [exV nullV]) rfl (rfl)
      | 16, _ =>
        have hg := (hd _ rfl ⟨90, .guard⟩ (by simp) rfl).eq (.bool true) rfl 109 (by kernel_rfl) (by decide)
        obtain ⟨v114, k114, e114⟩ := (hd _ rfl ⟨95, .data⟩ (by simp) rfl).get (.kids (fun ks => ks = [exV nullV])) rfl 114 (by kernel_rfl) (by decide)
        exact kin_of rfl (wanted_some rfl (by kernel_rfl) hg) rfl 4 (by omega) rfl v114 e114 (fun ks => ks = [exV nullV]) k114 (fun x => ∃ k0 : Value, x = exOf 4 k0 [exV nullV]) rfl (fun kv ks h => ⟨kv, by rw [h]⟩)
      | 17, _ =>
        have hg := (hd _ rfl ⟨90, .guard⟩ (by simp) rfl).eq (.bool true) rfl 109 (by kernel_rfl) (by decide)
        obtain ⟨v115, k115, e115⟩ := (hd _ rfl ⟨96, .data⟩ (by simp) rfl).get (.ex (fun x => ∃ k0 : Value, x = exOf 4 k0 [exV nullV])) rfl 115 (by kernel_rfl) (by decide)
        exact kin_eval rfl (wanted_some rfl (by kernel_rfl) hg) rfl v115 e115 (fun x => ∃ k0 : Value, x = exOf 4 k0 [exV nullV]) k115 (nullV, 0) rfl (by rintro x ⟨b0, rfl⟩; exact ev8 _)
      | 18, _ =>
        have hg := (hd _ rfl ⟨90, .guard⟩ (by simp) rfl).eq (.bool true) rfl 109 (by kernel_rfl) (by decide)
        have e116 := (hd _ rfl ⟨97, .data⟩ (by simp) rfl).eq (resV (nullV, 0)) rfl 116 (by kernel_rfl) (by decide)
        exact kin_ext0 rfl (wanted_some rfl (by kernel_rfl) hg) rfl _ e116 rfl
      | 19, _ =>
        have hg := (hd _ rfl ⟨90, .guard⟩ (by simp) rfl).eq (.bool true) rfl 109 (by kernel_rfl) (by decide)
        have e116 := (hd _ rfl ⟨97, .data⟩ (by simp) rfl).eq (resV (nullV, 0)) rfl 116 (by kernel_rfl) (by decide)
        exact kin_ext1 rfl (wanted_some rfl (by kernel_rfl) hg) rfl _ e116 rfl
      | 20, _ =>
        have hg := (hd _ rfl ⟨90, .guard⟩ (by simp) rfl).eq (.bool true) rfl 109 (by kernel_rfl) (by decide)
        obtain ⟨v111, k111, e111⟩ := (hd _ rfl ⟨92, .data⟩ (by simp) rfl).get (.got nullV 0) rfl 111 (by kernel_rfl) (by decide)
        have e117 := (hd _ rfl ⟨98, .data⟩ (by simp) rfl).eq (V.val nullV) rfl 117 (by kernel_rfl) (by decide)
        have e118 := (hd _ rfl ⟨99, .data⟩ (by simp) rfl).eq (.int .i64 ((0 : Nat) : Int)) rfl 118 (by kernel_rfl) (by decide)
        exact kin_yes rfl (wanted_some rfl (by kernel_rfl) hg) rfl v111 e111 nullV 0 k111 e117 e118 rfl
      | 21, _ =>
        have e109 := (hd _ rfl ⟨90, .data⟩ (by simp) rfl).eq (.bool true) rfl 109 (by kernel_rfl) (by decide)
        have e119 := (hd _ rfl ⟨100, .data⟩ (by simp) rfl).eq (.bool true) rfl 119 (by kernel_rfl) (by decide)
        exact kin_and rfl (wanted_none rfl) rfl true e109 e119 rfl
      | 22, _ =>
        have e120 := (hd _ rfl ⟨101, .data⟩ (by simp) rfl).eq (.bool true) rfl 120 (by kernel_rfl) (by decide)
        exact kin_move rfl (wanted_none rfl) rfl _ e120 rfl
      | 23, _ =>
        have hg := (hd _ rfl ⟨102, .guard⟩ (by simp) rfl).eq (.bool true) rfl 121 (by kernel_rfl) (by decide)
        have e1 : A.eval (.tmp 1) = .pointer (some ⟨w.heap.size, 0, none⟩) := hother 1 (by kernel_rfl)
        exact kin_loadV rfl (wanted_some rfl (by kernel_rfl) hg) rfl _ e1 nullV _ HBN.out hb rfl
      | 24, _ =>
        have hg := (hd _ rfl ⟨102, .guard⟩ (by simp) rfl).eq (.bool true) rfl 121 (by kernel_rfl) (by decide)
        have e122 := (hd _ rfl ⟨103, .data⟩ (by simp) rfl).eq (V.val nullV) rfl 122 (by kernel_rfl) (by decide)
        exact kin_is rfl (wanted_some rfl (by kernel_rfl) hg) rfl nullV 150 e122 rfl rfl
      | 25, _ =>
        have hg := (hd _ rfl ⟨102, .guard⟩ (by simp) rfl).eq (.bool true) rfl 121 (by kernel_rfl) (by decide)
        exact kin_number rfl (wanted_some rfl (by kernel_rfl) hg) rfl 1 rfl rfl
      | 26, _ =>
        have hg := (hd _ rfl ⟨102, .guard⟩ (by simp) rfl).eq (.bool true) rfl 121 (by kernel_rfl) (by decide)
        exact kin_text rfl (wanted_some rfl (by kernel_rfl) hg) rfl ⟨#[97]⟩ rfl rfl
      | 27, _ =>
        have hg := (hd _ rfl ⟨102, .guard⟩ (by simp) rfl).eq (.bool true) rfl 121 (by kernel_rfl) (by decide)
        have e124 := (hd _ rfl ⟨105, .data⟩ (by simp) rfl).eq (V.val (numV 1)) rfl 124 (by kernel_rfl) (by decide)
        have e125 := (hd _ rfl ⟨106, .data⟩ (by simp) rfl).eq (V.val (V.mk 2 0 ⟨#[97]⟩)) rfl 125 (by kernel_rfl) (by decide)
        exact kin_two rfl (wanted_some rfl (by kernel_rfl) hg) rfl 12 (by omega) rfl (numV 1) (V.mk 2 0 ⟨#[97]⟩) e124 e125 (okV (numV 1)) (okV (V.mk 2 0 ⟨#[97]⟩)) (fun x => ∃ k0 : Value, x = exOf 12 k0 [exV (numV 1), exV (V.mk 2 0 ⟨#[97]⟩)]) rfl (fun kv => ⟨kv, rfl⟩)
      | 28, _ =>
        have hg := (hd _ rfl ⟨102, .guard⟩ (by simp) rfl).eq (.bool true) rfl 121 (by kernel_rfl) (by decide)
        obtain ⟨v126, k126, e126⟩ := (hd _ rfl ⟨107, .data⟩ (by simp) rfl).get (.ex (fun x => ∃ k0 : Value, x = exOf 12 k0 [exV (numV 1), exV (V.mk 2 0 ⟨#[97]⟩)])) rfl 126 (by kernel_rfl) (by decide)
        exact kin_eval rfl (wanted_some rfl (by kernel_rfl) hg) rfl v126 e126 (fun x => ∃ k0 : Value, x = exOf 12 k0 [exV (numV 1), exV (V.mk 2 0 ⟨#[97]⟩)]) k126 (nullV, 150) rfl (by rintro x ⟨b0, rfl⟩; exact ev9 _)
      | 29, _ =>
        have hg := (hd _ rfl ⟨102, .guard⟩ (by simp) rfl).eq (.bool true) rfl 121 (by kernel_rfl) (by decide)
        have e127 := (hd _ rfl ⟨108, .data⟩ (by simp) rfl).eq (resV (nullV, 150)) rfl 127 (by kernel_rfl) (by decide)
        exact kin_ext0 rfl (wanted_some rfl (by kernel_rfl) hg) rfl _ e127 rfl
      | 30, _ =>
        have hg := (hd _ rfl ⟨102, .guard⟩ (by simp) rfl).eq (.bool true) rfl 121 (by kernel_rfl) (by decide)
        have e127 := (hd _ rfl ⟨108, .data⟩ (by simp) rfl).eq (resV (nullV, 150)) rfl 127 (by kernel_rfl) (by decide)
        exact kin_ext1 rfl (wanted_some rfl (by kernel_rfl) hg) rfl _ e127 rfl
      | 31, _ =>
        have hg := (hd _ rfl ⟨102, .guard⟩ (by simp) rfl).eq (.bool true) rfl 121 (by kernel_rfl) (by decide)
        obtain ⟨v123, k123, e123⟩ := (hd _ rfl ⟨104, .data⟩ (by simp) rfl).get (.got nullV 150) rfl 123 (by kernel_rfl) (by decide)
        have e128 := (hd _ rfl ⟨109, .data⟩ (by simp) rfl).eq (V.val nullV) rfl 128 (by kernel_rfl) (by decide)
        have e129 := (hd _ rfl ⟨110, .data⟩ (by simp) rfl).eq (.int .i64 ((150 : Nat) : Int)) rfl 129 (by kernel_rfl) (by decide)
        exact kin_yes rfl (wanted_some rfl (by kernel_rfl) hg) rfl v123 e123 nullV 150 k123 e128 e129 rfl
      | 32, _ =>
        have e121 := (hd _ rfl ⟨102, .data⟩ (by simp) rfl).eq (.bool true) rfl 121 (by kernel_rfl) (by decide)
        have e130 := (hd _ rfl ⟨111, .data⟩ (by simp) rfl).eq (.bool true) rfl 130 (by kernel_rfl) (by decide)
        exact kin_and rfl (wanted_none rfl) rfl true e121 e130 rfl
      | 33, _ =>
        have e131 := (hd _ rfl ⟨112, .data⟩ (by simp) rfl).eq (.bool true) rfl 131 (by kernel_rfl) (by decide)
        exact kin_move rfl (wanted_none rfl) rfl _ e131 rfl
      | 34, _ =>
        have hg := (hd _ rfl ⟨113, .guard⟩ (by simp) rfl).eq (.bool true) rfl 132 (by kernel_rfl) (by decide)
        exact kin_number rfl (wanted_some rfl (by kernel_rfl) hg) rfl 1 rfl rfl
      | 35, _ =>
        have hg := (hd _ rfl ⟨113, .guard⟩ (by simp) rfl).eq (.bool true) rfl 132 (by kernel_rfl) (by decide)
        have e133 := (hd _ rfl ⟨114, .data⟩ (by simp) rfl).eq (V.val (numV 1)) rfl 133 (by kernel_rfl) (by decide)
        exact kin_is rfl (wanted_some rfl (by kernel_rfl) hg) rfl (numV 1) 0 e133 rfl rfl
      | 36, _ =>
        have hg := (hd _ rfl ⟨113, .guard⟩ (by simp) rfl).eq (.bool true) rfl 132 (by kernel_rfl) (by decide)
        exact kin_text rfl (wanted_some rfl (by kernel_rfl) hg) rfl ⟨#[97]⟩ rfl rfl
      | 37, _ =>
        have hg := (hd _ rfl ⟨113, .guard⟩ (by simp) rfl).eq (.bool true) rfl 132 (by kernel_rfl) (by decide)
        exact kin_text rfl (wanted_some rfl (by kernel_rfl) hg) rfl ⟨#[98]⟩ rfl rfl
      | 38, _ =>
        have hg := (hd _ rfl ⟨113, .guard⟩ (by simp) rfl).eq (.bool true) rfl 132 (by kernel_rfl) (by decide)
        have e135 := (hd _ rfl ⟨116, .data⟩ (by simp) rfl).eq (V.val (V.mk 2 0 ⟨#[97]⟩)) rfl 135 (by kernel_rfl) (by decide)
        have e136 := (hd _ rfl ⟨117, .data⟩ (by simp) rfl).eq (V.val (V.mk 2 0 ⟨#[98]⟩)) rfl 136 (by kernel_rfl) (by decide)
        exact kin_two rfl (wanted_some rfl (by kernel_rfl) hg) rfl 14 (by omega) rfl (V.mk 2 0 ⟨#[97]⟩) (V.mk 2 0 ⟨#[98]⟩) e135 e136 (okV (V.mk 2 0 ⟨#[97]⟩)) (okV (V.mk 2 0 ⟨#[98]⟩)) (fun x => ∃ k0 : Value, x = exOf 14 k0 [exV (V.mk 2 0 ⟨#[97]⟩), exV (V.mk 2 0 ⟨#[98]⟩)]) rfl (fun kv => ⟨kv, rfl⟩)
      | 39, _ =>
        have hg := (hd _ rfl ⟨113, .guard⟩ (by simp) rfl).eq (.bool true) rfl 132 (by kernel_rfl) (by decide)
        obtain ⟨v137, k137, e137⟩ := (hd _ rfl ⟨118, .data⟩ (by simp) rfl).get (.ex (fun x => ∃ k0 : Value, x = exOf 14 k0 [exV (V.mk 2 0 ⟨#[97]⟩), exV (V.mk 2 0 ⟨#[98]⟩)])) rfl 137 (by kernel_rfl) (by decide)
        exact kin_eval rfl (wanted_some rfl (by kernel_rfl) hg) rfl v137 e137 (fun x => ∃ k0 : Value, x = exOf 14 k0 [exV (V.mk 2 0 ⟨#[97]⟩), exV (V.mk 2 0 ⟨#[98]⟩)]) k137 ((numV 1), 0) rfl (by rintro x ⟨b0, rfl⟩; exact ev10 _)
      | n + 40, hc => omega
    rcases Nat.lt_or_ge i 160 with hc | hc
    · obtain ⟨m, rfl⟩ : ∃ m, i = 120 + m := ⟨i - 120, by omega⟩
      replace hc : m < 40 := by omega
      match m, hc with
      | 0, _ =>
        have hg := (hd _ rfl ⟨113, .guard⟩ (by simp) rfl).eq (.bool true) rfl 132 (by kernel_rfl) (by decide)
        have e138 := (hd _ rfl ⟨119, .data⟩ (by simp) rfl).eq (resV ((numV 1), 0)) rfl 138 (by kernel_rfl) (by decide)
        exact kin_ext0 rfl (wanted_some rfl (by kernel_rfl) hg) rfl _ e138 rfl
      | 1, _ =>
        have hg := (hd _ rfl ⟨113, .guard⟩ (by simp) rfl).eq (.bool true) rfl 132 (by kernel_rfl) (by decide)
        have e138 := (hd _ rfl ⟨119, .data⟩ (by simp) rfl).eq (resV ((numV 1), 0)) rfl 138 (by kernel_rfl) (by decide)
        exact kin_ext1 rfl (wanted_some rfl (by kernel_rfl) hg) rfl _ e138 rfl
      | 2, _ =>
        have hg := (hd _ rfl ⟨113, .guard⟩ (by simp) rfl).eq (.bool true) rfl 132 (by kernel_rfl) (by decide)
        obtain ⟨v134, k134, e134⟩ := (hd _ rfl ⟨115, .data⟩ (by simp) rfl).get (.got (numV 1) 0) rfl 134 (by kernel_rfl) (by decide)
        have e139 := (hd _ rfl ⟨120, .data⟩ (by simp) rfl).eq (V.val (numV 1)) rfl 139 (by kernel_rfl) (by decide)
        have e140 := (hd _ rfl ⟨121, .data⟩ (by simp) rfl).eq (.int .i64 ((0 : Nat) : Int)) rfl 140 (by kernel_rfl) (by decide)
        exact kin_yes rfl (wanted_some rfl (by kernel_rfl) hg) rfl v134 e134 (numV 1) 0 k134 e139 e140 rfl
      | 3, _ =>
        have e132 := (hd _ rfl ⟨113, .data⟩ (by simp) rfl).eq (.bool true) rfl 132 (by kernel_rfl) (by decide)
        have e141 := (hd _ rfl ⟨122, .data⟩ (by simp) rfl).eq (.bool true) rfl 141 (by kernel_rfl) (by decide)
        exact kin_and rfl (wanted_none rfl) rfl true e132 e141 rfl
      | 4, _ =>
        have e142 := (hd _ rfl ⟨123, .data⟩ (by simp) rfl).eq (.bool true) rfl 142 (by kernel_rfl) (by decide)
        exact kin_move rfl (wanted_none rfl) rfl _ e142 rfl
      | 5, _ =>
        have hg := (hd _ rfl ⟨124, .guard⟩ (by simp) rfl).eq (.bool true) rfl 143 (by kernel_rfl) (by decide)
        have e1 : A.eval (.tmp 1) = .pointer (some ⟨w.heap.size, 0, none⟩) := hother 1 (by kernel_rfl)
        exact kin_loadV rfl (wanted_some rfl (by kernel_rfl) hg) rfl _ e1 nullV _ HBN.out hb rfl
      | 6, _ =>
        have hg := (hd _ rfl ⟨124, .guard⟩ (by simp) rfl).eq (.bool true) rfl 143 (by kernel_rfl) (by decide)
        have e144 := (hd _ rfl ⟨125, .data⟩ (by simp) rfl).eq (V.val nullV) rfl 144 (by kernel_rfl) (by decide)
        exact kin_is rfl (wanted_some rfl (by kernel_rfl) hg) rfl nullV 0 e144 rfl rfl
      | 7, _ =>
        have hg := (hd _ rfl ⟨124, .guard⟩ (by simp) rfl).eq (.bool true) rfl 143 (by kernel_rfl) (by decide)
        have e1 : A.eval (.tmp 1) = .pointer (some ⟨w.heap.size, 0, none⟩) := hother 1 (by kernel_rfl)
        exact kin_loadV rfl (wanted_some rfl (by kernel_rfl) hg) rfl _ e1 nullV _ HBN.out hb rfl
      | 8, _ =>
        have hg := (hd _ rfl ⟨124, .guard⟩ (by simp) rfl).eq (.bool true) rfl 143 (by kernel_rfl) (by decide)
        exact kin_number rfl (wanted_some rfl (by kernel_rfl) hg) rfl 1 rfl rfl
      | 9, _ =>
        have hg := (hd _ rfl ⟨124, .guard⟩ (by simp) rfl).eq (.bool true) rfl 143 (by kernel_rfl) (by decide)
        have e146 := (hd _ rfl ⟨127, .data⟩ (by simp) rfl).eq (V.val nullV) rfl 146 (by kernel_rfl) (by decide)
        have e147 := (hd _ rfl ⟨128, .data⟩ (by simp) rfl).eq (V.val (numV 1)) rfl 147 (by kernel_rfl) (by decide)
        exact kin_two rfl (wanted_some rfl (by kernel_rfl) hg) rfl 12 (by omega) rfl nullV (numV 1) e146 e147 (okV nullV) (okV (numV 1)) (fun x => ∃ k0 : Value, x = exOf 12 k0 [exV nullV, exV (numV 1)]) rfl (fun kv => ⟨kv, rfl⟩)
      | 10, _ =>
        have hg := (hd _ rfl ⟨124, .guard⟩ (by simp) rfl).eq (.bool true) rfl 143 (by kernel_rfl) (by decide)
        obtain ⟨v148, k148, e148⟩ := (hd _ rfl ⟨129, .data⟩ (by simp) rfl).get (.ex (fun x => ∃ k0 : Value, x = exOf 12 k0 [exV nullV, exV (numV 1)])) rfl 148 (by kernel_rfl) (by decide)
        exact kin_eval rfl (wanted_some rfl (by kernel_rfl) hg) rfl v148 e148 (fun x => ∃ k0 : Value, x = exOf 12 k0 [exV nullV, exV (numV 1)]) k148 (nullV, 0) rfl (by rintro x ⟨b0, rfl⟩; exact ev11 _)
      | 11, _ =>
        have hg := (hd _ rfl ⟨124, .guard⟩ (by simp) rfl).eq (.bool true) rfl 143 (by kernel_rfl) (by decide)
        have e149 := (hd _ rfl ⟨130, .data⟩ (by simp) rfl).eq (resV (nullV, 0)) rfl 149 (by kernel_rfl) (by decide)
        exact kin_ext0 rfl (wanted_some rfl (by kernel_rfl) hg) rfl _ e149 rfl
      | 12, _ =>
        have hg := (hd _ rfl ⟨124, .guard⟩ (by simp) rfl).eq (.bool true) rfl 143 (by kernel_rfl) (by decide)
        have e149 := (hd _ rfl ⟨130, .data⟩ (by simp) rfl).eq (resV (nullV, 0)) rfl 149 (by kernel_rfl) (by decide)
        exact kin_ext1 rfl (wanted_some rfl (by kernel_rfl) hg) rfl _ e149 rfl
      | 13, _ =>
        have hg := (hd _ rfl ⟨124, .guard⟩ (by simp) rfl).eq (.bool true) rfl 143 (by kernel_rfl) (by decide)
        obtain ⟨v145, k145, e145⟩ := (hd _ rfl ⟨126, .data⟩ (by simp) rfl).get (.got nullV 0) rfl 145 (by kernel_rfl) (by decide)
        have e150 := (hd _ rfl ⟨131, .data⟩ (by simp) rfl).eq (V.val nullV) rfl 150 (by kernel_rfl) (by decide)
        have e151 := (hd _ rfl ⟨132, .data⟩ (by simp) rfl).eq (.int .i64 ((0 : Nat) : Int)) rfl 151 (by kernel_rfl) (by decide)
        exact kin_yes rfl (wanted_some rfl (by kernel_rfl) hg) rfl v145 e145 nullV 0 k145 e150 e151 rfl
      | 14, _ =>
        have e143 := (hd _ rfl ⟨124, .data⟩ (by simp) rfl).eq (.bool true) rfl 143 (by kernel_rfl) (by decide)
        have e152 := (hd _ rfl ⟨133, .data⟩ (by simp) rfl).eq (.bool true) rfl 152 (by kernel_rfl) (by decide)
        exact kin_and rfl (wanted_none rfl) rfl true e143 e152 rfl
      | 15, _ =>
        have e153 := (hd _ rfl ⟨134, .data⟩ (by simp) rfl).eq (.bool true) rfl 153 (by kernel_rfl) (by decide)
        exact kin_move rfl (wanted_none rfl) rfl _ e153 rfl
      | 16, _ =>
        have hg := (hd _ rfl ⟨135, .guard⟩ (by simp) rfl).eq (.bool true) rfl 154 (by kernel_rfl) (by decide)
        have e1 : A.eval (.tmp 1) = .pointer (some ⟨w.heap.size, 0, none⟩) := hother 1 (by kernel_rfl)
        exact kin_loadV rfl (wanted_some rfl (by kernel_rfl) hg) rfl _ e1 nullV _ HBN.out hb rfl
      | 17, _ =>
        have hg := (hd _ rfl ⟨135, .guard⟩ (by simp) rfl).eq (.bool true) rfl 154 (by kernel_rfl) (by decide)
        have e155 := (hd _ rfl ⟨136, .data⟩ (by simp) rfl).eq (V.val nullV) rfl 155 (by kernel_rfl) (by decide)
        exact kin_is rfl (wanted_some rfl (by kernel_rfl) hg) rfl nullV 150 e155 rfl rfl
      | 18, _ =>
        have hg := (hd _ rfl ⟨135, .guard⟩ (by simp) rfl).eq (.bool true) rfl 154 (by kernel_rfl) (by decide)
        exact kin_number rfl (wanted_some rfl (by kernel_rfl) hg) rfl 1 rfl rfl
      | 19, _ =>
        have hg := (hd _ rfl ⟨135, .guard⟩ (by simp) rfl).eq (.bool true) rfl 154 (by kernel_rfl) (by decide)
        exact kin_text rfl (wanted_some rfl (by kernel_rfl) hg) rfl ⟨#[97]⟩ rfl rfl
      | 20, _ =>
        have hg := (hd _ rfl ⟨135, .guard⟩ (by simp) rfl).eq (.bool true) rfl 154 (by kernel_rfl) (by decide)
        have e157 := (hd _ rfl ⟨138, .data⟩ (by simp) rfl).eq (V.val (numV 1)) rfl 157 (by kernel_rfl) (by decide)
        have e158 := (hd _ rfl ⟨139, .data⟩ (by simp) rfl).eq (V.val (V.mk 2 0 ⟨#[97]⟩)) rfl 158 (by kernel_rfl) (by decide)
        exact kin_two rfl (wanted_some rfl (by kernel_rfl) hg) rfl 6 (by omega) rfl (numV 1) (V.mk 2 0 ⟨#[97]⟩) e157 e158 (okV (numV 1)) (okV (V.mk 2 0 ⟨#[97]⟩)) (fun x => ∃ k0 : Value, x = exOf 6 k0 [exV (numV 1), exV (V.mk 2 0 ⟨#[97]⟩)]) rfl (fun kv => ⟨kv, rfl⟩)
      | 21, _ =>
        have hg := (hd _ rfl ⟨135, .guard⟩ (by simp) rfl).eq (.bool true) rfl 154 (by kernel_rfl) (by decide)
        obtain ⟨v159, k159, e159⟩ := (hd _ rfl ⟨140, .data⟩ (by simp) rfl).get (.ex (fun x => ∃ k0 : Value, x = exOf 6 k0 [exV (numV 1), exV (V.mk 2 0 ⟨#[97]⟩)])) rfl 159 (by kernel_rfl) (by decide)
        exact kin_eval rfl (wanted_some rfl (by kernel_rfl) hg) rfl v159 e159 (fun x => ∃ k0 : Value, x = exOf 6 k0 [exV (numV 1), exV (V.mk 2 0 ⟨#[97]⟩)]) k159 (nullV, 150) rfl (by rintro x ⟨b0, rfl⟩; exact ev12 _)
      | 22, _ =>
        have hg := (hd _ rfl ⟨135, .guard⟩ (by simp) rfl).eq (.bool true) rfl 154 (by kernel_rfl) (by decide)
        have e160 := (hd _ rfl ⟨141, .data⟩ (by simp) rfl).eq (resV (nullV, 150)) rfl 160 (by kernel_rfl) (by decide)
        exact kin_ext0 rfl (wanted_some rfl (by kernel_rfl) hg) rfl _ e160 rfl
      | 23, _ =>
        have hg := (hd _ rfl ⟨135, .guard⟩ (by simp) rfl).eq (.bool true) rfl 154 (by kernel_rfl) (by decide)
        have e160 := (hd _ rfl ⟨141, .data⟩ (by simp) rfl).eq (resV (nullV, 150)) rfl 160 (by kernel_rfl) (by decide)
        exact kin_ext1 rfl (wanted_some rfl (by kernel_rfl) hg) rfl _ e160 rfl
      | 24, _ =>
        have hg := (hd _ rfl ⟨135, .guard⟩ (by simp) rfl).eq (.bool true) rfl 154 (by kernel_rfl) (by decide)
        obtain ⟨v156, k156, e156⟩ := (hd _ rfl ⟨137, .data⟩ (by simp) rfl).get (.got nullV 150) rfl 156 (by kernel_rfl) (by decide)
        have e161 := (hd _ rfl ⟨142, .data⟩ (by simp) rfl).eq (V.val nullV) rfl 161 (by kernel_rfl) (by decide)
        have e162 := (hd _ rfl ⟨143, .data⟩ (by simp) rfl).eq (.int .i64 ((150 : Nat) : Int)) rfl 162 (by kernel_rfl) (by decide)
        exact kin_yes rfl (wanted_some rfl (by kernel_rfl) hg) rfl v156 e156 nullV 150 k156 e161 e162 rfl
      | 25, _ =>
        have e154 := (hd _ rfl ⟨135, .data⟩ (by simp) rfl).eq (.bool true) rfl 154 (by kernel_rfl) (by decide)
        have e163 := (hd _ rfl ⟨144, .data⟩ (by simp) rfl).eq (.bool true) rfl 163 (by kernel_rfl) (by decide)
        exact kin_and rfl (wanted_none rfl) rfl true e154 e163 rfl
      | 26, _ =>
        have e164 := (hd _ rfl ⟨145, .data⟩ (by simp) rfl).eq (.bool true) rfl 164 (by kernel_rfl) (by decide)
        exact kin_move rfl (wanted_none rfl) rfl _ e164 rfl
      | 27, _ =>
        have hg := (hd _ rfl ⟨146, .guard⟩ (by simp) rfl).eq (.bool true) rfl 165 (by kernel_rfl) (by decide)
        have e2 : A.eval (.tmp 2) = .int .u8 0 := hother 2 (by kernel_rfl)
        exact kin_move rfl (wanted_some rfl (by kernel_rfl) hg) rfl _ e2 rfl
      | 28, _ =>
        have hg := (hd _ rfl ⟨146, .guard⟩ (by simp) rfl).eq (.bool true) rfl 165 (by kernel_rfl) (by decide)
        have e166 := (hd _ rfl ⟨147, .data⟩ (by simp) rfl).eq (.int .u8 0) rfl 166 (by kernel_rfl) (by decide)
        have h6 := tmps_of e166
        exact kin_same rfl (wanted_some rfl (by kernel_rfl) hg) (.bool true) (by simp only [execOp]; go_simp) rfl
      | 29, _ =>
        have e165 := (hd _ rfl ⟨146, .data⟩ (by simp) rfl).eq (.bool true) rfl 165 (by kernel_rfl) (by decide)
        have e167 := (hd _ rfl ⟨148, .data⟩ (by simp) rfl).eq (.bool true) rfl 167 (by kernel_rfl) (by decide)
        exact kin_and rfl (wanted_none rfl) rfl true e165 e167 rfl
      | 30, _ =>
        have e168 := (hd _ rfl ⟨149, .data⟩ (by simp) rfl).eq (.bool true) rfl 168 (by kernel_rfl) (by decide)
        exact kin_move rfl (wanted_none rfl) rfl _ e168 rfl
      | 31, _ =>
        have hg := (hd _ rfl ⟨150, .guard⟩ (by simp) rfl).eq (.bool true) rfl 169 (by kernel_rfl) (by decide)
        have e3 : A.eval (.tmp 3) = .int .i64 151 := hother 3 (by kernel_rfl)
        exact kin_move rfl (wanted_some rfl (by kernel_rfl) hg) rfl _ e3 rfl
      | 32, _ =>
        have hg := (hd _ rfl ⟨150, .guard⟩ (by simp) rfl).eq (.bool true) rfl 169 (by kernel_rfl) (by decide)
        have e170 := (hd _ rfl ⟨151, .data⟩ (by simp) rfl).eq (.int .i64 151) rfl 170 (by kernel_rfl) (by decide)
        have h6 := tmps_of e170
        exact kin_same rfl (wanted_some rfl (by kernel_rfl) hg) (.bool true) (by simp only [execOp]; go_simp) rfl
      | 33, _ =>
        have e169 := (hd _ rfl ⟨150, .data⟩ (by simp) rfl).eq (.bool true) rfl 169 (by kernel_rfl) (by decide)
        have e171 := (hd _ rfl ⟨152, .data⟩ (by simp) rfl).eq (.bool true) rfl 171 (by kernel_rfl) (by decide)
        exact kin_and rfl (wanted_none rfl) rfl true e169 e171 rfl
      | 34, _ =>
        have e172 := (hd _ rfl ⟨153, .data⟩ (by simp) rfl).eq (.bool true) rfl 172 (by kernel_rfl) (by decide)
        exact kin_move rfl (wanted_none rfl) rfl _ e172 rfl
      | 35, _ =>
        have hg := (hd _ rfl ⟨154, .guard⟩ (by simp) rfl).eq (.bool true) rfl 173 (by kernel_rfl) (by decide)
        have e4 : A.eval (.tmp 4) = .int .u8 0 := hother 4 (by kernel_rfl)
        exact kin_move rfl (wanted_some rfl (by kernel_rfl) hg) rfl _ e4 rfl
      | 36, _ =>
        have hg := (hd _ rfl ⟨154, .guard⟩ (by simp) rfl).eq (.bool true) rfl 173 (by kernel_rfl) (by decide)
        have e174 := (hd _ rfl ⟨155, .data⟩ (by simp) rfl).eq (.int .u8 0) rfl 174 (by kernel_rfl) (by decide)
        have h6 := tmps_of e174
        exact kin_same rfl (wanted_some rfl (by kernel_rfl) hg) (.bool true) (by simp only [execOp]; go_simp) rfl
      | 37, _ =>
        have e173 := (hd _ rfl ⟨154, .data⟩ (by simp) rfl).eq (.bool true) rfl 173 (by kernel_rfl) (by decide)
        have e175 := (hd _ rfl ⟨156, .data⟩ (by simp) rfl).eq (.bool true) rfl 175 (by kernel_rfl) (by decide)
        exact kin_and rfl (wanted_none rfl) rfl true e173 e175 rfl
      | 38, _ =>
        have e176 := (hd _ rfl ⟨157, .data⟩ (by simp) rfl).eq (.bool true) rfl 176 (by kernel_rfl) (by decide)
        exact kin_move rfl (wanted_none rfl) rfl _ e176 rfl
      | 39, _ =>
        have hg := (hd _ rfl ⟨158, .guard⟩ (by simp) rfl).eq (.bool true) rfl 177 (by kernel_rfl) (by decide)
        have e5 : A.eval (.tmp 5) = .int .i64 151 := hother 5 (by kernel_rfl)
        exact kin_move rfl (wanted_some rfl (by kernel_rfl) hg) rfl _ e5 rfl
      | n + 40, hc => omega
    rcases Nat.lt_or_ge i 200 with hc | hc
    · obtain ⟨m, rfl⟩ : ∃ m, i = 160 + m := ⟨i - 160, by omega⟩
      replace hc : m < 40 := by omega
      match m, hc with
      | 0, _ =>
        have hg := (hd _ rfl ⟨158, .guard⟩ (by simp) rfl).eq (.bool true) rfl 177 (by kernel_rfl) (by decide)
        have e178 := (hd _ rfl ⟨159, .data⟩ (by simp) rfl).eq (.int .i64 151) rfl 178 (by kernel_rfl) (by decide)
        have h6 := tmps_of e178
        exact kin_same rfl (wanted_some rfl (by kernel_rfl) hg) (.bool true) (by simp only [execOp]; go_simp) rfl
      | 1, _ =>
        have e177 := (hd _ rfl ⟨158, .data⟩ (by simp) rfl).eq (.bool true) rfl 177 (by kernel_rfl) (by decide)
        have e179 := (hd _ rfl ⟨160, .data⟩ (by simp) rfl).eq (.bool true) rfl 179 (by kernel_rfl) (by decide)
        exact kin_and rfl (wanted_none rfl) rfl true e177 e179 rfl
      | 2, _ =>
        have e180 := (hd _ rfl ⟨161, .data⟩ (by simp) rfl).eq (.bool true) rfl 180 (by kernel_rfl) (by decide)
        exact kin_move rfl (wanted_none rfl) rfl _ e180 rfl
      | 3, _ =>
        have hg := (hd _ rfl ⟨162, .guard⟩ (by simp) rfl).eq (.bool true) rfl 181 (by kernel_rfl) (by decide)
        exact kin_number rfl (wanted_some rfl (by kernel_rfl) hg) rfl 3 rfl rfl
      | 4, _ =>
        have hg := (hd _ rfl ⟨162, .guard⟩ (by simp) rfl).eq (.bool true) rfl 181 (by kernel_rfl) (by decide)
        have e182 := (hd _ rfl ⟨163, .data⟩ (by simp) rfl).eq (V.val (numV 3)) rfl 182 (by kernel_rfl) (by decide)
        exact kin_is rfl (wanted_some rfl (by kernel_rfl) hg) rfl (numV 3) 0 e182 rfl rfl
      | 5, _ =>
        have hg := (hd _ rfl ⟨162, .guard⟩ (by simp) rfl).eq (.bool true) rfl 181 (by kernel_rfl) (by decide)
        exact kin_column rfl (wanted_some rfl (by kernel_rfl) hg) rfl 0 rfl rfl
      | 6, _ =>
        have hg := (hd _ rfl ⟨162, .guard⟩ (by simp) rfl).eq (.bool true) rfl 181 (by kernel_rfl) (by decide)
        have e184 := (hd _ rfl ⟨165, .data⟩ (by simp) rfl).eq (Ex.val (exC 0)) rfl 184 (by kernel_rfl) (by decide)
        have o184 : (exC 0).Ok := exC_ok ⟨by omega, by omega⟩
        exact kin_kids1 rfl (wanted_some rfl (by kernel_rfl) hg) rfl (exC 0) e184 (exC_in 0 w1) o184 (fun ks => ks = [exC 0]) rfl (rfl)
      | 7, _ =>
        have hg := (hd _ rfl ⟨162, .guard⟩ (by simp) rfl).eq (.bool true) rfl 181 (by kernel_rfl) (by decide)
        obtain ⟨v185, k185, e185⟩ := (hd _ rfl ⟨166, .data⟩ (by simp) rfl).get (.kids (fun ks => ks = [exC 0])) rfl 185 (by kernel_rfl) (by decide)
        exact kin_of rfl (wanted_some rfl (by kernel_rfl) hg) rfl 21 (by omega) rfl v185 e185 (fun ks => ks = [exC 0]) k185 (fun x => ∃ k0 : Value, x = exOf 21 k0 [exC 0]) rfl (fun kv ks h => ⟨kv, by rw [h]⟩)
      | 8, _ =>
        have hg := (hd _ rfl ⟨162, .guard⟩ (by simp) rfl).eq (.bool true) rfl 181 (by kernel_rfl) (by decide)
        exact kin_number rfl (wanted_some rfl (by kernel_rfl) hg) rfl 1 rfl rfl
      | 9, _ =>
        have hg := (hd _ rfl ⟨162, .guard⟩ (by simp) rfl).eq (.bool true) rfl 181 (by kernel_rfl) (by decide)
        have e187 := (hd _ rfl ⟨168, .data⟩ (by simp) rfl).eq (V.val (numV 1)) rfl 187 (by kernel_rfl) (by decide)
        exact kin_vs1 rfl (wanted_some rfl (by kernel_rfl) hg) rfl (numV 1) e187 rfl
      | 10, _ =>
        have hg := (hd _ rfl ⟨162, .guard⟩ (by simp) rfl).eq (.bool true) rfl 181 (by kernel_rfl) (by decide)
        have e1 : A.eval (.tmp 1) = .pointer (some ⟨w.heap.size, 0, none⟩) := hother 1 (by kernel_rfl)
        exact kin_loadV rfl (wanted_some rfl (by kernel_rfl) hg) rfl _ e1 nullV _ HBN.out hb rfl
      | 11, _ =>
        have hg := (hd _ rfl ⟨162, .guard⟩ (by simp) rfl).eq (.bool true) rfl 181 (by kernel_rfl) (by decide)
        have e189 := (hd _ rfl ⟨170, .data⟩ (by simp) rfl).eq (V.val nullV) rfl 189 (by kernel_rfl) (by decide)
        exact kin_vs1 rfl (wanted_some rfl (by kernel_rfl) hg) rfl nullV e189 rfl
      | 12, _ =>
        have hg := (hd _ rfl ⟨162, .guard⟩ (by simp) rfl).eq (.bool true) rfl 181 (by kernel_rfl) (by decide)
        exact kin_number rfl (wanted_some rfl (by kernel_rfl) hg) rfl 2 rfl rfl
      | 13, _ =>
        have hg := (hd _ rfl ⟨162, .guard⟩ (by simp) rfl).eq (.bool true) rfl 181 (by kernel_rfl) (by decide)
        have e191 := (hd _ rfl ⟨172, .data⟩ (by simp) rfl).eq (V.val (numV 2)) rfl 191 (by kernel_rfl) (by decide)
        exact kin_vs1 rfl (wanted_some rfl (by kernel_rfl) hg) rfl (numV 2) e191 rfl
      | 14, _ =>
        have hg := (hd _ rfl ⟨162, .guard⟩ (by simp) rfl).eq (.bool true) rfl 181 (by kernel_rfl) (by decide)
        obtain ⟨v188, k188, e188⟩ := (hd _ rfl ⟨169, .data⟩ (by simp) rfl).get (.vs [(numV 1)]) rfl 188 (by kernel_rfl) (by decide)
        obtain ⟨v190, k190, e190⟩ := (hd _ rfl ⟨171, .data⟩ (by simp) rfl).get (.vs [nullV]) rfl 190 (by kernel_rfl) (by decide)
        obtain ⟨v192, k192, e192⟩ := (hd _ rfl ⟨173, .data⟩ (by simp) rfl).get (.vs [(numV 2)]) rfl 192 (by kernel_rfl) (by decide)
        exact kin_rows3 rfl (wanted_some rfl (by kernel_rfl) hg) rfl v188 v190 v192 e188 e190 e192 [(numV 1)] [nullV] [(numV 2)] k188 k190 k192 rfl
      | 15, _ =>
        have hg := (hd _ rfl ⟨162, .guard⟩ (by simp) rfl).eq (.bool true) rfl 181 (by kernel_rfl) (by decide)
        obtain ⟨v186, k186, e186⟩ := (hd _ rfl ⟨167, .data⟩ (by simp) rfl).get (.ex (fun x => ∃ k0 : Value, x = exOf 21 k0 [exC 0])) rfl 186 (by kernel_rfl) (by decide)
        obtain ⟨v193, k193, e193⟩ := (hd _ rfl ⟨174, .data⟩ (by simp) rfl).get (.rows [[(numV 1)], [nullV], [(numV 2)]]) rfl 193 (by kernel_rfl) (by decide)
        exact kin_fold rfl (wanted_some rfl (by kernel_rfl) hg) rfl v186 v193 e186 e193 (fun x => ∃ k0 : Value, x = exOf 21 k0 [exC 0]) k186 [[(numV 1)], [nullV], [(numV 2)]] k193 (of_decide_eq_true (by kernel_rfl)) (by decide) 1 (by omega) (by omega) rfl ((numV 3), 0) rfl (by rintro x ⟨b0, rfl⟩; exact fo13 _)
      | 16, _ =>
        have hg := (hd _ rfl ⟨162, .guard⟩ (by simp) rfl).eq (.bool true) rfl 181 (by kernel_rfl) (by decide)
        have e194 := (hd _ rfl ⟨175, .data⟩ (by simp) rfl).eq (resV ((numV 3), 0)) rfl 194 (by kernel_rfl) (by decide)
        exact kin_ext0 rfl (wanted_some rfl (by kernel_rfl) hg) rfl _ e194 rfl
      | 17, _ =>
        have hg := (hd _ rfl ⟨162, .guard⟩ (by simp) rfl).eq (.bool true) rfl 181 (by kernel_rfl) (by decide)
        have e194 := (hd _ rfl ⟨175, .data⟩ (by simp) rfl).eq (resV ((numV 3), 0)) rfl 194 (by kernel_rfl) (by decide)
        exact kin_ext1 rfl (wanted_some rfl (by kernel_rfl) hg) rfl _ e194 rfl
      | 18, _ =>
        have hg := (hd _ rfl ⟨162, .guard⟩ (by simp) rfl).eq (.bool true) rfl 181 (by kernel_rfl) (by decide)
        obtain ⟨v183, k183, e183⟩ := (hd _ rfl ⟨164, .data⟩ (by simp) rfl).get (.got (numV 3) 0) rfl 183 (by kernel_rfl) (by decide)
        have e195 := (hd _ rfl ⟨176, .data⟩ (by simp) rfl).eq (V.val (numV 3)) rfl 195 (by kernel_rfl) (by decide)
        have e196 := (hd _ rfl ⟨177, .data⟩ (by simp) rfl).eq (.int .i64 ((0 : Nat) : Int)) rfl 196 (by kernel_rfl) (by decide)
        exact kin_yes rfl (wanted_some rfl (by kernel_rfl) hg) rfl v183 e183 (numV 3) 0 k183 e195 e196 rfl
      | 19, _ =>
        have e181 := (hd _ rfl ⟨162, .data⟩ (by simp) rfl).eq (.bool true) rfl 181 (by kernel_rfl) (by decide)
        have e197 := (hd _ rfl ⟨178, .data⟩ (by simp) rfl).eq (.bool true) rfl 197 (by kernel_rfl) (by decide)
        exact kin_and rfl (wanted_none rfl) rfl true e181 e197 rfl
      | 20, _ =>
        have e198 := (hd _ rfl ⟨179, .data⟩ (by simp) rfl).eq (.bool true) rfl 198 (by kernel_rfl) (by decide)
        exact kin_move rfl (wanted_none rfl) rfl _ e198 rfl
      | 21, _ =>
        have hg := (hd _ rfl ⟨180, .guard⟩ (by simp) rfl).eq (.bool true) rfl 199 (by kernel_rfl) (by decide)
        have e1 : A.eval (.tmp 1) = .pointer (some ⟨w.heap.size, 0, none⟩) := hother 1 (by kernel_rfl)
        exact kin_loadV rfl (wanted_some rfl (by kernel_rfl) hg) rfl _ e1 nullV _ HBN.out hb rfl
      | 22, _ =>
        have hg := (hd _ rfl ⟨180, .guard⟩ (by simp) rfl).eq (.bool true) rfl 199 (by kernel_rfl) (by decide)
        have e200 := (hd _ rfl ⟨181, .data⟩ (by simp) rfl).eq (V.val nullV) rfl 200 (by kernel_rfl) (by decide)
        exact kin_is rfl (wanted_some rfl (by kernel_rfl) hg) rfl nullV 0 e200 rfl rfl
      | 23, _ =>
        have hg := (hd _ rfl ⟨180, .guard⟩ (by simp) rfl).eq (.bool true) rfl 199 (by kernel_rfl) (by decide)
        exact kin_column rfl (wanted_some rfl (by kernel_rfl) hg) rfl 0 rfl rfl
      | 24, _ =>
        have hg := (hd _ rfl ⟨180, .guard⟩ (by simp) rfl).eq (.bool true) rfl 199 (by kernel_rfl) (by decide)
        have e202 := (hd _ rfl ⟨183, .data⟩ (by simp) rfl).eq (Ex.val (exC 0)) rfl 202 (by kernel_rfl) (by decide)
        have o202 : (exC 0).Ok := exC_ok ⟨by omega, by omega⟩
        exact kin_kids1 rfl (wanted_some rfl (by kernel_rfl) hg) rfl (exC 0) e202 (exC_in 0 w1) o202 (fun ks => ks = [exC 0]) rfl (rfl)
      | 25, _ =>
        have hg := (hd _ rfl ⟨180, .guard⟩ (by simp) rfl).eq (.bool true) rfl 199 (by kernel_rfl) (by decide)
        obtain ⟨v203, k203, e203⟩ := (hd _ rfl ⟨184, .data⟩ (by simp) rfl).get (.kids (fun ks => ks = [exC 0])) rfl 203 (by kernel_rfl) (by decide)
        exact kin_of rfl (wanted_some rfl (by kernel_rfl) hg) rfl 21 (by omega) rfl v203 e203 (fun ks => ks = [exC 0]) k203 (fun x => ∃ k0 : Value, x = exOf 21 k0 [exC 0]) rfl (fun kv ks h => ⟨kv, by rw [h]⟩)
      | 26, _ =>
        have hg := (hd _ rfl ⟨180, .guard⟩ (by simp) rfl).eq (.bool true) rfl 199 (by kernel_rfl) (by decide)
        obtain ⟨v204, k204, e204⟩ := (hd _ rfl ⟨185, .data⟩ (by simp) rfl).get (.ex (fun x => ∃ k0 : Value, x = exOf 21 k0 [exC 0])) rfl 204 (by kernel_rfl) (by decide)
        exact kin_fold0 rfl (wanted_some rfl (by kernel_rfl) hg) rfl v204 e204 (fun x => ∃ k0 : Value, x = exOf 21 k0 [exC 0]) k204 1 (by omega) (by omega) rfl (nullV, 0) rfl (by rintro x ⟨b0, rfl⟩; exact fo14 _)
      | 27, _ =>
        have hg := (hd _ rfl ⟨180, .guard⟩ (by simp) rfl).eq (.bool true) rfl 199 (by kernel_rfl) (by decide)
        have e205 := (hd _ rfl ⟨186, .data⟩ (by simp) rfl).eq (resV (nullV, 0)) rfl 205 (by kernel_rfl) (by decide)
        exact kin_ext0 rfl (wanted_some rfl (by kernel_rfl) hg) rfl _ e205 rfl
      | 28, _ =>
        have hg := (hd _ rfl ⟨180, .guard⟩ (by simp) rfl).eq (.bool true) rfl 199 (by kernel_rfl) (by decide)
        have e205 := (hd _ rfl ⟨186, .data⟩ (by simp) rfl).eq (resV (nullV, 0)) rfl 205 (by kernel_rfl) (by decide)
        exact kin_ext1 rfl (wanted_some rfl (by kernel_rfl) hg) rfl _ e205 rfl
      | 29, _ =>
        have hg := (hd _ rfl ⟨180, .guard⟩ (by simp) rfl).eq (.bool true) rfl 199 (by kernel_rfl) (by decide)
        obtain ⟨v201, k201, e201⟩ := (hd _ rfl ⟨182, .data⟩ (by simp) rfl).get (.got nullV 0) rfl 201 (by kernel_rfl) (by decide)
        have e206 := (hd _ rfl ⟨187, .data⟩ (by simp) rfl).eq (V.val nullV) rfl 206 (by kernel_rfl) (by decide)
        have e207 := (hd _ rfl ⟨188, .data⟩ (by simp) rfl).eq (.int .i64 ((0 : Nat) : Int)) rfl 207 (by kernel_rfl) (by decide)
        exact kin_yes rfl (wanted_some rfl (by kernel_rfl) hg) rfl v201 e201 nullV 0 k201 e206 e207 rfl
      | 30, _ =>
        have e199 := (hd _ rfl ⟨180, .data⟩ (by simp) rfl).eq (.bool true) rfl 199 (by kernel_rfl) (by decide)
        have e208 := (hd _ rfl ⟨189, .data⟩ (by simp) rfl).eq (.bool true) rfl 208 (by kernel_rfl) (by decide)
        exact kin_and rfl (wanted_none rfl) rfl true e199 e208 rfl
      | 31, _ =>
        have e209 := (hd _ rfl ⟨190, .data⟩ (by simp) rfl).eq (.bool true) rfl 209 (by kernel_rfl) (by decide)
        exact kin_move rfl (wanted_none rfl) rfl _ e209 rfl
      | 32, _ =>
        have hg := (hd _ rfl ⟨191, .guard⟩ (by simp) rfl).eq (.bool true) rfl 210 (by kernel_rfl) (by decide)
        exact kin_number rfl (wanted_some rfl (by kernel_rfl) hg) rfl 0 rfl rfl
      | 33, _ =>
        have hg := (hd _ rfl ⟨191, .guard⟩ (by simp) rfl).eq (.bool true) rfl 210 (by kernel_rfl) (by decide)
        have e211 := (hd _ rfl ⟨192, .data⟩ (by simp) rfl).eq (V.val (numV 0)) rfl 211 (by kernel_rfl) (by decide)
        exact kin_is rfl (wanted_some rfl (by kernel_rfl) hg) rfl (numV 0) 0 e211 rfl rfl
      | 34, _ =>
        have hg := (hd _ rfl ⟨191, .guard⟩ (by simp) rfl).eq (.bool true) rfl 210 (by kernel_rfl) (by decide)
        exact kin_of0 rfl (wanted_some rfl (by kernel_rfl) hg) rfl 20 (by omega) rfl (fun x => ∃ k0 : Value, x = exOf 20 k0 []) rfl (fun kv => ⟨kv, rfl⟩)
      | 35, _ =>
        have hg := (hd _ rfl ⟨191, .guard⟩ (by simp) rfl).eq (.bool true) rfl 210 (by kernel_rfl) (by decide)
        obtain ⟨v213, k213, e213⟩ := (hd _ rfl ⟨194, .data⟩ (by simp) rfl).get (.ex (fun x => ∃ k0 : Value, x = exOf 20 k0 [])) rfl 213 (by kernel_rfl) (by decide)
        exact kin_fold0 rfl (wanted_some rfl (by kernel_rfl) hg) rfl v213 e213 (fun x => ∃ k0 : Value, x = exOf 20 k0 []) k213 0 (by omega) (by omega) rfl ((numV 0), 0) rfl (by rintro x ⟨b0, rfl⟩; exact fo15 _)
      | 36, _ =>
        have hg := (hd _ rfl ⟨191, .guard⟩ (by simp) rfl).eq (.bool true) rfl 210 (by kernel_rfl) (by decide)
        have e214 := (hd _ rfl ⟨195, .data⟩ (by simp) rfl).eq (resV ((numV 0), 0)) rfl 214 (by kernel_rfl) (by decide)
        exact kin_ext0 rfl (wanted_some rfl (by kernel_rfl) hg) rfl _ e214 rfl
      | 37, _ =>
        have hg := (hd _ rfl ⟨191, .guard⟩ (by simp) rfl).eq (.bool true) rfl 210 (by kernel_rfl) (by decide)
        have e214 := (hd _ rfl ⟨195, .data⟩ (by simp) rfl).eq (resV ((numV 0), 0)) rfl 214 (by kernel_rfl) (by decide)
        exact kin_ext1 rfl (wanted_some rfl (by kernel_rfl) hg) rfl _ e214 rfl
      | 38, _ =>
        have hg := (hd _ rfl ⟨191, .guard⟩ (by simp) rfl).eq (.bool true) rfl 210 (by kernel_rfl) (by decide)
        obtain ⟨v212, k212, e212⟩ := (hd _ rfl ⟨193, .data⟩ (by simp) rfl).get (.got (numV 0) 0) rfl 212 (by kernel_rfl) (by decide)
        have e215 := (hd _ rfl ⟨196, .data⟩ (by simp) rfl).eq (V.val (numV 0)) rfl 215 (by kernel_rfl) (by decide)
        have e216 := (hd _ rfl ⟨197, .data⟩ (by simp) rfl).eq (.int .i64 ((0 : Nat) : Int)) rfl 216 (by kernel_rfl) (by decide)
        exact kin_yes rfl (wanted_some rfl (by kernel_rfl) hg) rfl v212 e212 (numV 0) 0 k212 e215 e216 rfl
      | 39, _ =>
        have e210 := (hd _ rfl ⟨191, .data⟩ (by simp) rfl).eq (.bool true) rfl 210 (by kernel_rfl) (by decide)
        have e217 := (hd _ rfl ⟨198, .data⟩ (by simp) rfl).eq (.bool true) rfl 217 (by kernel_rfl) (by decide)
        exact kin_and rfl (wanted_none rfl) rfl true e210 e217 rfl
      | n + 40, hc => omega
    rcases Nat.lt_or_ge i 201 with hc | hc
    · obtain ⟨m, rfl⟩ : ∃ m, i = 200 + m := ⟨i - 200, by omega⟩
      replace hc : m < 1 := by omega
      match m, hc with
      | 0, _ =>
        have e218 := (hd _ rfl ⟨199, .data⟩ (by simp) rfl).eq (.bool true) rfl 218 (by kernel_rfl) (by decide)
        exact kin_assign rfl (wanted_none rfl) rfl _ e218 rfl
      | n + 1, hc => omega
    simp at hi; omega
  intro F w6 hb6 hh hdf hsz
  have h0 : F.eval (.tmp 0) = .bool true := hh 200 0 (by simp) (by kernel_rfl) (show 0 < 219 by decide)
  have HB6 := Lib.hid (next HB5.out hb6)
  clear hh hb6 HB5 HBN
  go_wp2_with fail
  refine bodyPost_ret (results_tmp rfl F.tmps Try.prog w6) hdf ⟨?_, HB6.out⟩
  exact congrArg Ending.returned h0

theorem own : ownKnob Try.prog.godebug = none := by kernel_rfl
theorem laid : laidOutB Try.prog = true := by kernel_rfl

theorem opened {H : Type} (enc : TypeId × Value → H) (W : World) (args : Array Value) (ds : List (DataW H)) (p : List MemPlace) :
    Lift.Owes enc Try.prog 5 Try.f5.params.toList W args ds p := by
  intro hA hval hsz _
  rw [Try.params5] at hA hval hsz
  obtain ⟨rfl, rfl, rfl⟩ := trodAll_none hA
  exact walk  W 

set_option maxRecDepth 100000 in
theorem lifted (os : Os) (started : os.Started) (H : Type) (enc : TypeId × Value → H) :
    ReturnsInHanded {} Try.checked os 5 .any (Rows.evalKnownSpec.pre6 enc Try.prog Try.f5 Rows.evalKnownRow.domain false)
      (Rows.evalKnownSpec.post enc Try.prog Try.f5 false true false false) := by
  refine Lift.lifted (C := Try.checked) own started (by kernel_rfl) Try.func5
    (ChangeSpec.witness6 (enc := enc) (C := Try.checked) false ⟨#[], #[], []⟩ 8 (by kernel_rfl) (by kernel_rfl) (by kernel_rfl) (by kernel_rfl))
    laid (by rw [Try.params5]; intro t ht; simp at ht; skip) rfl 4 rfl Try.underlying4
    (fun ds hds => by match ds, hds with | [], _ => rfl) (opened enc)

theorem said : Rows.EvalKnownSaid :=
  OpenClaim.holds_of_wide 5 Try.f5 rfl rfl rfl rfl rfl rfl rfl ⟨rfl, rfl, rfl, rfl, rfl⟩ rfl rfl rfl rfl rfl (by kernel_rfl) Try.func5 (by kernel_rfl)
    (of_decide_eq_true (by kernel_rfl)) (by unfold Func.isWrapper; first | (rw [if_pos (by decide +kernel)]; kernel_rfl) | (rw [if_neg (by decide +kernel)]; exact ⟨rfl, rfl⟩))
    (fun os started H enc _ => lifted os started H enc)
#print axioms said
end Go.Proofs.Ytclkpbokngamiaa.EvalKnown
