/- EvalCompares: the law returns true at every input. -/
import Derived.Test.YtaeobillbocemaaLift
import Derived.Test.YtaeobillbocemaaEvalWorks
import Derived.Test.YtaeobillbocemaaMix
import Derived.Test.YtaeobillbocemaaTypes
namespace Go.Proofs.Ytaeobillbocemaa.EvalCompares
open Go.ChangeShapes Go.WideShapes Go.ChangeAt Go.RowKit Go.Proofs.Ytaeobillbocemaa.By
set_option linter.unusedVariables false
-- witness .agg #[.int .u8 0, .int .i64 0, .string ByteArray.empty]
-- witness .agg #[.int .u8 0, .int .i64 0, .string ByteArray.empty]
/- EvalCompares: of whatever two values of one kind just one of <, =, > holds; the other three say the contrary; with null all are null. No conditions. -/
open Go.Proofs.Ytaeobillbocemaa.Dt
/-- What is there between two comparisons. -/
structure CmpAt (a b : V) (w wr : World) (kv : Value) (k : Nat) (vs : List V) : Prop where
  own : OwnV wr (w.heap.size + 2) kv vs
  vs : vs = (List.range k).map fun j => (doS (12 + j) [a, b]).1
  a0 : wr.cell? ⟨w.heap.size, 0, none⟩ = some (.int .u8 (a.k : Int))
  a1 : wr.cell? ⟨w.heap.size, 1, none⟩ = some (.int .i64 a.n)
  a2 : wr.cell? ⟨w.heap.size, 2, none⟩ = some (.string a.s)
  b0 : wr.cell? ⟨w.heap.size + 1, 0, none⟩ = some (.int .u8 (b.k : Int))
  b1 : wr.cell? ⟨w.heap.size + 1, 1, none⟩ = some (.int .i64 b.n)
  b2 : wr.cell? ⟨w.heap.size + 1, 2, none⟩ = some (.string b.s)
  bel : Below w.heap.size w wr
  tog : 0 < k → a.k = b.k ∨ a.k = 0 ∨ b.k = 0
theorem CmpAt.later {a b : V} {w wr wx : World} {kv : Value} {k : Nat} {vs : List V} (h : CmpAt a b w wr kv k vs) (hb : Below wr.heap.size wr wx) : CmpAt a b w wx kv k vs :=
  ⟨h.own.below hb, h.vs, (hb.cell (cell_lt h.a0)).trans h.a0, (hb.cell (cell_lt h.a1)).trans h.a1, (hb.cell (cell_lt h.a2)).trans h.a2, (hb.cell (cell_lt h.b0)).trans h.b0, (hb.cell (cell_lt h.b1)).trans h.b1, (hb.cell (cell_lt h.b2)).trans h.b2, next h.bel hb, h.tog⟩
theorem cmp_tog (a b : V) (j : Nat) (hj : j < 6) : (doS (12 + j) [a, b]).2 = if a.k = b.k ∨ a.k = 0 ∨ b.k = 0 then 0 else 150 := by
  have ht : togetherB (12 + j) ([a, b].map V.k) = decide (a.k = b.k ∨ a.k = 0 ∨ b.k = 0) := by
    unfold togetherB
    rw [if_neg (by omega), if_neg (by omega), if_pos (by omega)]
    rfl
  by_cases h : a.k = b.k ∨ a.k = 0 ∨ b.k = 0
  · rw [if_pos h]
    rw [decide_eq_true h] at ht
    cases hn : nullB [a, b]
    · rw [doS_cmp ht hn (by omega) (by omega)]
    · rw [doS_null ht (by omega) (by omega) (by omega) hn]
  · rw [if_neg h]
    rw [decide_eq_false h] at ht
    rw [doS_tog ht]
theorem list6 {α : Type} {l : List α} (h : l.length = 6) : ∃ a b c d e f, l = [a, b, c, d, e, f] := by
  match l, h with
  | [a, b, c, d, e, f], _ => exact ⟨a, b, c, d, e, f, rfl⟩
def zer3 : List Value := [.int .u8 0, .int .i64 0, .string ⟨#[]⟩]
/-- What the operations behind the loop give: the row, its elements' places, its elements, six boxes; the boxes are filled by the last six. -/
def cmpPr (sl : Value) (b o : Nat) (xs : List V) (dn : Nat → Bool) (j : Nat) (v : Value) (s e : Nat) (w : World) : Prop :=
  if j < 18 then (if j % 3 = 0 then v = sl else if j % 3 = 1 then v = .pointer (some ⟨b, o + j / 3 * 3, none⟩) else v = (xs.getD (j / 3) nullV).val)
  else if j < 24 then v = .pointer (some ⟨s, 0, none⟩) ∧ e = s + 1 ∧ Box s (if dn (j + 6) = true then (xs.getD (j - 18) nullV).cells else zer3) w
  else True
def cmpAim (i : Nat) : Option Nat := if 24 ≤ i then some (i - 6) else none
section
variable {sl : Value} {b o : Nat} {xs : List V} {dn : Nat → Bool} {j : Nat} {v : Value} {s e : Nat} {w w' : World}
theorem box_grown {cs : List Value} {r : Option Nat} (h : Box s cs w) (hg : w.grownBy w' r) (hs : s < w.heap.size) (hr : ∀ k, r = some k → k ≠ s) : Box s cs w' := fun i u hu => by
  have hb := hg.block s hs (fun e => hr s e.symm rfl)
  exact ⟨(World.cell?_of_block (a := ⟨s, i, none⟩) hb).trans (h i u hu).1, (World.frozen?_of_block (a := ⟨s, i, none⟩) hb).trans (h i u hu).2⟩
theorem cmpPr_stab (i : Nat) (r : Option Nat) (hij : i ≠ j) (ha : cmpAim i ≠ some j) (h : cmpPr sl b o xs dn j v s e w) (he : e ≤ w.heap.size) (hg : w.grownBy w' r) (hr : ∀ k, r = some k → k < s ∨ e ≤ k) : cmpPr sl b o xs (upd dn i) j v s e w' := by
  unfold cmpPr at *
  by_cases h1 : j < 18
  · rw [if_pos h1] at h ⊢; exact h
  · rw [if_neg h1] at h ⊢
    by_cases h2 : j < 24
    · rw [if_pos h2] at h ⊢
      obtain ⟨hv, hse, hbx⟩ := h
      have hne : i ≠ j + 6 := fun h => ha (by unfold cmpAim; rw [if_pos (by omega)]; congr 1; omega)
      have hu : upd dn i (j + 6) = dn (j + 6) := by unfold upd; simp [Ne.symm hne]
      rw [hu]
      refine ⟨hv, hse, box_grown hbx hg (by omega) fun k hk => ?_⟩
      have := hr k hk
      omega
    · rw [if_neg h2]; trivial
theorem cmpPr_sl (h1 : j < 18) (h2 : j % 3 = 0) : cmpPr sl b o xs dn j sl s e w := by unfold cmpPr; rw [if_pos h1, if_pos h2]
theorem cmpPr_sl' (h : cmpPr sl b o xs dn j v s e w) (h1 : j < 18) (h2 : j % 3 = 0) : v = sl := by unfold cmpPr at h; rwa [if_pos h1, if_pos h2] at h
theorem cmpPr_ptr (h1 : j < 18) (h2 : j % 3 = 1) : cmpPr sl b o xs dn j (.pointer (some ⟨b, o + j / 3 * 3, none⟩)) s e w := by unfold cmpPr; rw [if_pos h1, if_neg (by omega), if_pos h2]
theorem cmpPr_ptr' (h : cmpPr sl b o xs dn j v s e w) (h1 : j < 18) (h2 : j % 3 = 1) : v = .pointer (some ⟨b, o + j / 3 * 3, none⟩) := by unfold cmpPr at h; rwa [if_pos h1, if_neg (by omega), if_pos h2] at h
theorem cmpPr_val (h1 : j < 18) (h2 : j % 3 = 2) : cmpPr sl b o xs dn j (xs.getD (j / 3) nullV).val s e w := by unfold cmpPr; rw [if_pos h1, if_neg (by omega), if_neg (by omega)]
theorem cmpPr_val' (h : cmpPr sl b o xs dn j v s e w) (h1 : j < 18) (h2 : j % 3 = 2) : v = (xs.getD (j / 3) nullV).val := by unfold cmpPr at h; rwa [if_pos h1, if_neg (by omega), if_neg (by omega)] at h
theorem cmpPr_box (w : World) (h1 : 18 ≤ j) (h2 : j < 24) (hd : dn (j + 6) = false) : cmpPr sl b o xs dn j (.pointer (some ⟨w.heap.size, 0, none⟩)) w.heap.size (w.alloc (.cells #[.int .u8 0, .int .i64 0, .string ⟨#[]⟩] 23)).heap.size (w.alloc (.cells #[.int .u8 0, .int .i64 0, .string ⟨#[]⟩] 23)) := by
  unfold cmpPr
  rw [if_neg (by omega), if_pos h2, hd]
  refine ⟨rfl, by simp, ?_⟩
  rw [if_neg (by decide)]
  intro i u hu
  rcases i with _ | _ | _ | i <;> simp [zer3] at hu <;> subst hu <;> exact ⟨by go_simp, by go_simp⟩
theorem cmpPr_box' (h : cmpPr sl b o xs dn j v s e w) (h1 : 18 ≤ j) (h2 : j < 24) : v = .pointer (some ⟨s, 0, none⟩) ∧ e = s + 1 ∧ Box s (if dn (j + 6) = true then (xs.getD (j - 18) nullV).cells else zer3) w := by
  unfold cmpPr at h
  rwa [if_neg (by omega), if_pos h2] at h
theorem cmpPr_end (h : 24 ≤ j) : cmpPr sl b o xs dn j v s e w := by unfold cmpPr; rw [if_neg (by omega), if_neg (by omega)]; trivial
/-- A box is filled. -/
theorem cmpPr_fill (k : Nat) (hk : k < 6) (v' : Value) (hv : v' = .pointer (some ⟨s, 0, none⟩)) (he : e = s + 1) (hb : Box s zer3 w) (x : V) (hx : xs.getD k nullV = x) :
    cmpPr sl b o xs (upd dn (24 + k)) (18 + k) v' s e (((w.setCell ⟨s, 0, none⟩ (.int .u8 (x.k : Int))).setCell ⟨s, 1, none⟩ (.int .i64 x.n)).setCell ⟨s, 2, none⟩ (.string x.s)) := by
  unfold cmpPr
  rw [if_neg (by omega), if_pos (by omega)]
  refine ⟨hv, he, ?_⟩
  rw [if_pos (by unfold upd; simp; omega), show 18 + k - 18 = k by omega, hx]
  exact ((hb.set (i := 0) (u := .int .u8 (x.k : Int)) (by simp [zer3])).set (i := 1) (u := .int .i64 x.n) (by simp [zer3])).set (i := 2) (u := .string x.s) (by simp [zer3])
end
theorem eval_const (a : Act) (v : Value) : a.eval (.const v) = v := rfl
theorem not0 (w : World) : Calls Try.prog 22 #[(numV 0).val] w fun e w' => e = .returned (numV 1).val ∧ Below w.heap.size w w' := by
  have hb0 := resBox_new (w.alloc (.cells #[.int .u8 ((numV 0).k : Int), .int .i64 (numV 0).n, .string (numV 0).s] 23)) 23
  rw [show (w.alloc (.cells #[.int .u8 ((numV 0).k : Int), .int .i64 (numV 0).n, .string (numV 0).s] 23)).heap.size = w.heap.size + 1 by simp] at hb0
  have HB0 := Lib.hid hb0
  have hbA : Below w.heap.size w ((w.alloc (.cells #[.int .u8 ((numV 0).k : Int), .int .i64 (numV 0).n, .string (numV 0).s] 23)).alloc (.cells #[.int .u8 0, .int .i64 0, .string ⟨#[]⟩] 23)) := by go_grown
  have HBA := Lib.hid hbA
  clear hb0 hbA
  have hn : (numV 0).n = 0 := rfl
  go_enter Try.func22, Try.ntmps22
  go_wp2_with fail
  refine (numberL 1 _).mono ?_
  rintro e w1 ⟨rfl, hb1⟩
  obtain ⟨c0, c1, c2, f0, f1, f2⟩ := HB0.out.later hb1
  have hb3 := next HBA.out hb1
  have hz3 := cell_lt c0
  clear hb1
  go_wp2_with fail
  obtain ⟨q0, q1, q2⟩ := filled3 w1 (w.heap.size + 1) _ _ _ (.int .u8 ((numV 1).k : Int)) (.int .i64 (numV 1).n) (.string (numV 1).s) c0 c1 c2
  refine bodyPost_ret (v := (numV 1).val) (by simp [results, Try.results22, go_sem, q0, q1, q2]) rfl ⟨rfl, ?_⟩
  go_grown
theorem not1 (w : World) : Calls Try.prog 22 #[(numV 1).val] w fun e w' => e = .returned (numV 0).val ∧ Below w.heap.size w w' := by
  have hb0 := resBox_new (w.alloc (.cells #[.int .u8 ((numV 1).k : Int), .int .i64 (numV 1).n, .string (numV 1).s] 23)) 23
  rw [show (w.alloc (.cells #[.int .u8 ((numV 1).k : Int), .int .i64 (numV 1).n, .string (numV 1).s] 23)).heap.size = w.heap.size + 1 by simp] at hb0
  have HB0 := Lib.hid hb0
  have hbA : Below w.heap.size w ((w.alloc (.cells #[.int .u8 ((numV 1).k : Int), .int .i64 (numV 1).n, .string (numV 1).s] 23)).alloc (.cells #[.int .u8 0, .int .i64 0, .string ⟨#[]⟩] 23)) := by go_grown
  have HBA := Lib.hid hbA
  clear hb0 hbA
  have hn : (numV 1).n = 1 := rfl
  go_enter Try.func22, Try.ntmps22
  go_wp2_with fail
  refine (numberL 0 _).mono ?_
  rintro e w1 ⟨rfl, hb1⟩
  obtain ⟨c0, c1, c2, f0, f1, f2⟩ := HB0.out.later hb1
  have hb3 := next HBA.out hb1
  have hz3 := cell_lt c0
  clear hb1
  go_wp2_with fail
  obtain ⟨q0, q1, q2⟩ := filled3 w1 (w.heap.size + 1) _ _ _ (.int .u8 ((numV 0).k : Int)) (.int .i64 (numV 0).n) (.string (numV 0).s) c0 c1 c2
  refine bodyPost_ret (v := (numV 0).val) (by simp [results, Try.results22, go_sem, q0, q1, q2]) rfl ⟨rfl, ?_⟩
  go_grown
set_option maxRecDepth 100000 in
set_option maxHeartbeats 16000000 in
theorem walk (a b : V) (w : World) (ha : a.ok) (hb : b.ok) :
    Calls Try.prog 6 #[a.val, b.val] w fun e w' => e = .returned (.bool true) ∧ Below w.heap.size w w' := by
  have HA := Lib.hid ha
  have HB := Lib.hid hb
  have hat0 : CmpAt a b w ((w.alloc (.cells #[.int .u8 (a.k : Int), .int .i64 a.n, .string a.s] 23)).alloc (.cells #[.int .u8 (b.k : Int), .int .i64 b.n, .string b.s] 23)) (.slice none 0 0) 0 [] := by
    refine ⟨OwnV.nil _ _, rfl, ?_, ?_, ?_, ?_, ?_, ?_, ?_, fun h => absurd h (Nat.lt_irrefl 0)⟩
    · go_simp
    · go_simp
    · go_simp
    · go_simp
    · go_simp
    · go_simp
    · go_grown
  have HAT0 := Lib.hid hat0
  clear ha hb hat0
  go_enter Try.func6, Try.ntmps6
  go_wp2_with fail
  generalize hWA : ((w.alloc (.cells #[.int .u8 (a.k : Int), .int .i64 a.n, .string a.s] 23)).alloc (.cells #[.int .u8 (b.k : Int), .int .i64 b.n, .string b.s] 23)) = WA at *
  clear hWA
  refine (works _).mono ?_
  rintro e w1 ⟨rfl, hb1⟩
  have HAT1 := Lib.hid (HAT0.out.later hb1)
  clear hb1
  obtain ⟨hown, hvs, a0, a1, a2, b0, b1, b2, hbel⟩ := HAT1.out
  clear hown hvs hbel
  by_cases hs : 4096 < a.s.size
  · have es : decide ((4096 : Int) < (a.s.size : Int)) = true := decide_eq_true (by omega)
    go_wp2_with fail
    go_ret
    exact ⟨rfl, HAT1.out.bel⟩
  have es : decide ((4096 : Int) < (a.s.size : Int)) = false := decide_eq_false (by omega)
  clear hs
  by_cases ht : 4096 < b.s.size
  · have et : decide ((4096 : Int) < (b.s.size : Int)) = true := decide_eq_true (by omega)
    go_wp2_with fail
    go_ret
    exact ⟨rfl, HAT1.out.bel⟩
  have et : decide ((4096 : Int) < (b.s.size : Int)) = false := decide_eq_false (by omega)
  clear ht
  go_wp2_with fail
  clear a0 a1 a2 b0 b1 b2
  go_loopg [5, 6] 6 (fun gk kv i wr => ∃ (k : Nat) (vs : List V), i = .int .u8 ((12 + k : Nat) : Int) ∧ gk = 6 - k ∧ k ≤ 6 ∧ vs.length = k ∧ Hid (CmpAt a b w wr kv k vs))
  case atStart => exact ⟨0, [], rfl, rfl, Nat.zero_le _, rfl, HAT1⟩
  case round =>
    obtain ⟨k, vs, rfl, rfl, hk6, hlv, hca⟩ := hrel
    obtain ⟨hown, hvs, a0, a1, a2, b0, b1, b2, hbel⟩ := hca.out
    obtain ⟨ak, ck, rfl⟩ := hown.shape
    clear hown hvs hbel
    obtain ⟨O, hO⟩ : ∃ O, O = 12 + k := ⟨_, rfl⟩
    rw [← hO]
    have HLV := Lib.hid hlv
    clear hlv
    by_cases hlt : k < 6
    · have ho17 : decide ((O : Int) ≤ 17) = true := decide_eq_true (by omega)
      have HOB := Lib.hid (show 12 ≤ O ∧ O ≤ 17 by omega)
      have HO := Lib.hid hO
      clear hO
      go_wp2_with fail
      refine (twoL O a b _).mono ?_
      rintro e w2 ⟨⟨kv2, rfl, hsl⟩, hb2⟩
      have HC2 := Lib.hid (hca.out.later hb2)
      have hev := evalW (exOf O kv2 [exV a, exV b]) (.slice none 0 0) [] w2 (exOf_in hsl (fun y hy => by simp at hy; rcases hy with rfl | rfl <;> exact exV_in _ _)) (exOf_ok (by have := HOB.out; omega) (by simp) (fun y hy => by
        simp at hy
        rcases hy with rfl | rfl
        · exact exV_ok HA.out
        · exact exV_ok HB.out)) (SlAt.nil _ _ _) (fun v hv => by cases hv) (by simp)
      rw [eval_two [] (by have := HOB.out; omega) (by have := HOB.out; omega)] at hev
      clear hb2 hsl a0 a1 a2 b0 b1 b2
      by_cases hck : checkV a = 0 ∧ checkV b = 0
      · rw [if_pos hck] at hev
        clear hck
        have h2 := cmp_tog a b k hlt
        rw [← HO.out] at h2
        obtain ⟨v, hv⟩ : ∃ v, v = (doS O [a, b]).1 := ⟨_, rfl⟩
        have hvok : v.ok := by rw [hv]; exact doS_ok _ _ (fun x hx => by simp at hx; rcases hx with rfl | rfl; exact HA.out; exact HB.out)
        by_cases hC : a.k = b.k ∨ a.k = 0 ∨ b.k = 0
        · rw [if_pos hC] at h2
          have hd : doS O [a, b] = (v, 0) := Prod.ext hv.symm h2
          rw [hd] at hev
          have HEV := Lib.hid hev
          have HV := Lib.hid hv
          have HLT := Lib.hid hlt
          have HCK := Lib.hid hC
          have HV8 : Hid (((O : Int) + 1) % 256 = ((12 + (k + 1) : Nat) : Int)) := Lib.hid (by have := HO.out; have := HOB.out; omega)
          clear hev hd h2 hC hv hvok hlt
          go_wp2_with fail
          refine HEV.out.mono ?_
          rintro e w3 ⟨rfl, hb3⟩
          have HC3 := Lib.hid (HC2.out.later hb3)
          clear hb3
          obtain ⟨hown, hvs, a0, a1, a2, b0, b1, b2, hbel⟩ := HC3.out
          have z0 : w.heap.size < w3.heap.size := cell_lt a0
          have z1 : w.heap.size + 1 < w3.heap.size := cell_lt b0
          clear hown hvs

          have hsrc := reads_V (w3.alloc (.cells #[.int .u8 (v.k : Int), .int .i64 v.n, .string v.s] 23)) (w.heap.size + 2) v (by simp; omega) (w3.heap.size + 1) (by simp)
          go_wp2_with (at_builtin; refine wpList_append_reads rfl (.tmp 65) (.tmp 67) 27 rfl (w.heap.size + 2) 23 3 32 elV _ vs.length (vCells vs) rfl (World.ownsRow.alloc (World.ownsRow.alloc HC3.out.own _) _) _ 1 _ rfl hsrc (by simp [Value.oneCell']) (by have := HLV.out; unfold maxLen; omega) (by have := HLV.out; omega) (by simp; omega) ?_; intro v' w4 hown4 hgrow4 hbel4; have HO4 := Lib.hid (OwnV.snoc hown4); have HB4 := Lib.hid hbel4; clear hown4 hgrow4 hbel4)
          have hbA := ((((Below.refl _ w3).alloc (Nat.le_refl _) (.cells #[.int .u8 (v.k : Int), .int .i64 v.n, .string v.s] 23))).alloc (by simp) (.cells #[.int .u8 (v.k : Int), .int .i64 v.n, .string v.s] 23))
          have fin : CmpAt a b w w4 v' (k + 1) (vs ++ [v]) := by
            have h5 := HC3.out.later hbA
            have hc : ∀ p : Addr, p.block < w.heap.size + 2 → w4.cell? p = ((w3.alloc (.cells #[.int .u8 (v.k : Int), .int .i64 v.n, .string v.s] 23)).alloc (.cells #[.int .u8 (v.k : Int), .int .i64 v.n, .string v.s] 23)).cell? p := fun p hp => HB4.out.cell hp
            refine ⟨HO4.out, ?_, (hc _ (by show w.heap.size < _; omega)).trans h5.a0, (hc _ (by show w.heap.size < _; omega)).trans h5.a1, (hc _ (by show w.heap.size < _; omega)).trans h5.a2, (hc _ (by show w.heap.size + 1 < _; omega)).trans h5.b0, (hc _ (by show w.heap.size + 1 < _; omega)).trans h5.b1, (hc _ (by show w.heap.size + 1 < _; omega)).trans h5.b2, (h5.bel).trans (HB4.out.mono (by omega)), fun _ => HCK.out⟩
            rw [List.range_succ, List.map_append, ← HC3.out.vs, HV.out, HO.out]
            rfl
          have FIN := Lib.hid fin
          clear fin hbA a0 a1 a2 b0 b1 b2 hsrc
          go_roundg (6 - (k + 1))
          case measure => exact Nat.sub_lt_sub_left HLT.out (Nat.lt_succ_self _)
          case rel => exact ⟨k + 1, vs ++ [v], by first | exact congrArg (Value.int .u8) HV8.out | (simp; exact HV8.out), rfl, HLT.out, by simp; exact HLV.out, FIN⟩
        · rw [if_neg hC] at h2
          have hd : doS O [a, b] = (v, 150) := Prod.ext hv.symm h2
          rw [hd] at hev
          have HEV := Lib.hid hev
          have n1 : ((a.k : Int) != (b.k : Int)) = true := by simp; omega
          have n2 : ((a.k : Int) != 0) = true := by simp; omega
          have n3 : ((b.k : Int) != 0) = true := by simp; omega
          clear hev hd h2 hC hv hvok hlt
          go_wp2_with fail
          refine HEV.out.mono ?_
          rintro e w3 ⟨rfl, hb3⟩
          have HC3 := Lib.hid (HC2.out.later hb3)
          clear hb3
          obtain ⟨hown, hvs, a0, a1, a2, b0, b1, b2, hbel⟩ := HC3.out
          have z0 : w.heap.size < w3.heap.size := cell_lt a0
          have z1 : w.heap.size + 1 < w3.heap.size := cell_lt b0
          clear hown hvs

          have y0 : (w3.alloc (.cells #[.int .u8 (v.k : Int), .int .i64 v.n, .string v.s] 23)).cell? ⟨w.heap.size, 0, none⟩ = some (.int .u8 (a.k : Int)) := by rw [cell_alloc_lt z0]; exact a0
          have y1 : (w3.alloc (.cells #[.int .u8 (v.k : Int), .int .i64 v.n, .string v.s] 23)).cell? ⟨w.heap.size + 1, 0, none⟩ = some (.int .u8 (b.k : Int)) := by rw [cell_alloc_lt z1]; exact b0
          go_wp2_with fail
          go_ret
          exact ⟨rfl, hbel.alloc (by omega) _⟩
      · rw [if_neg hck] at hev
        have HEV := Lib.hid hev
        clear hev hck hlt
        go_wp2_with fail
        refine HEV.out.mono ?_
        rintro e w3 ⟨rfl, hb3⟩
        have HC3 := Lib.hid (HC2.out.later hb3)
        clear hb3
        obtain ⟨hown, hvs, a0, a1, a2, b0, b1, b2, hbel⟩ := HC3.out
        have z0 : w.heap.size < w3.heap.size := cell_lt a0
        have z1 : w.heap.size + 1 < w3.heap.size := cell_lt b0
        clear hown hvs

        go_wp2_with fail
        go_ret
        exact ⟨rfl, hbel.alloc (by omega) _⟩
    · obtain rfl : k = 6 := by omega
      obtain rfl : O = 18 := by omega
      obtain ⟨x0, x1, x2, x3, x4, x5, hvs⟩ := list6 HLV.out
      have hca6 := hca.out
      rw [hvs] at hca6
      have hslice : Value.slice ak vs.length ck = .slice ak 6 ck := by rw [HLV.out]
      have hat : VsAt wr (.slice ak 6 ck) [x0, x1, x2, x3, x4, x5] := hca6.own.at_
      obtain ⟨bL, oL, hak, hbz, c00, c01, c02⟩ := at3 hat (k := 0) rfl
      subst hak
      rw [Nat.zero_mul, Nat.add_zero] at c00 c01 c02
      obtain ⟨b1x, o1x, e1x, _, c10, c11, c12⟩ := at3 hat (k := 1) rfl
      cases e1x
      obtain ⟨b2x, o2x, e2x, _, c20, c21, c22⟩ := at3 hat (k := 2) rfl
      cases e2x
      obtain ⟨b3x, o3x, e3x, _, c30, c31, c32⟩ := at3 hat (k := 3) rfl
      cases e3x
      obtain ⟨b4x, o4x, e4x, _, c40, c41, c42⟩ := at3 hat (k := 4) rfl
      cases e4x
      obtain ⟨b5x, o5x, e5x, _, c50, c51, c52⟩ := at3 hat (k := 5) rfl
      cases e5x
      have hxs : [x0, x1, x2, x3, x4, x5] = [(doS 12 [a, b]).1, (doS 13 [a, b]).1, (doS 14 [a, b]).1, (doS 15 [a, b]).1, (doS 16 [a, b]).1, (doS 17 [a, b]).1] := by rw [← hvs, hca.out.vs]; rfl
      have HXS := Lib.hid hxs
      clear hxs
      have hvs6 := HLV.out
      rw [hslice]
      clear hslice hlt
      go_wp2_with fail
      refine wp_region_mix (cmpPr (.slice (some ⟨bL, oL, none⟩) 6 ck) bL oL [x0, x1, x2, x3, x4, x5]) cmpAim (by kernel_rfl) (by kernel_rfl) (fun dn i j v s e w1 w2 r hij ha h he hg hr => cmpPr_stab i r hij ha h he hg hr) ?_ ?_
      · intro i hi dn us ss es A w1 hother hat hb hdi hcl hd
        have l0 : ∀ p u, wr.cell? p = some u → w1.cell? p = some u := fun p u h => (hb.cell (cell_lt h)).trans h
        match i, hi, hdi with
        | 0, _, _ =>
          have h5 : A.eval (.tmp 5) = (.slice (some ⟨bL, oL, none⟩) 6 ck) := hother 5 (by kernel_rfl)
          exact does_val rfl rfl rfl (.slice (some ⟨bL, oL, none⟩) 6 ck) w1 (by simp [execOp, h5]) (Below.refl _ _) (cmpPr_sl (by omega) (by omega))
        | 1, _, _ =>
          have hu := cmpPr_sl' (j := 0) (hd _ rfl ⟨0, .data⟩ (by simp) rfl).2.1 (by decide) (by decide)
          have h5 : A.eval (.tmp 69) = (.slice (some ⟨bL, oL, none⟩) 6 ck) := (hat 0 69 (by simp) (by kernel_rfl) (by simp)).trans hu
          have h6 : A.tmps[69]?.getD undef = (.slice (some ⟨bL, oL, none⟩) 6 ck) := by have h7 := h5; rwa [eval_tmp, Array.getD_eq_getD_getElem?] at h7
          exact does_val rfl rfl rfl (.pointer (some ⟨bL, oL + 0 * 3, none⟩)) w1 (by simp only [execOp]; go_simp) (Below.refl _ _) (cmpPr_ptr (j := 1) (by omega) (by omega))
        | 2, _, _ =>
          have hu := cmpPr_ptr' (j := 1) (hd _ rfl ⟨1, .data⟩ (by simp) rfl).2.1 (by decide) (by decide)
          have h5 : A.eval (.tmp 70) = .pointer (some ⟨bL, oL, none⟩) := (hat 1 70 (by simp) (by kernel_rfl) (by simp)).trans hu
          have h6 : A.tmps[70]?.getD undef = .pointer (some ⟨bL, oL, none⟩) := by have h7 := h5; rwa [eval_tmp, Array.getD_eq_getD_getElem?] at h7
          have d0 := l0 _ _ c00
          have d1 := l0 _ _ c01
          have d2 := l0 _ _ c02
          exact does_val rfl rfl rfl x0.val w1 (by simp only [execOp]; go_simp) (Below.refl _ _) (cmpPr_val (j := 2) (xs := [x0, x1, x2, x3, x4, x5]) (by omega) (by omega))
        | 3, _, _ =>
          have h5 : A.eval (.tmp 5) = (.slice (some ⟨bL, oL, none⟩) 6 ck) := hother 5 (by kernel_rfl)
          exact does_val rfl rfl rfl (.slice (some ⟨bL, oL, none⟩) 6 ck) w1 (by simp [execOp, h5]) (Below.refl _ _) (cmpPr_sl (by omega) (by omega))
        | 4, _, _ =>
          have hu := cmpPr_sl' (j := 3) (hd _ rfl ⟨3, .data⟩ (by simp) rfl).2.1 (by decide) (by decide)
          have h5 : A.eval (.tmp 72) = (.slice (some ⟨bL, oL, none⟩) 6 ck) := (hat 3 72 (by simp) (by kernel_rfl) (by simp)).trans hu
          have h6 : A.tmps[72]?.getD undef = (.slice (some ⟨bL, oL, none⟩) 6 ck) := by have h7 := h5; rwa [eval_tmp, Array.getD_eq_getD_getElem?] at h7
          exact does_val rfl rfl rfl (.pointer (some ⟨bL, oL + 1 * 3, none⟩)) w1 (by simp only [execOp]; go_simp) (Below.refl _ _) (cmpPr_ptr (j := 4) (by omega) (by omega))
        | 5, _, _ =>
          have hu := cmpPr_ptr' (j := 4) (hd _ rfl ⟨4, .data⟩ (by simp) rfl).2.1 (by decide) (by decide)
          have h5 : A.eval (.tmp 73) = .pointer (some ⟨bL, oL + 1 * 3, none⟩) := (hat 4 73 (by simp) (by kernel_rfl) (by simp)).trans hu
          have h6 : A.tmps[73]?.getD undef = .pointer (some ⟨bL, oL + 1 * 3, none⟩) := by have h7 := h5; rwa [eval_tmp, Array.getD_eq_getD_getElem?] at h7
          have d0 := l0 _ _ c10
          have d1 := l0 _ _ c11
          have d2 := l0 _ _ c12
          exact does_val rfl rfl rfl x1.val w1 (by simp only [execOp]; go_simp) (Below.refl _ _) (cmpPr_val (j := 5) (xs := [x0, x1, x2, x3, x4, x5]) (by omega) (by omega))
        | 6, _, _ =>
          have h5 : A.eval (.tmp 5) = (.slice (some ⟨bL, oL, none⟩) 6 ck) := hother 5 (by kernel_rfl)
          exact does_val rfl rfl rfl (.slice (some ⟨bL, oL, none⟩) 6 ck) w1 (by simp [execOp, h5]) (Below.refl _ _) (cmpPr_sl (by omega) (by omega))
        | 7, _, _ =>
          have hu := cmpPr_sl' (j := 6) (hd _ rfl ⟨6, .data⟩ (by simp) rfl).2.1 (by decide) (by decide)
          have h5 : A.eval (.tmp 75) = (.slice (some ⟨bL, oL, none⟩) 6 ck) := (hat 6 75 (by simp) (by kernel_rfl) (by simp)).trans hu
          have h6 : A.tmps[75]?.getD undef = (.slice (some ⟨bL, oL, none⟩) 6 ck) := by have h7 := h5; rwa [eval_tmp, Array.getD_eq_getD_getElem?] at h7
          exact does_val rfl rfl rfl (.pointer (some ⟨bL, oL + 2 * 3, none⟩)) w1 (by simp only [execOp]; go_simp) (Below.refl _ _) (cmpPr_ptr (j := 7) (by omega) (by omega))
        | 8, _, _ =>
          have hu := cmpPr_ptr' (j := 7) (hd _ rfl ⟨7, .data⟩ (by simp) rfl).2.1 (by decide) (by decide)
          have h5 : A.eval (.tmp 76) = .pointer (some ⟨bL, oL + 2 * 3, none⟩) := (hat 7 76 (by simp) (by kernel_rfl) (by simp)).trans hu
          have h6 : A.tmps[76]?.getD undef = .pointer (some ⟨bL, oL + 2 * 3, none⟩) := by have h7 := h5; rwa [eval_tmp, Array.getD_eq_getD_getElem?] at h7
          have d0 := l0 _ _ c20
          have d1 := l0 _ _ c21
          have d2 := l0 _ _ c22
          exact does_val rfl rfl rfl x2.val w1 (by simp only [execOp]; go_simp) (Below.refl _ _) (cmpPr_val (j := 8) (xs := [x0, x1, x2, x3, x4, x5]) (by omega) (by omega))
        | 9, _, _ =>
          have h5 : A.eval (.tmp 5) = (.slice (some ⟨bL, oL, none⟩) 6 ck) := hother 5 (by kernel_rfl)
          exact does_val rfl rfl rfl (.slice (some ⟨bL, oL, none⟩) 6 ck) w1 (by simp [execOp, h5]) (Below.refl _ _) (cmpPr_sl (by omega) (by omega))
        | 10, _, _ =>
          have hu := cmpPr_sl' (j := 9) (hd _ rfl ⟨9, .data⟩ (by simp) rfl).2.1 (by decide) (by decide)
          have h5 : A.eval (.tmp 78) = (.slice (some ⟨bL, oL, none⟩) 6 ck) := (hat 9 78 (by simp) (by kernel_rfl) (by simp)).trans hu
          have h6 : A.tmps[78]?.getD undef = (.slice (some ⟨bL, oL, none⟩) 6 ck) := by have h7 := h5; rwa [eval_tmp, Array.getD_eq_getD_getElem?] at h7
          exact does_val rfl rfl rfl (.pointer (some ⟨bL, oL + 3 * 3, none⟩)) w1 (by simp only [execOp]; go_simp) (Below.refl _ _) (cmpPr_ptr (j := 10) (by omega) (by omega))
        | 11, _, _ =>
          have hu := cmpPr_ptr' (j := 10) (hd _ rfl ⟨10, .data⟩ (by simp) rfl).2.1 (by decide) (by decide)
          have h5 : A.eval (.tmp 79) = .pointer (some ⟨bL, oL + 3 * 3, none⟩) := (hat 10 79 (by simp) (by kernel_rfl) (by simp)).trans hu
          have h6 : A.tmps[79]?.getD undef = .pointer (some ⟨bL, oL + 3 * 3, none⟩) := by have h7 := h5; rwa [eval_tmp, Array.getD_eq_getD_getElem?] at h7
          have d0 := l0 _ _ c30
          have d1 := l0 _ _ c31
          have d2 := l0 _ _ c32
          exact does_val rfl rfl rfl x3.val w1 (by simp only [execOp]; go_simp) (Below.refl _ _) (cmpPr_val (j := 11) (xs := [x0, x1, x2, x3, x4, x5]) (by omega) (by omega))
        | 12, _, _ =>
          have h5 : A.eval (.tmp 5) = (.slice (some ⟨bL, oL, none⟩) 6 ck) := hother 5 (by kernel_rfl)
          exact does_val rfl rfl rfl (.slice (some ⟨bL, oL, none⟩) 6 ck) w1 (by simp [execOp, h5]) (Below.refl _ _) (cmpPr_sl (by omega) (by omega))
        | 13, _, _ =>
          have hu := cmpPr_sl' (j := 12) (hd _ rfl ⟨12, .data⟩ (by simp) rfl).2.1 (by decide) (by decide)
          have h5 : A.eval (.tmp 81) = (.slice (some ⟨bL, oL, none⟩) 6 ck) := (hat 12 81 (by simp) (by kernel_rfl) (by simp)).trans hu
          have h6 : A.tmps[81]?.getD undef = (.slice (some ⟨bL, oL, none⟩) 6 ck) := by have h7 := h5; rwa [eval_tmp, Array.getD_eq_getD_getElem?] at h7
          exact does_val rfl rfl rfl (.pointer (some ⟨bL, oL + 4 * 3, none⟩)) w1 (by simp only [execOp]; go_simp) (Below.refl _ _) (cmpPr_ptr (j := 13) (by omega) (by omega))
        | 14, _, _ =>
          have hu := cmpPr_ptr' (j := 13) (hd _ rfl ⟨13, .data⟩ (by simp) rfl).2.1 (by decide) (by decide)
          have h5 : A.eval (.tmp 82) = .pointer (some ⟨bL, oL + 4 * 3, none⟩) := (hat 13 82 (by simp) (by kernel_rfl) (by simp)).trans hu
          have h6 : A.tmps[82]?.getD undef = .pointer (some ⟨bL, oL + 4 * 3, none⟩) := by have h7 := h5; rwa [eval_tmp, Array.getD_eq_getD_getElem?] at h7
          have d0 := l0 _ _ c40
          have d1 := l0 _ _ c41
          have d2 := l0 _ _ c42
          exact does_val rfl rfl rfl x4.val w1 (by simp only [execOp]; go_simp) (Below.refl _ _) (cmpPr_val (j := 14) (xs := [x0, x1, x2, x3, x4, x5]) (by omega) (by omega))
        | 15, _, _ =>
          have h5 : A.eval (.tmp 5) = (.slice (some ⟨bL, oL, none⟩) 6 ck) := hother 5 (by kernel_rfl)
          exact does_val rfl rfl rfl (.slice (some ⟨bL, oL, none⟩) 6 ck) w1 (by simp [execOp, h5]) (Below.refl _ _) (cmpPr_sl (by omega) (by omega))
        | 16, _, _ =>
          have hu := cmpPr_sl' (j := 15) (hd _ rfl ⟨15, .data⟩ (by simp) rfl).2.1 (by decide) (by decide)
          have h5 : A.eval (.tmp 84) = (.slice (some ⟨bL, oL, none⟩) 6 ck) := (hat 15 84 (by simp) (by kernel_rfl) (by simp)).trans hu
          have h6 : A.tmps[84]?.getD undef = (.slice (some ⟨bL, oL, none⟩) 6 ck) := by have h7 := h5; rwa [eval_tmp, Array.getD_eq_getD_getElem?] at h7
          exact does_val rfl rfl rfl (.pointer (some ⟨bL, oL + 5 * 3, none⟩)) w1 (by simp only [execOp]; go_simp) (Below.refl _ _) (cmpPr_ptr (j := 16) (by omega) (by omega))
        | 17, _, _ =>
          have hu := cmpPr_ptr' (j := 16) (hd _ rfl ⟨16, .data⟩ (by simp) rfl).2.1 (by decide) (by decide)
          have h5 : A.eval (.tmp 85) = .pointer (some ⟨bL, oL + 5 * 3, none⟩) := (hat 16 85 (by simp) (by kernel_rfl) (by simp)).trans hu
          have h6 : A.tmps[85]?.getD undef = .pointer (some ⟨bL, oL + 5 * 3, none⟩) := by have h7 := h5; rwa [eval_tmp, Array.getD_eq_getD_getElem?] at h7
          have d0 := l0 _ _ c50
          have d1 := l0 _ _ c51
          have d2 := l0 _ _ c52
          exact does_val rfl rfl rfl x5.val w1 (by simp only [execOp]; go_simp) (Below.refl _ _) (cmpPr_val (j := 17) (xs := [x0, x1, x2, x3, x4, x5]) (by omega) (by omega))
        | 18, _, hdi =>
          have hz : dn 24 = false := by
            cases h : dn 24 with
            | false => rfl
            | true =>
              have := hcl 24 _ rfl h ⟨18, .data⟩ (by simp) rfl
              rw [hdi] at this
              cases this
          exact does_val rfl rfl rfl (.pointer (some ⟨w1.heap.size, 0, none⟩)) (w1.alloc (.cells #[.int .u8 0, .int .i64 0, .string ⟨#[]⟩] 23)) (by simp only [execOp]; go_simp) ((Below.refl _ _).alloc (Nat.le_refl _) _) (cmpPr_box (j := 18) w1 (by omega) (by omega) (by unfold upd; simp [hz]))
        | 19, _, hdi =>
          have hz : dn 25 = false := by
            cases h : dn 25 with
            | false => rfl
            | true =>
              have := hcl 25 _ rfl h ⟨19, .data⟩ (by simp) rfl
              rw [hdi] at this
              cases this
          exact does_val rfl rfl rfl (.pointer (some ⟨w1.heap.size, 0, none⟩)) (w1.alloc (.cells #[.int .u8 0, .int .i64 0, .string ⟨#[]⟩] 23)) (by simp only [execOp]; go_simp) ((Below.refl _ _).alloc (Nat.le_refl _) _) (cmpPr_box (j := 19) w1 (by omega) (by omega) (by unfold upd; simp [hz]))
        | 20, _, hdi =>
          have hz : dn 26 = false := by
            cases h : dn 26 with
            | false => rfl
            | true =>
              have := hcl 26 _ rfl h ⟨20, .data⟩ (by simp) rfl
              rw [hdi] at this
              cases this
          exact does_val rfl rfl rfl (.pointer (some ⟨w1.heap.size, 0, none⟩)) (w1.alloc (.cells #[.int .u8 0, .int .i64 0, .string ⟨#[]⟩] 23)) (by simp only [execOp]; go_simp) ((Below.refl _ _).alloc (Nat.le_refl _) _) (cmpPr_box (j := 20) w1 (by omega) (by omega) (by unfold upd; simp [hz]))
        | 21, _, hdi =>
          have hz : dn 27 = false := by
            cases h : dn 27 with
            | false => rfl
            | true =>
              have := hcl 27 _ rfl h ⟨21, .data⟩ (by simp) rfl
              rw [hdi] at this
              cases this
          exact does_val rfl rfl rfl (.pointer (some ⟨w1.heap.size, 0, none⟩)) (w1.alloc (.cells #[.int .u8 0, .int .i64 0, .string ⟨#[]⟩] 23)) (by simp only [execOp]; go_simp) ((Below.refl _ _).alloc (Nat.le_refl _) _) (cmpPr_box (j := 21) w1 (by omega) (by omega) (by unfold upd; simp [hz]))
        | 22, _, hdi =>
          have hz : dn 28 = false := by
            cases h : dn 28 with
            | false => rfl
            | true =>
              have := hcl 28 _ rfl h ⟨22, .data⟩ (by simp) rfl
              rw [hdi] at this
              cases this
          exact does_val rfl rfl rfl (.pointer (some ⟨w1.heap.size, 0, none⟩)) (w1.alloc (.cells #[.int .u8 0, .int .i64 0, .string ⟨#[]⟩] 23)) (by simp only [execOp]; go_simp) ((Below.refl _ _).alloc (Nat.le_refl _) _) (cmpPr_box (j := 22) w1 (by omega) (by omega) (by unfold upd; simp [hz]))
        | 23, _, hdi =>
          have hz : dn 29 = false := by
            cases h : dn 29 with
            | false => rfl
            | true =>
              have := hcl 29 _ rfl h ⟨23, .data⟩ (by simp) rfl
              rw [hdi] at this
              cases this
          exact does_val rfl rfl rfl (.pointer (some ⟨w1.heap.size, 0, none⟩)) (w1.alloc (.cells #[.int .u8 0, .int .i64 0, .string ⟨#[]⟩] 23)) (by simp only [execOp]; go_simp) ((Below.refl _ _).alloc (Nat.le_refl _) _) (cmpPr_box (j := 23) w1 (by omega) (by omega) (by unfold upd; simp [hz]))
        | 24, _, hdi =>
          obtain ⟨hdt, hpt, hst, het⟩ := hd _ rfl ⟨18, .data⟩ (by simp) rfl
          obtain ⟨hup, hue, hub⟩ := cmpPr_box' (j := 18) hpt (by decide) (by decide)
          have hu := cmpPr_val' (j := 2) (hd _ rfl ⟨2, .data⟩ (by simp) rfl).2.1 (by decide) (by decide)
          rw [if_neg (by rw [show (18 : Nat) + 6 = 24 from rfl, hdi]; decide)] at hub
          have h5 : A.eval (.tmp 9) = .pointer (some ⟨ss 18, 0, none⟩) := (hat 18 9 (by simp) (by kernel_rfl) (by simp)).trans hup
          have h6 : A.tmps[9]?.getD undef = .pointer (some ⟨ss 18, 0, none⟩) := by have h7 := h5; rwa [eval_tmp, Array.getD_eq_getD_getElem?] at h7
          have g5 : A.eval (.tmp 71) = x0.val := (hat 2 71 (by simp) (by kernel_rfl) (by simp)).trans hu
          have g6 : A.tmps[71]?.getD undef = x0.val := by have h7 := g5; rwa [eval_tmp, Array.getD_eq_getD_getElem?] at h7
          obtain ⟨z0, f0⟩ := hub 0 _ rfl
          obtain ⟨z1, f1⟩ := hub 1 _ rfl
          obtain ⟨z2, f2⟩ := hub 2 _ rfl
          have hlt2 : ss 18 < es 18 := by rw [hue]; exact Nat.lt_succ_self _
          exact does_store rfl rfl 18 (ss 18) rfl (by simp) (by decide) hdt (Nat.le_refl _) hlt2 (((w1.setCell ⟨ss 18, 0, none⟩ (.int .u8 (x0.k : Int))).setCell ⟨ss 18, 1, none⟩ (.int .i64 x0.n)).setCell ⟨ss 18, 2, none⟩ (.string x0.s))
            (by simp only [execOp]; go_simp) (grown_trans (grown_trans (grown_set _ _ _ _) (grown_set _ _ _ _)) (grown_set _ _ _ _)) (by simp) (cmpPr_end (by omega)) (cmpPr_fill 0 (by omega) _ hup hue hub x0 rfl)
        | 25, _, hdi =>
          obtain ⟨hdt, hpt, hst, het⟩ := hd _ rfl ⟨19, .data⟩ (by simp) rfl
          obtain ⟨hup, hue, hub⟩ := cmpPr_box' (j := 19) hpt (by decide) (by decide)
          have hu := cmpPr_val' (j := 5) (hd _ rfl ⟨5, .data⟩ (by simp) rfl).2.1 (by decide) (by decide)
          rw [if_neg (by rw [show (19 : Nat) + 6 = 25 from rfl, hdi]; decide)] at hub
          have h5 : A.eval (.tmp 10) = .pointer (some ⟨ss 19, 0, none⟩) := (hat 19 10 (by simp) (by kernel_rfl) (by simp)).trans hup
          have h6 : A.tmps[10]?.getD undef = .pointer (some ⟨ss 19, 0, none⟩) := by have h7 := h5; rwa [eval_tmp, Array.getD_eq_getD_getElem?] at h7
          have g5 : A.eval (.tmp 74) = x1.val := (hat 5 74 (by simp) (by kernel_rfl) (by simp)).trans hu
          have g6 : A.tmps[74]?.getD undef = x1.val := by have h7 := g5; rwa [eval_tmp, Array.getD_eq_getD_getElem?] at h7
          obtain ⟨z0, f0⟩ := hub 0 _ rfl
          obtain ⟨z1, f1⟩ := hub 1 _ rfl
          obtain ⟨z2, f2⟩ := hub 2 _ rfl
          have hlt2 : ss 19 < es 19 := by rw [hue]; exact Nat.lt_succ_self _
          exact does_store rfl rfl 19 (ss 19) rfl (by simp) (by decide) hdt (Nat.le_refl _) hlt2 (((w1.setCell ⟨ss 19, 0, none⟩ (.int .u8 (x1.k : Int))).setCell ⟨ss 19, 1, none⟩ (.int .i64 x1.n)).setCell ⟨ss 19, 2, none⟩ (.string x1.s))
            (by simp only [execOp]; go_simp) (grown_trans (grown_trans (grown_set _ _ _ _) (grown_set _ _ _ _)) (grown_set _ _ _ _)) (by simp) (cmpPr_end (by omega)) (cmpPr_fill 1 (by omega) _ hup hue hub x1 rfl)
        | 26, _, hdi =>
          obtain ⟨hdt, hpt, hst, het⟩ := hd _ rfl ⟨20, .data⟩ (by simp) rfl
          obtain ⟨hup, hue, hub⟩ := cmpPr_box' (j := 20) hpt (by decide) (by decide)
          have hu := cmpPr_val' (j := 8) (hd _ rfl ⟨8, .data⟩ (by simp) rfl).2.1 (by decide) (by decide)
          rw [if_neg (by rw [show (20 : Nat) + 6 = 26 from rfl, hdi]; decide)] at hub
          have h5 : A.eval (.tmp 11) = .pointer (some ⟨ss 20, 0, none⟩) := (hat 20 11 (by simp) (by kernel_rfl) (by simp)).trans hup
          have h6 : A.tmps[11]?.getD undef = .pointer (some ⟨ss 20, 0, none⟩) := by have h7 := h5; rwa [eval_tmp, Array.getD_eq_getD_getElem?] at h7
          have g5 : A.eval (.tmp 77) = x2.val := (hat 8 77 (by simp) (by kernel_rfl) (by simp)).trans hu
          have g6 : A.tmps[77]?.getD undef = x2.val := by have h7 := g5; rwa [eval_tmp, Array.getD_eq_getD_getElem?] at h7
          obtain ⟨z0, f0⟩ := hub 0 _ rfl
          obtain ⟨z1, f1⟩ := hub 1 _ rfl
          obtain ⟨z2, f2⟩ := hub 2 _ rfl
          have hlt2 : ss 20 < es 20 := by rw [hue]; exact Nat.lt_succ_self _
          exact does_store rfl rfl 20 (ss 20) rfl (by simp) (by decide) hdt (Nat.le_refl _) hlt2 (((w1.setCell ⟨ss 20, 0, none⟩ (.int .u8 (x2.k : Int))).setCell ⟨ss 20, 1, none⟩ (.int .i64 x2.n)).setCell ⟨ss 20, 2, none⟩ (.string x2.s))
            (by simp only [execOp]; go_simp) (grown_trans (grown_trans (grown_set _ _ _ _) (grown_set _ _ _ _)) (grown_set _ _ _ _)) (by simp) (cmpPr_end (by omega)) (cmpPr_fill 2 (by omega) _ hup hue hub x2 rfl)
        | 27, _, hdi =>
          obtain ⟨hdt, hpt, hst, het⟩ := hd _ rfl ⟨21, .data⟩ (by simp) rfl
          obtain ⟨hup, hue, hub⟩ := cmpPr_box' (j := 21) hpt (by decide) (by decide)
          have hu := cmpPr_val' (j := 11) (hd _ rfl ⟨11, .data⟩ (by simp) rfl).2.1 (by decide) (by decide)
          rw [if_neg (by rw [show (21 : Nat) + 6 = 27 from rfl, hdi]; decide)] at hub
          have h5 : A.eval (.tmp 12) = .pointer (some ⟨ss 21, 0, none⟩) := (hat 21 12 (by simp) (by kernel_rfl) (by simp)).trans hup
          have h6 : A.tmps[12]?.getD undef = .pointer (some ⟨ss 21, 0, none⟩) := by have h7 := h5; rwa [eval_tmp, Array.getD_eq_getD_getElem?] at h7
          have g5 : A.eval (.tmp 80) = x3.val := (hat 11 80 (by simp) (by kernel_rfl) (by simp)).trans hu
          have g6 : A.tmps[80]?.getD undef = x3.val := by have h7 := g5; rwa [eval_tmp, Array.getD_eq_getD_getElem?] at h7
          obtain ⟨z0, f0⟩ := hub 0 _ rfl
          obtain ⟨z1, f1⟩ := hub 1 _ rfl
          obtain ⟨z2, f2⟩ := hub 2 _ rfl
          have hlt2 : ss 21 < es 21 := by rw [hue]; exact Nat.lt_succ_self _
          exact does_store rfl rfl 21 (ss 21) rfl (by simp) (by decide) hdt (Nat.le_refl _) hlt2 (((w1.setCell ⟨ss 21, 0, none⟩ (.int .u8 (x3.k : Int))).setCell ⟨ss 21, 1, none⟩ (.int .i64 x3.n)).setCell ⟨ss 21, 2, none⟩ (.string x3.s))
            (by simp only [execOp]; go_simp) (grown_trans (grown_trans (grown_set _ _ _ _) (grown_set _ _ _ _)) (grown_set _ _ _ _)) (by simp) (cmpPr_end (by omega)) (cmpPr_fill 3 (by omega) _ hup hue hub x3 rfl)
        | 28, _, hdi =>
          obtain ⟨hdt, hpt, hst, het⟩ := hd _ rfl ⟨22, .data⟩ (by simp) rfl
          obtain ⟨hup, hue, hub⟩ := cmpPr_box' (j := 22) hpt (by decide) (by decide)
          have hu := cmpPr_val' (j := 14) (hd _ rfl ⟨14, .data⟩ (by simp) rfl).2.1 (by decide) (by decide)
          rw [if_neg (by rw [show (22 : Nat) + 6 = 28 from rfl, hdi]; decide)] at hub
          have h5 : A.eval (.tmp 13) = .pointer (some ⟨ss 22, 0, none⟩) := (hat 22 13 (by simp) (by kernel_rfl) (by simp)).trans hup
          have h6 : A.tmps[13]?.getD undef = .pointer (some ⟨ss 22, 0, none⟩) := by have h7 := h5; rwa [eval_tmp, Array.getD_eq_getD_getElem?] at h7
          have g5 : A.eval (.tmp 83) = x4.val := (hat 14 83 (by simp) (by kernel_rfl) (by simp)).trans hu
          have g6 : A.tmps[83]?.getD undef = x4.val := by have h7 := g5; rwa [eval_tmp, Array.getD_eq_getD_getElem?] at h7
          obtain ⟨z0, f0⟩ := hub 0 _ rfl
          obtain ⟨z1, f1⟩ := hub 1 _ rfl
          obtain ⟨z2, f2⟩ := hub 2 _ rfl
          have hlt2 : ss 22 < es 22 := by rw [hue]; exact Nat.lt_succ_self _
          exact does_store rfl rfl 22 (ss 22) rfl (by simp) (by decide) hdt (Nat.le_refl _) hlt2 (((w1.setCell ⟨ss 22, 0, none⟩ (.int .u8 (x4.k : Int))).setCell ⟨ss 22, 1, none⟩ (.int .i64 x4.n)).setCell ⟨ss 22, 2, none⟩ (.string x4.s))
            (by simp only [execOp]; go_simp) (grown_trans (grown_trans (grown_set _ _ _ _) (grown_set _ _ _ _)) (grown_set _ _ _ _)) (by simp) (cmpPr_end (by omega)) (cmpPr_fill 4 (by omega) _ hup hue hub x4 rfl)
        | 29, _, hdi =>
          obtain ⟨hdt, hpt, hst, het⟩ := hd _ rfl ⟨23, .data⟩ (by simp) rfl
          obtain ⟨hup, hue, hub⟩ := cmpPr_box' (j := 23) hpt (by decide) (by decide)
          have hu := cmpPr_val' (j := 17) (hd _ rfl ⟨17, .data⟩ (by simp) rfl).2.1 (by decide) (by decide)
          rw [if_neg (by rw [show (23 : Nat) + 6 = 29 from rfl, hdi]; decide)] at hub
          have h5 : A.eval (.tmp 14) = .pointer (some ⟨ss 23, 0, none⟩) := (hat 23 14 (by simp) (by kernel_rfl) (by simp)).trans hup
          have h6 : A.tmps[14]?.getD undef = .pointer (some ⟨ss 23, 0, none⟩) := by have h7 := h5; rwa [eval_tmp, Array.getD_eq_getD_getElem?] at h7
          have g5 : A.eval (.tmp 86) = x5.val := (hat 17 86 (by simp) (by kernel_rfl) (by simp)).trans hu
          have g6 : A.tmps[86]?.getD undef = x5.val := by have h7 := g5; rwa [eval_tmp, Array.getD_eq_getD_getElem?] at h7
          obtain ⟨z0, f0⟩ := hub 0 _ rfl
          obtain ⟨z1, f1⟩ := hub 1 _ rfl
          obtain ⟨z2, f2⟩ := hub 2 _ rfl
          have hlt2 : ss 23 < es 23 := by rw [hue]; exact Nat.lt_succ_self _
          exact does_store rfl rfl 23 (ss 23) rfl (by simp) (by decide) hdt (Nat.le_refl _) hlt2 (((w1.setCell ⟨ss 23, 0, none⟩ (.int .u8 (x5.k : Int))).setCell ⟨ss 23, 1, none⟩ (.int .i64 x5.n)).setCell ⟨ss 23, 2, none⟩ (.string x5.s))
            (by simp only [execOp]; go_simp) (grown_trans (grown_trans (grown_set _ _ _ _) (grown_set _ _ _ _)) (grown_set _ _ _ _)) (by simp) (cmpPr_end (by omega)) (cmpPr_fill 5 (by omega) _ hup hue hub x5 rfl)
        | n + 30, hi, _ => simp at hi; omega
      · intro dn us ss es w2 hall hb2 hpr hdis
        obtain ⟨hu18, _, hx0⟩ := cmpPr_box' (j := 18) (hpr 18 (by simp)).1 (by decide) (by decide)
        rw [if_pos (hall 24 (by simp))] at hx0
        obtain ⟨hu19, _, hx1⟩ := cmpPr_box' (j := 19) (hpr 19 (by simp)).1 (by decide) (by decide)
        rw [if_pos (hall 25 (by simp))] at hx1
        obtain ⟨hu20, _, hx2⟩ := cmpPr_box' (j := 20) (hpr 20 (by simp)).1 (by decide) (by decide)
        rw [if_pos (hall 26 (by simp))] at hx2
        obtain ⟨hu21, _, hx3⟩ := cmpPr_box' (j := 21) (hpr 21 (by simp)).1 (by decide) (by decide)
        rw [if_pos (hall 27 (by simp))] at hx3
        obtain ⟨hu22, _, hx4⟩ := cmpPr_box' (j := 22) (hpr 22 (by simp)).1 (by decide) (by decide)
        rw [if_pos (hall 28 (by simp))] at hx4
        obtain ⟨hu23, _, hx5⟩ := cmpPr_box' (j := 23) (hpr 23 (by simp)).1 (by decide) (by decide)
        rw [if_pos (hall 29 (by simp))] at hx5
        have HB2 := Lib.hid hb2
        have l0 : ∀ p u, wr.cell? p = some u → w2.cell? p = some u := fun p u h => (hb2.cell (cell_lt h)).trans h
        have y0 := l0 _ _ a0
        have y1 := l0 _ _ b0
        have HX := Lib.hid (And.intro hx0 (And.intro hx1 (And.intro hx2 (And.intro hx3 (And.intro hx4 hx5)))))
        have HU := Lib.hid (And.intro hu18 (And.intro hu19 (And.intro hu20 (And.intro hu21 (And.intro hu22 hu23)))))
        clear hall hb2 hpr hdis l0 hx0 hx1 hx2 hx3 hx4 hx5 c00 c01 c02 c10 c11 c12 c20 c21 c22 c30 c31 c32 c40 c41 c42 c50 c51 c52 a0 a1 a2 b0 b1 b2
        simp only [List.length_cons, List.length_nil, Nat.zero_add, Nat.reduceAdd, putAll, dstOf, List.getElem?_toArray, List.getElem?_cons_zero, List.getElem?_cons_succ, Option.bind_some, Act.put, hu18, hu19, hu20, hu21, hu22, hu23]
        have v00 := (HX.out.1 0 _ rfl).1
        have v01 := (HX.out.1 1 _ rfl).1
        have v02 := (HX.out.1 2 _ rfl).1
        have v10 := (HX.out.2.1 0 _ rfl).1
        have v11 := (HX.out.2.1 1 _ rfl).1
        have v12 := (HX.out.2.1 2 _ rfl).1
        have v20 := (HX.out.2.2.1 0 _ rfl).1
        have v21 := (HX.out.2.2.1 1 _ rfl).1
        have v22 := (HX.out.2.2.1 2 _ rfl).1
        have v30 := (HX.out.2.2.2.1 0 _ rfl).1
        have v31 := (HX.out.2.2.2.1 1 _ rfl).1
        have v32 := (HX.out.2.2.2.1 2 _ rfl).1
        have v40 := (HX.out.2.2.2.2.1 0 _ rfl).1
        have v41 := (HX.out.2.2.2.2.1 1 _ rfl).1
        have v42 := (HX.out.2.2.2.2.1 2 _ rfl).1
        have v50 := (HX.out.2.2.2.2.2 0 _ rfl).1
        have v51 := (HX.out.2.2.2.2.2 1 _ rfl).1
        have v52 := (HX.out.2.2.2.2.2 2 _ rfl).1
        have htog := hca.out.tog (by omega)
        have ht : ∀ O, 12 ≤ O → O ≤ 17 → togetherB O ([a, b].map V.k) = true := by
          intro O h1 h2
          unfold togetherB
          rw [if_neg (by omega), if_neg (by omega), if_pos (by omega), decide_eq_true_eq]
          exact htog
        have B2 := Lib.hid (next hca.out.bel HB2.out)
        by_cases hn : a.k = 0 ∨ b.k = 0
        · have hnb : nullB [a, b] = true := by simpa [nullB] using hn
          have hx := HXS.out
          rw [doS_null (ht 12 (by omega) (by omega)) (by omega) (by omega) (by omega) hnb, doS_null (ht 13 (by omega) (by omega)) (by omega) (by omega) (by omega) hnb, doS_null (ht 14 (by omega) (by omega)) (by omega) (by omega) (by omega) hnb, doS_null (ht 15 (by omega) (by omega)) (by omega) (by omega) (by omega) hnb, doS_null (ht 16 (by omega) (by omega)) (by omega) (by omega) (by omega) hnb, doS_null (ht 17 (by omega) (by omega)) (by omega) (by omega) (by omega) hnb] at hx
          simp only [List.cons.injEq, and_true] at hx
          obtain ⟨rfl, rfl, rfl, rfl, rfl, rfl⟩ := hx
          clear ht htog hnb
          have n0 : nullV.k = 0 := rfl
          have n1 : nullV.n = 0 := rfl
          have n2 : nullV.s.toList = [] := by simp [nullV]
          by_cases ha0 : a.k = 0
          · have e0 : ((a.k : Int) == 0) = true := by simp [ha0]
            clear hn ha0
            go_wp2_with fail
            go_ret
            exact ⟨ret_bool (by simp), B2.out⟩
          · have e0 : ((a.k : Int) == 0) = false := by simp; omega
            have e1 : ((b.k : Int) == 0) = true := by simp; omega
            clear hn ha0
            go_wp2_with fail
            go_ret
            exact ⟨ret_bool (by simp), B2.out⟩
        · have hnb : nullB [a, b] = false := by
            have h1 : ¬ a.k = 0 := fun h => hn (.inl h)
            have h2 : ¬ b.k = 0 := fun h => hn (.inr h)
            simp [nullB, h1, h2]
          have e0 : ((a.k : Int) == 0) = false := by simp; omega
          have e1 : ((b.k : Int) == 0) = false := by simp; omega
          have hx := HXS.out
          rw [doS_cmp (ht 12 (by omega) (by omega)) hnb (by omega) (by omega), doS_cmp (ht 13 (by omega) (by omega)) hnb (by omega) (by omega), doS_cmp (ht 14 (by omega) (by omega)) hnb (by omega) (by omega), doS_cmp (ht 15 (by omega) (by omega)) hnb (by omega) (by omega), doS_cmp (ht 16 (by omega) (by omega)) hnb (by omega) (by omega), doS_cmp (ht 17 (by omega) (by omega)) hnb (by omega) (by omega)] at hx
          simp only [List.cons.injEq, and_true] at hx
          rw [show [a, b].getD 0 nullV = a from rfl, show [a, b].getD 1 nullV = b from rfl] at hx
          generalize cmpV a b = C at hx
          clear ht htog hnb hn
          rcases (show C < 0 ∨ C = 0 ∨ 0 < C by omega) with hC | hC | hC
          · rw [show holdsB 12 C = false by simp [holdsB]; omega, show holdsB 13 C = true by simp [holdsB]; omega, show holdsB 14 C = true by simp [holdsB]; omega, show holdsB 15 C = true by simp [holdsB]; omega, show holdsB 16 C = false by simp [holdsB]; omega, show holdsB 17 C = false by simp [holdsB]; omega] at hx
            obtain ⟨rfl, rfl, rfl, rfl, rfl, rfl⟩ := hx
            clear hC
            have m0 : (numV 0).n = 0 := rfl
            have m1 : (numV 1).n = 1 := rfl
            have m2 : (numV 0).k = 1 := rfl
            have m3 : (numV 1).k = 1 := rfl
            have m4 : (numV 0).s = ByteArray.empty := rfl
            have m5 : (numV 1).s = ByteArray.empty := rfl
            have t0 : truthV false = numV 0 := rfl
            have t1 : truthV true = numV 1 := rfl
            simp only [List.getD_cons_zero, List.getD_cons_succ, t0, t1, Nat.reduceSub] at v00 v01 v02 v10 v11 v12 v20 v21 v22 v30 v31 v32 v40 v41 v42 v50 v51 v52
            go_wp2_with fail
            have l00 := lat_cell v00
            have l01 := lat_cell v01
            have l02 := lat_cell v02
            have l10 := lat_cell v10
            have l11 := lat_cell v11
            have l12 := lat_cell v12
            have l20 := lat_cell v20
            have l21 := lat_cell v21
            have l22 := lat_cell v22
            have l30 := lat_cell v30
            have l31 := lat_cell v31
            have l32 := lat_cell v32
            have l40 := lat_cell v40
            have l41 := lat_cell v41
            have l42 := lat_cell v42
            have l50 := lat_cell v50
            have l51 := lat_cell v51
            have l52 := lat_cell v52
            refine wp_region_later (by kernel_rfl) (by kernel_rfl) ?_
            repeat (go_big_quiet_step ((go_at_call 22; first | exact lat_calls (not0 _) | exact lat_calls (not1 _))))
            refine wpQuiet_nil ?_
            refine later_out (fun wf hbf => ?_)
            go_wp2_with fail
            go_ret
            exact ⟨ret_bool (by simp), next B2.out hbf⟩
          · rw [show holdsB 12 C = true by simp [holdsB]; omega, show holdsB 13 C = false by simp [holdsB]; omega, show holdsB 14 C = false by simp [holdsB]; omega, show holdsB 15 C = true by simp [holdsB]; omega, show holdsB 16 C = false by simp [holdsB]; omega, show holdsB 17 C = true by simp [holdsB]; omega] at hx
            obtain ⟨rfl, rfl, rfl, rfl, rfl, rfl⟩ := hx
            clear hC
            have m0 : (numV 0).n = 0 := rfl
            have m1 : (numV 1).n = 1 := rfl
            have m2 : (numV 0).k = 1 := rfl
            have m3 : (numV 1).k = 1 := rfl
            have m4 : (numV 0).s = ByteArray.empty := rfl
            have m5 : (numV 1).s = ByteArray.empty := rfl
            have t0 : truthV false = numV 0 := rfl
            have t1 : truthV true = numV 1 := rfl
            simp only [List.getD_cons_zero, List.getD_cons_succ, t0, t1, Nat.reduceSub] at v00 v01 v02 v10 v11 v12 v20 v21 v22 v30 v31 v32 v40 v41 v42 v50 v51 v52
            go_wp2_with fail
            have l00 := lat_cell v00
            have l01 := lat_cell v01
            have l02 := lat_cell v02
            have l10 := lat_cell v10
            have l11 := lat_cell v11
            have l12 := lat_cell v12
            have l20 := lat_cell v20
            have l21 := lat_cell v21
            have l22 := lat_cell v22
            have l30 := lat_cell v30
            have l31 := lat_cell v31
            have l32 := lat_cell v32
            have l40 := lat_cell v40
            have l41 := lat_cell v41
            have l42 := lat_cell v42
            have l50 := lat_cell v50
            have l51 := lat_cell v51
            have l52 := lat_cell v52
            refine wp_region_later (by kernel_rfl) (by kernel_rfl) ?_
            repeat (go_big_quiet_step ((go_at_call 22; first | exact lat_calls (not0 _) | exact lat_calls (not1 _))))
            refine wpQuiet_nil ?_
            refine later_out (fun wf hbf => ?_)
            go_wp2_with fail
            go_ret
            exact ⟨ret_bool (by simp), next B2.out hbf⟩
          · rw [show holdsB 12 C = false by simp [holdsB]; omega, show holdsB 13 C = true by simp [holdsB]; omega, show holdsB 14 C = false by simp [holdsB]; omega, show holdsB 15 C = false by simp [holdsB]; omega, show holdsB 16 C = true by simp [holdsB]; omega, show holdsB 17 C = true by simp [holdsB]; omega] at hx
            obtain ⟨rfl, rfl, rfl, rfl, rfl, rfl⟩ := hx
            clear hC
            have m0 : (numV 0).n = 0 := rfl
            have m1 : (numV 1).n = 1 := rfl
            have m2 : (numV 0).k = 1 := rfl
            have m3 : (numV 1).k = 1 := rfl
            have m4 : (numV 0).s = ByteArray.empty := rfl
            have m5 : (numV 1).s = ByteArray.empty := rfl
            have t0 : truthV false = numV 0 := rfl
            have t1 : truthV true = numV 1 := rfl
            simp only [List.getD_cons_zero, List.getD_cons_succ, t0, t1, Nat.reduceSub] at v00 v01 v02 v10 v11 v12 v20 v21 v22 v30 v31 v32 v40 v41 v42 v50 v51 v52
            go_wp2_with fail
            have l00 := lat_cell v00
            have l01 := lat_cell v01
            have l02 := lat_cell v02
            have l10 := lat_cell v10
            have l11 := lat_cell v11
            have l12 := lat_cell v12
            have l20 := lat_cell v20
            have l21 := lat_cell v21
            have l22 := lat_cell v22
            have l30 := lat_cell v30
            have l31 := lat_cell v31
            have l32 := lat_cell v32
            have l40 := lat_cell v40
            have l41 := lat_cell v41
            have l42 := lat_cell v42
            have l50 := lat_cell v50
            have l51 := lat_cell v51
            have l52 := lat_cell v52
            refine wp_region_later (by kernel_rfl) (by kernel_rfl) ?_
            repeat (go_big_quiet_step ((go_at_call 22; first | exact lat_calls (not0 _) | exact lat_calls (not1 _))))
            refine wpQuiet_nil ?_
            refine later_out (fun wf hbf => ?_)
            go_wp2_with fail
            go_ret
            exact ⟨ret_bool (by simp), next B2.out hbf⟩

theorem opened {H : Type} (enc : TypeId × Value → H) (W : World) (args : Array Value) (ds : List (DataW H)) (p : List MemPlace) :
    Lift.Owes enc Try.prog 6 Try.f6.params.toList W args ds p := by
  intro hA hval hsz _
  rw [Try.params6] at hA hval hsz
  obtain ⟨v0, vs0, d0, ds0, p0, q0, hargs, rfl, rfl, h0, r0⟩ := trodAll_cons hA
  obtain ⟨v1, vs1, d1, ds1, p1, q1, rfl, rfl, rfl, h1, r1⟩ := trodAll_cons r0
  obtain ⟨rfl, rfl, rfl⟩ := trodAll_nil r1
  obtain rfl : args = #[v0, v1] := by cases args; simp_all
  obtain ⟨base0, hv0⟩ := hval 0 _ v0 rfl rfl
  obtain ⟨a, rfl, ha⟩ := arg_V vT hv0 h0 (lim_arg hsz (j := 0) rfl rfl)
  obtain ⟨base1, hv1⟩ := hval 1 _ v1 rfl rfl
  obtain ⟨b, rfl, hb⟩ := arg_V vT hv1 h1 (lim_arg hsz (j := 1) rfl rfl)
  exact walk a b W ha hb

theorem own : ownKnob Try.prog.godebug = none := by kernel_rfl
theorem laid : laidOutB Try.prog = true := by kernel_rfl

set_option maxRecDepth 100000 in
theorem lifted (os : Os) (started : os.Started) (H : Type) (enc : TypeId × Value → H) :
    ReturnsInHanded {} Try.checked os 6 .any (Rows.evalComparesSpec.pre6 enc Try.prog Try.f6 Rows.evalComparesRow.domain false)
      (Rows.evalComparesSpec.post enc Try.prog Try.f6 false true false false) := by
  refine Lift.lifted (C := Try.checked) own started (by kernel_rfl) Try.func6
    (ChangeSpec.witness6 (enc := enc) (C := Try.checked) false ⟨#[], #[.agg #[.int .u8 0, .int .i64 0, .string ByteArray.empty], .agg #[.int .u8 0, .int .i64 0, .string ByteArray.empty]], []⟩ 8 (by kernel_rfl) (by kernel_rfl) (by kernel_rfl) (by kernel_rfl))
    laid (by rw [Try.params6]; intro t ht; simp at ht; rcases ht with rfl | rfl <;> exact ⟨by kernel_rfl, of_decide_eq_true (by kernel_rfl)⟩) rfl 4 rfl Try.underlying4
    (fun ds hds => by match ds, hds with | [_, _], _ => rfl) (opened enc)

theorem said : Rows.EvalComparesSaid :=
  OpenClaim.holds_of_wide 6 Try.f6 rfl rfl rfl rfl rfl rfl rfl ⟨rfl, rfl, rfl, rfl, rfl⟩ rfl rfl rfl rfl rfl (by kernel_rfl) Try.func6 (by kernel_rfl)
    (of_decide_eq_true (by kernel_rfl)) (by unfold Func.isWrapper; first | (rw [if_pos (by decide +kernel)]; kernel_rfl) | (rw [if_neg (by decide +kernel)]; exact ⟨rfl, rfl⟩))
    (fun os started H enc _ => lifted os started H enc)
#print axioms said
end Go.Proofs.Ytaeobillbocemaa.EvalCompares
