/-
  The walks of package eval: True, AND and OR, comparisons.
-/
import Derived.Test.YtclkpbokngamiaaOwnU
import Derived.Test.YtclkpbokngamiaaDoSpec
import Derived.LoopN
namespace Go.Proofs.Ytclkpbokngamiaa.Dt
open Go.RowKit Go.Proofs.Ytclkpbokngamiaa.By

theorem trueW (v : V) (w : World) : Calls Try.prog 19 #[v.val] w fun e w' => e = .returned (.bool (trueB v)) ∧ Below w.heap.size w w' := by
  unfold trueB
  by_cases h1 : v.k = 1
  · have e1 : ((v.k : Int) == 1) = true := by simp [h1]
    have H1 := Lib.hid h1; clear h1
    by_cases h2 : v.n = 0
    · have e2 : (v.n != 0) = false := by simp [h2]
      have H2 := Lib.hid h2; clear h2
      go_enter Try.func19, Try.ntmps19
      go_wp2_with fail
      go_ret
      exact ⟨ret_bool (by simp [H2.out]), by go_grown⟩
    · have e2 : (v.n != 0) = true := by simp [h2]
      go_enter Try.func19, Try.ntmps19
      go_wp2_with fail
      go_ret
      exact ⟨ret_bool (by simp [H1.out, h2]), by go_grown⟩
  · have e1 : ((v.k : Int) == 1) = false := by simp; omega
    go_enter Try.func19, Try.ntmps19
    go_wp2_with fail
    go_ret
    exact ⟨ret_bool (by simp [h1]), by go_grown⟩

theorem holds (op : Nat) (c : Int) (w : World) (ho : op < 256) : Calls Try.prog 41 #[.int .u8 (op : Int), .int .i64 c] w fun e w' => e = .returned (.bool (holdsB op c)) ∧ w = w' := by
  unfold holdsB
  by_cases h12 : op = 12
  · subst h12
    rw [if_pos rfl]
    go_enter Try.func41, Try.ntmps41
    go_wp2_with fail
    go_ret
    exact ⟨ret_bool (by first | (simp; done) | (simp; omega)), rfl⟩
  · rw [if_neg h12]
    have e12 : ((op : Int) == 12) = false := by simp; omega
    by_cases h13 : op = 13
    · subst h13
      rw [if_pos rfl]
      go_enter Try.func41, Try.ntmps41
      go_wp2_with fail
      go_ret
      exact ⟨ret_bool (by first | (simp; done) | (simp; omega)), rfl⟩
    · rw [if_neg h13]
      have e13 : ((op : Int) == 13) = false := by simp; omega
      by_cases h14 : op = 14
      · subst h14
        rw [if_pos rfl]
        go_enter Try.func41, Try.ntmps41
        go_wp2_with fail
        go_ret
        exact ⟨ret_bool (by first | (simp; done) | (simp; omega)), rfl⟩
      · rw [if_neg h14]
        have e14 : ((op : Int) == 14) = false := by simp; omega
        by_cases h15 : op = 15
        · subst h15
          rw [if_pos rfl]
          go_enter Try.func41, Try.ntmps41
          go_wp2_with fail
          go_ret
          exact ⟨ret_bool (by first | (simp; done) | (simp; omega)), rfl⟩
        · rw [if_neg h15]
          have e15 : ((op : Int) == 15) = false := by simp; omega
          by_cases h16 : op = 16
          · subst h16
            rw [if_pos rfl]
            go_enter Try.func41, Try.ntmps41
            go_wp2_with fail
            go_ret
            exact ⟨ret_bool (by first | (simp; done) | (simp; omega)), rfl⟩
          · rw [if_neg h16]
            have e16 : ((op : Int) == 16) = false := by simp; omega
            go_enter Try.func41, Try.ntmps41
            go_wp2_with fail
            go_ret
            exact ⟨ret_bool (by first | (simp; done) | (simp; omega)), rfl⟩

/-- A value's box. -/
structure BoxV (k : Nat) (v : V) (w : World) : Prop where
  c0 : w.cell? ⟨k, 0, none⟩ = some (.int .u8 (v.k : Int))
  c1 : w.cell? ⟨k, 1, none⟩ = some (.int .i64 v.n)
  c2 : w.cell? ⟨k, 2, none⟩ = some (.string v.s)
theorem BoxV.later {k : Nat} {v : V} {w w' : World} (h : BoxV k v w) (hb : Below w.heap.size w w') : BoxV k v w' :=
  ⟨(hb.cell (p := ⟨k, 0, none⟩) (cell_lt h.c0)).trans h.c0, (hb.cell (p := ⟨k, 1, none⟩) (cell_lt h.c1)).trans h.c1, (hb.cell (p := ⟨k, 2, none⟩) (cell_lt h.c2)).trans h.c2⟩
theorem idx0 (a b : V) (w : World) : (Instr.index 76 (.agg #[.int .u8 (a.k : Int), .int .i64 a.n, .string a.s, .int .u8 (b.k : Int), .int .i64 b.n, .string b.s]) (.int .i64 0)).run Try.prog w = .ok (.agg #[.int .u8 (a.k : Int), .int .i64 a.n, .string a.s]) w := by kernel_rfl
theorem idx1 (a b : V) (w : World) : (Instr.index 76 (.agg #[.int .u8 (a.k : Int), .int .i64 a.n, .string a.s, .int .u8 (b.k : Int), .int .i64 b.n, .string b.s]) (.int .i64 1)).run Try.prog w = .ok (.agg #[.int .u8 (b.k : Int), .int .i64 b.n, .string b.s]) w := by kernel_rfl

set_option maxRecDepth 100000 in
set_option maxHeartbeats 4000000 in
theorem logic_aR (a b : V) (d : Bool) (w : World) (ea : ((a.k : Int) == 1) = true) (ta : (trueB a == d) = true) (hl : logicS a b d = truthV d) : Calls Try.prog 39 #[a.val, b.val, .bool d] w fun e w' => e = .returned (logicS a b d).val ∧ Below w.heap.size w w' := by
  have i0 := idx0 a b
  have i1 := idx1 a b
  have HL := Lib.hid hl
  clear hl
  go_enter Try.func39, Try.ntmps39
  go_wp2_with fail
  have hr0 := resBox_new ((w.alloc (.cells #[.int .u8 (a.k : Int), .int .i64 a.n, .string a.s] 23)).alloc (.cells #[.int .u8 (b.k : Int), .int .i64 b.n, .string b.s] 23)) 23
  have hb0 : Below w.heap.size w (((w.alloc (.cells #[.int .u8 (a.k : Int), .int .i64 a.n, .string a.s] 23)).alloc (.cells #[.int .u8 (b.k : Int), .int .i64 b.n, .string b.s] 23)).alloc (.cells #[.int .u8 0, .int .i64 0, .string ⟨#[]⟩] 23)) := by go_grown
  have hx0 : BoxV w.heap.size a (((w.alloc (.cells #[.int .u8 (a.k : Int), .int .i64 a.n, .string a.s] 23)).alloc (.cells #[.int .u8 (b.k : Int), .int .i64 b.n, .string b.s] 23)).alloc (.cells #[.int .u8 0, .int .i64 0, .string ⟨#[]⟩] 23)) := by constructor <;> go_simp
  have hy0 : BoxV (w.heap.size + 1) b (((w.alloc (.cells #[.int .u8 (a.k : Int), .int .i64 a.n, .string a.s] 23)).alloc (.cells #[.int .u8 (b.k : Int), .int .i64 b.n, .string b.s] 23)).alloc (.cells #[.int .u8 0, .int .i64 0, .string ⟨#[]⟩] 23)) := by constructor <;> go_simp
  simp only [World.size_alloc] at hr0
  generalize (((w.alloc (.cells #[.int .u8 (a.k : Int), .int .i64 a.n, .string a.s] 23)).alloc (.cells #[.int .u8 (b.k : Int), .int .i64 b.n, .string b.s] 23)).alloc (.cells #[.int .u8 0, .int .i64 0, .string ⟨#[]⟩] 23)) = W0 at *
  refine wp_loop_rounds 3 ?_
  rw [rounds_succ]
  go_wp2_with fail
  have hr1 := hr0.later ((Below.refl _ W0).alloc (Nat.le_refl _) (.cells #[.int .u8 (a.k : Int), .int .i64 a.n, .string a.s] 23))
  have hx1 := hx0.later ((Below.refl _ W0).alloc (Nat.le_refl _) (.cells #[.int .u8 (a.k : Int), .int .i64 a.n, .string a.s] 23))
  have hy1 := hy0.later ((Below.refl _ W0).alloc (Nat.le_refl _) (.cells #[.int .u8 (a.k : Int), .int .i64 a.n, .string a.s] 23))
  have hb1 := hb0.alloc hb0.size (.cells #[.int .u8 (a.k : Int), .int .i64 a.n, .string a.s] 23)
  clear hr0 hx0 hy0 hb0
  refine (trueW a _).mono ?_
  rintro e W2 ⟨rfl, hbt⟩
  have hr2 := hr1.later hbt
  have hx2 := hx1.later hbt
  have hy2 := hy1.later hbt
  have hb2 := next hb1 hbt
  clear hr1 hx1 hy1 hb1 hbt
  have hz2 := hr2.lt
  go_wp2_with fail
  refine (truth d _).mono ?_
  rintro e wf ⟨rfl, hbf⟩
  have hrf := hr2.later hbf
  have hzf := hrf.lt
  obtain ⟨c0, c1, c2, f0, f1, f2⟩ := hrf
  have hbelf := next hb2 hbf
  clear hr2 hx2 hy2 hb2 hbf
  go_wp2_with fail
  obtain ⟨q0, q1, q2⟩ := filled3 wf (w.heap.size + 2) _ _ _ (.int .u8 ((truthV d).k : Int)) (.int .i64 (truthV d).n) (.string (truthV d).s) c0 c1 c2
  refine bodyPost_ret (v := (truthV d).val) (by simp [results, Try.results39, go_sem, q0, q1, q2]) rfl ⟨by rw [HL.out], ?_⟩
  go_grown

set_option maxRecDepth 100000 in
set_option maxHeartbeats 4000000 in
theorem logic_NR (a b : V) (d : Bool) (w : World) (ea : ((a.k : Int) == 1) = true) (ta : (trueB a == d) = false) (eb : ((b.k : Int) == 1) = true) (tb : (trueB b == d) = true) (hl : logicS a b d = truthV d) : Calls Try.prog 39 #[a.val, b.val, .bool d] w fun e w' => e = .returned (logicS a b d).val ∧ Below w.heap.size w w' := by
  have i0 := idx0 a b
  have i1 := idx1 a b
  have HL := Lib.hid hl
  clear hl
  go_enter Try.func39, Try.ntmps39
  go_wp2_with fail
  have hr0 := resBox_new ((w.alloc (.cells #[.int .u8 (a.k : Int), .int .i64 a.n, .string a.s] 23)).alloc (.cells #[.int .u8 (b.k : Int), .int .i64 b.n, .string b.s] 23)) 23
  have hb0 : Below w.heap.size w (((w.alloc (.cells #[.int .u8 (a.k : Int), .int .i64 a.n, .string a.s] 23)).alloc (.cells #[.int .u8 (b.k : Int), .int .i64 b.n, .string b.s] 23)).alloc (.cells #[.int .u8 0, .int .i64 0, .string ⟨#[]⟩] 23)) := by go_grown
  have hx0 : BoxV w.heap.size a (((w.alloc (.cells #[.int .u8 (a.k : Int), .int .i64 a.n, .string a.s] 23)).alloc (.cells #[.int .u8 (b.k : Int), .int .i64 b.n, .string b.s] 23)).alloc (.cells #[.int .u8 0, .int .i64 0, .string ⟨#[]⟩] 23)) := by constructor <;> go_simp
  have hy0 : BoxV (w.heap.size + 1) b (((w.alloc (.cells #[.int .u8 (a.k : Int), .int .i64 a.n, .string a.s] 23)).alloc (.cells #[.int .u8 (b.k : Int), .int .i64 b.n, .string b.s] 23)).alloc (.cells #[.int .u8 0, .int .i64 0, .string ⟨#[]⟩] 23)) := by constructor <;> go_simp
  simp only [World.size_alloc] at hr0
  generalize (((w.alloc (.cells #[.int .u8 (a.k : Int), .int .i64 a.n, .string a.s] 23)).alloc (.cells #[.int .u8 (b.k : Int), .int .i64 b.n, .string b.s] 23)).alloc (.cells #[.int .u8 0, .int .i64 0, .string ⟨#[]⟩] 23)) = W0 at *
  refine wp_loop_rounds 3 ?_
  rw [rounds_succ]
  go_wp2_with fail
  have hr1 := hr0.later ((Below.refl _ W0).alloc (Nat.le_refl _) (.cells #[.int .u8 (a.k : Int), .int .i64 a.n, .string a.s] 23))
  have hx1 := hx0.later ((Below.refl _ W0).alloc (Nat.le_refl _) (.cells #[.int .u8 (a.k : Int), .int .i64 a.n, .string a.s] 23))
  have hy1 := hy0.later ((Below.refl _ W0).alloc (Nat.le_refl _) (.cells #[.int .u8 (a.k : Int), .int .i64 a.n, .string a.s] 23))
  have hb1 := hb0.alloc hb0.size (.cells #[.int .u8 (a.k : Int), .int .i64 a.n, .string a.s] 23)
  clear hr0 hx0 hy0 hb0
  refine (trueW a _).mono ?_
  rintro e W2 ⟨rfl, hbt⟩
  have hr2 := hr1.later hbt
  have hx2 := hx1.later hbt
  have hy2 := hy1.later hbt
  have hb2 := next hb1 hbt
  clear hr1 hx1 hy1 hb1 hbt
  have hz2 := hr2.lt
  go_wp2_with fail
  rw [rounds_succ]
  go_wp2_with fail
  have hr3 := hr2.later ((Below.refl _ W2).alloc (Nat.le_refl _) (.cells #[.int .u8 (b.k : Int), .int .i64 b.n, .string b.s] 23))
  have hx3 := hx2.later ((Below.refl _ W2).alloc (Nat.le_refl _) (.cells #[.int .u8 (b.k : Int), .int .i64 b.n, .string b.s] 23))
  have hy3 := hy2.later ((Below.refl _ W2).alloc (Nat.le_refl _) (.cells #[.int .u8 (b.k : Int), .int .i64 b.n, .string b.s] 23))
  have hb3 := hb2.alloc hb2.size (.cells #[.int .u8 (b.k : Int), .int .i64 b.n, .string b.s] 23)
  clear hr2 hx2 hy2 hb2
  refine (trueW b _).mono ?_
  rintro e W4 ⟨rfl, hbt⟩
  have hr4 := hr3.later hbt
  have hx4 := hx3.later hbt
  have hy4 := hy3.later hbt
  have hb4 := next hb3 hbt
  clear hr3 hx3 hy3 hb3 hbt
  have hz4 := hr4.lt
  go_wp2_with fail
  refine (truth d _).mono ?_
  rintro e wf ⟨rfl, hbf⟩
  have hrf := hr4.later hbf
  have hzf := hrf.lt
  obtain ⟨c0, c1, c2, f0, f1, f2⟩ := hrf
  have hbelf := next hb4 hbf
  clear hr4 hx4 hy4 hb4 hbf
  go_wp2_with fail
  obtain ⟨q0, q1, q2⟩ := filled3 wf (w.heap.size + 2) _ _ _ (.int .u8 ((truthV d).k : Int)) (.int .i64 (truthV d).n) (.string (truthV d).s) c0 c1 c2
  refine bodyPost_ret (v := (truthV d).val) (by simp [results, Try.results39, go_sem, q0, q1, q2]) rfl ⟨by rw [HL.out], ?_⟩
  go_grown

set_option maxRecDepth 100000 in
set_option maxHeartbeats 4000000 in
theorem logic_NN3 (a b : V) (d : Bool) (w : World) (ea : ((a.k : Int) == 1) = true) (ta : (trueB a == d) = false) (eb : ((b.k : Int) == 1) = true) (tb : (trueB b == d) = false) (za : ((a.k : Int) == 0) = false) (zb : ((b.k : Int) == 0) = false) (hl : logicS a b d = truthV (!d)) : Calls Try.prog 39 #[a.val, b.val, .bool d] w fun e w' => e = .returned (logicS a b d).val ∧ Below w.heap.size w w' := by
  have i0 := idx0 a b
  have i1 := idx1 a b
  have HL := Lib.hid hl
  clear hl
  go_enter Try.func39, Try.ntmps39
  go_wp2_with fail
  have hr0 := resBox_new ((w.alloc (.cells #[.int .u8 (a.k : Int), .int .i64 a.n, .string a.s] 23)).alloc (.cells #[.int .u8 (b.k : Int), .int .i64 b.n, .string b.s] 23)) 23
  have hb0 : Below w.heap.size w (((w.alloc (.cells #[.int .u8 (a.k : Int), .int .i64 a.n, .string a.s] 23)).alloc (.cells #[.int .u8 (b.k : Int), .int .i64 b.n, .string b.s] 23)).alloc (.cells #[.int .u8 0, .int .i64 0, .string ⟨#[]⟩] 23)) := by go_grown
  have hx0 : BoxV w.heap.size a (((w.alloc (.cells #[.int .u8 (a.k : Int), .int .i64 a.n, .string a.s] 23)).alloc (.cells #[.int .u8 (b.k : Int), .int .i64 b.n, .string b.s] 23)).alloc (.cells #[.int .u8 0, .int .i64 0, .string ⟨#[]⟩] 23)) := by constructor <;> go_simp
  have hy0 : BoxV (w.heap.size + 1) b (((w.alloc (.cells #[.int .u8 (a.k : Int), .int .i64 a.n, .string a.s] 23)).alloc (.cells #[.int .u8 (b.k : Int), .int .i64 b.n, .string b.s] 23)).alloc (.cells #[.int .u8 0, .int .i64 0, .string ⟨#[]⟩] 23)) := by constructor <;> go_simp
  simp only [World.size_alloc] at hr0
  generalize (((w.alloc (.cells #[.int .u8 (a.k : Int), .int .i64 a.n, .string a.s] 23)).alloc (.cells #[.int .u8 (b.k : Int), .int .i64 b.n, .string b.s] 23)).alloc (.cells #[.int .u8 0, .int .i64 0, .string ⟨#[]⟩] 23)) = W0 at *
  refine wp_loop_rounds 3 ?_
  rw [rounds_succ]
  go_wp2_with fail
  have hr1 := hr0.later ((Below.refl _ W0).alloc (Nat.le_refl _) (.cells #[.int .u8 (a.k : Int), .int .i64 a.n, .string a.s] 23))
  have hx1 := hx0.later ((Below.refl _ W0).alloc (Nat.le_refl _) (.cells #[.int .u8 (a.k : Int), .int .i64 a.n, .string a.s] 23))
  have hy1 := hy0.later ((Below.refl _ W0).alloc (Nat.le_refl _) (.cells #[.int .u8 (a.k : Int), .int .i64 a.n, .string a.s] 23))
  have hb1 := hb0.alloc hb0.size (.cells #[.int .u8 (a.k : Int), .int .i64 a.n, .string a.s] 23)
  clear hr0 hx0 hy0 hb0
  refine (trueW a _).mono ?_
  rintro e W2 ⟨rfl, hbt⟩
  have hr2 := hr1.later hbt
  have hx2 := hx1.later hbt
  have hy2 := hy1.later hbt
  have hb2 := next hb1 hbt
  clear hr1 hx1 hy1 hb1 hbt
  have hz2 := hr2.lt
  go_wp2_with fail
  rw [rounds_succ]
  go_wp2_with fail
  have hr3 := hr2.later ((Below.refl _ W2).alloc (Nat.le_refl _) (.cells #[.int .u8 (b.k : Int), .int .i64 b.n, .string b.s] 23))
  have hx3 := hx2.later ((Below.refl _ W2).alloc (Nat.le_refl _) (.cells #[.int .u8 (b.k : Int), .int .i64 b.n, .string b.s] 23))
  have hy3 := hy2.later ((Below.refl _ W2).alloc (Nat.le_refl _) (.cells #[.int .u8 (b.k : Int), .int .i64 b.n, .string b.s] 23))
  have hb3 := hb2.alloc hb2.size (.cells #[.int .u8 (b.k : Int), .int .i64 b.n, .string b.s] 23)
  clear hr2 hx2 hy2 hb2
  refine (trueW b _).mono ?_
  rintro e W4 ⟨rfl, hbt⟩
  have hr4 := hr3.later hbt
  have hx4 := hx3.later hbt
  have hy4 := hy3.later hbt
  have hb4 := next hb3 hbt
  clear hr3 hx3 hy3 hb3 hbt
  have hz4 := hr4.lt
  go_wp2_with fail
  rw [rounds_succ]
  obtain ⟨x0, x1, x2⟩ := hx4
  obtain ⟨y0, y1, y2⟩ := hy4
  have hz4 := hr4.lt
  have hs4 := hb4.size
  go_wp2_with fail
  refine (truth (!d) _).mono ?_
  rintro e wf ⟨rfl, hbf⟩
  have hrf := hr4.later hbf
  have hzf := hrf.lt
  obtain ⟨c0, c1, c2, f0, f1, f2⟩ := hrf
  have hbelf := next hb4 hbf
  clear hr4 hb4 hbf
  go_wp2_with fail
  obtain ⟨q0, q1, q2⟩ := filled3 wf (w.heap.size + 2) _ _ _ (.int .u8 ((truthV (!d)).k : Int)) (.int .i64 (truthV (!d)).n) (.string (truthV (!d)).s) c0 c1 c2
  refine bodyPost_ret (v := (truthV (!d)).val) (by simp [results, Try.results39, go_sem, q0, q1, q2]) rfl ⟨by rw [HL.out], ?_⟩
  go_grown

set_option maxRecDepth 100000 in
set_option maxHeartbeats 4000000 in
theorem logic_NZ2 (a b : V) (d : Bool) (w : World) (ea : ((a.k : Int) == 1) = true) (ta : (trueB a == d) = false) (eb : ((b.k : Int) == 1) = false) (za : ((a.k : Int) == 0) = false) (zb : ((b.k : Int) == 0) = true) (hl : logicS a b d = nullV) : Calls Try.prog 39 #[a.val, b.val, .bool d] w fun e w' => e = .returned (logicS a b d).val ∧ Below w.heap.size w w' := by
  have i0 := idx0 a b
  have i1 := idx1 a b
  have HL := Lib.hid hl
  clear hl
  go_enter Try.func39, Try.ntmps39
  go_wp2_with fail
  have hr0 := resBox_new ((w.alloc (.cells #[.int .u8 (a.k : Int), .int .i64 a.n, .string a.s] 23)).alloc (.cells #[.int .u8 (b.k : Int), .int .i64 b.n, .string b.s] 23)) 23
  have hb0 : Below w.heap.size w (((w.alloc (.cells #[.int .u8 (a.k : Int), .int .i64 a.n, .string a.s] 23)).alloc (.cells #[.int .u8 (b.k : Int), .int .i64 b.n, .string b.s] 23)).alloc (.cells #[.int .u8 0, .int .i64 0, .string ⟨#[]⟩] 23)) := by go_grown
  have hx0 : BoxV w.heap.size a (((w.alloc (.cells #[.int .u8 (a.k : Int), .int .i64 a.n, .string a.s] 23)).alloc (.cells #[.int .u8 (b.k : Int), .int .i64 b.n, .string b.s] 23)).alloc (.cells #[.int .u8 0, .int .i64 0, .string ⟨#[]⟩] 23)) := by constructor <;> go_simp
  have hy0 : BoxV (w.heap.size + 1) b (((w.alloc (.cells #[.int .u8 (a.k : Int), .int .i64 a.n, .string a.s] 23)).alloc (.cells #[.int .u8 (b.k : Int), .int .i64 b.n, .string b.s] 23)).alloc (.cells #[.int .u8 0, .int .i64 0, .string ⟨#[]⟩] 23)) := by constructor <;> go_simp
  simp only [World.size_alloc] at hr0
  generalize (((w.alloc (.cells #[.int .u8 (a.k : Int), .int .i64 a.n, .string a.s] 23)).alloc (.cells #[.int .u8 (b.k : Int), .int .i64 b.n, .string b.s] 23)).alloc (.cells #[.int .u8 0, .int .i64 0, .string ⟨#[]⟩] 23)) = W0 at *
  refine wp_loop_rounds 3 ?_
  rw [rounds_succ]
  go_wp2_with fail
  have hr1 := hr0.later ((Below.refl _ W0).alloc (Nat.le_refl _) (.cells #[.int .u8 (a.k : Int), .int .i64 a.n, .string a.s] 23))
  have hx1 := hx0.later ((Below.refl _ W0).alloc (Nat.le_refl _) (.cells #[.int .u8 (a.k : Int), .int .i64 a.n, .string a.s] 23))
  have hy1 := hy0.later ((Below.refl _ W0).alloc (Nat.le_refl _) (.cells #[.int .u8 (a.k : Int), .int .i64 a.n, .string a.s] 23))
  have hb1 := hb0.alloc hb0.size (.cells #[.int .u8 (a.k : Int), .int .i64 a.n, .string a.s] 23)
  clear hr0 hx0 hy0 hb0
  refine (trueW a _).mono ?_
  rintro e W2 ⟨rfl, hbt⟩
  have hr2 := hr1.later hbt
  have hx2 := hx1.later hbt
  have hy2 := hy1.later hbt
  have hb2 := next hb1 hbt
  clear hr1 hx1 hy1 hb1 hbt
  have hz2 := hr2.lt
  go_wp2_with fail
  rw [rounds_succ]
  go_wp2_with fail
  have hr3 := hr2.later ((Below.refl _ W2).alloc (Nat.le_refl _) (.cells #[.int .u8 (b.k : Int), .int .i64 b.n, .string b.s] 23))
  have hx3 := hx2.later ((Below.refl _ W2).alloc (Nat.le_refl _) (.cells #[.int .u8 (b.k : Int), .int .i64 b.n, .string b.s] 23))
  have hy3 := hy2.later ((Below.refl _ W2).alloc (Nat.le_refl _) (.cells #[.int .u8 (b.k : Int), .int .i64 b.n, .string b.s] 23))
  have hb3 := hb2.alloc hb2.size (.cells #[.int .u8 (b.k : Int), .int .i64 b.n, .string b.s] 23)
  clear hr2 hx2 hy2 hb2
  generalize W2.alloc (.cells #[.int .u8 (b.k : Int), .int .i64 b.n, .string b.s] 23) = W3 at *
  rw [rounds_succ]
  obtain ⟨x0, x1, x2⟩ := hx3
  obtain ⟨y0, y1, y2⟩ := hy3
  have hz3 := hr3.lt
  have hs3 := hb3.size
  obtain ⟨c0, c1, c2, f0, f1, f2⟩ := hr3
  go_wp2_with fail
  obtain ⟨q0, q1, q2⟩ := filled3 _ (w.heap.size + 2) _ _ _ (.int .u8 0) (.int .i64 0) (.string ⟨#[]⟩) c0 c1 c2
  refine bodyPost_ret (v := .agg #[.int .u8 0, .int .i64 0, .string ⟨#[]⟩]) (by simp [results, Try.results39, go_sem, q0, q1, q2]) rfl ⟨by rw [HL.out]; rfl, ?_⟩
  go_grown

set_option maxRecDepth 100000 in
set_option maxHeartbeats 4000000 in
theorem logic_NZ3 (a b : V) (d : Bool) (w : World) (ea : ((a.k : Int) == 1) = true) (ta : (trueB a == d) = false) (eb : ((b.k : Int) == 1) = false) (za : ((a.k : Int) == 0) = false) (zb : ((b.k : Int) == 0) = false) (hl : logicS a b d = truthV (!d)) : Calls Try.prog 39 #[a.val, b.val, .bool d] w fun e w' => e = .returned (logicS a b d).val ∧ Below w.heap.size w w' := by
  have i0 := idx0 a b
  have i1 := idx1 a b
  have HL := Lib.hid hl
  clear hl
  go_enter Try.func39, Try.ntmps39
  go_wp2_with fail
  have hr0 := resBox_new ((w.alloc (.cells #[.int .u8 (a.k : Int), .int .i64 a.n, .string a.s] 23)).alloc (.cells #[.int .u8 (b.k : Int), .int .i64 b.n, .string b.s] 23)) 23
  have hb0 : Below w.heap.size w (((w.alloc (.cells #[.int .u8 (a.k : Int), .int .i64 a.n, .string a.s] 23)).alloc (.cells #[.int .u8 (b.k : Int), .int .i64 b.n, .string b.s] 23)).alloc (.cells #[.int .u8 0, .int .i64 0, .string ⟨#[]⟩] 23)) := by go_grown
  have hx0 : BoxV w.heap.size a (((w.alloc (.cells #[.int .u8 (a.k : Int), .int .i64 a.n, .string a.s] 23)).alloc (.cells #[.int .u8 (b.k : Int), .int .i64 b.n, .string b.s] 23)).alloc (.cells #[.int .u8 0, .int .i64 0, .string ⟨#[]⟩] 23)) := by constructor <;> go_simp
  have hy0 : BoxV (w.heap.size + 1) b (((w.alloc (.cells #[.int .u8 (a.k : Int), .int .i64 a.n, .string a.s] 23)).alloc (.cells #[.int .u8 (b.k : Int), .int .i64 b.n, .string b.s] 23)).alloc (.cells #[.int .u8 0, .int .i64 0, .string ⟨#[]⟩] 23)) := by constructor <;> go_simp
  simp only [World.size_alloc] at hr0
  generalize (((w.alloc (.cells #[.int .u8 (a.k : Int), .int .i64 a.n, .string a.s] 23)).alloc (.cells #[.int .u8 (b.k : Int), .int .i64 b.n, .string b.s] 23)).alloc (.cells #[.int .u8 0, .int .i64 0, .string ⟨#[]⟩] 23)) = W0 at *
  refine wp_loop_rounds 3 ?_
  rw [rounds_succ]
  go_wp2_with fail
  have hr1 := hr0.later ((Below.refl _ W0).alloc (Nat.le_refl _) (.cells #[.int .u8 (a.k : Int), .int .i64 a.n, .string a.s] 23))
  have hx1 := hx0.later ((Below.refl _ W0).alloc (Nat.le_refl _) (.cells #[.int .u8 (a.k : Int), .int .i64 a.n, .string a.s] 23))
  have hy1 := hy0.later ((Below.refl _ W0).alloc (Nat.le_refl _) (.cells #[.int .u8 (a.k : Int), .int .i64 a.n, .string a.s] 23))
  have hb1 := hb0.alloc hb0.size (.cells #[.int .u8 (a.k : Int), .int .i64 a.n, .string a.s] 23)
  clear hr0 hx0 hy0 hb0
  refine (trueW a _).mono ?_
  rintro e W2 ⟨rfl, hbt⟩
  have hr2 := hr1.later hbt
  have hx2 := hx1.later hbt
  have hy2 := hy1.later hbt
  have hb2 := next hb1 hbt
  clear hr1 hx1 hy1 hb1 hbt
  have hz2 := hr2.lt
  go_wp2_with fail
  rw [rounds_succ]
  go_wp2_with fail
  have hr3 := hr2.later ((Below.refl _ W2).alloc (Nat.le_refl _) (.cells #[.int .u8 (b.k : Int), .int .i64 b.n, .string b.s] 23))
  have hx3 := hx2.later ((Below.refl _ W2).alloc (Nat.le_refl _) (.cells #[.int .u8 (b.k : Int), .int .i64 b.n, .string b.s] 23))
  have hy3 := hy2.later ((Below.refl _ W2).alloc (Nat.le_refl _) (.cells #[.int .u8 (b.k : Int), .int .i64 b.n, .string b.s] 23))
  have hb3 := hb2.alloc hb2.size (.cells #[.int .u8 (b.k : Int), .int .i64 b.n, .string b.s] 23)
  clear hr2 hx2 hy2 hb2
  generalize W2.alloc (.cells #[.int .u8 (b.k : Int), .int .i64 b.n, .string b.s] 23) = W3 at *
  rw [rounds_succ]
  obtain ⟨x0, x1, x2⟩ := hx3
  obtain ⟨y0, y1, y2⟩ := hy3
  have hz3 := hr3.lt
  have hs3 := hb3.size
  go_wp2_with fail
  refine (truth (!d) _).mono ?_
  rintro e wf ⟨rfl, hbf⟩
  have hrf := hr3.later hbf
  have hzf := hrf.lt
  obtain ⟨c0, c1, c2, f0, f1, f2⟩ := hrf
  have hbelf := next hb3 hbf
  clear hr3 hb3 hbf
  go_wp2_with fail
  obtain ⟨q0, q1, q2⟩ := filled3 wf (w.heap.size + 2) _ _ _ (.int .u8 ((truthV (!d)).k : Int)) (.int .i64 (truthV (!d)).n) (.string (truthV (!d)).s) c0 c1 c2
  refine bodyPost_ret (v := (truthV (!d)).val) (by simp [results, Try.results39, go_sem, q0, q1, q2]) rfl ⟨by rw [HL.out], ?_⟩
  go_grown

set_option maxRecDepth 100000 in
set_option maxHeartbeats 4000000 in
theorem logic_ZR (a b : V) (d : Bool) (w : World) (ea : ((a.k : Int) == 1) = false) (eb : ((b.k : Int) == 1) = true) (tb : (trueB b == d) = true) (hl : logicS a b d = truthV d) : Calls Try.prog 39 #[a.val, b.val, .bool d] w fun e w' => e = .returned (logicS a b d).val ∧ Below w.heap.size w w' := by
  have i0 := idx0 a b
  have i1 := idx1 a b
  have HL := Lib.hid hl
  clear hl
  go_enter Try.func39, Try.ntmps39
  go_wp2_with fail
  have hr0 := resBox_new ((w.alloc (.cells #[.int .u8 (a.k : Int), .int .i64 a.n, .string a.s] 23)).alloc (.cells #[.int .u8 (b.k : Int), .int .i64 b.n, .string b.s] 23)) 23
  have hb0 : Below w.heap.size w (((w.alloc (.cells #[.int .u8 (a.k : Int), .int .i64 a.n, .string a.s] 23)).alloc (.cells #[.int .u8 (b.k : Int), .int .i64 b.n, .string b.s] 23)).alloc (.cells #[.int .u8 0, .int .i64 0, .string ⟨#[]⟩] 23)) := by go_grown
  have hx0 : BoxV w.heap.size a (((w.alloc (.cells #[.int .u8 (a.k : Int), .int .i64 a.n, .string a.s] 23)).alloc (.cells #[.int .u8 (b.k : Int), .int .i64 b.n, .string b.s] 23)).alloc (.cells #[.int .u8 0, .int .i64 0, .string ⟨#[]⟩] 23)) := by constructor <;> go_simp
  have hy0 : BoxV (w.heap.size + 1) b (((w.alloc (.cells #[.int .u8 (a.k : Int), .int .i64 a.n, .string a.s] 23)).alloc (.cells #[.int .u8 (b.k : Int), .int .i64 b.n, .string b.s] 23)).alloc (.cells #[.int .u8 0, .int .i64 0, .string ⟨#[]⟩] 23)) := by constructor <;> go_simp
  simp only [World.size_alloc] at hr0
  generalize (((w.alloc (.cells #[.int .u8 (a.k : Int), .int .i64 a.n, .string a.s] 23)).alloc (.cells #[.int .u8 (b.k : Int), .int .i64 b.n, .string b.s] 23)).alloc (.cells #[.int .u8 0, .int .i64 0, .string ⟨#[]⟩] 23)) = W0 at *
  refine wp_loop_rounds 3 ?_
  rw [rounds_succ]
  go_wp2_with fail
  have hr1 := hr0.later ((Below.refl _ W0).alloc (Nat.le_refl _) (.cells #[.int .u8 (a.k : Int), .int .i64 a.n, .string a.s] 23))
  have hx1 := hx0.later ((Below.refl _ W0).alloc (Nat.le_refl _) (.cells #[.int .u8 (a.k : Int), .int .i64 a.n, .string a.s] 23))
  have hy1 := hy0.later ((Below.refl _ W0).alloc (Nat.le_refl _) (.cells #[.int .u8 (a.k : Int), .int .i64 a.n, .string a.s] 23))
  have hb1 := hb0.alloc hb0.size (.cells #[.int .u8 (a.k : Int), .int .i64 a.n, .string a.s] 23)
  clear hr0 hx0 hy0 hb0
  generalize W0.alloc (.cells #[.int .u8 (a.k : Int), .int .i64 a.n, .string a.s] 23) = W1 at *
  rw [rounds_succ]
  go_wp2_with fail
  have hr2 := hr1.later ((Below.refl _ W1).alloc (Nat.le_refl _) (.cells #[.int .u8 (b.k : Int), .int .i64 b.n, .string b.s] 23))
  have hx2 := hx1.later ((Below.refl _ W1).alloc (Nat.le_refl _) (.cells #[.int .u8 (b.k : Int), .int .i64 b.n, .string b.s] 23))
  have hy2 := hy1.later ((Below.refl _ W1).alloc (Nat.le_refl _) (.cells #[.int .u8 (b.k : Int), .int .i64 b.n, .string b.s] 23))
  have hb2 := hb1.alloc hb1.size (.cells #[.int .u8 (b.k : Int), .int .i64 b.n, .string b.s] 23)
  clear hr1 hx1 hy1 hb1
  refine (trueW b _).mono ?_
  rintro e W3 ⟨rfl, hbt⟩
  have hr3 := hr2.later hbt
  have hx3 := hx2.later hbt
  have hy3 := hy2.later hbt
  have hb3 := next hb2 hbt
  clear hr2 hx2 hy2 hb2 hbt
  have hz3 := hr3.lt
  go_wp2_with fail
  refine (truth d _).mono ?_
  rintro e wf ⟨rfl, hbf⟩
  have hrf := hr3.later hbf
  have hzf := hrf.lt
  obtain ⟨c0, c1, c2, f0, f1, f2⟩ := hrf
  have hbelf := next hb3 hbf
  clear hr3 hx3 hy3 hb3 hbf
  go_wp2_with fail
  obtain ⟨q0, q1, q2⟩ := filled3 wf (w.heap.size + 2) _ _ _ (.int .u8 ((truthV d).k : Int)) (.int .i64 (truthV d).n) (.string (truthV d).s) c0 c1 c2
  refine bodyPost_ret (v := (truthV d).val) (by simp [results, Try.results39, go_sem, q0, q1, q2]) rfl ⟨by rw [HL.out], ?_⟩
  go_grown

set_option maxRecDepth 100000 in
set_option maxHeartbeats 4000000 in
theorem logic_ZN1 (a b : V) (d : Bool) (w : World) (ea : ((a.k : Int) == 1) = false) (eb : ((b.k : Int) == 1) = true) (tb : (trueB b == d) = false) (za : ((a.k : Int) == 0) = true) (hl : logicS a b d = nullV) : Calls Try.prog 39 #[a.val, b.val, .bool d] w fun e w' => e = .returned (logicS a b d).val ∧ Below w.heap.size w w' := by
  have i0 := idx0 a b
  have i1 := idx1 a b
  have HL := Lib.hid hl
  clear hl
  go_enter Try.func39, Try.ntmps39
  go_wp2_with fail
  have hr0 := resBox_new ((w.alloc (.cells #[.int .u8 (a.k : Int), .int .i64 a.n, .string a.s] 23)).alloc (.cells #[.int .u8 (b.k : Int), .int .i64 b.n, .string b.s] 23)) 23
  have hb0 : Below w.heap.size w (((w.alloc (.cells #[.int .u8 (a.k : Int), .int .i64 a.n, .string a.s] 23)).alloc (.cells #[.int .u8 (b.k : Int), .int .i64 b.n, .string b.s] 23)).alloc (.cells #[.int .u8 0, .int .i64 0, .string ⟨#[]⟩] 23)) := by go_grown
  have hx0 : BoxV w.heap.size a (((w.alloc (.cells #[.int .u8 (a.k : Int), .int .i64 a.n, .string a.s] 23)).alloc (.cells #[.int .u8 (b.k : Int), .int .i64 b.n, .string b.s] 23)).alloc (.cells #[.int .u8 0, .int .i64 0, .string ⟨#[]⟩] 23)) := by constructor <;> go_simp
  have hy0 : BoxV (w.heap.size + 1) b (((w.alloc (.cells #[.int .u8 (a.k : Int), .int .i64 a.n, .string a.s] 23)).alloc (.cells #[.int .u8 (b.k : Int), .int .i64 b.n, .string b.s] 23)).alloc (.cells #[.int .u8 0, .int .i64 0, .string ⟨#[]⟩] 23)) := by constructor <;> go_simp
  simp only [World.size_alloc] at hr0
  generalize (((w.alloc (.cells #[.int .u8 (a.k : Int), .int .i64 a.n, .string a.s] 23)).alloc (.cells #[.int .u8 (b.k : Int), .int .i64 b.n, .string b.s] 23)).alloc (.cells #[.int .u8 0, .int .i64 0, .string ⟨#[]⟩] 23)) = W0 at *
  refine wp_loop_rounds 3 ?_
  rw [rounds_succ]
  go_wp2_with fail
  have hr1 := hr0.later ((Below.refl _ W0).alloc (Nat.le_refl _) (.cells #[.int .u8 (a.k : Int), .int .i64 a.n, .string a.s] 23))
  have hx1 := hx0.later ((Below.refl _ W0).alloc (Nat.le_refl _) (.cells #[.int .u8 (a.k : Int), .int .i64 a.n, .string a.s] 23))
  have hy1 := hy0.later ((Below.refl _ W0).alloc (Nat.le_refl _) (.cells #[.int .u8 (a.k : Int), .int .i64 a.n, .string a.s] 23))
  have hb1 := hb0.alloc hb0.size (.cells #[.int .u8 (a.k : Int), .int .i64 a.n, .string a.s] 23)
  clear hr0 hx0 hy0 hb0
  generalize W0.alloc (.cells #[.int .u8 (a.k : Int), .int .i64 a.n, .string a.s] 23) = W1 at *
  rw [rounds_succ]
  go_wp2_with fail
  have hr2 := hr1.later ((Below.refl _ W1).alloc (Nat.le_refl _) (.cells #[.int .u8 (b.k : Int), .int .i64 b.n, .string b.s] 23))
  have hx2 := hx1.later ((Below.refl _ W1).alloc (Nat.le_refl _) (.cells #[.int .u8 (b.k : Int), .int .i64 b.n, .string b.s] 23))
  have hy2 := hy1.later ((Below.refl _ W1).alloc (Nat.le_refl _) (.cells #[.int .u8 (b.k : Int), .int .i64 b.n, .string b.s] 23))
  have hb2 := hb1.alloc hb1.size (.cells #[.int .u8 (b.k : Int), .int .i64 b.n, .string b.s] 23)
  clear hr1 hx1 hy1 hb1
  refine (trueW b _).mono ?_
  rintro e W3 ⟨rfl, hbt⟩
  have hr3 := hr2.later hbt
  have hx3 := hx2.later hbt
  have hy3 := hy2.later hbt
  have hb3 := next hb2 hbt
  clear hr2 hx2 hy2 hb2 hbt
  have hz3 := hr3.lt
  go_wp2_with fail
  rw [rounds_succ]
  obtain ⟨x0, x1, x2⟩ := hx3
  obtain ⟨y0, y1, y2⟩ := hy3
  have hz3 := hr3.lt
  have hs3 := hb3.size
  obtain ⟨c0, c1, c2, f0, f1, f2⟩ := hr3
  go_wp2_with fail
  obtain ⟨q0, q1, q2⟩ := filled3 _ (w.heap.size + 2) _ _ _ (.int .u8 0) (.int .i64 0) (.string ⟨#[]⟩) c0 c1 c2
  refine bodyPost_ret (v := .agg #[.int .u8 0, .int .i64 0, .string ⟨#[]⟩]) (by simp [results, Try.results39, go_sem, q0, q1, q2]) rfl ⟨by rw [HL.out]; rfl, ?_⟩
  go_grown

set_option maxRecDepth 100000 in
set_option maxHeartbeats 4000000 in
theorem logic_ZN3 (a b : V) (d : Bool) (w : World) (ea : ((a.k : Int) == 1) = false) (eb : ((b.k : Int) == 1) = true) (tb : (trueB b == d) = false) (za : ((a.k : Int) == 0) = false) (zb : ((b.k : Int) == 0) = false) (hl : logicS a b d = truthV (!d)) : Calls Try.prog 39 #[a.val, b.val, .bool d] w fun e w' => e = .returned (logicS a b d).val ∧ Below w.heap.size w w' := by
  have i0 := idx0 a b
  have i1 := idx1 a b
  have HL := Lib.hid hl
  clear hl
  go_enter Try.func39, Try.ntmps39
  go_wp2_with fail
  have hr0 := resBox_new ((w.alloc (.cells #[.int .u8 (a.k : Int), .int .i64 a.n, .string a.s] 23)).alloc (.cells #[.int .u8 (b.k : Int), .int .i64 b.n, .string b.s] 23)) 23
  have hb0 : Below w.heap.size w (((w.alloc (.cells #[.int .u8 (a.k : Int), .int .i64 a.n, .string a.s] 23)).alloc (.cells #[.int .u8 (b.k : Int), .int .i64 b.n, .string b.s] 23)).alloc (.cells #[.int .u8 0, .int .i64 0, .string ⟨#[]⟩] 23)) := by go_grown
  have hx0 : BoxV w.heap.size a (((w.alloc (.cells #[.int .u8 (a.k : Int), .int .i64 a.n, .string a.s] 23)).alloc (.cells #[.int .u8 (b.k : Int), .int .i64 b.n, .string b.s] 23)).alloc (.cells #[.int .u8 0, .int .i64 0, .string ⟨#[]⟩] 23)) := by constructor <;> go_simp
  have hy0 : BoxV (w.heap.size + 1) b (((w.alloc (.cells #[.int .u8 (a.k : Int), .int .i64 a.n, .string a.s] 23)).alloc (.cells #[.int .u8 (b.k : Int), .int .i64 b.n, .string b.s] 23)).alloc (.cells #[.int .u8 0, .int .i64 0, .string ⟨#[]⟩] 23)) := by constructor <;> go_simp
  simp only [World.size_alloc] at hr0
  generalize (((w.alloc (.cells #[.int .u8 (a.k : Int), .int .i64 a.n, .string a.s] 23)).alloc (.cells #[.int .u8 (b.k : Int), .int .i64 b.n, .string b.s] 23)).alloc (.cells #[.int .u8 0, .int .i64 0, .string ⟨#[]⟩] 23)) = W0 at *
  refine wp_loop_rounds 3 ?_
  rw [rounds_succ]
  go_wp2_with fail
  have hr1 := hr0.later ((Below.refl _ W0).alloc (Nat.le_refl _) (.cells #[.int .u8 (a.k : Int), .int .i64 a.n, .string a.s] 23))
  have hx1 := hx0.later ((Below.refl _ W0).alloc (Nat.le_refl _) (.cells #[.int .u8 (a.k : Int), .int .i64 a.n, .string a.s] 23))
  have hy1 := hy0.later ((Below.refl _ W0).alloc (Nat.le_refl _) (.cells #[.int .u8 (a.k : Int), .int .i64 a.n, .string a.s] 23))
  have hb1 := hb0.alloc hb0.size (.cells #[.int .u8 (a.k : Int), .int .i64 a.n, .string a.s] 23)
  clear hr0 hx0 hy0 hb0
  generalize W0.alloc (.cells #[.int .u8 (a.k : Int), .int .i64 a.n, .string a.s] 23) = W1 at *
  rw [rounds_succ]
  go_wp2_with fail
  have hr2 := hr1.later ((Below.refl _ W1).alloc (Nat.le_refl _) (.cells #[.int .u8 (b.k : Int), .int .i64 b.n, .string b.s] 23))
  have hx2 := hx1.later ((Below.refl _ W1).alloc (Nat.le_refl _) (.cells #[.int .u8 (b.k : Int), .int .i64 b.n, .string b.s] 23))
  have hy2 := hy1.later ((Below.refl _ W1).alloc (Nat.le_refl _) (.cells #[.int .u8 (b.k : Int), .int .i64 b.n, .string b.s] 23))
  have hb2 := hb1.alloc hb1.size (.cells #[.int .u8 (b.k : Int), .int .i64 b.n, .string b.s] 23)
  clear hr1 hx1 hy1 hb1
  refine (trueW b _).mono ?_
  rintro e W3 ⟨rfl, hbt⟩
  have hr3 := hr2.later hbt
  have hx3 := hx2.later hbt
  have hy3 := hy2.later hbt
  have hb3 := next hb2 hbt
  clear hr2 hx2 hy2 hb2 hbt
  have hz3 := hr3.lt
  go_wp2_with fail
  rw [rounds_succ]
  obtain ⟨x0, x1, x2⟩ := hx3
  obtain ⟨y0, y1, y2⟩ := hy3
  have hz3 := hr3.lt
  have hs3 := hb3.size
  go_wp2_with fail
  refine (truth (!d) _).mono ?_
  rintro e wf ⟨rfl, hbf⟩
  have hrf := hr3.later hbf
  have hzf := hrf.lt
  obtain ⟨c0, c1, c2, f0, f1, f2⟩ := hrf
  have hbelf := next hb3 hbf
  clear hr3 hb3 hbf
  go_wp2_with fail
  obtain ⟨q0, q1, q2⟩ := filled3 wf (w.heap.size + 2) _ _ _ (.int .u8 ((truthV (!d)).k : Int)) (.int .i64 (truthV (!d)).n) (.string (truthV (!d)).s) c0 c1 c2
  refine bodyPost_ret (v := (truthV (!d)).val) (by simp [results, Try.results39, go_sem, q0, q1, q2]) rfl ⟨by rw [HL.out], ?_⟩
  go_grown

set_option maxRecDepth 100000 in
set_option maxHeartbeats 4000000 in
theorem logic_ZZ1 (a b : V) (d : Bool) (w : World) (ea : ((a.k : Int) == 1) = false) (eb : ((b.k : Int) == 1) = false) (za : ((a.k : Int) == 0) = true) (hl : logicS a b d = nullV) : Calls Try.prog 39 #[a.val, b.val, .bool d] w fun e w' => e = .returned (logicS a b d).val ∧ Below w.heap.size w w' := by
  have i0 := idx0 a b
  have i1 := idx1 a b
  have HL := Lib.hid hl
  clear hl
  go_enter Try.func39, Try.ntmps39
  go_wp2_with fail
  have hr0 := resBox_new ((w.alloc (.cells #[.int .u8 (a.k : Int), .int .i64 a.n, .string a.s] 23)).alloc (.cells #[.int .u8 (b.k : Int), .int .i64 b.n, .string b.s] 23)) 23
  have hb0 : Below w.heap.size w (((w.alloc (.cells #[.int .u8 (a.k : Int), .int .i64 a.n, .string a.s] 23)).alloc (.cells #[.int .u8 (b.k : Int), .int .i64 b.n, .string b.s] 23)).alloc (.cells #[.int .u8 0, .int .i64 0, .string ⟨#[]⟩] 23)) := by go_grown
  have hx0 : BoxV w.heap.size a (((w.alloc (.cells #[.int .u8 (a.k : Int), .int .i64 a.n, .string a.s] 23)).alloc (.cells #[.int .u8 (b.k : Int), .int .i64 b.n, .string b.s] 23)).alloc (.cells #[.int .u8 0, .int .i64 0, .string ⟨#[]⟩] 23)) := by constructor <;> go_simp
  have hy0 : BoxV (w.heap.size + 1) b (((w.alloc (.cells #[.int .u8 (a.k : Int), .int .i64 a.n, .string a.s] 23)).alloc (.cells #[.int .u8 (b.k : Int), .int .i64 b.n, .string b.s] 23)).alloc (.cells #[.int .u8 0, .int .i64 0, .string ⟨#[]⟩] 23)) := by constructor <;> go_simp
  simp only [World.size_alloc] at hr0
  generalize (((w.alloc (.cells #[.int .u8 (a.k : Int), .int .i64 a.n, .string a.s] 23)).alloc (.cells #[.int .u8 (b.k : Int), .int .i64 b.n, .string b.s] 23)).alloc (.cells #[.int .u8 0, .int .i64 0, .string ⟨#[]⟩] 23)) = W0 at *
  refine wp_loop_rounds 3 ?_
  rw [rounds_succ]
  go_wp2_with fail
  have hr1 := hr0.later ((Below.refl _ W0).alloc (Nat.le_refl _) (.cells #[.int .u8 (a.k : Int), .int .i64 a.n, .string a.s] 23))
  have hx1 := hx0.later ((Below.refl _ W0).alloc (Nat.le_refl _) (.cells #[.int .u8 (a.k : Int), .int .i64 a.n, .string a.s] 23))
  have hy1 := hy0.later ((Below.refl _ W0).alloc (Nat.le_refl _) (.cells #[.int .u8 (a.k : Int), .int .i64 a.n, .string a.s] 23))
  have hb1 := hb0.alloc hb0.size (.cells #[.int .u8 (a.k : Int), .int .i64 a.n, .string a.s] 23)
  clear hr0 hx0 hy0 hb0
  generalize W0.alloc (.cells #[.int .u8 (a.k : Int), .int .i64 a.n, .string a.s] 23) = W1 at *
  rw [rounds_succ]
  go_wp2_with fail
  have hr2 := hr1.later ((Below.refl _ W1).alloc (Nat.le_refl _) (.cells #[.int .u8 (b.k : Int), .int .i64 b.n, .string b.s] 23))
  have hx2 := hx1.later ((Below.refl _ W1).alloc (Nat.le_refl _) (.cells #[.int .u8 (b.k : Int), .int .i64 b.n, .string b.s] 23))
  have hy2 := hy1.later ((Below.refl _ W1).alloc (Nat.le_refl _) (.cells #[.int .u8 (b.k : Int), .int .i64 b.n, .string b.s] 23))
  have hb2 := hb1.alloc hb1.size (.cells #[.int .u8 (b.k : Int), .int .i64 b.n, .string b.s] 23)
  clear hr1 hx1 hy1 hb1
  generalize W1.alloc (.cells #[.int .u8 (b.k : Int), .int .i64 b.n, .string b.s] 23) = W2 at *
  rw [rounds_succ]
  obtain ⟨x0, x1, x2⟩ := hx2
  obtain ⟨y0, y1, y2⟩ := hy2
  have hz2 := hr2.lt
  have hs2 := hb2.size
  obtain ⟨c0, c1, c2, f0, f1, f2⟩ := hr2
  go_wp2_with fail
  obtain ⟨q0, q1, q2⟩ := filled3 _ (w.heap.size + 2) _ _ _ (.int .u8 0) (.int .i64 0) (.string ⟨#[]⟩) c0 c1 c2
  refine bodyPost_ret (v := .agg #[.int .u8 0, .int .i64 0, .string ⟨#[]⟩]) (by simp [results, Try.results39, go_sem, q0, q1, q2]) rfl ⟨by rw [HL.out]; rfl, ?_⟩
  go_grown

set_option maxRecDepth 100000 in
set_option maxHeartbeats 4000000 in
theorem logic_ZZ2 (a b : V) (d : Bool) (w : World) (ea : ((a.k : Int) == 1) = false) (eb : ((b.k : Int) == 1) = false) (za : ((a.k : Int) == 0) = false) (zb : ((b.k : Int) == 0) = true) (hl : logicS a b d = nullV) : Calls Try.prog 39 #[a.val, b.val, .bool d] w fun e w' => e = .returned (logicS a b d).val ∧ Below w.heap.size w w' := by
  have i0 := idx0 a b
  have i1 := idx1 a b
  have HL := Lib.hid hl
  clear hl
  go_enter Try.func39, Try.ntmps39
  go_wp2_with fail
  have hr0 := resBox_new ((w.alloc (.cells #[.int .u8 (a.k : Int), .int .i64 a.n, .string a.s] 23)).alloc (.cells #[.int .u8 (b.k : Int), .int .i64 b.n, .string b.s] 23)) 23
  have hb0 : Below w.heap.size w (((w.alloc (.cells #[.int .u8 (a.k : Int), .int .i64 a.n, .string a.s] 23)).alloc (.cells #[.int .u8 (b.k : Int), .int .i64 b.n, .string b.s] 23)).alloc (.cells #[.int .u8 0, .int .i64 0, .string ⟨#[]⟩] 23)) := by go_grown
  have hx0 : BoxV w.heap.size a (((w.alloc (.cells #[.int .u8 (a.k : Int), .int .i64 a.n, .string a.s] 23)).alloc (.cells #[.int .u8 (b.k : Int), .int .i64 b.n, .string b.s] 23)).alloc (.cells #[.int .u8 0, .int .i64 0, .string ⟨#[]⟩] 23)) := by constructor <;> go_simp
  have hy0 : BoxV (w.heap.size + 1) b (((w.alloc (.cells #[.int .u8 (a.k : Int), .int .i64 a.n, .string a.s] 23)).alloc (.cells #[.int .u8 (b.k : Int), .int .i64 b.n, .string b.s] 23)).alloc (.cells #[.int .u8 0, .int .i64 0, .string ⟨#[]⟩] 23)) := by constructor <;> go_simp
  simp only [World.size_alloc] at hr0
  generalize (((w.alloc (.cells #[.int .u8 (a.k : Int), .int .i64 a.n, .string a.s] 23)).alloc (.cells #[.int .u8 (b.k : Int), .int .i64 b.n, .string b.s] 23)).alloc (.cells #[.int .u8 0, .int .i64 0, .string ⟨#[]⟩] 23)) = W0 at *
  refine wp_loop_rounds 3 ?_
  rw [rounds_succ]
  go_wp2_with fail
  have hr1 := hr0.later ((Below.refl _ W0).alloc (Nat.le_refl _) (.cells #[.int .u8 (a.k : Int), .int .i64 a.n, .string a.s] 23))
  have hx1 := hx0.later ((Below.refl _ W0).alloc (Nat.le_refl _) (.cells #[.int .u8 (a.k : Int), .int .i64 a.n, .string a.s] 23))
  have hy1 := hy0.later ((Below.refl _ W0).alloc (Nat.le_refl _) (.cells #[.int .u8 (a.k : Int), .int .i64 a.n, .string a.s] 23))
  have hb1 := hb0.alloc hb0.size (.cells #[.int .u8 (a.k : Int), .int .i64 a.n, .string a.s] 23)
  clear hr0 hx0 hy0 hb0
  generalize W0.alloc (.cells #[.int .u8 (a.k : Int), .int .i64 a.n, .string a.s] 23) = W1 at *
  rw [rounds_succ]
  go_wp2_with fail
  have hr2 := hr1.later ((Below.refl _ W1).alloc (Nat.le_refl _) (.cells #[.int .u8 (b.k : Int), .int .i64 b.n, .string b.s] 23))
  have hx2 := hx1.later ((Below.refl _ W1).alloc (Nat.le_refl _) (.cells #[.int .u8 (b.k : Int), .int .i64 b.n, .string b.s] 23))
  have hy2 := hy1.later ((Below.refl _ W1).alloc (Nat.le_refl _) (.cells #[.int .u8 (b.k : Int), .int .i64 b.n, .string b.s] 23))
  have hb2 := hb1.alloc hb1.size (.cells #[.int .u8 (b.k : Int), .int .i64 b.n, .string b.s] 23)
  clear hr1 hx1 hy1 hb1
  generalize W1.alloc (.cells #[.int .u8 (b.k : Int), .int .i64 b.n, .string b.s] 23) = W2 at *
  rw [rounds_succ]
  obtain ⟨x0, x1, x2⟩ := hx2
  obtain ⟨y0, y1, y2⟩ := hy2
  have hz2 := hr2.lt
  have hs2 := hb2.size
  obtain ⟨c0, c1, c2, f0, f1, f2⟩ := hr2
  go_wp2_with fail
  obtain ⟨q0, q1, q2⟩ := filled3 _ (w.heap.size + 2) _ _ _ (.int .u8 0) (.int .i64 0) (.string ⟨#[]⟩) c0 c1 c2
  refine bodyPost_ret (v := .agg #[.int .u8 0, .int .i64 0, .string ⟨#[]⟩]) (by simp [results, Try.results39, go_sem, q0, q1, q2]) rfl ⟨by rw [HL.out]; rfl, ?_⟩
  go_grown

set_option maxRecDepth 100000 in
set_option maxHeartbeats 4000000 in
theorem logic_ZZ3 (a b : V) (d : Bool) (w : World) (ea : ((a.k : Int) == 1) = false) (eb : ((b.k : Int) == 1) = false) (za : ((a.k : Int) == 0) = false) (zb : ((b.k : Int) == 0) = false) (hl : logicS a b d = truthV (!d)) : Calls Try.prog 39 #[a.val, b.val, .bool d] w fun e w' => e = .returned (logicS a b d).val ∧ Below w.heap.size w w' := by
  have i0 := idx0 a b
  have i1 := idx1 a b
  have HL := Lib.hid hl
  clear hl
  go_enter Try.func39, Try.ntmps39
  go_wp2_with fail
  have hr0 := resBox_new ((w.alloc (.cells #[.int .u8 (a.k : Int), .int .i64 a.n, .string a.s] 23)).alloc (.cells #[.int .u8 (b.k : Int), .int .i64 b.n, .string b.s] 23)) 23
  have hb0 : Below w.heap.size w (((w.alloc (.cells #[.int .u8 (a.k : Int), .int .i64 a.n, .string a.s] 23)).alloc (.cells #[.int .u8 (b.k : Int), .int .i64 b.n, .string b.s] 23)).alloc (.cells #[.int .u8 0, .int .i64 0, .string ⟨#[]⟩] 23)) := by go_grown
  have hx0 : BoxV w.heap.size a (((w.alloc (.cells #[.int .u8 (a.k : Int), .int .i64 a.n, .string a.s] 23)).alloc (.cells #[.int .u8 (b.k : Int), .int .i64 b.n, .string b.s] 23)).alloc (.cells #[.int .u8 0, .int .i64 0, .string ⟨#[]⟩] 23)) := by constructor <;> go_simp
  have hy0 : BoxV (w.heap.size + 1) b (((w.alloc (.cells #[.int .u8 (a.k : Int), .int .i64 a.n, .string a.s] 23)).alloc (.cells #[.int .u8 (b.k : Int), .int .i64 b.n, .string b.s] 23)).alloc (.cells #[.int .u8 0, .int .i64 0, .string ⟨#[]⟩] 23)) := by constructor <;> go_simp
  simp only [World.size_alloc] at hr0
  generalize (((w.alloc (.cells #[.int .u8 (a.k : Int), .int .i64 a.n, .string a.s] 23)).alloc (.cells #[.int .u8 (b.k : Int), .int .i64 b.n, .string b.s] 23)).alloc (.cells #[.int .u8 0, .int .i64 0, .string ⟨#[]⟩] 23)) = W0 at *
  refine wp_loop_rounds 3 ?_
  rw [rounds_succ]
  go_wp2_with fail
  have hr1 := hr0.later ((Below.refl _ W0).alloc (Nat.le_refl _) (.cells #[.int .u8 (a.k : Int), .int .i64 a.n, .string a.s] 23))
  have hx1 := hx0.later ((Below.refl _ W0).alloc (Nat.le_refl _) (.cells #[.int .u8 (a.k : Int), .int .i64 a.n, .string a.s] 23))
  have hy1 := hy0.later ((Below.refl _ W0).alloc (Nat.le_refl _) (.cells #[.int .u8 (a.k : Int), .int .i64 a.n, .string a.s] 23))
  have hb1 := hb0.alloc hb0.size (.cells #[.int .u8 (a.k : Int), .int .i64 a.n, .string a.s] 23)
  clear hr0 hx0 hy0 hb0
  generalize W0.alloc (.cells #[.int .u8 (a.k : Int), .int .i64 a.n, .string a.s] 23) = W1 at *
  rw [rounds_succ]
  go_wp2_with fail
  have hr2 := hr1.later ((Below.refl _ W1).alloc (Nat.le_refl _) (.cells #[.int .u8 (b.k : Int), .int .i64 b.n, .string b.s] 23))
  have hx2 := hx1.later ((Below.refl _ W1).alloc (Nat.le_refl _) (.cells #[.int .u8 (b.k : Int), .int .i64 b.n, .string b.s] 23))
  have hy2 := hy1.later ((Below.refl _ W1).alloc (Nat.le_refl _) (.cells #[.int .u8 (b.k : Int), .int .i64 b.n, .string b.s] 23))
  have hb2 := hb1.alloc hb1.size (.cells #[.int .u8 (b.k : Int), .int .i64 b.n, .string b.s] 23)
  clear hr1 hx1 hy1 hb1
  generalize W1.alloc (.cells #[.int .u8 (b.k : Int), .int .i64 b.n, .string b.s] 23) = W2 at *
  rw [rounds_succ]
  obtain ⟨x0, x1, x2⟩ := hx2
  obtain ⟨y0, y1, y2⟩ := hy2
  have hz2 := hr2.lt
  have hs2 := hb2.size
  go_wp2_with fail
  refine (truth (!d) _).mono ?_
  rintro e wf ⟨rfl, hbf⟩
  have hrf := hr2.later hbf
  have hzf := hrf.lt
  obtain ⟨c0, c1, c2, f0, f1, f2⟩ := hrf
  have hbelf := next hb2 hbf
  clear hr2 hb2 hbf
  go_wp2_with fail
  obtain ⟨q0, q1, q2⟩ := filled3 wf (w.heap.size + 2) _ _ _ (.int .u8 ((truthV (!d)).k : Int)) (.int .i64 (truthV (!d)).n) (.string (truthV (!d)).s) c0 c1 c2
  refine bodyPost_ret (v := (truthV (!d)).val) (by simp [results, Try.results39, go_sem, q0, q1, q2]) rfl ⟨by rw [HL.out], ?_⟩
  go_grown

theorem logic (a b : V) (d : Bool) (w : World) : Calls Try.prog 39 #[a.val, b.val, .bool d] w fun e w' => e = .returned (logicS a b d).val ∧ Below w.heap.size w w' := by
  have nk : ∀ (v : V) (k : Nat), v.k ≠ k → ((v.k : Int) == (k : Int)) = false := fun v k h => by simp; omega
  have yk : ∀ (v : V) (k : Nat), v.k = k → ((v.k : Int) == (k : Int)) = true := fun v k h => by simp [h]
  have nt : ∀ (v : V), trueB v ≠ d → (trueB v == d) = false := fun v h => by simpa using h
  have yt : ∀ (v : V), trueB v = d → (trueB v == d) = true := fun v h => by simpa using h
  by_cases a1 : a.k = 1
  · have a0 : a.k ≠ 0 := by omega
    by_cases ta : trueB a = d
    · exact logic_aR a b d w (yk a 1 a1) (yt a ta) (by unfold logicS; rw [if_pos ⟨a1, ta⟩])
    · by_cases b1 : b.k = 1
      · have b0 : b.k ≠ 0 := by omega
        by_cases tb : trueB b = d
        · exact logic_NR a b d w (yk a 1 a1) (nt a ta) (yk b 1 b1) (yt b tb) (by unfold logicS; rw [if_neg (fun h => ta h.2), if_pos ⟨b1, tb⟩])
        · exact logic_NN3 a b d w (yk a 1 a1) (nt a ta) (yk b 1 b1) (nt b tb) (nk a 0 a0) (nk b 0 b0) (by unfold logicS; rw [if_neg (fun h => ta h.2), if_neg (fun h => tb h.2), if_neg (by omega)])
      · by_cases b0 : b.k = 0
        · exact logic_NZ2 a b d w (yk a 1 a1) (nt a ta) (nk b 1 b1) (nk a 0 a0) (yk b 0 b0) (by unfold logicS; rw [if_neg (fun h => ta h.2), if_neg (fun h => b1 h.1), if_pos (.inr b0)])
        · exact logic_NZ3 a b d w (yk a 1 a1) (nt a ta) (nk b 1 b1) (nk a 0 a0) (nk b 0 b0) (by unfold logicS; rw [if_neg (fun h => ta h.2), if_neg (fun h => b1 h.1), if_neg (by omega)])
  · by_cases b1 : b.k = 1
    · have b0 : b.k ≠ 0 := by omega
      by_cases tb : trueB b = d
      · exact logic_ZR a b d w (nk a 1 a1) (yk b 1 b1) (yt b tb) (by unfold logicS; rw [if_neg (fun h => a1 h.1), if_pos ⟨b1, tb⟩])
      · by_cases a0 : a.k = 0
        · exact logic_ZN1 a b d w (nk a 1 a1) (yk b 1 b1) (nt b tb) (yk a 0 a0) (by unfold logicS; rw [if_neg (fun h => a1 h.1), if_neg (fun h => tb h.2), if_pos (.inl a0)])
        · exact logic_ZN3 a b d w (nk a 1 a1) (yk b 1 b1) (nt b tb) (nk a 0 a0) (nk b 0 b0) (by unfold logicS; rw [if_neg (fun h => a1 h.1), if_neg (fun h => tb h.2), if_neg (by omega)])
    · by_cases a0 : a.k = 0
      · exact logic_ZZ1 a b d w (nk a 1 a1) (nk b 1 b1) (yk a 0 a0) (by unfold logicS; rw [if_neg (fun h => a1 h.1), if_neg (fun h => b1 h.1), if_pos (.inl a0)])
      · by_cases b0 : b.k = 0
        · exact logic_ZZ2 a b d w (nk a 1 a1) (nk b 1 b1) (nk a 0 a0) (yk b 0 b0) (by unfold logicS; rw [if_neg (fun h => a1 h.1), if_neg (fun h => b1 h.1), if_pos (.inr b0)])
        · exact logic_ZZ3 a b d w (nk a 1 a1) (nk b 1 b1) (nk a 0 a0) (nk b 0 b0) (by unfold logicS; rw [if_neg (fun h => a1 h.1), if_neg (fun h => b1 h.1), if_neg (by omega)])
end Go.Proofs.Ytclkpbokngamiaa.Dt
