/-
  The walks of package value: Check.
-/
import Derived.Test.YtcimipebpfajgaaDoorValueSpec
import Derived.Test.YtcimipebpfajgaaDoorTypesV
import Derived.Test.YtcimipebpfajgaaDoorShelf
import Derived.Test.YtcimipebpfajgaaDoorQuiet
import Derived.Handy
namespace Go.Proofs.YtcimipebpfajgaaDoor.Dt
open Go.RowKit Go.Proofs.YtcimipebpfajgaaDoor.By

theorem equal_V (a b : Int) (c d : Int) (s t : ByteArray) (w : World) (n : Nat) : (Op.equalIn (n + 3) 26 (.agg #[.int .u8 a, .int .i64 c, .string s]) (.agg #[.int .u8 b, .int .i64 d, .string t])).run Tryd.prog w = .ok (a == b && (c == d && s.toList == t.toList)) w := by
  rw [show n + 3 = (n + 2) + 1 from rfl, run_equalIn_agg w (n + 2) 26 _ _ (by kernel_rfl) (by kernel_rfl)]
  go_simp
  by_cases h1 : a = b <;> by_cases h2 : c = d <;> by_cases h3 : (s.toList == t.toList) = true <;> simp_all
theorem eql_V (a b : Int) (c d : Int) (s t : ByteArray) (w : World) : (binOp .eql 26 (.agg #[.int .u8 a, .int .i64 c, .string s]) (.agg #[.int .u8 b, .int .i64 d, .string t])).run Tryd.prog w = .ok (.bool (a == b && (c == d && s.toList == t.toList))) w := by
  rw [run_eql_struct, equal_V a b c d s t w 9997]
  rfl
theorem neq_V (a b : Int) (c d : Int) (s t : ByteArray) (w : World) : (binOp .neq 26 (.agg #[.int .u8 a, .int .i64 c, .string s]) (.agg #[.int .u8 b, .int .i64 d, .string t])).run Tryd.prog w = .ok (.bool (!(a == b && (c == d && s.toList == t.toList)))) w := by
  rw [run_neq_struct, equal_V a b c d s t w 9997]
  rfl
theorem same_V (a b : V) : ((a.k : Int) == (b.k : Int) && (a.n == b.n && a.s.toList == b.s.toList)) = decide (a = b) := by
  rw [str_eq, Bool.eq_iff_iff]
  simp only [Bool.and_eq_true, beq_iff_eq, decide_eq_true_eq]
  constructor
  · rintro ⟨h1, h2, h3⟩; exact V.ext' (by omega) h2 h3
  · rintro rfl; exact ⟨rfl, rfl, rfl⟩
theorem eq_told (a b : V) (t : Bool) (h : (a = b) = (t = true)) (w : World) : (binOp .eql 26 a.val b.val).run Tryd.prog w = .ok (.bool t) w := by
  rw [eql_V, same_V]; congr 2; rw [Bool.eq_iff_iff, ← h, decide_eq_true_eq]
theorem neq_told (a b : V) (t : Bool) (h : (a = b) = ¬ (t = true)) (w : World) : (binOp .neq 26 a.val b.val).run Tryd.prog w = .ok (.bool t) w := by
  rw [neq_V, same_V]; congr 2; rw [Bool.eq_iff_iff]; simp [h]

theorem cells_V (w w1 : World) (v : V) (t : TypeId) (hb : Below (w.alloc (.cells #[.int .u8 (v.k : Int), .int .i64 v.n, .string v.s] t)).heap.size (w.alloc (.cells #[.int .u8 (v.k : Int), .int .i64 v.n, .string v.s] t)) w1) :
    w1.cell? ⟨w.heap.size, 0, none⟩ = some (.int .u8 (v.k : Int)) ∧ w1.cell? ⟨w.heap.size, 1, none⟩ = some (.int .i64 v.n) ∧ w1.cell? ⟨w.heap.size, 2, none⟩ = some (.string v.s) := by
  refine ⟨?_, ?_, ?_⟩ <;> (rw [hb.cell (by simp)]; go_simp)

theorem bare (v : V) (w : World) : Calls Tryd.prog 17 #[v.val] w fun e w' => e = .returned (bareV v).val ∧ Below w.heap.size w w' := by
  obtain ⟨k, n, s⟩ := v
  by_cases h1 : k = 1
  · subst h1
    go_enter Tryd.func17, Tryd.ntmps17
    go_wp2_with fail
    refine bodyPost_ret (v := (bareV ⟨1, n, s⟩).val) (by simp [results, Tryd.results17, go_sem, bareV]; rfl) rfl ⟨rfl, ?_⟩
    go_grown
  · have e1 : ((k : Int) == 1) = false := by simp; omega
    by_cases h2 : k = 2
    · subst h2
      go_enter Tryd.func17, Tryd.ntmps17
      go_wp2_with fail
      refine bodyPost_ret (v := (bareV ⟨2, n, s⟩).val) (by simp [results, Tryd.results17, go_sem, bareV]) rfl ⟨rfl, ?_⟩
      go_grown
    · have e2 : ((k : Int) == 2) = false := by simp; omega
      by_cases h3 : k = 3
      · subst h3
        go_enter Tryd.func17, Tryd.ntmps17
        go_wp2_with fail
        refine bodyPost_ret (v := (bareV ⟨3, n, s⟩).val) (by simp [results, Tryd.results17, go_sem, bareV]) rfl ⟨rfl, ?_⟩
        go_grown
      · have e3 : ((k : Int) == 3) = false := by simp; omega
        go_enter Tryd.func17, Tryd.ntmps17
        go_wp2_with fail
        refine bodyPost_ret (v := (bareV ⟨k, n, s⟩).val) (by simp [results, Tryd.results17, go_sem, bareV, h1, h2, h3]; rfl) rfl ⟨rfl, ?_⟩
        go_grown

/-- What Check reads ahead of its answer. -/
theorem check (v : V) (w : World) (hk : v.k < 256) (hs : v.s.size ≤ 9223372036854775807) : Calls Tryd.prog 9 #[v.val] w fun e w' => e = .returned (.int .i64 (checkV v : Int)) ∧ Below w.heap.size w w' := by
  have hbel : Below w.heap.size w (w.alloc (.cells #[.int .u8 (v.k : Int), .int .i64 v.n, .string v.s] 26)) := (Below.refl _ _).alloc (Nat.le_refl _) _
  have o0 := lat_cell (w := w.alloc (.cells #[.int .u8 (v.k : Int), .int .i64 v.n, .string v.s] 26)) (p := ⟨w.heap.size, 0, none⟩) (v := .int .u8 (v.k : Int)) (by go_simp)
  have o1 := lat_cell (w := w.alloc (.cells #[.int .u8 (v.k : Int), .int .i64 v.n, .string v.s] 26)) (p := ⟨w.heap.size, 1, none⟩) (v := .int .i64 v.n) (by go_simp)
  have o2 := lat_cell (w := w.alloc (.cells #[.int .u8 (v.k : Int), .int .i64 v.n, .string v.s] 26)) (p := ⟨w.heap.size, 2, none⟩) (v := .string v.s) (by go_simp)
  by_cases h3 : 3 < v.k
  · have hd : decide ((3 : Int) < (v.k : Int)) = true := decide_eq_true (by omega)
    have hr : checkV v = 2 := by unfold checkV; exact if_pos (show badV v from .inl h3)
    rw [hr]
    have HR := Lib.hid hr; clear hr
    go_enter Tryd.func9, Tryd.ntmps9
    go_wp2_with fail
    generalize w.alloc (.cells #[.int .u8 (v.k : Int), .int .i64 v.n, .string v.s] 26) = W at *
    refine wp_region_later (by kernel_rfl) (by kernel_rfl) ?_
    repeat (go_big_quiet_step (fail))
    refine wpQuiet_nil ?_
    refine later_out (fun w2 hb2 => ?_)
    go_wp2_with fail
    go_ret
    exact ⟨rfl, next hbel hb2⟩
  · have hd : decide ((3 : Int) < (v.k : Int)) = false := decide_eq_false (by omega)
    have hbb := bare_bad v h3
    by_cases hb : badV v
    · have hne := neq_told v (bareV v) true (by simp [hbb, hb])
      have hr : checkV v = 2 := by unfold checkV; rw [if_pos hb]
      rw [hr]
      have HR := Lib.hid hr; clear hr
      have HB := Lib.hid hbb; clear hbb
      go_enter Tryd.func9, Tryd.ntmps9
      go_wp2_with fail
      generalize w.alloc (.cells #[.int .u8 (v.k : Int), .int .i64 v.n, .string v.s] 26) = W at *
      refine wp_region_later (by kernel_rfl) (by kernel_rfl) ?_
      repeat (go_big_quiet_step ((go_at_call 17; exact lat_calls (bare v _))))
      refine wpQuiet_nil ?_
      refine later_out (fun w2 hb2 => ?_)
      go_wp2_with fail
      go_ret
      exact ⟨rfl, next hbel hb2⟩
    · have hne := neq_told v (bareV v) false (by simp [hbb, hb])
      have hr : checkV v = if 1000 < v.s.size then 3 else 0 := by unfold checkV; rw [if_neg hb]
      rw [hr]
      have HR := Lib.hid hr; clear hr
      have HB := Lib.hid hbb; clear hbb
      by_cases hl : 1000 < v.s.size
      all_goals
        first | rw [if_pos hl] | rw [if_neg hl]
        go_enter Tryd.func9, Tryd.ntmps9
        go_wp2_with fail
        generalize w.alloc (.cells #[.int .u8 (v.k : Int), .int .i64 v.n, .string v.s] 26) = W at *
        refine wp_region_later (by kernel_rfl) (by kernel_rfl) ?_
        repeat (go_big_quiet_step ((go_at_call 17; exact lat_calls (bare v _))))
        refine wpQuiet_nil ?_
        refine later_out (fun w2 hb2 => ?_)
        have p2 : w2.cell? ⟨w.heap.size, 2, none⟩ = some (.string v.s) := o2 ⟨w2, hb2⟩
        clear o0 o1 o2
        go_wp2_with fail
        go_ret
        exact ⟨rfl, next hbel hb2⟩

theorem compareBytes_eq : ∀ l m, Lib.compareBytes l m = cmpL l m
  | [], [] => rfl
  | [], _ :: _ => rfl
  | _ :: _, [] => rfl
  | a :: l, b :: m => by unfold Lib.compareBytes cmpL; rw [compareBytes_eq l m]

theorem ne_empty {s : ByteArray} (h : s ≠ ByteArray.empty) : s.toList ≠ [] := by
  intro e
  apply h
  rw [ByteArray.toList_eq] at e
  exact ByteArray.ext (Array.toList_inj.1 (by rw [e]; rfl))
end Go.Proofs.YtcimipebpfajgaaDoor.Dt
