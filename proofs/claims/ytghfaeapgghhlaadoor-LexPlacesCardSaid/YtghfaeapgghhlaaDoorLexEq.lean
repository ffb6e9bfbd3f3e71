/-
  Tokens and spots held against each other.
-/
import Derived.Test.YtghfaeapgghhlaaDoorTkOwn
import Derived.Handy
namespace Go.Proofs.YtghfaeapgghhlaaDoor.Dt
open Go.RowKit Go.Proofs.YtghfaeapgghhlaaDoor.By

theorem equal_T (a b : Int) (s t : ByteArray) (c d e f : Int) (w : World) (n : Nat) : (Op.equalIn (n + 3) 48 (.agg #[.int .u8 a, .string s, .int .u64 c, .int .i64 e]) (.agg #[.int .u8 b, .string t, .int .u64 d, .int .i64 f])).run Tryd.prog w = .ok (a == b && (s.toList == t.toList && (c == d && e == f))) w := by
  rw [show n + 3 = (n + 2) + 1 from rfl, run_equalIn_agg w (n + 2) 48 _ _ (by kernel_rfl) (by kernel_rfl)]
  go_simp
  by_cases h1 : a = b <;> by_cases h2 : c = d <;> by_cases h3 : (s.toList == t.toList) = true <;> by_cases h4 : e = f <;> simp_all
theorem same_T (x y : Tk) : ((x.k : Int) == (y.k : Int) && (x.s.toList == y.s.toList && ((x.n : Int) == (y.n : Int) && x.a == y.a))) = decide (x = y) := by
  rw [str_eq, Bool.eq_iff_iff]
  simp only [Bool.and_eq_true, beq_iff_eq, decide_eq_true_eq]
  constructor
  · rintro ⟨h1, h2, h3, h4⟩; exact Tk.ext' (by omega) h2 (by omega) h4
  · rintro rfl; exact ⟨rfl, rfl, rfl, rfl⟩
theorem eq_toldT (x y : Tk) (t : Bool) (h : (x = y) = (t = true)) (w : World) : (binOp .eql 48 (.agg #[.int .u8 (x.k : Int), .string x.s, .int .u64 (x.n : Int), .int .i64 x.a]) (.agg #[.int .u8 (y.k : Int), .string y.s, .int .u64 (y.n : Int), .int .i64 y.a])).run Tryd.prog w = .ok (.bool t) w := by
  rw [run_eql_struct, equal_T _ _ _ _ _ _ _ _ w 9997, same_T]
  show Result.ok (Value.bool _) w = _
  congr 2; rw [Bool.eq_iff_iff, ← h, decide_eq_true_eq]
theorem neq_toldT (x y : Tk) (t : Bool) (h : (x = y) = ¬ (t = true)) (w : World) : (binOp .neq 48 (.agg #[.int .u8 (x.k : Int), .string x.s, .int .u64 (x.n : Int), .int .i64 x.a]) (.agg #[.int .u8 (y.k : Int), .string y.s, .int .u64 (y.n : Int), .int .i64 y.a])).run Tryd.prog w = .ok (.bool t) w := by
  rw [run_neq_struct, equal_T _ _ _ _ _ _ _ _ w 9997, same_T]
  show Result.ok (Value.bool _) w = _
  congr 2; rw [Bool.eq_iff_iff]; simp [h]
theorem equal_S (a b c d : Int) (w : World) (n : Nat) : (Op.equalIn (n + 3) 43 (.agg #[.int .i64 a, .int .i64 c]) (.agg #[.int .i64 b, .int .i64 d])).run Tryd.prog w = .ok (a == b && c == d) w := by
  rw [show n + 3 = (n + 2) + 1 from rfl, run_equalIn_agg w (n + 2) 43 _ _ (by kernel_rfl) (by kernel_rfl)]
  go_simp
  by_cases h1 : a = b <;> by_cases h2 : c = d <;> simp_all
theorem eq_toldS (a b c d : Int) (t : Bool) (h : (a = b ∧ c = d) = (t = true)) (w : World) : (binOp .eql 43 (.agg #[.int .i64 a, .int .i64 c]) (.agg #[.int .i64 b, .int .i64 d])).run Tryd.prog w = .ok (.bool t) w := by
  rw [run_eql_struct, equal_S a b c d w 9997]
  show Result.ok (Value.bool _) w = _
  congr 2; rw [Bool.eq_iff_iff, ← h]; simp
theorem neq_toldS (a b c d : Int) (t : Bool) (h : (a = b ∧ c = d) = ¬ (t = true)) (w : World) : (binOp .neq 43 (.agg #[.int .i64 a, .int .i64 c]) (.agg #[.int .i64 b, .int .i64 d])).run Tryd.prog w = .ok (.bool t) w := by
  rw [run_neq_struct, equal_S a b c d w 9997]
  show Result.ok (Value.bool _) w = _
  congr 2
  by_cases h1 : a = b <;> by_cases h2 : c = d <;> cases t <;> simp_all
end Go.Proofs.YtghfaeapgghhlaaDoor.Dt
