/-
  Two pairs held against each other.
-/
import Derived.Test.YthiajonjleambaaProg
import Derived.WalkKit
import Derived.ProofKit
import Derived.WalkLawsBesides
namespace Go.Proofs.Ythiajonjleambaa.Sum
open Go.RowKit

theorem equal_pair (a b c d : Int) (w : World) (n : Nat) : (Op.equalIn (n + 3) 24 (.agg #[.int .u32 a, .int .u32 b]) (.agg #[.int .u32 c, .int .u32 d])).run Try.prog w = .ok (a == c && b == d) w := by
  rw [show n + 3 = (n + 2) + 1 from rfl, run_equalIn_agg w (n + 2) 24 _ _ (by kernel_rfl) (by kernel_rfl)]
  go_simp
  by_cases h1 : a = c <;> by_cases h2 : b = d <;> simp [h1, h2]

theorem eql_pair (a b c d : Int) (w : World) : (binOp .eql 24 (.agg #[.int .u32 a, .int .u32 b]) (.agg #[.int .u32 c, .int .u32 d])).run Try.prog w = .ok (.bool (a == c && b == d)) w := by
  rw [run_eql_struct, equal_pair a b c d w 9997]
  rfl
theorem neq_pair (a b c d : Int) (w : World) : (binOp .neq 24 (.agg #[.int .u32 a, .int .u32 b]) (.agg #[.int .u32 c, .int .u32 d])).run Try.prog w = .ok (.bool (!(a == c && b == d))) w := by
  rw [run_neq_struct, equal_pair a b c d w 9997]
  rfl

theorem guard_pair : Try.prog.eqGuardType Try.prog.depth 24 = false := by kernel_rfl

theorem wpList_neq_pair {w : World} {ops : Array Oper} {rest : List Oper} {o : Oper} {a : Act} {Q : Exit → Act → World → Prop} (hgd : o.guard = none) (x y : Operand) (t' : TypeId)
    (ho : o.op = .binOp .neq 24 x y t') (n1 n2 m1 m2 : Int) (hx : a.eval x = .agg #[.int .u32 n1, .int .u32 n2]) (hy : a.eval y = .agg #[.int .u32 m1, .int .u32 m2])
    (b : Bool) (hb : (!(n1 == m1 && n2 == m2)) = b) (h : wpList Try.prog ops Q rest (a.put o.dst (.bool b)) w) : wpList Try.prog ops Q (o :: rest) a w := by
  refine wpList_plain hgd fun K hK => ?_
  have h1 := run_eqGuard_agg (P := Try.prog) w .neq 24 x y #[.int .u32 n1, .int .u32 n2] #[.int .u32 m1, .int .u32 m2] guard_pair
  have h2 := neq_pair n1 n2 m1 m2 w
  rw [hb] at h2
  unfold Oper.wp
  simp [execOp, ho, hx, hy, h1, h2, Result.andThen]
  exact hK _ _ h

theorem wpList_eql_pair {w : World} {ops : Array Oper} {rest : List Oper} {o : Oper} {a : Act} {Q : Exit → Act → World → Prop} (hgd : o.guard = none) (x y : Operand) (t' : TypeId)
    (ho : o.op = .binOp .eql 24 x y t') (n1 n2 m1 m2 : Int) (hx : a.eval x = .agg #[.int .u32 n1, .int .u32 n2]) (hy : a.eval y = .agg #[.int .u32 m1, .int .u32 m2])
    (b : Bool) (hb : (n1 == m1 && n2 == m2) = b) (h : wpList Try.prog ops Q rest (a.put o.dst (.bool b)) w) : wpList Try.prog ops Q (o :: rest) a w := by
  refine wpList_plain hgd fun K hK => ?_
  have h1 := run_eqGuard_agg (P := Try.prog) w .eql 24 x y #[.int .u32 n1, .int .u32 n2] #[.int .u32 m1, .int .u32 m2] guard_pair
  have h2 := eql_pair n1 n2 m1 m2 w
  rw [hb] at h2
  unfold Oper.wp
  simp [execOp, ho, hx, hy, h1, h2, Result.andThen]
  exact hK _ _ h
end Go.Proofs.Ythiajonjleambaa.Sum
