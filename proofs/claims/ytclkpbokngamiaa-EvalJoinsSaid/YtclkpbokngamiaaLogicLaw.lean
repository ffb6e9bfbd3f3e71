/-
  AND, OR and NOT turn about: plain laws, no program in sight.
-/
import Derived.Test.YtclkpbokngamiaaExSpec
namespace Go.Proofs.Ytclkpbokngamiaa.Dt
open Go.RowKit Go.Proofs.Ytclkpbokngamiaa.By

/-- Null or a number. -/
def niceV (a : V) : Prop := a.k ≤ 1 ∧ a.s = ByteArray.empty ∧ (a.k = 0 → a.n = 0)
theorem nice_cases {a : V} (h : niceV a) : a = nullV ∨ ∃ n, a = numV n := by
  obtain ⟨k, n, s⟩ := a
  obtain ⟨h1, h2, h3⟩ := h
  simp only at h1 h2 h3
  rcases (show k = 0 ∨ k = 1 by omega) with rfl | rfl
  · exact .inl (V.ext' rfl (h3 rfl) h2)
  · exact .inr ⟨n, V.ext' rfl rfl h2⟩
def notS (a : V) : V := if a.k = 0 then nullV else truthV (!trueB a)
theorem truth_k (b : Bool) : (truthV b).k = 1 := by cases b <;> rfl
theorem notS_k (a : V) : (notS a).k ≤ 1 := by unfold notS; split; exact Nat.zero_le _; rw [truth_k]; exact Nat.le_refl _
theorem logicS_k (a b : V) (d : Bool) : (logicS a b d).k ≤ 1 := by
  unfold logicS
  split
  · rw [truth_k]; exact Nat.le_refl _
  · split
    · rw [truth_k]; exact Nat.le_refl _
    · split
      · exact Nat.zero_le _
      · rw [truth_k]; exact Nat.le_refl _
theorem all1 {l : List V} (h : ∀ v ∈ l, v.k ≤ 1) (op : Nat) (hop : op = 4 ∨ op = 18 ∨ op = 19) : togetherB op (l.map V.k) = true := by
  unfold togetherB
  split
  · rfl
  · rw [if_neg (by omega), if_neg (by omega)]
    unfold allB
    rw [List.all_eq_true]
    intro k hk
    obtain ⟨v, hv, rfl⟩ := List.mem_map.1 hk
    have := h v hv
    exact decide_eq_true (by omega)
section
variable (col : Int → V) (grp : Ex → V × Nat)
theorem walk_not {kv : Value} {x : Ex} {a : V} (hx : walkS col grp x = (a, 0)) (hk : a.k ≤ 1) : walkS col grp (exOf 4 kv [x]) = (notS a, 0) := by
  rw [walk_Of _ _ (by omega) (by omega), walkAll_1 _ _ hx, if_pos rfl]
  have ht := all1 (l := [a]) (by simpa using hk) 4 (.inl rfl)
  unfold notS
  by_cases h0 : a.k = 0
  · rw [doS_null ht (by omega) (by omega) (by omega) (by simp [nullB, h0]), if_pos h0]
  · rw [doS_4 ht (by simp [nullB, h0]), if_neg h0]; rfl
theorem walk_logic {op : Nat} {kv : Value} {x y : Ex} {a b : V} (hop : op = 18 ∨ op = 19) (hx : walkS col grp x = (a, 0)) (hy : walkS col grp y = (b, 0)) (hk : a.k ≤ 1) (hk2 : b.k ≤ 1) : walkS col grp (exOf op kv [x, y]) = (logicS a b (decide (op = 19)), 0) := by
  rw [walk_Of _ _ (by omega) (by omega), walkAll_2 _ _ hx hy, if_pos rfl]
  have ht := all1 (l := [a, b]) (by simp; exact ⟨hk, hk2⟩) op (.inr hop)
  rcases hop with rfl | rfl
  · rw [doS_18 ht]; rfl
  · rw [doS_19 ht]; rfl
end
theorem may_not (c : Int) {kv : Value} {x : Ex} (h : mayB c false x = true) : mayB c false (exOf 4 kv [x]) = true := by
  rw [may_Of _ _ (by omega) (by omega) (by rfl)]
  simp [h]
theorem may_logic (c : Int) {op : Nat} {kv : Value} {x y : Ex} (hop : op = 18 ∨ op = 19) (h : mayB c false x = true) (h2 : mayB c false y = true) : mayB c false (exOf op kv [x, y]) = true := by
  rw [may_Of _ _ (by omega) (by omega) (by rcases hop with rfl | rfl <;> rfl)]
  simp [h, h2]
theorem eval_of {x : Ex} {v : V} (h : mayB 0 false x = true) (hw : walkS (fun n => ([] : List V).getD n.toNat nullV) (fun _ => (nullV, 0)) x = (v, 0)) : evalS [] x = (v, 0) := by
  unfold evalS
  rw [show (([] : List V).length : Int) = 0 from rfl, h, if_pos rfl, hw]
theorem nice_check {a : V} (h : niceV a) : checkV a = 0 := by
  rcases nice_cases h with rfl | ⟨n, rfl⟩
  · rfl
  · simp [checkV, badV, numV]
/-- What all three come to. -/
def turnV (op : Nat) (a b : V) : V := notS (logicS a b (decide (op = 19)))
theorem turn_swap (op : Nat) {a b : V} (ha : niceV a) (hb : niceV b) : turnV op b a = turnV op a b := by
  unfold turnV
  generalize decide (op = 19) = d
  rcases nice_cases ha with rfl | ⟨n, rfl⟩ <;> rcases nice_cases hb with rfl | ⟨m, rfl⟩
  · rfl
  · by_cases hm : m = 0 <;> cases d <;> simp [logicS, trueB, nullV, numV, hm]
  · by_cases hn : n = 0 <;> cases d <;> simp [logicS, trueB, nullV, numV, hn]
  · by_cases hn : n = 0 <;> by_cases hm : m = 0 <;> cases d <;> simp [logicS, trueB, numV, hn, hm]
theorem turn_other (op : Nat) (hop : op = 18 ∨ op = 19) {a b : V} (ha : niceV a) (hb : niceV b) : logicS (notS a) (notS b) (decide (37 - op = 19)) = turnV op a b := by
  unfold turnV
  have hd : decide (37 - op = 19) = !decide (op = 19) := by rcases hop with rfl | rfl <;> rfl
  rw [hd]
  generalize decide (op = 19) = d
  rcases nice_cases ha with rfl | ⟨n, rfl⟩ <;> rcases nice_cases hb with rfl | ⟨m, rfl⟩
  · cases d <;> rfl
  · by_cases hm : m = 0 <;> cases d <;> simp [logicS, notS, truthV, trueB, nullV, numV, hm]
  · by_cases hn : n = 0 <;> cases d <;> simp [logicS, notS, truthV, trueB, nullV, numV, hn]
  · by_cases hn : n = 0 <;> by_cases hm : m = 0 <;> cases d <;> simp [logicS, notS, truthV, trueB, numV, hn, hm]
section
variable {op : Nat} {a b : V} (hop : op = 18 ∨ op = 19) (ha : niceV a) (hb : niceV b) (k1 k2 k3 : Value)
include hop ha hb
theorem turn_1 : evalS [] (exOf 4 k1 [exOf op k2 [exV a, exV b]]) = (turnV op a b, 0) := by
  refine eval_of (may_not _ (may_logic _ hop ?_ ?_)) (walk_not _ _ (walk_logic _ _ hop (walk_V _ _ a) (walk_V _ _ b) ha.1 hb.1) (logicS_k _ _ _))
  · rw [may_V]; exact decide_eq_true (nice_check ha)
  · rw [may_V]; exact decide_eq_true (nice_check hb)
theorem turn_2 : evalS [] (exOf (37 - op) k1 [exOf 4 k2 [exV a], exOf 4 k3 [exV b]]) = (turnV op a b, 0) := by
  have hop' : 37 - op = 18 ∨ 37 - op = 19 := by omega
  rw [← turn_other op hop ha hb]
  refine eval_of (may_logic _ hop' (may_not _ ?_) (may_not _ ?_)) (walk_logic _ _ hop' (walk_not _ _ (walk_V _ _ a) ha.1) (walk_not _ _ (walk_V _ _ b) hb.1) (notS_k _) (notS_k _))
  · rw [may_V]; exact decide_eq_true (nice_check ha)
  · rw [may_V]; exact decide_eq_true (nice_check hb)
end
theorem turn_3 {op : Nat} {a b : V} (hop : op = 18 ∨ op = 19) (ha : niceV a) (hb : niceV b) (k1 k2 : Value) : evalS [] (exOf 4 k1 [exOf op k2 [exV b, exV a]]) = (turnV op a b, 0) := by
  rw [← turn_swap op ha hb]
  exact turn_1 hop hb ha k1 k2
end Go.Proofs.Ytclkpbokngamiaa.Dt
