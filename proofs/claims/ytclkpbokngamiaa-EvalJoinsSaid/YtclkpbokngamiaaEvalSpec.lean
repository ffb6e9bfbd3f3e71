/-
  Expressions: which may be, what kind they have; plain laws, no program in sight.
-/
import Derived.Test.YtclkpbokngamiaaValueSpec
namespace Go.Proofs.Ytclkpbokngamiaa.Dt

def groupB (op : Nat) : Bool := decide (20 ≤ op ∧ op ≤ 23)
def kidsB (op n : Nat) : Bool :=
  if op = 1 then decide (n = 0) else if op = 2 then decide (n = 0) else if op = 20 then decide (n ≤ 1) else if 6 ≤ op ∧ op ≤ 19 then decide (n = 2) else decide (n = 1)
/-- May one node be, for so many columns? -/
def oneB (cols : Int) (x : Ex) : Bool :=
  decide (1 ≤ x.op ∧ x.op ≤ 23) && kidsB x.op x.kids.length && !(decide (x.op = 1) && decide (checkV x.v ≠ 0)) && !(decide (x.op = 2) && decide (x.n < 0 ∨ cols ≤ x.n))
theorem one_iff (cols : Int) (x : Ex) : oneB cols x = true ↔ (1 ≤ x.op ∧ x.op ≤ 23) ∧ kidsB x.op x.kids.length = true ∧ (x.op = 1 → checkV x.v = 0) ∧ (x.op = 2 → 0 ≤ x.n ∧ x.n < cols) := by
  have e : ∀ p q : Prop, [Decidable p] → [Decidable q] → ((!(decide p && decide q)) = true ↔ (p → ¬ q)) := by
    intro p q _ _
    by_cases hp : p <;> by_cases hq : q <;> simp [hp, hq]
  unfold oneB
  rw [Bool.and_eq_true, Bool.and_eq_true, Bool.and_eq_true, decide_eq_true_iff, e, e, and_assoc, and_assoc]
  refine and_congr_right fun _ => and_congr_right fun _ => and_congr ?_ ?_
  · exact imp_congr_right fun _ => by omega
  · exact imp_congr_right fun _ => by omega
mutual
def shapedB (cols : Int) : Ex → Bool
  | .mk op v t m n kv kids => oneB cols (.mk op v t m n kv kids) && shapedAll cols kids
def shapedAll (cols : Int) : List Ex → Bool
  | [] => true
  | x :: l => shapedB cols x && shapedAll cols l
end
mutual
/-- .. with groups' not within one another, or not at all. -/
def mayB (cols : Int) (g : Bool) : Ex → Bool
  | .mk op v t m n kv kids => shapedB cols (.mk op v t m n kv kids) && !(groupB op && !g) && mayAll cols (g && !groupB op) kids
def mayAll (cols : Int) (g : Bool) : List Ex → Bool
  | [] => true
  | x :: l => mayB cols g x && mayAll cols g l
end
theorem shapedAll_iff (cols : Int) : ∀ l : List Ex, shapedAll cols l = l.all (shapedB cols)
  | [] => by simp [shapedAll]
  | x :: l => by simp [shapedAll, shapedAll_iff cols l]
theorem mayAll_iff (cols : Int) (g : Bool) : ∀ l : List Ex, mayAll cols g l = l.all (mayB cols g)
  | [] => by simp [mayAll]
  | x :: l => by simp [mayAll, mayAll_iff cols g l]
theorem shaped_eq (cols : Int) (x : Ex) : shapedB cols x = (oneB cols x && x.kids.all (shapedB cols)) := by
  cases x; rw [shapedB, shapedAll_iff]; rfl
theorem may_eq (cols : Int) (g : Bool) (x : Ex) : mayB cols g x = (shapedB cols x && !(groupB x.op && !g) && x.kids.all (mayB cols (g && !groupB x.op))) := by
  cases x; rw [mayB, mayAll_iff]; rfl
theorem all_take {α : Type} {p : α → Bool} {l : List α} {k : Nat} {x : α} (h : (l.take k).all p = true) (hx : l[k]? = some x) (hp : p x = true) : (l.take (k + 1)).all p = true := by
  obtain ⟨hk, rfl⟩ := List.getElem?_eq_some_iff.1 hx
  rw [List.take_succ_eq_append_getElem hk, List.all_append, h]
  simp [hp]
theorem all_not {α : Type} {p : α → Bool} {l : List α} {k : Nat} {x : α} (hx : l[k]? = some x) (hp : p x = false) : l.all p = false := by
  rw [List.all_eq_false]
  exact ⟨x, List.mem_of_getElem? hx, by rw [hp]; simp⟩
end Go.Proofs.Ytclkpbokngamiaa.Dt
