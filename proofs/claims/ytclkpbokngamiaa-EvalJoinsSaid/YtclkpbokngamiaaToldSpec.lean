/-
  What is told of a group: plain laws, no program in sight.
-/
import Derived.Test.YtclkpbokngamiaaEvalTop
namespace Go.Proofs.Ytclkpbokngamiaa.Dt

/-- What a row alone gives to the telling. -/
def oneS (x : Ex) (row : List V) : V × Nat :=
  match x.kids with
  | [] => (numV 1, 0)
  | y :: _ => walkS (fun n => row.getD n.toNat nullV) (fun _ => (nullV, 0)) y
/-- What has been told so far. -/
structure Tl where
  n : Nat
  t : Int
  best : V
/-- Is this value the best so far? -/
def bestB (op : Nat) (s : Tl) (v : V) : Bool := s.n == 0 || op == 22 && decide (cmpV v s.best < 0) || op == 23 && decide (0 < cmpV v s.best)
def toldStep (op : Nat) (s : Tl) (v : V) : Tl := ⟨s.n + 1, s.t + v.n, if bestB op s v = true then v else s.best⟩
def toldAll (x : Ex) : List (List V) → Tl → Tl × Nat
  | [], s => (s, 0)
  | r :: rs, s =>
    if (oneS x r).2 ≠ 0 then (s, (oneS x r).2)
    else if (oneS x r).1.k = 0 then toldAll x rs s
    else if x.op = 21 ∧ (oneS x r).1.k ≠ 1 then (s, 150)
    else toldAll x rs (toldStep x.op s (oneS x r).1)
def toldEnd (op : Nat) (s : Tl) : V × Nat := if op = 20 then (numV s.n, 0) else if s.n = 0 ∨ op ≠ 21 then (s.best, 0) else overS s.t
def toldS (x : Ex) (rows : List (List V)) : V × Nat :=
  if (toldAll x rows ⟨0, 0, nullV⟩).2 = 0 then toldEnd x.op (toldAll x rows ⟨0, 0, nullV⟩).1 else (nullV, (toldAll x rows ⟨0, 0, nullV⟩).2)

theorem toldAll_null {x : Ex} {r : List V} {rs : List (List V)} {s : Tl} (h : (oneS x r).2 = 0) (h0 : (oneS x r).1.k = 0) : toldAll x (r :: rs) s = toldAll x rs s := by
  simp [toldAll, h, h0]
theorem toldAll_err {x : Ex} {r : List V} {rs : List (List V)} {s : Tl} (h : (oneS x r).2 ≠ 0) : toldAll x (r :: rs) s = (s, (oneS x r).2) := by
  simp [toldAll, h]
theorem toldAll_type {x : Ex} {r : List V} {rs : List (List V)} {s : Tl} (h : (oneS x r).2 = 0) (h0 : (oneS x r).1.k ≠ 0) (h1 : x.op = 21) (h2 : (oneS x r).1.k ≠ 1) : toldAll x (r :: rs) s = (s, 150) := by
  simp [toldAll, h, h0, h1, h2]
theorem toldAll_step {x : Ex} {r : List V} {rs : List (List V)} {s : Tl} (h : (oneS x r).2 = 0) (h0 : (oneS x r).1.k ≠ 0) (h1 : ¬ (x.op = 21 ∧ (oneS x r).1.k ≠ 1)) : toldAll x (r :: rs) s = toldAll x rs (toldStep x.op s (oneS x r).1) := by
  rw [toldAll, if_neg (by omega), if_neg h0, if_neg h1]
end Go.Proofs.Ytclkpbokngamiaa.Dt
