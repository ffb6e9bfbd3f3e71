/-
  What operations come to: plain laws, no program in sight.
-/
import Derived.Test.YtclkpbokngamiaaEvalSpec
import Derived.Test.YtclkpbokngamiaaNumSpecE
namespace Go.Proofs.Ytclkpbokngamiaa.Dt

def allB (kind : Nat) (l : List Nat) : Bool := l.all fun k => decide (k = 0 ∨ k = kind)
def togetherB (op : Nat) (l : List Nat) : Bool :=
  if op = 5 ∨ op = 20 ∨ 22 ≤ op then true
  else if op = 11 then allB 2 l
  else if 12 ≤ op ∧ op ≤ 17 then decide (l.getD 0 0 = l.getD 1 0 ∨ l.getD 0 0 = 0 ∨ l.getD 1 0 = 0)
  else allB 1 l
def trueB (v : V) : Bool := decide (v.k = 1) && decide (v.n ≠ 0)
def logicS (a b : V) (d : Bool) : V :=
  if a.k = 1 ∧ trueB a = d then truthV d else if b.k = 1 ∧ trueB b = d then truthV d
  else if a.k = 0 ∨ b.k = 0 then nullV else truthV (!d)
def holdsB (op : Nat) (c : Int) : Bool :=
  if op = 12 then decide (c = 0) else if op = 13 then decide (c ≠ 0) else if op = 14 then decide (c < 0) else if op = 15 then decide (c ≤ 0) else if op = 16 then decide (0 < c) else decide (0 ≤ c)
def nullB (l : List V) : Bool := l.any fun v => decide (v.k = 0)
/-- What an operation comes to, of two values (of one: the other counts for nothing). -/
def doS (op : Nat) (l : List V) : V × Nat :=
  let a := l.getD 0 nullV
  let b := l.getD 1 nullV
  if togetherB op (l.map V.k) = false then (nullV, 150)
  else if op = 5 then (truthV (nullB l), 0)
  else if op = 18 ∨ op = 19 then (logicS a b (decide (op = 19)), 0)
  else if nullB l then (nullV, 0)
  else if op = 4 then (truthV (!trueB a), 0)
  else if op = 3 then reckonS 7 0 a.n
  else if op = 11 then (if 1000 < a.s.size + b.s.size then (nullV, 3) else (⟨2, 0, a.s ++ b.s⟩, 0))
  else if 12 ≤ op then (truthV (holdsB op (cmpV a b)), 0)
  else reckonS op a.n b.n
section
variable {op : Nat} {l : List V}
theorem doS_tog (h : togetherB op (l.map V.k) = false) : doS op l = (nullV, 150) := by simp [doS, h]
theorem doS_5 (h : togetherB 5 (l.map V.k) = true) : doS 5 l = (truthV (nullB l), 0) := by simp [doS, h]
theorem doS_18 (h : togetherB 18 (l.map V.k) = true) : doS 18 l = (logicS (l.getD 0 nullV) (l.getD 1 nullV) false, 0) := by simp [doS, h]
theorem doS_19 (h : togetherB 19 (l.map V.k) = true) : doS 19 l = (logicS (l.getD 0 nullV) (l.getD 1 nullV) true, 0) := by simp [doS, h]
theorem doS_null (h : togetherB op (l.map V.k) = true) (h5 : op ≠ 5) (h18 : op ≠ 18) (h19 : op ≠ 19) (hn : nullB l = true) : doS op l = (nullV, 0) := by simp [doS, h, h5, h18, h19, hn]
theorem doS_4 (h : togetherB 4 (l.map V.k) = true) (hn : nullB l = false) : doS 4 l = (truthV (!trueB (l.getD 0 nullV)), 0) := by simp [doS, h, hn]
theorem doS_3 (h : togetherB 3 (l.map V.k) = true) (hn : nullB l = false) : doS 3 l = overS (0 - (l.getD 0 nullV).n) := by simp [doS, h, hn, reckonS]
theorem doS_11 (h : togetherB 11 (l.map V.k) = true) (hn : nullB l = false) : doS 11 l = (if 1000 < (l.getD 0 nullV).s.size + (l.getD 1 nullV).s.size then (nullV, 3) else (⟨2, 0, (l.getD 0 nullV).s ++ (l.getD 1 nullV).s⟩, 0)) := by simp [doS, h, hn]
theorem doS_cmp (h : togetherB op (l.map V.k) = true) (hn : nullB l = false) (h12 : 12 ≤ op) (h17 : op ≤ 17) : doS op l = (truthV (holdsB op (cmpV (l.getD 0 nullV) (l.getD 1 nullV))), 0) := by
  unfold doS
  simp only [h, hn]
  rw [if_neg (by simp), if_neg (by omega), if_neg (by omega), if_neg (by simp), if_neg (by omega), if_neg (by omega), if_neg (by omega), if_pos h12]
theorem doS_num (h : togetherB op (l.map V.k) = true) (hn : nullB l = false) (h6 : 6 ≤ op) (h10 : op ≤ 10) : doS op l = reckonS op (l.getD 0 nullV).n (l.getD 1 nullV).n := by
  unfold doS
  simp only [h, hn]
  rw [if_neg (by simp), if_neg (by omega), if_neg (by omega), if_neg (by simp), if_neg (by omega), if_neg (by omega), if_neg (by omega), if_neg (by omega)]
end
/-- An operation has as many values as it wants. -/
def Fits (op : Nat) (l : List V) : Prop := 3 ≤ op ∧ op ≤ 19 ∧ l.length = if op ≤ 5 then 1 else 2
end Go.Proofs.Ytclkpbokngamiaa.Dt
