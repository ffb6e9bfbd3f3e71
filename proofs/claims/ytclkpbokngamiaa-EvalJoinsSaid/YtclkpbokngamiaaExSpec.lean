/-
  Expressions that a law makes: what they come to; plain laws, no program in sight.
-/
import Derived.Test.YtclkpbokngamiaaTypeSpec
import Derived.Test.YtclkpbokngamiaaWalkRow
namespace Go.Proofs.Ytclkpbokngamiaa.Dt
open Go.RowKit Go.Proofs.Ytclkpbokngamiaa.By

/-- A value, a column, an operation of kids. -/
def exV (v : V) : Ex := .mk 1 v ByteArray.empty ByteArray.empty 0 (.slice none 0 0) []
def exC (n : Int) : Ex := .mk 2 nullV ByteArray.empty ByteArray.empty n (.slice none 0 0) []
def exOf (op : Nat) (kv : Value) (ks : List Ex) : Ex := .mk op nullV ByteArray.empty ByteArray.empty 0 kv ks

theorem exV_in (v : V) (w : World) : (exV v).In w := (Ex.in_iff w _).2 ⟨SlAt.nil _ _ _, fun y hy => by cases hy⟩
theorem exC_in (n : Int) (w : World) : (exC n).In w := (Ex.in_iff w _).2 ⟨SlAt.nil _ _ _, fun y hy => by cases hy⟩
theorem exV_ok {v : V} (h : v.ok) : (exV v).Ok := by
  rw [Ex.ok_iff]
  exact ⟨⟨by show 1 < 256; omega, h, by show (0 : Nat) ≤ _; omega, by show (0 : Nat) ≤ _; omega, by show _ ≤ (0 : Int); omega, by show (0 : Int) ≤ _; omega, by show 0 * 104 ≤ _; omega⟩, fun y hy => by cases hy⟩
theorem exC_ok {n : Int} (h : inR n) : (exC n).Ok := by
  rw [Ex.ok_iff]
  exact ⟨⟨by show 2 < 256; omega, nullV_ok, by show (0 : Nat) ≤ _; omega, by show (0 : Nat) ≤ _; omega, h.1, h.2, by show 0 * 104 ≤ _; omega⟩, fun y hy => by cases hy⟩
theorem exOf_ok {op : Nat} {kv : Value} {ks : List Ex} (h : op < 256) (hl : ks.length ≤ 1000) (hk : ∀ y ∈ ks, y.Ok) : (exOf op kv ks).Ok := by
  rw [Ex.ok_iff]
  exact ⟨⟨h, nullV_ok, by show (0 : Nat) ≤ _; omega, by show (0 : Nat) ≤ _; omega, by show _ ≤ (0 : Int); omega, by show (0 : Int) ≤ _; omega, by show ks.length * 104 ≤ _; omega⟩, hk⟩
theorem exOf_in {op : Nat} {kv : Value} {ks : List Ex} {w : World} (h : SlAt 8 Ex.cells w kv ks) (hk : ∀ y ∈ ks, y.In w) : (exOf op kv ks).In w := (Ex.in_iff w _).2 ⟨h, hk⟩

theorem shaped_V (c : Int) (v : V) : shapedB c (exV v) = decide (checkV v = 0) := by
  rw [shaped_eq]
  show (oneB c (exV v) && true) = _
  rw [Bool.and_true, Bool.eq_iff_iff, one_iff]
  simp [exV, Ex.op_mk, Ex.kids_mk, Ex.v_mk, kidsB]
theorem may_V (c : Int) (g : Bool) (v : V) : mayB c g (exV v) = decide (checkV v = 0) := by
  rw [may_eq, shaped_V]
  show (decide (checkV v = 0) && !(groupB 1 && !g) && true) = _
  cases g <;> simp [groupB]
theorem shaped_C (c n : Int) : shapedB c (exC n) = decide (0 ≤ n ∧ n < c) := by
  rw [shaped_eq]
  show (oneB c (exC n) && true) = _
  rw [Bool.and_true, Bool.eq_iff_iff, one_iff]
  simp [exC, Ex.op_mk, Ex.kids_mk, Ex.n_mk, kidsB]
theorem may_C (c : Int) (g : Bool) (n : Int) : mayB c g (exC n) = decide (0 ≤ n ∧ n < c) := by
  rw [may_eq, shaped_C]
  show (decide (0 ≤ n ∧ n < c) && !(groupB 2 && !g) && true) = _
  cases g <;> simp [groupB]
theorem shaped_Of (c : Int) {op : Nat} {kv : Value} {ks : List Ex} (h3 : 3 ≤ op) (h23 : op ≤ 23) (hk : kidsB op ks.length = true) : shapedB c (exOf op kv ks) = ks.all (shapedB c) := by
  rw [shaped_eq]
  have : oneB c (exOf op kv ks) = true := (one_iff c _).2 ⟨⟨by show 1 ≤ op; omega, h23⟩, hk, fun h => by have : op = 1 := h; omega, fun h => by have : op = 2 := h; omega⟩
  rw [this, Bool.true_and]
  rfl
theorem may_Of (c : Int) (g : Bool) {op : Nat} {kv : Value} {ks : List Ex} (h3 : 3 ≤ op) (h19 : op ≤ 19) (hk : kidsB op ks.length = true) : mayB c g (exOf op kv ks) = ks.all (mayB c g) := by
  rw [may_eq, shaped_Of c h3 (by omega) hk]
  have hg : groupB op = false := by simp [groupB]; omega
  show (ks.all (shapedB c) && !(groupB op && !g) && ks.all (mayB c (g && !groupB op))) = _
  rw [hg]
  simp only [Bool.false_and, Bool.not_false, Bool.and_true]
  cases hb : ks.all (mayB c g)
  · simp
  · rw [Bool.and_true, List.all_eq_true]
    intro y hy
    have := List.all_eq_true.1 hb y hy
    rw [may_eq, Bool.and_eq_true, Bool.and_eq_true] at this
    exact this.1.1
theorem may_Gr (c : Int) {op : Nat} {kv : Value} {ks : List Ex} (h20 : 20 ≤ op) (h23 : op ≤ 23) (hk : kidsB op ks.length = true) : mayB c true (exOf op kv ks) = ks.all (mayB c false) := by
  rw [may_eq, shaped_Of c (by omega) h23 hk]
  have hg : groupB op = true := by simp [groupB]; omega
  show (ks.all (shapedB c) && !(groupB op && !true) && ks.all (mayB c (true && !groupB op))) = _
  rw [hg]
  simp only [Bool.not_true, Bool.and_false, Bool.not_false, Bool.and_true]
  cases hb : ks.all (mayB c false)
  · simp
  · rw [Bool.and_true, List.all_eq_true]
    intro y hy
    have := List.all_eq_true.1 hb y hy
    rw [may_eq, Bool.and_eq_true, Bool.and_eq_true] at this
    exact this.1.1
section
variable (col : Int → V) (grp : Ex → V × Nat)
theorem walk_V (v : V) : walkS col grp (exV v) = (v, 0) := by rw [walkS_eq]; exact if_pos rfl
theorem walk_C (n : Int) : walkS col grp (exC n) = (col n, 0) := by rw [walkS_eq]; rfl
theorem walk_Of {op : Nat} {kv : Value} {ks : List Ex} (h3 : 3 ≤ op) (h19 : op ≤ 19) : walkS col grp (exOf op kv ks) = if (walkAll col grp ks).2 = 0 then doS op (walkAll col grp ks).1 else (nullV, (walkAll col grp ks).2) := by
  have hg : groupB op = false := by simp [groupB]; omega
  exact (walkS_all col grp (exOf op kv ks)).2.2.2 (by show op ≠ 1; omega) (by show op ≠ 2; omega) hg
theorem walk_Gr {op : Nat} {kv : Value} {ks : List Ex} (h20 : 20 ≤ op) (h23 : op ≤ 23) : walkS col grp (exOf op kv ks) = grp (exOf op kv ks) := by
  have hg : groupB op = true := by simp [groupB]; omega
  exact (walkS_all col grp (exOf op kv ks)).2.2.1 (by show op ≠ 1; omega) (by show op ≠ 2; omega) hg
theorem walkAll_1 {x : Ex} {a : V} (h : walkS col grp x = (a, 0)) : walkAll col grp [x] = ([a], 0) := by simp [walkAll, h]
theorem walkAll_2 {x y : Ex} {a b : V} (h : walkS col grp x = (a, 0)) (h2 : walkS col grp y = (b, 0)) : walkAll col grp [x, y] = ([a, b], 0) := by simp [walkAll, h, h2]
end
/-- An operation of two values. -/
theorem eval_two (row : List V) {op : Nat} {kv : Value} {a b : V} (h6 : 6 ≤ op) (h19 : op ≤ 19) : evalS row (exOf op kv [exV a, exV b]) = if checkV a = 0 ∧ checkV b = 0 then doS op [a, b] else (nullV, 2) := by
  have hk : kidsB op [exV a, exV b].length = true := by unfold kidsB; rw [if_neg (by omega), if_neg (by omega), if_neg (by omega), if_pos ⟨h6, h19⟩]; rfl
  unfold evalS
  rw [may_Of _ _ (by omega) h19 hk, walk_Of _ _ (by omega) h19, walkAll_2 _ _ (walk_V _ _ a) (walk_V _ _ b)]
  simp only [List.all_cons, List.all_nil, may_V, Bool.and_true, if_true]
  by_cases ha : checkV a = 0 <;> by_cases hb : checkV b = 0 <;> simp [ha, hb]
/-- An operation of one expression that may be. -/
theorem eval_one (row : List V) {op : Nat} {kv : Value} {x : Ex} {a : V} (h3 : 3 ≤ op) (h5 : op ≤ 5) (hm : mayB (row.length : Int) false x = true) (hx : walkS (fun n => row.getD n.toNat nullV) (fun _ => (nullV, 0)) x = (a, 0)) : evalS row (exOf op kv [x]) = doS op [a] := by
  have hk : kidsB op [x].length = true := by unfold kidsB; rw [if_neg (by omega), if_neg (by omega), if_neg (by omega), if_neg (by omega)]; rfl
  unfold evalS
  rw [may_Of _ _ h3 (by omega) hk, walk_Of _ _ h3 (by omega), walkAll_1 _ _ hx]
  simp [hm]
/-- What is told of a group, of one column or of none. -/
theorem fold_one (rs : List (List V)) (cols : Int) {op : Nat} {kv : Value} (h20 : 20 ≤ op) (h23 : op ≤ 23) (hc : 0 < cols) : foldS rs cols (exOf op kv [exC 0]) = if (rs.all fun r => decide ((r.length : Int) = cols)) = true then toldS (exOf op kv [exC 0]) rs else (nullV, 2) := by
  have hk : kidsB op [exC 0].length = true := by
    unfold kidsB
    rw [if_neg (by omega), if_neg (by omega)]
    split
    · rfl
    · rw [if_neg (by omega)]; rfl
  unfold foldS
  rw [may_Gr _ h20 h23 hk, walk_Gr _ _ h20 h23]
  simp only [List.all_cons, List.all_nil, may_C, Bool.and_true]
  rw [decide_eq_true (show 0 ≤ (0 : Int) ∧ 0 < cols from ⟨Int.le_refl _, hc⟩), Bool.true_and]
theorem one_C (op : Nat) (kv : Value) (row : List V) : oneS (exOf op kv [exC 0]) row = (row.getD 0 nullV, 0) := walk_C (fun n => row.getD n.toNat nullV) (fun _ => (nullV, 0)) 0
end Go.Proofs.Ytclkpbokngamiaa.Dt
