/-
  The kinds of expressions: plain laws, no program in sight.
-/
import Derived.Test.YtclkpbokngamiaaWalkRow
namespace Go.Proofs.Ytclkpbokngamiaa.Dt

/-- An operation's kind, by its kids'. -/
def opK (op : Nat) (l : List Nat) : Nat := if op = 11 then 2 else if op = 22 ∨ op = 23 then l.getD 0 0 else 1
section
variable (cols : List Nat)
mutual
/-- The kind of values to which an expression comes, or why there is none. -/
def kindS : Bool → Ex → Nat × Nat
  | g, .mk op v _ _ n _ kids =>
    if op = 1 then (v.k, 0) else if op = 2 then (cols.getD n.toNat 0, 0) else if (groupB op && !g) = true then (0, 151)
    else if (kindAll (g && !groupB op) kids).2 = 0 then (if togetherB op (kindAll (g && !groupB op) kids).1 = true then (opK op (kindAll (g && !groupB op) kids).1, 0) else (0, 150)) else (0, (kindAll (g && !groupB op) kids).2)
def kindAll : Bool → List Ex → List Nat × Nat
  | _, [] => ([], 0)
  | g, x :: l => if (kindS g x).2 = 0 then ((kindS g x).1 :: (kindAll g l).1, (kindAll g l).2) else ([], (kindS g x).2)
end
def typeS (g : Bool) (x : Ex) : Nat × Nat := if shapedB (cols.length : Int) x = true then kindS cols g x else (0, 2)
theorem kindS_eq (g : Bool) (x : Ex) : kindS cols g x = if x.op = 1 then (x.v.k, 0) else if x.op = 2 then (cols.getD x.n.toNat 0, 0) else if (groupB x.op && !g) = true then (0, 151)
    else if (kindAll cols (g && !groupB x.op) x.kids).2 = 0 then (if togetherB x.op (kindAll cols (g && !groupB x.op) x.kids).1 = true then (opK x.op (kindAll cols (g && !groupB x.op) x.kids).1, 0) else (0, 150)) else (0, (kindAll cols (g && !groupB x.op) x.kids).2) := by
  cases x
  rw [kindS]
  rfl
theorem kindS_all (g : Bool) (x : Ex) : (x.op = 1 → kindS cols g x = (x.v.k, 0)) ∧ (x.op = 2 → kindS cols g x = (cols.getD x.n.toNat 0, 0)) ∧
    (x.op ≠ 1 → x.op ≠ 2 → (groupB x.op && !g) = true → kindS cols g x = (0, 151)) ∧
    (x.op ≠ 1 → x.op ≠ 2 → (groupB x.op && !g) = false → kindS cols g x = if (kindAll cols (g && !groupB x.op) x.kids).2 = 0 then (if togetherB x.op (kindAll cols (g && !groupB x.op) x.kids).1 = true then (opK x.op (kindAll cols (g && !groupB x.op) x.kids).1, 0) else (0, 150)) else (0, (kindAll cols (g && !groupB x.op) x.kids).2)) := by
  refine ⟨fun h => ?_, fun h => ?_, fun h1 h2 h3 => ?_, fun h1 h2 h3 => ?_⟩
  · rw [kindS_eq, if_pos h]
  · rw [kindS_eq, if_neg (by omega), if_pos h]
  · rw [kindS_eq, if_neg h1, if_neg h2, if_pos h3]
  · rw [kindS_eq, if_neg h1, if_neg h2, if_neg (by simp [h3])]
structure KSofar (g : Bool) (ks : List Ex) (k : Nat) (l : List Nat) : Prop where
  no : ∀ i, i < k → ∀ y, ks[i]? = some y → (kindS cols g y).2 = 0
  l : l = (ks.take k).map fun y => (kindS cols g y).1
variable {cols}
theorem KSofar.zero (g : Bool) (ks : List Ex) : KSofar cols g ks 0 [] := ⟨fun i h => by omega, rfl⟩
theorem KSofar.next {g : Bool} {ks : List Ex} {k : Nat} {l : List Nat} {y : Ex} (h : KSofar cols g ks k l) (hy : ks[k]? = some y) (h0 : (kindS cols g y).2 = 0) : KSofar cols g ks (k + 1) (l ++ [(kindS cols g y).1]) := by
  refine ⟨fun i hi z hz => ?_, ?_⟩
  · rcases Nat.lt_or_ge i k with h1 | h1
    · exact h.no i h1 z hz
    · obtain rfl : i = k := by omega
      rw [hy] at hz
      cases hz
      exact h0
  · obtain ⟨hk, rfl⟩ := List.getElem?_eq_some_iff.1 hy
    rw [List.take_succ_eq_append_getElem hk, List.map_append, h.l]
    rfl
theorem kindAll_ok {g : Bool} : ∀ (ks : List Ex), (∀ y ∈ ks, (kindS cols g y).2 = 0) → kindAll cols g ks = (ks.map fun y => (kindS cols g y).1, 0)
  | [], _ => by simp [kindAll]
  | x :: l, h => by
    have h1 := h x List.mem_cons_self
    have h2 := kindAll_ok l fun y hy => h y (List.mem_cons_of_mem _ hy)
    simp [kindAll, h1, h2]
theorem kindAll_err {g : Bool} : ∀ (ks : List Ex) (k : Nat) (y : Ex), (∀ i, i < k → ∀ z, ks[i]? = some z → (kindS cols g z).2 = 0) → ks[k]? = some y → (kindS cols g y).2 ≠ 0 → (kindAll cols g ks).2 = (kindS cols g y).2
  | [], k, y, _, hy, _ => by simp at hy
  | x :: l, 0, y, _, hy, he => by
    simp at hy
    subst hy
    simp [kindAll, he]
  | x :: l, k + 1, y, h, hy, he => by
    have h1 := h 0 (by omega) x rfl
    have h2 := kindAll_err l k y (fun i hi z hz => h (i + 1) (by omega) z (by simpa using hz)) (by simpa using hy) he
    simp [kindAll, h1, h2]
theorem KSofar.all {g : Bool} {ks : List Ex} {l : List Nat} (h : KSofar cols g ks ks.length l) : kindAll cols g ks = (l, 0) := by
  rw [kindAll_ok ks fun y hy => by
    obtain ⟨i, hi, rfl⟩ := List.getElem_of_mem hy
    exact h.no i hi _ (by simp [hi]), h.l, List.take_length]
theorem KSofar.length {g : Bool} {ks : List Ex} {k : Nat} {l : List Nat} (h : KSofar cols g ks k l) (hk : k ≤ ks.length) : l.length = k := by
  rw [h.l, List.length_map, List.length_take]; omega
theorem getD_small {l : List Nat} (h : ∀ k ∈ l, k < 256) (i : Nat) : l.getD i 0 < 256 := by
  rw [List.getD]
  cases hx : l[i]? with
  | none => exact Nat.zero_lt_succ 255
  | some x => exact h x (List.mem_of_getElem? hx)
theorem kindS_small (hc : ∀ k ∈ cols, k < 256) : ∀ (x : Ex), x.Ok → ∀ g, (kindS cols g x).1 < 256 := by
  refine Ex.ind fun x ih hok g => ?_
  have hok' := (Ex.ok_iff x).1 hok
  rw [kindS_eq]
  split
  · exact hok'.1.2.1.1
  split
  · exact getD_small hc _
  split
  · exact Nat.zero_lt_succ 255
  split
  · split
    · unfold opK
      split
      · show 2 < 256; omega
      · split
        · have hall : ∀ (l : List Ex), (∀ y ∈ l, y ∈ x.kids) → ∀ k ∈ (kindAll cols (g && !groupB x.op) l).1, k < 256 := by
            intro l
            induction l with
            | nil => intro _ v hv; simp [kindAll] at hv
            | cons y l ihl =>
              intro hsub v hv
              have hy := hsub y List.mem_cons_self
              rw [kindAll] at hv
              split at hv
              · rcases List.mem_cons.1 hv with rfl | hv
                · exact ih y hy (hok'.2 y hy) _
                · exact ihl (fun z hz => hsub z (List.mem_cons_of_mem _ hz)) v hv
              · cases hv
          exact getD_small (hall x.kids fun _ h => h) 0
        · show 1 < 256; omega
    · exact Nat.zero_lt_succ 255
  · exact Nat.zero_lt_succ 255
end
/-- A kind and an error's number, as a call hands them back. -/
abbrev resK (r : Nat × Nat) : Value := .tuple #[.int .u8 (r.1 : Int), .int .i64 (r.2 : Int)]
end Go.Proofs.Ytclkpbokngamiaa.Dt
