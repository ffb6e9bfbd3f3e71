/-
  What expressions come to: plain laws, no program in sight.
-/
import Derived.Test.YtclkpbokngamiaaDoSpec
namespace Go.Proofs.Ytclkpbokngamiaa.Dt

section
variable (col : Int → V) (grp : Ex → V × Nat)
mutual
/-- What an expression comes to; columns' and groups' values are told. -/
def walkS : Ex → V × Nat
  | .mk op v t m n kv kids =>
    if op = 1 then (v, 0) else if op = 2 then (col n, 0) else if groupB op then grp (.mk op v t m n kv kids)
    else if (walkAll kids).2 = 0 then doS op (walkAll kids).1 else (nullV, (walkAll kids).2)
def walkAll : List Ex → List V × Nat
  | [] => ([], 0)
  | x :: l => if (walkS x).2 = 0 then ((walkS x).1 :: (walkAll l).1, (walkAll l).2) else ([], (walkS x).2)
end
theorem walkS_eq (x : Ex) : walkS col grp x = if x.op = 1 then (x.v, 0) else if x.op = 2 then (col x.n, 0) else if groupB x.op then grp x
    else if (walkAll col grp x.kids).2 = 0 then doS x.op (walkAll col grp x.kids).1 else (nullV, (walkAll col grp x.kids).2) := by
  cases x
  rw [walkS]
  rfl
/-- The four ways of walkS. -/
theorem walkS_all (x : Ex) : (x.op = 1 → walkS col grp x = (x.v, 0)) ∧ (x.op = 2 → walkS col grp x = (col x.n, 0)) ∧
    (x.op ≠ 1 → x.op ≠ 2 → groupB x.op = true → walkS col grp x = grp x) ∧
    (x.op ≠ 1 → x.op ≠ 2 → groupB x.op = false → walkS col grp x = if (walkAll col grp x.kids).2 = 0 then doS x.op (walkAll col grp x.kids).1 else (nullV, (walkAll col grp x.kids).2)) := by
  refine ⟨fun h => ?_, fun h => ?_, fun h1 h2 h3 => ?_, fun h1 h2 h3 => ?_⟩
  · rw [walkS_eq, if_pos h]
  · rw [walkS_eq, if_neg (by omega), if_pos h]
  · rw [walkS_eq, if_neg h1, if_neg h2, if_pos h3]
  · rw [walkS_eq, if_neg h1, if_neg h2, if_neg (by simp [h3])]
/-- The first kids, without an error. -/
structure Sofar (ks : List Ex) (k : Nat) (vs : List V) : Prop where
  no : ∀ i, i < k → ∀ y, ks[i]? = some y → (walkS col grp y).2 = 0
  vs : vs = (ks.take k).map fun y => (walkS col grp y).1
variable {col grp}
theorem Sofar.zero (ks : List Ex) : Sofar col grp ks 0 [] := ⟨fun i h => by omega, rfl⟩
theorem Sofar.next {ks : List Ex} {k : Nat} {vs : List V} {y : Ex} (h : Sofar col grp ks k vs) (hy : ks[k]? = some y) (h0 : (walkS col grp y).2 = 0) : Sofar col grp ks (k + 1) (vs ++ [(walkS col grp y).1]) := by
  refine ⟨fun i hi z hz => ?_, ?_⟩
  · rcases Nat.lt_or_ge i k with h1 | h1
    · exact h.no i h1 z hz
    · obtain rfl : i = k := by omega
      rw [hy] at hz
      cases hz
      exact h0
  · obtain ⟨hk, rfl⟩ := List.getElem?_eq_some_iff.1 hy
    rw [List.take_succ_eq_append_getElem hk, List.map_append, h.vs]
    rfl
theorem walkAll_ok : ∀ (ks : List Ex), (∀ y ∈ ks, (walkS col grp y).2 = 0) → walkAll col grp ks = (ks.map fun y => (walkS col grp y).1, 0)
  | [], _ => by simp [walkAll]
  | x :: l, h => by
    have h1 := h x List.mem_cons_self
    have h2 := walkAll_ok l fun y hy => h y (List.mem_cons_of_mem _ hy)
    simp [walkAll, h1, h2]
theorem walkAll_err : ∀ (ks : List Ex) (k : Nat) (y : Ex), (∀ i, i < k → ∀ z, ks[i]? = some z → (walkS col grp z).2 = 0) → ks[k]? = some y → (walkS col grp y).2 ≠ 0 → (walkAll col grp ks).2 = (walkS col grp y).2
  | [], k, y, _, hy, _ => by simp at hy
  | x :: l, 0, y, _, hy, he => by
    simp at hy
    subst hy
    simp [walkAll, he]
  | x :: l, k + 1, y, h, hy, he => by
    have h1 := h 0 (by omega) x rfl
    have h2 := walkAll_err l k y (fun i hi z hz => h (i + 1) (by omega) z (by simpa using hz)) (by simpa using hy) he
    simp [walkAll, h1, h2]
theorem Sofar.all {ks : List Ex} {vs : List V} (h : Sofar col grp ks ks.length vs) : walkAll col grp ks = (vs, 0) := by
  rw [walkAll_ok ks fun y hy => by
    obtain ⟨i, hi, rfl⟩ := List.getElem_of_mem hy
    exact h.no i hi _ (by simp [hi]), h.vs, List.take_length]
theorem Sofar.length {ks : List Ex} {k : Nat} {vs : List V} (h : Sofar col grp ks k vs) (hk : k ≤ ks.length) : vs.length = k := by
  rw [h.vs, List.length_map, List.length_take]; omega

/-! ### Values that Go can hold -/
theorem nullV_ok : nullV.ok := ⟨by decide, ⟨by decide, by decide⟩, by decide⟩
theorem numV_ok {n : Int} (h : inR n) : (numV n).ok := ⟨by show 1 < 256; omega, h, by show (0 : Nat) ≤ _; omega⟩
theorem truthV_ok (b : Bool) : (truthV b).ok := by
  cases b
  · exact numV_ok ⟨by omega, by omega⟩
  · exact numV_ok ⟨by omega, by omega⟩
theorem overS_ok (n : Int) : (overS n).1.ok := by
  unfold overS
  split
  · exact numV_ok (by assumption)
  · exact nullV_ok
theorem reckonS_ok (op : Nat) (a b : Int) (ha : inR a) (_hb : inR b) : (reckonS op a b).1.ok := by
  unfold reckonS
  split
  · exact overS_ok _
  · split
    · exact overS_ok _
    · split
      · exact overS_ok _
      · split
        · exact nullV_ok
        · split
          · exact overS_ok _
          · refine numV_ok ?_
            have h1 : (a.tmod b).natAbs ≤ a.natAbs := by rw [Int.natAbs_tmod]; exact Nat.mod_le _ _
            unfold inR at *
            by_cases h2 : a = -9223372036854775808
            · by_cases h3 : a.tmod b = -9223372036854775808
              · omega
              · have h4 := Int.tmod_nonneg b (show 0 ≤ -a by omega)
                rw [Int.neg_tmod] at h4
                omega
            · omega
theorem logicS_ok (a b : V) (d : Bool) : (logicS a b d).ok := by
  unfold logicS
  split
  · exact truthV_ok _
  · split
    · exact truthV_ok _
    · split
      · exact nullV_ok
      · exact truthV_ok _
theorem getD_ok {l : List V} (h : ∀ x ∈ l, x.ok) (i : Nat) : (l.getD i nullV).ok := by
  rw [List.getD]
  cases hx : l[i]? with
  | none => exact nullV_ok
  | some x => exact h x (List.mem_of_getElem? hx)
theorem doS_ok (op : Nat) (l : List V) (h : ∀ x ∈ l, x.ok) : (doS op l).1.ok := by
  unfold doS
  simp only
  split
  · exact nullV_ok
  split
  · exact truthV_ok _
  split
  · exact logicS_ok _ _ _
  split
  · exact nullV_ok
  split
  · exact truthV_ok _
  split
  · exact reckonS_ok _ _ _ ⟨by omega, by omega⟩ (getD_ok h 0).2.1
  split
  · split
    · exact nullV_ok
    · refine ⟨by show 2 < 256; omega, ⟨by show _ ≤ (0 : Int); omega, by show (0 : Int) ≤ _; omega⟩, ?_⟩
      show ((l.getD 0 nullV).s ++ (l.getD 1 nullV).s).size ≤ _
      rw [ByteArray.size_append]
      omega
  split
  · exact truthV_ok _
  · exact reckonS_ok _ _ _ (getD_ok h 0).2.1 (getD_ok h 1).2.1
end
end Go.Proofs.Ytclkpbokngamiaa.Dt
