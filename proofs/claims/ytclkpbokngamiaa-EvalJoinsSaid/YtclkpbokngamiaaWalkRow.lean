/-
  What an expression comes to for a row, what is told of a group: values that Go can hold; plain laws.
-/
import Derived.Test.YtclkpbokngamiaaToldSpec
namespace Go.Proofs.Ytclkpbokngamiaa.Dt
open Go.RowKit Go.Proofs.Ytclkpbokngamiaa.By

abbrev rowCol (row : List V) : Int → V := fun n => row.getD n.toNat nullV
abbrev noGrp : Ex → V × Nat := fun _ => (nullV, 0)

theorem walkRow_ok {row : List V} (hrok : ∀ v ∈ row, v.ok) : ∀ x : Ex, x.Ok → mayB (row.length : Int) false x = true → (walkS (rowCol row) noGrp x).1.ok := by
  refine Ex.ind fun x ih hok hm => ?_
  obtain ⟨hsh, hgr, hkids⟩ := may_parts hm
  have hok' := (Ex.ok_iff x).1 hok
  rw [walkS_eq]
  split
  · exact hok'.1.2.1
  split
  · exact getD_ok hrok _
  split
  · exact nullV_ok
  · rename_i hng
    split
    · refine doS_ok _ _ ?_
      have hall : ∀ (l : List Ex), (∀ y ∈ l, y ∈ x.kids) → ∀ v ∈ (walkAll (rowCol row) noGrp l).1, v.ok := by
        intro l
        induction l with
        | nil => intro _ v hv; simp [walkAll] at hv
        | cons y l ihl =>
          intro hsub v hv
          have hy := hsub y List.mem_cons_self
          have hmy := hkids y hy
          rw [Bool.false_and] at hmy
          rw [walkAll] at hv
          split at hv
          · rcases List.mem_cons.1 hv with rfl | hv
            · exact ih y hy (hok'.2 y hy) hmy
            · exact ihl (fun z hz => hsub z (List.mem_cons_of_mem _ hz)) v hv
          · cases hv
      exact hall x.kids (fun _ h => h)
    · exact nullV_ok

theorem oneS_ok {cols : Int} {x : Ex} {row : List V} (hx : x.Ok) (hk : ∀ y ∈ x.kids, mayB cols false y = true) (hl : (row.length : Int) = cols) (hr : ∀ v ∈ row, v.ok) : (oneS x row).1.ok := by
  unfold oneS
  have hx' := ((Ex.ok_iff x).1 hx).2
  cases hks : x.kids with
  | nil => exact numV_ok ⟨by omega, by omega⟩
  | cons y l =>
    rw [hks] at hk hx'
    exact walkRow_ok hr y (hx' y List.mem_cons_self) (hl ▸ hk y List.mem_cons_self)
theorem toldAll_ok {cols : Int} {x : Ex} (hx : x.Ok) (hk : ∀ y ∈ x.kids, mayB cols false y = true) : ∀ (rs : List (List V)) (s : Tl), (∀ r ∈ rs, (r.length : Int) = cols ∧ ∀ v ∈ r, v.ok) → s.best.ok → (toldAll x rs s).1.best.ok ∧ (toldAll x rs s).1.n ≤ s.n + rs.length
  | [], s, _, hs => ⟨hs, by simp [toldAll]⟩
  | r :: rs, s, h, hs => by
    have h1 := h r List.mem_cons_self
    have h2 : ∀ r ∈ rs, (r.length : Int) = cols ∧ ∀ v ∈ r, v.ok := fun q hq => h q (List.mem_cons_of_mem _ hq)
    have ho := oneS_ok hx hk h1.1 h1.2
    rw [toldAll]
    split
    · exact ⟨hs, by simp⟩
    · split
      · have := toldAll_ok hx hk rs s h2 hs
        exact ⟨this.1, by rw [List.length_cons]; omega⟩
      · split
        · exact ⟨hs, by simp⟩
        · have := toldAll_ok hx hk rs (toldStep x.op s (oneS x r).1) h2 (by
            unfold toldStep
            show (if _ then _ else _ : V).ok
            split
            · exact ho
            · exact hs)
          refine ⟨this.1, ?_⟩
          have h3 := this.2
          rw [List.length_cons]
          have : (toldStep x.op s (oneS x r).1).n = s.n + 1 := rfl
          omega
theorem toldS_ok {cols : Int} {x : Ex} (hx : x.Ok) (hk : ∀ y ∈ x.kids, mayB cols false y = true) (rs : List (List V)) (h : ∀ r ∈ rs, (r.length : Int) = cols ∧ ∀ v ∈ r, v.ok) (hl : rs.length ≤ 140737488351232) : (toldS x rs).1.ok := by
  have := toldAll_ok hx hk rs ⟨0, 0, nullV⟩ h nullV_ok
  unfold toldS
  split
  · unfold toldEnd
    split
    · refine numV_ok ⟨by omega, ?_⟩
      have h2 := this.2
      show ((toldAll x rs ⟨0, 0, nullV⟩).1.n : Int) ≤ 9223372036854775807
      simp only [Nat.zero_add] at h2
      omega
    · split
      · exact this.1
      · exact overS_ok _
  · exact nullV_ok

/-- The first row's column; null where there is no row. -/
def firstCol (rs : List (List V)) : Int → V := fun n => match rs with
  | [] => nullV
  | r :: _ => r.getD n.toNat nullV
/-- What an expression comes to for a group. -/
def foldS (rs : List (List V)) (cols : Int) (x : Ex) : V × Nat :=
  if (mayB cols true x && rs.all fun r => decide ((r.length : Int) = cols)) = true then walkS (firstCol rs) (fun y => toldS y rs) x else (nullV, 2)
end Go.Proofs.Ytclkpbokngamiaa.Dt
