/-
  An expression whose kind is known comes to a value of that kind: plain laws, no program in sight.
-/
import Derived.Test.YtaeobillbocemaaTypeSpec
namespace Go.Proofs.Ytaeobillbocemaa.Dt

/-- Of this kind, or null. -/
def Kd (k : Nat) (v : V) : Prop := v.k = 0 ∨ v.k = k
/-- What is told with a kind: no error of kinds, no error of arguments. -/
def Snd (k : Nat) (r : V × Nat) : Prop := r.2 ≠ 150 ∧ r.2 ≠ 2 ∧ Kd k r.1
/-- Values and their kinds, one by one. -/
inductive Kds : List Nat → List V → Prop
  | nil : Kds [] []
  | cons {k v l m} : Kd k v → Kds l m → Kds (k :: l) (v :: m)
theorem Kds.length {l : List Nat} {m : List V} (h : Kds l m) : m.length = l.length := by
  induction h with
  | nil => rfl
  | cons _ _ ih => simp [ih]
theorem Kds.getD {l : List Nat} {m : List V} (h : Kds l m) (i : Nat) : Kd (l.getD i 0) (m.getD i nullV) := by
  induction h generalizing i with
  | nil => exact .inl rfl
  | cons h1 _ ih =>
    cases i with
    | zero => exact h1
    | succ i => exact ih i
theorem Kds.all {kind : Nat} {l : List Nat} {m : List V} (h : Kds l m) (ha : allB kind l = true) : allB kind (m.map V.k) = true := by
  induction h with
  | nil => rfl
  | cons h1 _ ih =>
    unfold allB at *
    simp only [List.all_cons, Bool.and_eq_true, decide_eq_true_eq, List.map_cons] at *
    refine ⟨?_, ih ha.2⟩
    rcases h1 with h1 | h1
    · exact .inl h1
    · rw [h1]; exact ha.1
theorem getD_map (m : List V) (i : Nat) : (m.map V.k).getD i 0 = (m.getD i nullV).k := by
  rw [List.getD, List.getD, List.getElem?_map]
  cases m[i]? <;> rfl
theorem tog_mono {op : Nat} {l : List Nat} {m : List V} (h : Kds l m) (ht : togetherB op l = true) : togetherB op (m.map V.k) = true := by
  unfold togetherB at *
  split
  · rfl
  · rename_i h1
    rw [if_neg h1] at ht
    split
    · rename_i h2
      rw [if_pos h2] at ht
      exact h.all ht
    · rename_i h2
      rw [if_neg h2] at ht
      split
      · rename_i h3
        rw [if_pos h3, decide_eq_true_eq] at ht
        rw [decide_eq_true_eq, getD_map, getD_map]
        have a := h.getD 0
        have b := h.getD 1
        unfold Kd at a b
        omega
      · rename_i h3
        rw [if_neg h3] at ht
        exact h.all ht

theorem snd_num (n : Int) : Kd 1 (numV n) := .inr rfl
theorem snd_truth (b : Bool) : Kd 1 (truthV b) := by cases b <;> exact .inr rfl
theorem snd_null (k : Nat) : Kd k nullV := .inl rfl
theorem snd_over (n : Int) : Snd 1 (overS n) := by
  unfold overS
  split
  · exact ⟨by show (0 : Nat) ≠ 150; omega, by show (0 : Nat) ≠ 2; omega, snd_num n⟩
  · exact ⟨by show (152 : Nat) ≠ 150; omega, by show (152 : Nat) ≠ 2; omega, snd_null 1⟩
theorem snd_ok {k : Nat} {v : V} (h : Kd k v) : Snd k (v, 0) := ⟨by show (0 : Nat) ≠ 150; omega, by show (0 : Nat) ≠ 2; omega, h⟩
theorem snd_reckon (op : Nat) (a b : Int) : Snd 1 (reckonS op a b) := by
  unfold reckonS
  split
  · exact snd_over _
  split
  · exact snd_over _
  split
  · exact snd_over _
  split
  · exact snd_ok (snd_null 1)
  split
  · exact snd_over _
  · exact snd_ok (snd_num _)
theorem snd_logic (a b : V) (d : Bool) : Kd 1 (logicS a b d) := by
  unfold logicS
  split
  · exact snd_truth _
  split
  · exact snd_truth _
  split
  · exact snd_null 1
  · exact snd_truth _
theorem snd_do {op : Nat} {l : List Nat} {m : List V} (h : Kds l m) (ht : togetherB op l = true) (h19 : op ≤ 19) : Snd (opK op l) (doS op m) := by
  have hm := tog_mono h ht
  by_cases h11 : op = 11
  · subst h11
    rw [show opK 11 l = 2 from if_pos rfl]
    cases hn : nullB m
    · rw [doS_11 hm hn]
      split
      · exact ⟨by show (3 : Nat) ≠ 150; omega, by show (3 : Nat) ≠ 2; omega, snd_null 2⟩
      · exact snd_ok (.inr rfl)
    · rw [doS_null hm (by omega) (by omega) (by omega) hn]
      exact snd_ok (snd_null 2)
  · have hk : opK op l = 1 := by unfold opK; rw [if_neg h11, if_neg (by omega)]
    rw [hk]
    unfold doS
    simp only [hm]
    rw [if_neg (by simp)]
    split
    · exact snd_ok (snd_truth _)
    split
    · exact snd_ok (snd_logic _ _ _)
    split
    · exact snd_ok (snd_null 1)
    split
    · exact snd_ok (snd_truth _)
    split
    · exact snd_reckon _ _ _
    split
    · exact snd_ok (snd_truth _)
    · exact snd_reckon _ _ _

section
variable {cols : List Nat}
/-- Without an error, kid by kid. -/
theorem kindAll_each {g : Bool} : ∀ (ks : List Ex), (kindAll cols g ks).2 = 0 → ∀ y ∈ ks, (kindS cols g y).2 = 0
  | [], _, y, hy => by cases hy
  | x :: l, h, y, hy => by
    rw [kindAll] at h
    split at h
    · rename_i h0
      rcases List.mem_cons.1 hy with rfl | hy
      · exact h0
      · exact kindAll_each l h y hy
    · rename_i h0
      exact absurd h h0
theorem kind_parts {g : Bool} {x : Ex} (h : (kindS cols g x).2 = 0) (h1 : x.op ≠ 1) (h2 : x.op ≠ 2) :
    (groupB x.op && !g) = false ∧ (kindAll cols (g && !groupB x.op) x.kids).2 = 0 ∧ togetherB x.op (kindAll cols (g && !groupB x.op) x.kids).1 = true ∧ (kindS cols g x).1 = opK x.op (kindAll cols (g && !groupB x.op) x.kids).1 := by
  have he := kindS_all cols g x
  cases hg : (groupB x.op && !g)
  · have hx := he.2.2.2 h1 h2 hg
    rw [hx] at h ⊢
    by_cases ha : (kindAll cols (g && !groupB x.op) x.kids).2 = 0
    · rw [if_pos ha] at h ⊢
      by_cases ht : togetherB x.op (kindAll cols (g && !groupB x.op) x.kids).1 = true
      · rw [if_pos ht]
        exact ⟨rfl, ha, ht, rfl⟩
      · rw [if_neg ht] at h
        exact absurd h (by show ¬ (150 : Nat) = 0; omega)
    · rw [if_neg ha] at h
      exact absurd h ha
  · rw [he.2.2.1 h1 h2 hg] at h
    exact absurd h (by show ¬ (151 : Nat) = 0; omega)
/-- An expression whose kind is known may be. -/
theorem kind_may (c : Int) : ∀ (x : Ex) (g : Bool), (kindS cols g x).2 = 0 → shapedB c x = true → mayB c g x = true := by
  refine Ex.ind fun x ih g hk hs => ?_
  have hs' := hs
  rw [shaped_eq, Bool.and_eq_true] at hs'
  have hkids := List.all_eq_true.1 hs'.2
  have hone := (one_iff c x).1 hs'.1
  rw [may_eq, hs, Bool.true_and, Bool.and_eq_true]
  by_cases h1 : x.op = 1
  · have hn : x.kids = [] := by
      have := hone.2.1
      rw [h1] at this
      exact List.eq_nil_of_length_eq_zero (by simpa [kidsB] using this)
    rw [hn, h1]
    exact ⟨by simp [groupB], rfl⟩
  by_cases h2 : x.op = 2
  · have hn : x.kids = [] := by
      have := hone.2.1
      rw [h2] at this
      exact List.eq_nil_of_length_eq_zero (by simpa [kidsB] using this)
    rw [hn, h2]
    exact ⟨by simp [groupB], rfl⟩
  obtain ⟨hg, ha, _, _⟩ := kind_parts hk h1 h2
  refine ⟨by rw [hg]; rfl, List.all_eq_true.2 fun y hy => ih y hy _ (kindAll_each _ ha y hy) (hkids y hy)⟩

variable {col : Int → V} {grp : Ex → V × Nat}
theorem snd_all (g : Bool) : ∀ (ks : List Ex), (kindAll cols g ks).2 = 0 → (∀ y ∈ ks, Snd (kindS cols g y).1 (walkS col grp y)) →
    ((walkAll col grp ks).2 = 0 → Kds (kindAll cols g ks).1 (walkAll col grp ks).1) ∧ (walkAll col grp ks).2 ≠ 150 ∧ (walkAll col grp ks).2 ≠ 2
  | [], _, _ => ⟨fun _ => by simp only [kindAll, walkAll]; exact .nil, by simp [walkAll], by simp [walkAll]⟩
  | x :: l, hk, h => by
    have hx := kindAll_each (x :: l) hk x List.mem_cons_self
    have hl : (kindAll cols g l).2 = 0 := by rw [kindAll, if_pos hx] at hk; exact hk
    have h0 := h x List.mem_cons_self
    have ih := snd_all g l hl fun y hy => h y (List.mem_cons_of_mem _ hy)
    rw [kindAll, if_pos hx, walkAll]
    by_cases hw : (walkS col grp x).2 = 0
    · rw [if_pos hw]
      exact ⟨fun he => .cons h0.2.2 (ih.1 he), ih.2⟩
    · rw [if_neg hw]
      exact ⟨fun he => absurd he hw, h0.1, h0.2.1⟩
/-- .. comes to a value of its kind. -/
theorem snd_walk {c : Int} (hcol : ∀ n : Int, 0 ≤ n → n < c → Kd (cols.getD n.toNat 0) (col n)) (hgrp : ∀ (y : Ex), groupB y.op = true → shapedB c y = true → (kindS cols true y).2 = 0 → Snd (kindS cols true y).1 (grp y)) :
    ∀ (x : Ex) (g : Bool), (kindS cols g x).2 = 0 → shapedB c x = true → Snd (kindS cols g x).1 (walkS col grp x) := by
  refine Ex.ind fun x ih g hk hs => ?_
  have hs' := hs
  rw [shaped_eq, Bool.and_eq_true] at hs'
  have hkids := List.all_eq_true.1 hs'.2
  have hone := (one_iff c x).1 hs'.1
  by_cases h1 : x.op = 1
  · rw [walkS_eq, if_pos h1, kindS_eq, if_pos h1]
    exact snd_ok (.inr rfl)
  by_cases h2 : x.op = 2
  · rw [walkS_eq, if_neg h1, if_pos h2, kindS_eq, if_neg h1, if_pos h2]
    have := hone.2.2.2 h2
    exact snd_ok (hcol _ this.1 this.2)
  obtain ⟨hg, ha, ht, he⟩ := kind_parts hk h1 h2
  cases hgo : groupB x.op
  · rw [hgo] at ha ht he
    rw [he, (walkS_all col grp x).2.2.2 h1 h2 hgo]
    have hall := snd_all (col := col) (grp := grp) _ x.kids ha fun y hy => ih y hy _ (kindAll_each _ ha y hy) (hkids y hy)
    have h19 : x.op ≤ 19 := by
      have h3 : ¬ (20 ≤ x.op ∧ x.op ≤ 23) := by simpa [groupB] using hgo
      have := hone.1
      omega
    by_cases hw : (walkAll col grp x.kids).2 = 0
    · rw [if_pos hw]
      exact snd_do (hall.1 hw) ht h19
    · rw [if_neg hw]
      exact ⟨hall.2.1, hall.2.2, snd_null _⟩
  · have hgt : g = true := by rw [hgo] at hg; simpa using hg
    subst hgt
    rw [(walkS_all col grp x).2.2.1 h1 h2 hgo]
    exact hgrp x hgo hs hk
end

/-- Rows whose values are null or of their columns' kinds. -/
def RowK (cols : List Nat) (row : List V) : Prop := row.length = cols.length ∧ ∀ i v, row[i]? = some v → Kd (cols.getD i 0) v
theorem rowK_getD {cols : List Nat} {row : List V} (h : RowK cols row) (n : Int) : Kd (cols.getD n.toNat 0) (row.getD n.toNat nullV) := by
  rw [List.getD_eq_getElem?_getD (l := row)]
  cases hx : row[n.toNat]? with
  | none => exact snd_null _
  | some v => exact h.2 _ v hx
/-- A row alone. -/
theorem snd_eval {cols : List Nat} {row : List V} {x : Ex} (h : RowK cols row) (ht : (typeS cols false x).2 = 0) : Snd (typeS cols false x).1 (evalS row x) := by
  unfold typeS at *
  cases hs : shapedB (cols.length : Int) x
  · rw [hs] at ht
    exact absurd ht (by show ¬ (2 : Nat) = 0; omega)
  · rw [hs] at ht
    rw [if_pos rfl] at ht ⊢
    unfold evalS
    rw [h.1, kind_may _ x false ht hs, if_pos rfl]
    refine snd_walk (c := (cols.length : Int)) (fun n _ _ => rowK_getD h n) (fun y hg _ hk => ?_) x false ht hs
    exact ⟨by show (0 : Nat) ≠ 150; omega, by show (0 : Nat) ≠ 2; omega, snd_null _⟩
theorem told_snd {cols : List Nat} {x : Ex} (hg : groupB x.op = true) (hs : shapedB (cols.length : Int) x = true) (hk : (kindS cols true x).2 = 0) (rs : List (List V)) (hr : ∀ r ∈ rs, RowK cols r) : Snd (kindS cols true x).1 (toldS x rs) := by
  have h1 : x.op ≠ 1 := by intro h; rw [h] at hg; simp [groupB] at hg
  have h2 : x.op ≠ 2 := by intro h; rw [h] at hg; simp [groupB] at hg
  have hop : 20 ≤ x.op ∧ x.op ≤ 23 := by simpa [groupB] using hg
  obtain ⟨_, ha, ht, he⟩ := kind_parts hk h1 h2
  rw [hg] at ha ht he
  rw [Bool.not_true, Bool.and_false] at ha ht he
  rw [shaped_eq, Bool.and_eq_true] at hs
  have hkids := List.all_eq_true.1 hs.2
  have hone := (one_iff _ x).1 hs.1
  rw [he]
  -- what a row gives
  obtain ⟨K, hK⟩ : ∃ K, K = if x.kids = [] then 1 else (kindAll cols false x.kids).1.getD 0 0 := ⟨_, rfl⟩
  have hrow : ∀ r, RowK cols r → Snd K (oneS x r) := by
    intro r hr
    rw [hK]
    unfold oneS
    cases hks : x.kids with
    | nil => exact snd_ok (snd_num 1)
    | cons y l =>
      rw [hks] at ha hkids
      have hy := kindAll_each _ ha y List.mem_cons_self
      have := snd_walk (cols := cols) (col := fun n => r.getD n.toNat nullV) (grp := fun _ => (nullV, 0)) (c := (cols.length : Int)) (fun n _ _ => rowK_getD hr n) (fun z _ _ _ => ⟨by show (0 : Nat) ≠ 150; omega, by show (0 : Nat) ≠ 2; omega, snd_null _⟩) y false hy (hkids y List.mem_cons_self)
      rw [if_neg (by simp), kindAll, if_pos hy]
      exact this
  have hsum : x.op = 21 → K = 0 ∨ K = 1 := by
    intro h21
    rw [hK]
    split
    · exact .inr rfl
    · rw [h21] at ht
      unfold togetherB at ht
      rw [if_neg (by omega), if_neg (by omega), if_neg (by omega)] at ht
      cases hl : (kindAll cols false x.kids).1 with
      | nil => exact .inl rfl
      | cons k l =>
        rw [hl] at ht
        unfold allB at ht
        simp only [List.all_cons, Bool.and_eq_true, decide_eq_true_eq] at ht
        exact ht.1
  have hall : ∀ (rs : List (List V)) (s : Tl), (∀ r ∈ rs, RowK cols r) → Kd K s.best → (toldAll x rs s).2 ≠ 150 ∧ (toldAll x rs s).2 ≠ 2 ∧ Kd K (toldAll x rs s).1.best := by
    intro rs
    induction rs with
    | nil => intro s _ hb; exact ⟨by show (0 : Nat) ≠ 150; omega, by show (0 : Nat) ≠ 2; omega, hb⟩
    | cons r rs ih =>
      intro s hr hb
      have ho := hrow r (hr r List.mem_cons_self)
      have hrs : ∀ q ∈ rs, RowK cols q := fun q hq => hr q (List.mem_cons_of_mem _ hq)
      rw [toldAll]
      split
      · exact ⟨ho.1, ho.2.1, hb⟩
      split
      · exact ih s hrs hb
      split
      · rename_i h3 h4
        exfalso
        have h5 := hsum h4.1
        have h6 := ho.2.2
        unfold Kd at h6
        omega
      · refine ih _ hrs ?_
        unfold toldStep
        show Kd K (if _ then _ else _ : V)
        split
        · exact ho.2.2
        · exact hb
  have hA := hall rs ⟨0, 0, nullV⟩ hr (snd_null K)
  unfold toldS
  split
  · unfold toldEnd
    split
    · rename_i h20
      have : opK x.op (kindAll cols false x.kids).1 = 1 := by unfold opK; rw [if_neg (by omega), if_neg (by omega)]
      rw [this]
      exact snd_ok (snd_num _)
    · split
      · rename_i h20 hn
        by_cases h21 : x.op = 21
        · have hone' : opK x.op (kindAll cols false x.kids).1 = 1 := by unfold opK; rw [if_neg (by omega), if_neg (by omega)]
          rw [hone']
          refine snd_ok ?_
          rcases hsum h21 with h | h
          · have := hA.2.2
            rw [h] at this
            exact this.imp id (fun h' => by have := h'; omega) |>.elim .inl .inl
          · rw [h] at hA; exact hA.2.2
        · have hop2 : opK x.op (kindAll cols false x.kids).1 = (kindAll cols false x.kids).1.getD 0 0 := by unfold opK; rw [if_neg (by omega), if_pos (by omega)]
          rw [hop2]
          have hks : x.kids ≠ [] := by
            intro h
            have hb := hone.2.1
            rw [h] at hb
            unfold kidsB at hb
            rw [if_neg (by omega), if_neg (by omega), if_neg (by omega), if_neg (by omega)] at hb
            simp at hb
          rw [if_neg hks] at hK
          rw [← hK]
          exact snd_ok hA.2.2
      · rename_i h20 hn
        have : x.op = 21 := by omega
        have hone' : opK x.op (kindAll cols false x.kids).1 = 1 := by unfold opK; rw [if_neg (by omega), if_neg (by omega)]
        rw [hone']
        exact snd_over _
  · exact ⟨hA.1, hA.2.1, snd_null _⟩
/-- A group. -/
theorem snd_fold {cols : List Nat} {rs : List (List V)} {x : Ex} (h : ∀ r ∈ rs, RowK cols r) (ht : (typeS cols true x).2 = 0) : Snd (typeS cols true x).1 (foldS rs (cols.length : Int) x) := by
  unfold typeS at *
  cases hs : shapedB (cols.length : Int) x
  · rw [hs] at ht
    exact absurd ht (by show ¬ (2 : Nat) = 0; omega)
  · rw [hs] at ht
    rw [if_pos rfl] at ht ⊢
    unfold foldS
    have hl : (rs.all fun r => decide ((r.length : Int) = (cols.length : Int))) = true := List.all_eq_true.2 fun r hr => by rw [(h r hr).1]; simp
    rw [hl, kind_may _ x true ht hs, show (true && true) = true from rfl, if_pos rfl]
    refine snd_walk (c := (cols.length : Int)) (fun n _ _ => ?_) (fun y hg hy hk => told_snd hg hy hk rs h) x true ht hs
    unfold firstCol
    cases rs with
    | nil => exact snd_null _
    | cons r rs => exact rowK_getD (h r List.mem_cons_self) n
end Go.Proofs.Ytaeobillbocemaa.Dt
