/-
  What is told of two groups together: plain laws, no program in sight.
-/
import Derived.Test.YtclkpbokngamiaaExSpec
namespace Go.Proofs.Ytclkpbokngamiaa.Dt
open Go.RowKit Go.Proofs.Ytclkpbokngamiaa.By

theorem cmpI_mid {v x y : Int} (h : cmpI v x < 0) (h2 : ¬ cmpI y x < 0) : cmpI v y < 0 := by
  unfold cmpI at *
  have a : v < x := by
    by_cases h1 : v < x
    · exact h1
    · rw [if_neg h1] at h; split at h <;> omega
  have b : ¬ y < x := by
    intro h1; rw [if_pos h1] at h2; omega
  rw [if_pos (by omega)]; omega
theorem cmpL_mid : ∀ v x y : List UInt8, cmpL v x < 0 → ¬ cmpL y x < 0 → cmpL v y < 0
  | [], [], _, h, _ => by simp [cmpL] at h
  | _ :: _, [], _, h, _ => by simp [cmpL] at h
  | [], _ :: _, [], _, h2 => by simp [cmpL] at h2
  | [], _ :: _, _ :: _, _, _ => by simp [cmpL]
  | _ :: _, _ :: _, [], _, h2 => by simp [cmpL] at h2
  | v :: vs, x :: xs, y :: ys, h, h2 => by
    unfold cmpL at *
    have e : ∀ p q : UInt8, p < q ↔ p.toNat < q.toNat := fun p q => UInt8.lt_iff_toNat_lt
    simp only [e] at *
    by_cases h3 : y.toNat < x.toNat
    · rw [if_pos h3] at h2; omega
    rw [if_neg h3] at h2
    by_cases h1 : v.toNat < x.toNat
    · rw [if_pos (by omega)]; omega
    rw [if_neg h1] at h
    by_cases h4 : x.toNat < v.toNat
    · rw [if_pos h4] at h; omega
    rw [if_neg h4] at h
    by_cases h5 : x.toNat < y.toNat
    · rw [if_pos (by omega)]; omega
    rw [if_neg h5] at h2
    rw [if_neg (by omega), if_neg (by omega)]
    exact cmpL_mid vs xs ys h h2
theorem cmpV_mid {v x y : V} (h : cmpV v x < 0) (h2 : ¬ cmpV y x < 0) : cmpV v y < 0 := by
  unfold cmpV at *
  by_cases hvx : v.k = x.k
  · rw [if_neg (by simpa using hvx)] at h
    by_cases hyx : y.k = x.k
    · rw [if_neg (by simpa using hyx)] at h2
      rw [if_neg (by simp; omega)]
      rw [hyx] at h2
      rw [hvx] at h ⊢
      by_cases h1 : x.k = 1
      · rw [if_pos h1] at *; exact cmpI_mid h h2
      · rw [if_neg h1] at *
        by_cases h3 : x.k = 2 ∨ x.k = 3
        · rw [if_pos h3] at *; exact cmpL_mid _ _ _ h h2
        · rw [if_neg h3] at h; omega
    · rw [if_pos (by simpa using hyx)] at h2
      rw [if_pos (by simp; omega)]
      have : ¬ (y.k : Int) < (x.k : Int) := by intro h1; unfold cmpI at h2; rw [if_pos h1] at h2; omega
      unfold cmpI
      rw [if_pos (by omega)]; omega
  · rw [if_pos (by simpa using hvx)] at h
    have h1 : (v.k : Int) < (x.k : Int) := by
      unfold cmpI at h
      by_cases h3 : (v.k : Int) < (x.k : Int)
      · exact h3
      · rw [if_neg h3] at h; split at h <;> omega
    have h4 : x.k ≤ y.k := by
      by_cases hyx : y.k = x.k
      · omega
      · rw [if_pos (by simpa using hyx)] at h2
        have : ¬ (y.k : Int) < (x.k : Int) := by intro h1; unfold cmpI at h2; rw [if_pos h1] at h2; omega
        omega
    rw [if_pos (by simp; omega)]
    unfold cmpI
    rw [if_pos (by omega)]; omega

/-- The least one, of which the elder stays. -/
def minOf (b : V) : List V → V
  | [] => b
  | v :: l => if cmpV v b < 0 then minOf v l else minOf b l
theorem minOf_or : ∀ (l : List V) (x y : V), ¬ cmpV y x < 0 → minOf x l = x ∨ minOf x l = minOf y l
  | [], _, _, _ => .inl rfl
  | v :: l, x, y, h => by
    unfold minOf
    by_cases hv : cmpV v x < 0
    · rw [if_pos hv, if_pos (cmpV_mid hv h)]; exact .inr rfl
    · rw [if_neg hv]
      by_cases hy : cmpV v y < 0
      · rw [if_pos hy]; exact minOf_or l x v hv
      · rw [if_neg hy]; exact minOf_or l x y h
theorem minOf_app (b : V) : ∀ (l m : List V), minOf b (l ++ m) = minOf (minOf b l) m
  | [], _ => rfl
  | v :: l, m => by
    rw [List.cons_append, minOf, minOf]
    split
    · exact minOf_app v l m
    · exact minOf_app b l m

/-- The values that count. -/
def someOf (rs : List (List V)) : List V := (rs.map fun r => r.getD 0 nullV).filter fun v => decide (v.k ≠ 0)
theorem someOf_app (a b : List (List V)) : someOf (a ++ b) = someOf a ++ someOf b := by simp [someOf]
theorem someOf_len (rs : List (List V)) : (someOf rs).length ≤ rs.length := by
  unfold someOf
  refine Nat.le_trans (List.length_filter_le _ _) ?_
  simp
theorem someOf_cons (r : List V) (rs : List (List V)) : someOf (r :: rs) = if (r.getD 0 nullV).k = 0 then someOf rs else r.getD 0 nullV :: someOf rs := by
  unfold someOf
  rw [List.map_cons, List.filter_cons]
  by_cases h : (r.getD 0 nullV).k = 0
  · rw [if_pos h, if_neg (by simpa using h)]
  · rw [if_neg h, if_pos (by simpa using h)]
def badSum (op : Nat) (rs : List (List V)) : Bool := decide (op = 21) && (someOf rs).any fun v => decide (v.k ≠ 1)
theorem toldAll_some (op : Nat) (kv : Value) : ∀ (rs : List (List V)) (s : Tl),
    ((toldAll (exOf op kv [exC 0]) rs s).2 = 0 ↔ badSum op rs = false) ∧ (badSum op rs = false → (toldAll (exOf op kv [exC 0]) rs s).1 = (someOf rs).foldl (toldStep op) s)
  | [], s => by simp [toldAll, badSum, someOf]
  | r :: rs, s => by
    have h1 := one_C op kv r
    have e1 : (oneS (exOf op kv [exC 0]) r).2 = 0 := by rw [h1]
    have hop : (exOf op kv [exC 0]).op = op := rfl
    by_cases h0 : (r.getD 0 nullV).k = 0
    · rw [toldAll_null e1 (by rw [h1]; exact h0)]
      have hb : badSum op (r :: rs) = badSum op rs := by unfold badSum; rw [someOf_cons, if_pos h0]
      rw [hb, someOf_cons, if_pos h0]
      exact toldAll_some op kv rs s
    · by_cases h2 : op = 21 ∧ (r.getD 0 nullV).k ≠ 1
      · rw [toldAll_type e1 (by rw [h1]; exact h0) h2.1 (by rw [h1]; exact h2.2)]
        have hb : badSum op (r :: rs) = true := by unfold badSum; rw [someOf_cons, if_neg h0, decide_eq_true h2.1, List.any_cons, decide_eq_true h2.2]; rfl
        rw [hb]
        simp
      · rw [toldAll_step e1 (by rw [h1]; exact h0) (by rw [h1]; exact h2), h1]
        have hb : badSum op (r :: rs) = badSum op rs := by
          unfold badSum
          rw [someOf_cons, if_neg h0, List.any_cons]
          by_cases h3 : op = 21
          · have : (r.getD 0 nullV).k = 1 := by
              by_cases h4 : (r.getD 0 nullV).k = 1
              · exact h4
              · exact absurd ⟨h3, h4⟩ h2
            rw [decide_eq_false (show ¬ (r.getD 0 nullV).k ≠ 1 from fun h => h this), Bool.false_or]
          · simp [h3]
        rw [hb, someOf_cons, if_neg h0, List.foldl_cons]
        exact toldAll_some op kv rs _
theorem fold_n (op : Nat) : ∀ (l : List V) (s : Tl), (l.foldl (toldStep op) s).n = s.n + l.length
  | [], _ => rfl
  | v :: l, s => by rw [List.foldl_cons, fold_n op l, List.length_cons]; show s.n + 1 + _ = _; omega
def sumOf (l : List V) : Int := l.foldr (fun v t => v.n + t) 0
theorem sumOf_app : ∀ l m : List V, sumOf (l ++ m) = sumOf l + sumOf m
  | [], m => by simp [sumOf]
  | v :: l, m => by
    have := sumOf_app l m
    unfold sumOf at *
    rw [List.cons_append, List.foldr_cons, List.foldr_cons, this]; omega
theorem fold_t (op : Nat) : ∀ (l : List V) (s : Tl), (l.foldl (toldStep op) s).t = s.t + sumOf l
  | [], s => by simp [sumOf]
  | v :: l, s => by rw [List.foldl_cons, fold_t op l]; show s.t + v.n + _ = s.t + sumOf (v :: l); unfold sumOf; rw [List.foldr_cons]; omega
theorem fold_min : ∀ (l : List V) (s : Tl), s.n ≠ 0 → (l.foldl (toldStep 22) s).best = minOf s.best l
  | [], _, _ => rfl
  | v :: l, s, h => by
    rw [List.foldl_cons, fold_min l _ (by show s.n + 1 ≠ 0; omega)]
    show minOf (if bestB 22 s v = true then v else s.best) l = _
    have hb : bestB 22 s v = decide (cmpV v s.best < 0) := by simp [bestB, h]
    rw [hb, minOf]
    by_cases hc : cmpV v s.best < 0 <;> simp [hc]
theorem fold_sum0 : ∀ (l : List V) (s : Tl), s.n = 0 → l = [] → (l.foldl (toldStep 21) s).best = s.best
  | [], _, _, _ => rfl
def minV : List V → V
  | [] => nullV
  | v :: l => minOf v l
theorem fold_minV (l : List V) : (l.foldl (toldStep 22) ⟨0, 0, nullV⟩).best = minV l := by
  cases l with
  | nil => rfl
  | cons v l => rw [List.foldl_cons, fold_min l _ (by show 0 + 1 ≠ 0; omega)]; rfl
theorem minV_app (l m : List V) : minV (l ++ m) = minV l ∨ minV (l ++ m) = minV m := by
  cases l with
  | nil => exact .inr rfl
  | cons x l =>
    cases m with
    | nil => rw [List.append_nil]; exact .inl rfl
    | cons y m =>
      show minOf x (l ++ y :: m) = minOf x l ∨ minOf x (l ++ y :: m) = minOf y m
      rw [minOf_app, minOf]
      by_cases h : cmpV y (minOf x l) < 0
      · rw [if_pos h]; exact .inr rfl
      · rw [if_neg h]; exact minOf_or m _ y h

/-- What a fold of one column comes to. -/
theorem fold_ok {rs : List (List V)} {op : Nat} {kv : Value} (h20 : 20 ≤ op) (h23 : op ≤ 23) (he : (foldS rs 1 (exOf op kv [exC 0])).2 = 0) :
    badSum op rs = false ∧ foldS rs 1 (exOf op kv [exC 0]) = toldEnd op ((someOf rs).foldl (toldStep op) ⟨0, 0, nullV⟩) := by
  rw [fold_one _ _ h20 h23 (by omega)] at he ⊢
  split at he
  · rename_i hl
    rw [if_pos hl]
    unfold toldS at he ⊢
    obtain ⟨h1, h2⟩ := toldAll_some op kv rs ⟨0, 0, nullV⟩
    have hb : badSum op rs = false := by
      cases hb : badSum op rs with
      | false => rfl
      | true =>
        exfalso
        rw [hb] at h1
        have h3 : (toldAll (exOf op kv [exC 0]) rs ⟨0, 0, nullV⟩).2 ≠ 0 := fun h => by have := h1.1 h; cases this
        rw [if_neg h3] at he
        exact h3 he
    refine ⟨hb, ?_⟩
    rw [if_pos (h1.2 hb), h2 hb]
    rfl
  · cases he
section
variable {a b : List (List V)} {kv : Value}
theorem join_count (ka kb kc : Value) (ha : (foldS a 1 (exOf 20 ka [exC 0])).2 = 0) (hb : (foldS b 1 (exOf 20 kb [exC 0])).2 = 0) (hc : (foldS (a ++ b) 1 (exOf 20 kc [exC 0])).2 = 0) :
    (foldS (a ++ b) 1 (exOf 20 kc [exC 0])).1.n = (foldS a 1 (exOf 20 ka [exC 0])).1.n + (foldS b 1 (exOf 20 kb [exC 0])).1.n ∧ (foldS a 1 (exOf 20 ka [exC 0])).1.n = ((someOf a).length : Int) ∧ (foldS b 1 (exOf 20 kb [exC 0])).1.n = ((someOf b).length : Int) := by
  rw [(fold_ok (by omega) (by omega) ha).2, (fold_ok (by omega) (by omega) hb).2, (fold_ok (by omega) (by omega) hc).2, someOf_app]
  simp only [toldEnd, if_true, fold_n, Nat.zero_add, List.length_append]
  refine ⟨?_, rfl, rfl⟩
  show (((someOf a).length + (someOf b).length : Nat) : Int) = ((someOf a).length : Int) + ((someOf b).length : Int)
  omega
theorem over_ok {t : Int} (h : (overS t).2 = 0) : overS t = (numV t, 0) ∧ inR t := by
  unfold overS at *
  split at h
  · rename_i h1; rw [if_pos h1]; exact ⟨rfl, h1⟩
  · cases h
theorem sum_ok {rs : List (List V)} {kv : Value} (h : (foldS rs 1 (exOf 21 kv [exC 0])).2 = 0) :
    (foldS rs 1 (exOf 21 kv [exC 0])).1.n = sumOf (someOf rs) ∧ inR (sumOf (someOf rs)) ∧ ((foldS rs 1 (exOf 21 kv [exC 0])).1.k = 0 ↔ someOf rs = []) := by
  have hf := (fold_ok (by omega) (by omega) h).2
  rw [hf] at h ⊢
  unfold toldEnd at h ⊢
  rw [if_neg (by omega)] at h ⊢
  simp only [fold_n, fold_t, Nat.zero_add, Int.zero_add] at h ⊢
  by_cases hl : someOf rs = []
  · rw [hl]
    simp [sumOf, inR, nullV]
  · have hl2 : ¬ ((someOf rs).length = 0 ∨ (21 : Nat) ≠ 21) := by simp [hl]
    rw [if_neg hl2] at h ⊢
    obtain ⟨h1, h2⟩ := over_ok h
    rw [h1]
    refine ⟨rfl, h2, ?_⟩
    simp [numV, hl]
theorem join_sum (ka kb kc : Value) (ha : (foldS a 1 (exOf 21 ka [exC 0])).2 = 0) (hb : (foldS b 1 (exOf 21 kb [exC 0])).2 = 0) (hc : (foldS (a ++ b) 1 (exOf 21 kc [exC 0])).2 = 0) :
    (foldS (a ++ b) 1 (exOf 21 kc [exC 0])).1.n = (foldS a 1 (exOf 21 ka [exC 0])).1.n + (foldS b 1 (exOf 21 kb [exC 0])).1.n ∧ inR ((foldS a 1 (exOf 21 ka [exC 0])).1.n + (foldS b 1 (exOf 21 kb [exC 0])).1.n) ∧
    ((foldS (a ++ b) 1 (exOf 21 kc [exC 0])).1.k = 0 ↔ (foldS a 1 (exOf 21 ka [exC 0])).1.k = 0 ∧ (foldS b 1 (exOf 21 kb [exC 0])).1.k = 0) := by
  obtain ⟨a1, a2, a3⟩ := sum_ok ha
  obtain ⟨b1, b2, b3⟩ := sum_ok hb
  obtain ⟨c1, c2, c3⟩ := sum_ok hc
  rw [someOf_app, sumOf_app] at c1 c2
  rw [someOf_app] at c3
  rw [a1, b1, c1, a3, b3, c3]
  exact ⟨rfl, c2, by simp⟩
theorem join_min (ka kb kc : Value) (ha : (foldS a 1 (exOf 22 ka [exC 0])).2 = 0) (hb : (foldS b 1 (exOf 22 kb [exC 0])).2 = 0) (hc : (foldS (a ++ b) 1 (exOf 22 kc [exC 0])).2 = 0) :
    (foldS (a ++ b) 1 (exOf 22 kc [exC 0])).1 = (foldS a 1 (exOf 22 ka [exC 0])).1 ∨ (foldS (a ++ b) 1 (exOf 22 kc [exC 0])).1 = (foldS b 1 (exOf 22 kb [exC 0])).1 := by
  rw [(fold_ok (by omega) (by omega) ha).2, (fold_ok (by omega) (by omega) hb).2, (fold_ok (by omega) (by omega) hc).2, someOf_app]
  have e : ∀ s : Tl, toldEnd 22 s = (s.best, 0) := fun s => by simp [toldEnd]
  rw [e, e, e, fold_minV, fold_minV, fold_minV]
  exact minV_app _ _
end
end Go.Proofs.Ytclkpbokngamiaa.Dt
