/-
  A region that draws its order, by whatever invariant; its own slots' elder values told. Over whatever program.
-/
import Derived.Test.YtcimipebpfajgaaDoorAll
namespace Go.Proofs.YtcimipebpfajgaaDoor.By
open Go.RowKit

/-- The same, with what stands in the slots that the region writes until it does. -/
theorem wp_region_all' {P : Program} {id : Nat} {Q : Exit → Act → World → Prop} {a0 : Act} {w : World} {l : List Oper} (J : (Nat → Bool) → (Nat → Value) → World → Prop) (N : Nat) (hN : a0.tmps.size = N) (hm : P.follows .mixedOrders = true) (hB : mixB .any l.toArray = true)
    (h0 : ∀ us : Nat → Value, (∀ j t, j < l.length → dstOf l.toArray j = some t → us j = a0.eval (.tmp t)) → J (fun _ => false) us w.drew)
    (hops : ∀ i, i < l.length → ∀ (dn : Nat → Bool) (us : Nat → Value) (A : Act) w1, (∀ t, ((List.range l.length).all fun j => dstOf l.toArray j != some t) = true → A.eval (.tmp t) = a0.eval (.tmp t)) → (∀ j t, j < l.length → dstOf l.toArray j = some t → t < N → A.eval (.tmp t) = us j) →
      J dn us w1 → dn i = false → (∀ j o, l.toArray[j]? = some o → dn j = true → ∀ e ∈ o.after, Region.binds .any e = true → dn e.on = true) → (∀ oi, l.toArray[i]? = some oi → ∀ e ∈ oi.after, Region.binds .any e = true → dn e.on = true) →
      wpOp P l.toArray Q i (fun a' w' => ∃ v, a' = A.put (dstOf l.toArray i) v ∧ J (upd dn i) (fun j => if j = i then v else us j) w') A w1)
    (hend : ∀ (dn : Nat → Bool) (us : Nat → Value) w1, (∀ j, j < l.length → dn j = true) → J dn us w1 → Q .normal (putAll l.toArray us l.length a0) w1) :
    (Code.region id l.toArray true).wp P Q a0 w := by
  simp only [mixB, Bool.and_eq_true, List.size_toArray] at hB
  obtain ⟨hap, hback⟩ := hB
  obtain ⟨us0, hus0, husv⟩ : ∃ us : Nat → Value, putAll l.toArray us l.length a0 = a0 ∧ ∀ j t, j < l.length → dstOf l.toArray j = some t → us j = a0.eval (.tmp t) := by
    refine ⟨fun j => ((dstOf l.toArray j).map fun t => a0.tmps.getD t undef).getD undef, ?_, fun j t _ ht => by simp only [ht]; rfl⟩
    have : ∀ k, k ≤ l.length → putAll l.toArray (fun j => ((dstOf l.toArray j).map fun t => a0.tmps.getD t undef).getD undef) k a0 = a0 := by
      intro k
      induction k with
      | zero => intro _; rfl
      | succ k ih =>
        intro hk
        rw [putAll, ih (by omega)]
        exact put_old a0 _
    exact this _ (Nat.le_refl _)
  have hfalse0 : dnOf (Array.replicate l.toArray.size false) = fun _ => false := by
    funext j
    unfold dnOf
    rw [getD_replicate_false]
  refine wp_region_inv hm (fun done a w1 => ∃ us : Nat → Value, a = putAll l.toArray us l.length a0 ∧ J (dnOf done) us w1 ∧ (∀ j o, l.toArray[j]? = some o → dnOf done j = true → ∀ e ∈ o.after, Region.binds .any e = true → dnOf done e.on = true)) ?_ ?_ ?_
  · refine ⟨us0, hus0.symm, by rw [hfalse0]; exact h0 _ husv, fun j o _ hd => ?_⟩
    rw [hfalse0] at hd; cases hd
  · rintro done a w1 i hs ⟨us, rfl, hJ, hcl⟩ hi
    obtain ⟨hlt, hfalse⟩ := ready_false hi
    rw [hs, List.size_toArray] at hlt
    obtain ⟨_, oi, hoi, hafter⟩ := mem_ready.1 hi
    have hupd : dnOf (done.setIfInBounds i true) = upd (dnOf done) i := by
      funext j
      unfold upd
      by_cases hj : j = i
      · subst hj
        unfold dnOf
        simp [show j < done.size by rw [hs, List.size_toArray]; exact hlt]
      · rw [show dnOf (done.setIfInBounds i true) j = dnOf done j from getD_set_ne false (Ne.symm hj)]; simp [hj]
    have hg := hops i hlt (dnOf done) us _ w1 (fun t ht => eval_other us a0 t l.length fun j hj he => by
        have := List.all_eq_true.1 ht j (List.mem_range.2 hj)
        rw [he] at this
        simp at this) (fun j t hj hd ht => eval_at hap us a0 hd (by rw [hN]; exact ht) l.length hj (Nat.le_refl _)) hJ
      (by unfold dnOf; simpa [show i < done.size by rw [hs, List.size_toArray]; exact hlt] using hfalse) hcl
      (fun o ho e he hb => by
        rw [hoi] at ho
        cases ho
        exact hafter e he hb)
    refine wpOp_mono (fun a' w' hK => ?_) hg
    obtain ⟨v, rfl, hJ'⟩ := hK
    rw [putAll_put hap us i v l.length hlt (Nat.le_refl _), hupd]
    refine ⟨_, rfl, hJ', fun j o ho hd e he hb => ?_⟩
    have hup : ∀ x, dnOf done x = true → upd (dnOf done) i x = true := fun x h => by unfold upd; simp [h]
    by_cases hji : j = i
    · subst hji
      rw [hoi] at ho
      cases ho
      exact hup _ (hafter e he hb)
    · exact hup _ (hcl j o ho (by unfold upd at hd; simpa [hji] using hd) e he hb)
  · rintro done a w1 hs ⟨us, rfl, hJ, _⟩ hr
    have hall : ∀ j, j < l.length → dnOf done j = true := by
      intro m
      induction m using Nat.strongRecOn with
      | _ m ih =>
        intro hm'
        cases h : dnOf done m with
        | true => rfl
        | false =>
          exfalso
          have hlt : m < done.size := by rw [hs, List.size_toArray]; exact hm'
          have hi : m ∈ Region.ready .any l.toArray done := by
            obtain ⟨o, ho⟩ : ∃ o, l.toArray[m]? = some o := ⟨l.toArray[m]'(by simpa using hm'), by simp⟩
            refine mem_ready.2 ⟨getD_in hlt h, o, ho, fun e he hb => ?_⟩
            have h1 := List.all_eq_true.1 hback m (List.mem_range.2 hm')
            rw [ho] at h1
            simp only [Option.map_some, Option.getD_some, Array.all_eq_true_iff_forall_mem] at h1
            have h2 := h1 e he
            rw [hb] at h2
            have h3 : e.on < m := by simpa using h2
            exact ih e.on h3 (by omega)
          rw [hr] at hi
          cases hi
    exact hend (dnOf done) us w1 hall hJ

end Go.Proofs.YtcimipebpfajgaaDoor.By
