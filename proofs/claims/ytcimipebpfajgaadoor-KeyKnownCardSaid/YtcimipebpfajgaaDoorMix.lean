/-
  A region that draws its order: each operation reads, makes new memory, or stores into a block that another operation of the region has made (its aim).
  Each is told by what holds of its value, given which operations are finished. Over whatever program.
-/
import Derived.Test.YtcimipebpfajgaaDoorGrow
namespace Go.Proofs.YtcimipebpfajgaaDoor.By
open Go.RowKit

def upd (dn : Nat → Bool) (i : Nat) : Nat → Bool := fun j => decide (j = i) || dn j
def dnOf (done : Array Bool) : Nat → Bool := fun j => done.getD j false

/-- What one operation does. -/
def Does (P : Program) (ops : Array Oper) (Q : Exit → Act → World → Prop) (Pr : (Nat → Bool) → Nat → Value → Nat → Nat → World → Prop) (aim : Nat → Option Nat) (dn : Nat → Bool) (us : Nat → Value) (ss es : Nat → Nat) (i : Nat) (a : Act) (w : World) : Prop :=
  wpOp P ops Q i (fun a' w' => ∃ v, a' = a.put (dstOf ops i) v ∧
    ((aim i = none ∧ Below w.heap.size w w' ∧ Pr (upd dn i) i v w.heap.size w'.heap.size w') ∨
     (∃ t k, aim i = some t ∧ t < ops.size ∧ t ≠ i ∧ dn t = true ∧ ss t ≤ k ∧ k < es t ∧ w.grownBy w' (some k) ∧ w'.heap.size = w.heap.size ∧ Pr (upd dn i) i v w.heap.size w'.heap.size w' ∧ Pr (upd dn i) t (us t) (ss t) (es t) w'))) a w

def mixB (md : Region.Mode) (ops : Array Oper) : Bool := apartB ops ops.size && backB md ops ops.size

theorem wp_region_mix' {P : Program} {id : Nat} {Q : Exit → Act → World → Prop} {a0 : Act} {w : World} {l : List Oper} (Pr : (Nat → Bool) → Nat → Value → Nat → Nat → World → Prop) (aim : Nat → Option Nat) (hm : P.follows .mixedOrders = true) (hB : mixB .any l.toArray = true)
    (hstab : ∀ dn i j v s e w1 w2 r, i ≠ j → aim i ≠ some j → Pr dn j v s e w1 → e ≤ w1.heap.size → w1.grownBy w2 r → (∀ k, r = some k → (k < s ∨ e ≤ k) ∧ aim i ≠ none) → Pr (upd dn i) j v s e w2)
    (hops : ∀ i, i < l.length → ∀ (dn : Nat → Bool) (us : Nat → Value) (ss es : Nat → Nat) (A : Act) w1, (∀ t, ((List.range l.length).all fun j => dstOf l.toArray j != some t) = true → A.eval (.tmp t) = a0.eval (.tmp t)) → (∀ j t, j < l.length → dstOf l.toArray j = some t → t < a0.tmps.size → A.eval (.tmp t) = us j) →
      Below w.heap.size w w1 → dn i = false → (∀ j o, l.toArray[j]? = some o → dn j = true → ∀ e ∈ o.after, Region.binds .any e = true → dn e.on = true) → (∀ oi, l.toArray[i]? = some oi → ∀ e ∈ oi.after, Region.binds .any e = true → dn e.on = true ∧ Pr dn e.on (us e.on) (ss e.on) (es e.on) w1 ∧ w.heap.size ≤ ss e.on ∧ es e.on ≤ w1.heap.size) → Does P l.toArray Q Pr aim dn us ss es i A w1)
    (hend : ∀ (dn : Nat → Bool) (us : Nat → Value) (ss es : Nat → Nat) w1, (∀ j, j < l.length → dn j = true) → Below w.heap.size w w1 → (∀ j, j < l.length → Pr dn j (us j) (ss j) (es j) w1 ∧ w.heap.size ≤ ss j ∧ es j ≤ w1.heap.size) → (∀ i j, i < l.length → j < l.length → i ≠ j → es i ≤ ss j ∨ es j ≤ ss i) → Q .normal (putAll l.toArray us l.length a0) w1) :
    (Code.region id l.toArray true).wp P Q a0 w := by
  simp only [mixB, Bool.and_eq_true, List.size_toArray] at hB
  obtain ⟨hap, hback⟩ := hB
  obtain ⟨us0, hus0⟩ := putAll_old (ops := l.toArray) (n := l.length) a0
  refine wp_region_inv hm (fun done a w1 => ∃ (us : Nat → Value) (ss es : Nat → Nat), a = putAll l.toArray us l.length a0 ∧ Below w.heap.size w w1 ∧ (∀ j, j < l.length → dnOf done j = true → Pr (dnOf done) j (us j) (ss j) (es j) w1 ∧ w.heap.size ≤ ss j ∧ es j ≤ w1.heap.size) ∧
    (∀ i j, i < l.length → j < l.length → dnOf done i = true → dnOf done j = true → i ≠ j → es i ≤ ss j ∨ es j ≤ ss i) ∧ (∀ j o, l.toArray[j]? = some o → dnOf done j = true → ∀ e ∈ o.after, Region.binds .any e = true → dnOf done e.on = true)) ?_ ?_ ?_
  · refine ⟨us0, fun _ => 0, fun _ => 0, (hus0 _ (Nat.le_refl _)).symm, (Below.refl _ _).drew, fun j _ hd => ?_, fun i j _ _ hd => ?_, fun j o _ hd => ?_⟩
    · unfold dnOf at hd; rw [getD_replicate_false] at hd; cases hd
    · unfold dnOf at hd; rw [getD_replicate_false] at hd; cases hd
    · unfold dnOf at hd; rw [getD_replicate_false] at hd; cases hd
  · rintro done a w1 i hs ⟨us, ss, es, rfl, hw, hpr, hdis, hcl⟩ hi
    obtain ⟨hlt, hfalse⟩ := ready_false hi
    rw [hs, List.size_toArray] at hlt
    obtain ⟨_, oi, hoi, hafter⟩ := mem_ready.1 hi
    have hdn : ∀ j, j ≠ i → dnOf (done.setIfInBounds i true) j = dnOf done j := fun j hj => getD_set_ne false (Ne.symm hj)
    have hupd : dnOf (done.setIfInBounds i true) = upd (dnOf done) i := by
      funext j
      unfold upd
      by_cases hj : j = i
      · subst hj
        unfold dnOf
        simp [show j < done.size by rw [hs, List.size_toArray]; exact hlt]
      · rw [hdn j hj]; simp [hj]
    have hback' : ∀ e ∈ oi.after, Region.binds .any e = true → e.on < l.length := by
      intro e he hb
      have h1 := List.all_eq_true.1 hback i (List.mem_range.2 hlt)
      rw [hoi] at h1
      simp only [Option.map_some, Option.getD_some, Array.all_eq_true_iff_forall_mem] at h1
      have h2 := h1 e he
      rw [hb] at h2
      have : e.on < i := by simpa using h2
      omega
    have hg := hops i hlt (dnOf done) us ss es _ w1 (fun t ht => eval_other us a0 t l.length fun j hj he => by
        have := List.all_eq_true.1 ht j (List.mem_range.2 hj)
        rw [he] at this
        simp at this) (fun j t hj hd ht => eval_at hap us a0 hd ht l.length hj (Nat.le_refl _)) hw
      (by unfold dnOf; simpa [show i < done.size by rw [hs, List.size_toArray]; exact hlt] using hfalse) hcl
      (fun o ho e he hb => by
        rw [hoi] at ho
        cases ho
        have hd : dnOf done e.on = true := hafter e he hb
        exact ⟨hd, hpr e.on (hback' e he hb) hd⟩)
    refine wpOp_mono (fun a' w' hK => ?_) hg
    obtain ⟨v, rfl, hcase⟩ := hK
    rw [putAll_put hap us i v l.length hlt (Nat.le_refl _), hupd]
    -- in either case: what was, and what is new
    have hnew : ∃ r, w1.grownBy w' r ∧ w1.heap.size ≤ w'.heap.size ∧ (∀ k, r = some k → w.heap.size ≤ k ∧ ∃ t, aim i = some t ∧ t < l.length ∧ t ≠ i ∧ dnOf done t = true ∧ ss t ≤ k ∧ k < es t) ∧ Pr (upd (dnOf done) i) i v w1.heap.size w'.heap.size w' ∧
        (∀ t, aim i = some t → t < l.length → dnOf done t = true → t ≠ i → Pr (upd (dnOf done) i) t (us t) (ss t) (es t) w') := by
      rcases hcase with ⟨ha, hb, hp⟩ | ⟨t, k, ha, ht, hti, hdt, hk1, hk2, hgr, hsz, hp, hpt⟩
      · refine ⟨none, ⟨hb.os, hb.tape, hb.output, hb.size, fun i hi _ => hb.block i hi⟩, hb.size, (fun k hk => by cases hk), hp, (fun t h => by rw [ha] at h; cases h)⟩
      · rw [List.size_toArray] at ht
        refine ⟨some k, hgr, by omega, fun k' hk' => ?_, hp, fun t' h _ _ _ => ?_⟩
        · cases hk'
          exact ⟨Nat.le_trans (hpr t ht hdt).2.1 hk1, t, ha, ht, hti, hdt, hk1, hk2⟩
        · rw [ha] at h; cases h; exact hpt
    obtain ⟨r, hgr, hsz, hr, hp, htgt⟩ := hnew
    refine ⟨_, fun j => if j = i then w1.heap.size else ss j, fun j => if j = i then w'.heap.size else es j, rfl, hw.grown hgr hw.size (fun k hk => (hr k hk).1), fun j hj hd => ?_, fun p q hp' hq hdp hdq hpq => ?_, fun j o ho hd e he hb => ?_⟩
    · by_cases hji : j = i
      · subst hji
        simp only [if_true]
        exact ⟨hp, hw.size, Nat.le_refl _⟩
      · simp only [if_neg hji]
        have hd' : dnOf done j = true := by unfold upd at hd; simpa [hji] using hd
        have h3 := hpr j hj hd'
        refine ⟨?_, h3.2.1, Nat.le_trans h3.2.2 hsz⟩
        by_cases hta : aim i = some j
        · exact htgt j hta hj hd' hji
        · refine hstab _ i j _ _ _ _ _ r (Ne.symm hji) hta h3.1 h3.2.2 hgr fun k hk => ?_
          obtain ⟨_, t, hat, ht, _, hdt, hk1, hk2⟩ := hr k hk
          have htj : t ≠ j := fun h => hta (h ▸ hat)
          have := hdis t j ht hj hdt hd' htj
          exact ⟨by omega, by rw [hat]; exact fun h => by cases h⟩
    · have hd' : ∀ x, x ≠ i → upd (dnOf done) i x = true → dnOf done x = true := fun x hx h => by unfold upd at h; simpa [hx] using h
      by_cases hpi : p = i
      · subst hpi
        have hqp : q ≠ p := fun h => hpq h.symm
        simp only [if_true, if_neg hqp]
        exact .inr (hpr q hq (hd' q hqp hdq)).2.2
      · by_cases hqi : q = i
        · subst hqi
          simp only [if_true, if_neg hpi]
          exact .inl (hpr p hp' (hd' p hpi hdp)).2.2
        · simp only [if_neg hpi, if_neg hqi]
          exact hdis p q hp' hq (hd' p hpi hdp) (hd' q hqi hdq) hpq
    · have hup : ∀ x, dnOf done x = true → upd (dnOf done) i x = true := fun x h => by unfold upd; simp [h]
      by_cases hji : j = i
      · subst hji
        rw [hoi] at ho
        cases ho
        exact hup _ (hafter e he hb)
      · exact hup _ (hcl j o ho (by unfold upd at hd; simpa [hji] using hd) e he hb)
  · rintro done a w1 hs ⟨us, ss, es, rfl, hw, hpr, hdis, _⟩ hr
    have hall : ∀ j, j < l.length → dnOf done j = true := by
      have least : ∀ m, m < l.length → dnOf done m = true := by
        intro m
        induction m using Nat.strongRecOn with
        | _ m ih =>
          intro hm'
          cases h : dnOf done m with
          | true => rfl
          | false =>
            exfalso
            have hlt : m < done.size := by rw [hs, List.size_toArray]; exact hm'
            have hi : m ∈ Region.ready .any l.toArray done := by
              obtain ⟨o, ho⟩ : ∃ o, l.toArray[m]? = some o := ⟨l.toArray[m]'(by simpa using hm'), by simp⟩
              refine mem_ready.2 ⟨getD_in hlt h, o, ho, fun e he hb => ?_⟩
              have h1 := List.all_eq_true.1 hback m (List.mem_range.2 hm')
              rw [ho] at h1
              simp only [Option.map_some, Option.getD_some, Array.all_eq_true_iff_forall_mem] at h1
              have h2 := h1 e he
              rw [hb] at h2
              have h3 : e.on < m := by simpa using h2
              exact ih e.on h3 (by omega)
            rw [hr] at hi
            cases hi
      exact least
    exact hend (dnOf done) us ss es w1 hall hw (fun j hj => hpr j hj (hall j hj)) (fun i j hi hj => hdis i j hi hj (hall i hi) (hall j hj))

theorem wp_region_mix {P : Program} {id : Nat} {Q : Exit → Act → World → Prop} {a0 : Act} {w : World} {l : List Oper} (Pr : (Nat → Bool) → Nat → Value → Nat → Nat → World → Prop) (aim : Nat → Option Nat) (hm : P.follows .mixedOrders = true) (hB : mixB .any l.toArray = true)
    (hstab : ∀ dn i j v s e w1 w2 r, i ≠ j → aim i ≠ some j → Pr dn j v s e w1 → e ≤ w1.heap.size → w1.grownBy w2 r → (∀ k, r = some k → k < s ∨ e ≤ k) → Pr (upd dn i) j v s e w2)
    (hops : ∀ i, i < l.length → ∀ (dn : Nat → Bool) (us : Nat → Value) (ss es : Nat → Nat) (A : Act) w1, (∀ t, ((List.range l.length).all fun j => dstOf l.toArray j != some t) = true → A.eval (.tmp t) = a0.eval (.tmp t)) → (∀ j t, j < l.length → dstOf l.toArray j = some t → t < a0.tmps.size → A.eval (.tmp t) = us j) →
      Below w.heap.size w w1 → dn i = false → (∀ j o, l.toArray[j]? = some o → dn j = true → ∀ e ∈ o.after, Region.binds .any e = true → dn e.on = true) → (∀ oi, l.toArray[i]? = some oi → ∀ e ∈ oi.after, Region.binds .any e = true → dn e.on = true ∧ Pr dn e.on (us e.on) (ss e.on) (es e.on) w1 ∧ w.heap.size ≤ ss e.on ∧ es e.on ≤ w1.heap.size) → Does P l.toArray Q Pr aim dn us ss es i A w1)
    (hend : ∀ (dn : Nat → Bool) (us : Nat → Value) (ss es : Nat → Nat) w1, (∀ j, j < l.length → dn j = true) → Below w.heap.size w w1 → (∀ j, j < l.length → Pr dn j (us j) (ss j) (es j) w1 ∧ w.heap.size ≤ ss j ∧ es j ≤ w1.heap.size) → (∀ i j, i < l.length → j < l.length → i ≠ j → es i ≤ ss j ∨ es j ≤ ss i) → Q .normal (putAll l.toArray us l.length a0) w1) :
    (Code.region id l.toArray true).wp P Q a0 w :=
  wp_region_mix' Pr aim hm hB (fun dn i j v s e w1 w2 r h1 h2 h3 h4 h5 h6 => hstab dn i j v s e w1 w2 r h1 h2 h3 h4 h5 fun k hk => (h6 k hk).1) hops hend

section
variable {P : Program} {ops : Array Oper} {Q : Exit → Act → World → Prop} {Pr : (Nat → Bool) → Nat → Value → Nat → Nat → World → Prop} {aim : Nat → Option Nat} {dn : Nat → Bool} {us : Nat → Value} {ss es : Nat → Nat} {i : Nat} {a : Act} {w : World} {o : Oper}
/-- It hands back a value and makes at most new memory. -/
theorem does_val (ho : ops[i]? = some o) (hg : o.guard = none) (ha : aim i = none) (v : Value) (w' : World) (hrun : (execOp a.eval o).run P w = .ok (.value v) w') (hb : Below w.heap.size w w') (hp : Pr (upd dn i) i v w.heap.size w'.heap.size w') : Does P ops Q Pr aim dn us ss es i a w := by
  unfold Does wpOp
  simp only [ho]
  rw [if_pos (by unfold Region.wanted; rw [hg])]
  refine .inl ?_
  unfold Oper.wp
  rw [hrun, Oper.upon_value]
  exact ⟨v, by unfold dstOf; rw [ho]; rfl, .inl ⟨ha, hb, hp⟩⟩
/-- It stores into its aim's block. -/
theorem does_store (ho : ops[i]? = some o) (hg : o.guard = none) (t k : Nat) (ha : aim i = some t) (ht : t < ops.size) (hti : t ≠ i) (hdt : dn t = true) (hk1 : ss t ≤ k) (hk2 : k < es t) (w' : World) (hrun : (execOp a.eval o).run P w = .ok .skip w') (hgr : w.grownBy w' (some k)) (hsz : w'.heap.size = w.heap.size)
    (hp : Pr (upd dn i) i undef w.heap.size w'.heap.size w') (hpt : Pr (upd dn i) t (us t) (ss t) (es t) w') : Does P ops Q Pr aim dn us ss es i a w := by
  unfold Does wpOp
  simp only [ho]
  rw [if_pos (by unfold Region.wanted; rw [hg])]
  refine .inl ?_
  unfold Oper.wp
  rw [hrun, Oper.upon_skip]
  exact ⟨undef, by unfold dstOf; rw [ho]; rfl, .inr ⟨t, k, ha, ht, hti, hdt, hk1, hk2, hgr, hsz, hp, hpt⟩⟩
/-- It calls what makes at most new memory. -/
theorem does_call (ho : ops[i]? = some o) (hg : o.guard = none) (ha : aim i = none) (f : FuncId) (args : Array Value) (hrun : (execOp a.eval o).run P w = .ok (.enter f args) w) (hc : Calls P f args w fun e w' => ∃ v, e = .returned v ∧ Below w.heap.size w w' ∧ Pr (upd dn i) i v w.heap.size w'.heap.size w') : Does P ops Q Pr aim dn us ss es i a w := by
  unfold Does wpOp
  simp only [ho]
  rw [if_pos (by unfold Region.wanted; rw [hg])]
  refine .inl ?_
  unfold Oper.wp
  rw [hrun, Oper.upon_enter]
  refine hc.mono ?_
  rintro e w' ⟨v, rfl, hb, hp⟩
  exact ⟨v, by unfold dstOf; rw [ho]; rfl, .inl ⟨ha, hb, hp⟩⟩
end
theorem grown_set (w : World) (k i : Nat) (u : Value) : w.grownBy (w.setCell ⟨k, i, none⟩ u) (some k) :=
  ⟨rfl, rfl, rfl, by simp, fun j _ hne => by
    unfold World.setCell
    rw [Array.getElem?_modify, if_neg (fun e => hne (congrArg some e.symm))]⟩
theorem grown_trans {w w1 w2 : World} {r : Option Nat} (h : w.grownBy w1 r) (k : w1.grownBy w2 r) : w.grownBy w2 r :=
  ⟨k.os.trans h.os, k.tape.trans h.tape, k.output.trans h.output, Nat.le_trans h.size k.size, fun j hj hne => (k.block j (Nat.lt_of_lt_of_le hj h.size) hne).trans (h.block j hj hne)⟩
end Go.Proofs.YtcimipebpfajgaaDoor.By
