import Derived.Deep.DeepCutAuto
import Derived.Test.YtjgkeillmelkoaaGreatBk03
import Derived.Test.YtjgkeillmelkoaaGreatBk04
import Derived.Test.YtjgkeillmelkoaaGreatBk02
namespace Go.Proofs.YtjgkeillmelkoaaGreat.By
open Go.RowKit

def dstOf (ops : Array Oper) (j : Nat) : Option Tmp := (ops[j]?).bind (·.dst)
/-- The frame with the first 'k' operations' values put. -/
def putAll (ops : Array Oper) (us : Nat → Value) : Nat → Act → Act
  | 0, a => a
  | k + 1, a => (putAll ops us k a).put (dstOf ops k) (us k)
/-- No two of the first 'n' operations write one slot. -/
def apartB (ops : Array Oper) (n : Nat) : Bool := (List.range n).all fun i => (List.range i).all fun j => (dstOf ops j).isNone || dstOf ops j != dstOf ops i
theorem apart_spec {ops : Array Oper} {n i j : Nat} (h : apartB ops n = true) (hi : i < n) (hj : j < i) : ∀ d, dstOf ops j = some d → dstOf ops i ≠ some d := by
  intro d hd he
  have := List.all_eq_true.1 (List.all_eq_true.1 h i (List.mem_range.2 hi)) j (List.mem_range.2 hj)
  rw [hd, he] at this
  simp at this
theorem put_put (a : Act) (d : Option Tmp) (u v : Value) : (a.put d u).put d v = a.put d v := by
  cases d with
  | none => rfl
  | some d => simp [Act.put]
theorem put_old (a : Act) (d : Option Tmp) : a.put d ((d.map fun t => a.tmps.getD t undef).getD undef) = a := by
  cases d with
  | none => rfl
  | some d =>
    unfold Act.put
    simp only [Option.map_some, Option.getD_some]
    cases a with
    | mk tmps defers =>
      simp only [Act.mk.injEq, and_true]
      apply Array.ext_getElem?
      intro i
      rw [Array.getElem?_setIfInBounds]
      split
      · rename_i h
        subst h
        split
        · rename_i h2; simp [h2]
        · rename_i h2; rw [Array.getElem?_eq_none (by omega)]
      · rfl

section
variable {ops : Array Oper} {n : Nat}
/-- What is put later does not come between. -/
theorem putAll_put (h : apartB ops n = true) (us : Nat → Value) (i : Nat) (v : Value) : ∀ k, i < k → k ≤ n → ∀ a, (putAll ops us k a).put (dstOf ops i) v = putAll ops (fun j => if j = i then v else us j) k a
  | 0, hi, _, _ => by omega
  | k + 1, hi, hk, a => by
    have hlow : ∀ m, m ≤ i → ∀ a, putAll ops (fun j => if j = i then v else us j) m a = putAll ops us m a := by
      intro m
      induction m with
      | zero => intro _ a; rfl
      | succ m ih =>
        intro hm a
        rw [putAll, putAll, ih (by omega), if_neg (by omega)]
    by_cases he : i = k
    · subst he
      rw [putAll, putAll, put_put, hlow i (Nat.le_refl _), if_pos rfl]
    · rw [putAll, putAll, ← putAll_put h us i v k (by omega) (by omega) a, if_neg (by omega)]
      refine (Act.put_comm _ _ _ ?_)
      exact fun d hd he' => apart_spec h (show k < n by omega) (show i < k by omega) d he' hd
theorem putAll_old (a0 : Act) : ∃ us : Nat → Value, ∀ k, k ≤ n → putAll ops us k a0 = a0 := by
  refine ⟨fun j => ((dstOf ops j).map fun t => a0.tmps.getD t undef).getD undef, fun k => ?_⟩
  induction k with
  | zero => intro _; rfl
  | succ k ih =>
    intro hk
    rw [putAll, ih (by omega)]
    exact put_old a0 _
end

/-- The first operations wait for earlier ones alone. -/
def backB (md : Region.Mode) (ops : Array Oper) (n : Nat) : Bool := (List.range n).all fun i => ((ops[i]?).map fun o => o.after.all fun e => !Region.binds md e || decide (e.on < i)).getD true
def growB (md : Region.Mode) (ops : Array Oper) (n : Nat) : Bool :=
  decide (n < ops.size) && Region.sinkB md ops n && Region.chainB md ops n && apartB ops n && backB md ops n && Region.seqB md ops (ops.size - n) n (Array.replicate n true ++ Array.replicate (ops.size - n) false)

/-- What one of the first operations does: it hands back a value of which 'Pr' holds (with the heap's sizes ahead of it and behind it), and makes new memory alone. -/
def Grows (P : Program) (ops : Array Oper) (Q : Exit → Act → World → Prop) (Pr : Nat → Value → Nat → Nat → World → Prop) (i : Nat) (a : Act) (w : World) : Prop :=
  wpOp P ops Q i (fun a' w' => ∃ v, a' = a.put (dstOf ops i) v ∧ Below w.heap.size w w' ∧ Pr i v w.heap.size w'.heap.size w') a w

theorem wp_region_grow {P : Program} {id : Nat} {Q : Exit → Act → World → Prop} {a0 : Act} {w : World} {l : List Oper} (n : Nat) (Pr : Nat → Value → Nat → Nat → World → Prop) (hm : P.follows .mixedOrders = true) (hB : growB .any l.toArray n = true)
    (hstab : ∀ j v s e w1 w2, Pr j v s e w1 → Below w1.heap.size w1 w2 → Pr j v s e w2)
    (hops : ∀ i, i < n → ∀ (us : Nat → Value) (ss es : Nat → Nat) w1, Below w.heap.size w w1 → (∀ oi, l.toArray[i]? = some oi → ∀ e ∈ oi.after, Region.binds .any e = true → Pr e.on (us e.on) (ss e.on) (es e.on) w1) → Grows P l.toArray Q Pr i (putAll l.toArray us n a0) w1)
    (htail : ∀ (us : Nat → Value) (ss es : Nat → Nat) w1, Below w.heap.size w w1 → (∀ j, j < n → Pr j (us j) (ss j) (es j) w1) → (∀ j, j < n → w.heap.size ≤ ss j ∧ es j ≤ w1.heap.size) → (∀ i j, i < n → j < n → i ≠ j → es i ≤ ss j ∨ es j ≤ ss i) → wpList P l.toArray Q (l.drop n) (putAll l.toArray us n a0) w1) : (Code.region id l.toArray true).wp P Q a0 w := by
  simp only [growB, Bool.and_eq_true, decide_eq_true_eq] at hB
  obtain ⟨⟨⟨⟨⟨hn, hs⟩, hc⟩, hap⟩, hback⟩, hseq⟩ := hB
  have hn' : n < l.length := by simpa using hn
  obtain ⟨us0, hus0⟩ := putAll_old (ops := l.toArray) (n := n) a0
  have main : ∀ (f : Nat) (done : Array Bool) (us : Nat → Value) (ss es : Nat → Nat) (w1 : World), (done.toList.take n).count false = f → HeadInv .any l.toArray n done → Below w.heap.size w w1 →
      (∀ j, j < n → done.getD j false = true → Pr j (us j) (ss j) (es j) w1 ∧ w.heap.size ≤ ss j ∧ es j ≤ w1.heap.size) → (∀ i j, i < n → j < n → done.getD i false = true → done.getD j false = true → i ≠ j → es i ≤ ss j ∨ es j ≤ ss i) → wpAny P .any l.toArray Q (f + (l.toArray.size - n)) done (putAll l.toArray us n a0) w1 := by
    intro f
    induction f with
    | zero =>
      intro done us ss es w1 hcnt inv hw hpr hdis
      have hall : ∀ j, j < n → done.getD j false = true := by
        intro j hj
        cases h : done.getD j false with
        | true => rfl
        | false =>
          exfalso
          have hjs : j < done.size := by rw [inv.size]; omega
          have h2 : done[j] = false := by simpa [hjs] using h
          have : 0 < (done.toList.take n).count false := List.count_pos_iff.2 (by
            rw [← h2]
            refine List.mem_iff_getElem.2 ⟨j, by simp; omega, by simp⟩)
          omega
      have hdone : done = Array.replicate n true ++ Array.replicate (l.toArray.size - n) false := by
        apply Array.ext
        · rw [inv.size]; simp; omega
        · intro j h1 h2
          by_cases hj : j < n
          · have := hall j hj
            rw [Array.getElem_append_left (by simpa using hj)]
            simpa [h1] using this
          · have := inv.tail j (by omega) (by rw [← inv.size]; exact h1)
            rw [Array.getElem_append_right (by simp; omega)]
            simpa [h1] using this
      rw [Nat.zero_add]
      have hl := htail us ss es w1 hw (fun j hj => (hpr j hj (hall j hj)).1) (fun j hj => (hpr j hj (hall j hj)).2) (fun i j hi hj => hdis i j hi hj (hall i hi) (hall j hj))
      have hdl : (l.drop n).length = l.toArray.size - n := by simp
      have := wpAny_of_seq (md := .any) (Q' := Q) (l.drop n) n done (putAll l.toArray us n a0) w1 (fun j => by simp [List.getElem?_drop]) (by rw [hdl, hdone]; exact hseq) hl
      rwa [hdl] at this
    | succ f ih =>
      intro done us ss es w1 hcnt inv hw hpr hdis
      have hex : ∃ i, i < n ∧ done.getD i true = false := by
        obtain ⟨j, hj, he⟩ := List.mem_iff_getElem.1 (List.count_pos_iff.1 (show 0 < (done.toList.take n).count false by omega))
        simp at hj he
        exact ⟨j, by omega, by simp [show j < done.size by omega, he]⟩
      obtain ⟨i0, hi0, hun⟩ := hex
      rw [show f + 1 + (l.toArray.size - n) = (f + (l.toArray.size - n)) + 1 by omega]
      refine ⟨fun hr => ?_, fun i hi => ?_⟩
      · exfalso
        have least : ∀ m, m < n → done.getD m true = false → ∃ i, i < n ∧ done.getD i true = false ∧ ∀ j, j < i → done.getD j true ≠ false := by
          intro m
          induction m using Nat.strongRecOn with
          | _ m ihm =>
            intro hm hu
            by_cases hx : ∃ j, j < m ∧ done.getD j true = false
            · obtain ⟨j, hj, hj2⟩ := hx
              exact ihm j hj (by omega) hj2
            · exact ⟨m, hm, hu, fun j hj h => hx ⟨j, hj, h⟩⟩
        obtain ⟨i, hin, hui, hlow⟩ := least i0 hi0 hun
        have hi : i ∈ Region.ready .any l.toArray done := by
          obtain ⟨o, ho⟩ : ∃ o, l.toArray[i]? = some o := ⟨l.toArray[i]'(by omega), by simp⟩
          refine mem_ready.2 ⟨hui, o, ho, fun e he hb => ?_⟩
          have h1 := List.all_eq_true.1 hback i (List.mem_range.2 hin)
          rw [ho] at h1
          simp only [Option.map_some, Option.getD_some, Array.all_eq_true_iff_forall_mem] at h1
          have h2 := h1 e he
          rw [hb] at h2
          have h3 : e.on < i := by simpa using h2
          have h4 := hlow e.on h3
          have h5 : e.on < done.size := by rw [inv.size]; omega
          simp [h5] at h4 ⊢
          exact h4
        rw [hr] at hi
        cases hi
      · have hin : i < n := Nat.lt_of_not_le fun hle => tail_waits hs hc hn inv _ i0 rfl hi0 hun i hle hi
        obtain ⟨_, oi, hoi, hafter⟩ := mem_ready.1 hi
        have hg := hops i hin us ss es w1 hw (fun o ho e he hb => by
          rw [hoi] at ho
          cases ho
          have hd := hafter e he hb
          have hon : e.on < n := by
            apply Nat.lt_of_not_le
            intro hle
            rcases Nat.lt_or_ge e.on l.toArray.size with h | h
            · have := inv.tail e.on hle h
              rw [getD_both this] at hd
              cases hd
            · rw [Array.getD_eq_getD_getElem?, Array.getElem?_eq_none (by rw [inv.size]; exact h)] at hd
              cases hd
          exact (hpr e.on hon hd).1)
        refine wpOp_mono (fun a' w' hK => ?_) hg
        obtain ⟨v, rfl, hb, hv⟩ := hK
        rw [putAll_put hap us i v n hin (Nat.le_refl _)]
        obtain ⟨hlt, hfalse⟩ := ready_false hi
        refine ih _ _ (fun j => if j = i then w1.heap.size else ss j) (fun j => if j = i then w'.heap.size else es j) _ ?_ (inv.set hi hin) (hw.trans (hb.mono hw.size)) (fun j hj hd => ?_) (fun p q hp hq hdp hdq hpq => ?_)
        · rw [Array.toList_setIfInBounds, List.take_set, List.count_set (by simp; omega)]
          have e : ((done.toList.take n)[i]'(by simp; omega) == false) = true := by simp [hfalse]
          rw [if_pos e, if_neg (by decide)]
          omega
        · by_cases hji : j = i
          · subst hji
            simp only [if_true]
            exact ⟨hv, hw.size, Nat.le_refl _⟩
          · simp only [if_neg hji]
            rw [getD_set_ne false (Ne.symm hji)] at hd
            have h3 := hpr j hj hd
            exact ⟨hstab j _ _ _ _ _ h3.1 hb, h3.2.1, Nat.le_trans h3.2.2 hb.size⟩
        · by_cases hpi : p = i
          · subst hpi
            have hqp : q ≠ p := fun h => hpq h.symm
            rw [getD_set_ne false hpq] at hdq
            simp only [if_true, if_neg hqp]
            exact .inr (hpr q hq hdq).2.2
          · rw [getD_set_ne false (Ne.symm hpi)] at hdp
            by_cases hqi : q = i
            · subst hqi
              simp only [if_true, if_neg hpi]
              exact .inl (hpr p hp hdp).2.2
            · rw [getD_set_ne false (Ne.symm hqi)] at hdq
              simp only [if_neg hpi, if_neg hqi]
              exact hdis p q hp hq hdp hdq hpq
  have inv0 : HeadInv .any l.toArray n (Array.replicate l.toArray.size false) :=
    ⟨by simp, fun j oj _ hl => (by rw [getD_replicate_false] at hl; cases hl), fun t _ ht => getD_in (by simpa using ht) (getD_replicate_false _ _)⟩
  have := main n (Array.replicate l.toArray.size false) us0 (fun _ => 0) (fun _ => 0) w.drew (by rw [Array.toList_replicate, List.take_replicate, List.count_replicate_self]; simp; omega) inv0 (Below.refl _ _).drew (fun j hj hd => by rw [getD_replicate_false] at hd; cases hd) (fun i j hi hj hd => by rw [getD_replicate_false] at hd; cases hd)
  rw [hus0 n (Nat.le_refl _)] at this
  refine wp_region_any hm ?_
  have hsz : n + (l.toArray.size - n) = l.toArray.size := by simp; omega
  rw [hsz] at this
  exact this

section
variable {ops : Array Oper} {n : Nat}
theorem put_get (a : Act) (d : Option Tmp) (v : Value) (t : Tmp) : (a.put d v).tmps.getD t undef = if d = some t ∧ t < a.tmps.size then v else a.tmps.getD t undef := by
  cases d with
  | none => simp [Act.put]
  | some d =>
    unfold Act.put
    simp only [Option.some.injEq]
    rw [Array.getD_eq_getD_getElem?, Array.getD_eq_getD_getElem?, Array.getElem?_setIfInBounds]
    by_cases h : d = t
    · subst h
      by_cases h2 : d < a.tmps.size
      · simp [h2]
      · simp [h2]
    · simp [h]
theorem putAll_size (us : Nat → Value) (a : Act) : ∀ k, (putAll ops us k a).tmps.size = a.tmps.size
  | 0 => rfl
  | k + 1 => by
    rw [putAll]
    cases hd : dstOf ops k with
    | none => exact putAll_size us a k
    | some d => simp [Act.put, putAll_size us a k]
theorem eval_tmp (a : Act) (t : Tmp) : a.eval (.tmp t) = a.tmps.getD t undef := rfl
theorem eval_other (us : Nat → Value) (a : Act) (t : Tmp) : ∀ k, (∀ j, j < k → dstOf ops j ≠ some t) → (putAll ops us k a).eval (.tmp t) = a.eval (.tmp t)
  | 0, _ => rfl
  | k + 1, h => by
    have ih := eval_other us a t k fun j hj => h j (by omega)
    rw [eval_tmp] at ih ⊢
    rw [putAll, put_get, if_neg (fun e => h k (Nat.lt_succ_self k) e.1)]
    exact ih
theorem eval_at (hap : apartB ops n = true) (us : Nat → Value) (a : Act) {j : Nat} {t : Tmp} (hd : dstOf ops j = some t) (ht : t < a.tmps.size) : ∀ k, j < k → k ≤ n → (putAll ops us k a).eval (.tmp t) = us j
  | 0, hj, _ => by omega
  | k + 1, hj, hk => by
    by_cases he : j = k
    · subst he
      rw [eval_tmp, putAll, put_get, if_pos ⟨hd, by rw [putAll_size]; exact ht⟩]
    · have ih := eval_at hap us a hd ht k (by omega) (by omega)
      rw [eval_tmp] at ih ⊢
      rw [putAll, put_get, if_neg (fun e => apart_spec hap (show k < n by omega) (show j < k by omega) t hd e.1)]
      exact ih
end
/-- .. with the frame behind a letter. -/
theorem wp_region_grow' {P : Program} {id : Nat} {Q : Exit → Act → World → Prop} {a0 : Act} {w : World} {l : List Oper} (n : Nat) (Pr : Nat → Value → Nat → Nat → World → Prop) (hm : P.follows .mixedOrders = true) (hB : growB .any l.toArray n = true)
    (hstab : ∀ j v s e w1 w2, Pr j v s e w1 → Below w1.heap.size w1 w2 → Pr j v s e w2)
    (hops : ∀ i, i < n → ∀ (us : Nat → Value) (ss es : Nat → Nat) (A : Act) w1, (∀ t, ((List.range n).all fun j => dstOf l.toArray j != some t) = true → A.eval (.tmp t) = a0.eval (.tmp t)) → (∀ j t, j < n → dstOf l.toArray j = some t → t < a0.tmps.size → A.eval (.tmp t) = us j) →
      Below w.heap.size w w1 → (∀ oi, l.toArray[i]? = some oi → ∀ e ∈ oi.after, Region.binds .any e = true → Pr e.on (us e.on) (ss e.on) (es e.on) w1) → Grows P l.toArray Q Pr i A w1)
    (htail : ∀ (us : Nat → Value) (ss es : Nat → Nat) w1, Below w.heap.size w w1 → (∀ j, j < n → Pr j (us j) (ss j) (es j) w1) → (∀ j, j < n → w.heap.size ≤ ss j ∧ es j ≤ w1.heap.size) → (∀ i j, i < n → j < n → i ≠ j → es i ≤ ss j ∨ es j ≤ ss i) → wpList P l.toArray Q (l.drop n) (putAll l.toArray us n a0) w1) : (Code.region id l.toArray true).wp P Q a0 w := by
  have hap : apartB l.toArray n = true := by
    simp only [growB, Bool.and_eq_true] at hB
    exact hB.1.1.2
  refine wp_region_grow n Pr hm hB hstab (fun i hi us ss es w1 hb hd => hops i hi us ss es _ w1 (fun t ht => ?_) (fun j t hj hd ht => eval_at hap us a0 hd ht n hj (Nat.le_refl _)) hb hd) htail
  refine eval_other us a0 t n fun j hj he => ?_
  have := List.all_eq_true.1 ht j (List.mem_range.2 hj)
  rw [he] at this
  simp at this
end Go.Proofs.YtjgkeillmelkoaaGreat.By
namespace Go.Proofs.YtjgkeillmelkoaaGreat.By
open Go.RowKit

def upd (dn : Nat → Bool) (i : Nat) : Nat → Bool := fun j => decide (j = i) || dn j
def dnOf (done : Array Bool) : Nat → Bool := fun j => done.getD j false

/-- What one operation does. -/
def Does (P : Program) (ops : Array Oper) (Q : Exit → Act → World → Prop) (Pr : (Nat → Bool) → Nat → Value → Nat → Nat → World → Prop) (aim : Nat → Option Nat) (dn : Nat → Bool) (us : Nat → Value) (ss es : Nat → Nat) (i : Nat) (a : Act) (w : World) : Prop :=
  wpOp P ops Q i (fun a' w' => ∃ v, a' = a.put (dstOf ops i) v ∧
    ((aim i = none ∧ Below w.heap.size w w' ∧ Pr (upd dn i) i v w.heap.size w'.heap.size w') ∨
     (∃ t k, aim i = some t ∧ t < ops.size ∧ t ≠ i ∧ dn t = true ∧ ss t ≤ k ∧ k < es t ∧ w.grownBy w' (some k) ∧ w'.heap.size = w.heap.size ∧ Pr (upd dn i) i v w.heap.size w'.heap.size w' ∧ Pr (upd dn i) t (us t) (ss t) (es t) w'))) a w

def mixB (md : Region.Mode) (ops : Array Oper) : Bool := apartB ops ops.size && backB md ops ops.size

theorem wp_region_mix' {P : Program} {id : Nat} {Q : Exit → Act → World → Prop} {a0 : Act} {w : World} {l : List Oper} (Pr : (Nat → Bool) → Nat → Value → Nat → Nat → World → Prop) (aim : Nat → Option Nat) (hm : P.follows .mixedOrders = true) (hB : mixB .any l.toArray = true)
    (hstab : ∀ dn i j v s e w1 w2 r, i ≠ j → aim i ≠ some j → Pr dn j v s e w1 → e ≤ w1.heap.size → w1.grownBy w2 r → (∀ k, r = some k → (k < s ∨ e ≤ k) ∧ aim i ≠ none) → Pr (upd dn i) j v s e w2)
    (hops : ∀ i, i < l.length → ∀ (dn : Nat → Bool) (us : Nat → Value) (ss es : Nat → Nat) (A : Act) w1, (∀ t, ((List.range l.length).all fun j => dstOf l.toArray j != some t) = true → A.eval (.tmp t) = a0.eval (.tmp t)) → (∀ j t, j < l.length → dstOf l.toArray j = some t → t < a0.tmps.size → A.eval (.tmp t) = us j) →
      Below w.heap.size w w1 → dn i = false → (∀ j o, l.toArray[j]? = some o → dn j = true → ∀ e ∈ o.after, Region.binds .any e = true → dn e.on = true) → (∀ oi, l.toArray[i]? = some oi → ∀ e ∈ oi.after, Region.binds .any e = true → dn e.on = true ∧ Pr dn e.on (us e.on) (ss e.on) (es e.on) w1 ∧ w.heap.size ≤ ss e.on ∧ es e.on ≤ w1.heap.size) → Does P l.toArray Q Pr aim dn us ss es i A w1)
    (hend : ∀ (dn : Nat → Bool) (us : Nat → Value) (ss es : Nat → Nat) w1, (∀ j, j < l.length → dn j = true) → Below w.heap.size w w1 → (∀ j, j < l.length → Pr dn j (us j) (ss j) (es j) w1 ∧ w.heap.size ≤ ss j ∧ es j ≤ w1.heap.size) → (∀ i j, i < l.length → j < l.length → i ≠ j → es i ≤ ss j ∨ es j ≤ ss i) → Q .normal (putAll l.toArray us l.length a0) w1) :
    (Code.region id l.toArray true).wp P Q a0 w := by
  simp only [mixB, Bool.and_eq_true, List.size_toArray] at hB
  obtain ⟨hap, hback⟩ := hB
  obtain ⟨us0, hus0⟩ := putAll_old (ops := l.toArray) (n := l.length) a0
  refine wp_region_inv hm (fun done a w1 => ∃ (us : Nat → Value) (ss es : Nat → Nat), a = putAll l.toArray us l.length a0 ∧ Below w.heap.size w w1 ∧ (∀ j, j < l.length → dnOf done j = true → Pr (dnOf done) j (us j) (ss j) (es j) w1 ∧ w.heap.size ≤ ss j ∧ es j ≤ w1.heap.size) ∧
    (∀ i j, i < l.length → j < l.length → dnOf done i = true → dnOf done j = true → i ≠ j → es i ≤ ss j ∨ es j ≤ ss i) ∧ (∀ j o, l.toArray[j]? = some o → dnOf done j = true → ∀ e ∈ o.after, Region.binds .any e = true → dnOf done e.on = true)) ?_ ?_ ?_
  · refine ⟨us0, fun _ => 0, fun _ => 0, (hus0 _ (Nat.le_refl _)).symm, (Below.refl _ _).drew, fun j _ hd => ?_, fun i j _ _ hd => ?_, fun j o _ hd => ?_⟩
    · unfold dnOf at hd; rw [getD_replicate_false] at hd; cases hd
    · unfold dnOf at hd; rw [getD_replicate_false] at hd; cases hd
    · unfold dnOf at hd; rw [getD_replicate_false] at hd; cases hd
  · rintro done a w1 i hs ⟨us, ss, es, rfl, hw, hpr, hdis, hcl⟩ hi
    obtain ⟨hlt, hfalse⟩ := ready_false hi
    rw [hs, List.size_toArray] at hlt
    obtain ⟨_, oi, hoi, hafter⟩ := mem_ready.1 hi
    have hdn : ∀ j, j ≠ i → dnOf (done.setIfInBounds i true) j = dnOf done j := fun j hj => getD_set_ne false (Ne.symm hj)
    have hupd : dnOf (done.setIfInBounds i true) = upd (dnOf done) i := by
      funext j
      unfold upd
      by_cases hj : j = i
      · subst hj
        unfold dnOf
        simp [show j < done.size by rw [hs, List.size_toArray]; exact hlt]
      · rw [hdn j hj]; simp [hj]
    have hback' : ∀ e ∈ oi.after, Region.binds .any e = true → e.on < l.length := by
      intro e he hb
      have h1 := List.all_eq_true.1 hback i (List.mem_range.2 hlt)
      rw [hoi] at h1
      simp only [Option.map_some, Option.getD_some, Array.all_eq_true_iff_forall_mem] at h1
      have h2 := h1 e he
      rw [hb] at h2
      have : e.on < i := by simpa using h2
      omega
    have hg := hops i hlt (dnOf done) us ss es _ w1 (fun t ht => eval_other us a0 t l.length fun j hj he => by
        have := List.all_eq_true.1 ht j (List.mem_range.2 hj)
        rw [he] at this
        simp at this) (fun j t hj hd ht => eval_at hap us a0 hd ht l.length hj (Nat.le_refl _)) hw
      (by unfold dnOf; simpa [show i < done.size by rw [hs, List.size_toArray]; exact hlt] using hfalse) hcl
      (fun o ho e he hb => by
        rw [hoi] at ho
        cases ho
        have hd : dnOf done e.on = true := hafter e he hb
        exact ⟨hd, hpr e.on (hback' e he hb) hd⟩)
    refine wpOp_mono (fun a' w' hK => ?_) hg
    obtain ⟨v, rfl, hcase⟩ := hK
    rw [putAll_put hap us i v l.length hlt (Nat.le_refl _), hupd]
    -- in either case: what was, and what is new
    have hnew : ∃ r, w1.grownBy w' r ∧ w1.heap.size ≤ w'.heap.size ∧ (∀ k, r = some k → w.heap.size ≤ k ∧ ∃ t, aim i = some t ∧ t < l.length ∧ t ≠ i ∧ dnOf done t = true ∧ ss t ≤ k ∧ k < es t) ∧ Pr (upd (dnOf done) i) i v w1.heap.size w'.heap.size w' ∧
        (∀ t, aim i = some t → t < l.length → dnOf done t = true → t ≠ i → Pr (upd (dnOf done) i) t (us t) (ss t) (es t) w') := by
      rcases hcase with ⟨ha, hb, hp⟩ | ⟨t, k, ha, ht, hti, hdt, hk1, hk2, hgr, hsz, hp, hpt⟩
      · refine ⟨none, ⟨hb.os, hb.tape, hb.output, hb.size, fun i hi _ => hb.block i hi⟩, hb.size, (fun k hk => by cases hk), hp, (fun t h => by rw [ha] at h; cases h)⟩
      · rw [List.size_toArray] at ht
        refine ⟨some k, hgr, by omega, fun k' hk' => ?_, hp, fun t' h _ _ _ => ?_⟩
        · cases hk'
          exact ⟨Nat.le_trans (hpr t ht hdt).2.1 hk1, t, ha, ht, hti, hdt, hk1, hk2⟩
        · rw [ha] at h; cases h; exact hpt
    obtain ⟨r, hgr, hsz, hr, hp, htgt⟩ := hnew
    refine ⟨_, fun j => if j = i then w1.heap.size else ss j, fun j => if j = i then w'.heap.size else es j, rfl, hw.grown hgr hw.size (fun k hk => (hr k hk).1), fun j hj hd => ?_, fun p q hp' hq hdp hdq hpq => ?_, fun j o ho hd e he hb => ?_⟩
    · by_cases hji : j = i
      · subst hji
        simp only [if_true]
        exact ⟨hp, hw.size, Nat.le_refl _⟩
      · simp only [if_neg hji]
        have hd' : dnOf done j = true := by unfold upd at hd; simpa [hji] using hd
        have h3 := hpr j hj hd'
        refine ⟨?_, h3.2.1, Nat.le_trans h3.2.2 hsz⟩
        by_cases hta : aim i = some j
        · exact htgt j hta hj hd' hji
        · refine hstab _ i j _ _ _ _ _ r (Ne.symm hji) hta h3.1 h3.2.2 hgr fun k hk => ?_
          obtain ⟨_, t, hat, ht, _, hdt, hk1, hk2⟩ := hr k hk
          have htj : t ≠ j := fun h => hta (h ▸ hat)
          have := hdis t j ht hj hdt hd' htj
          exact ⟨by omega, by rw [hat]; exact fun h => by cases h⟩
    · have hd' : ∀ x, x ≠ i → upd (dnOf done) i x = true → dnOf done x = true := fun x hx h => by unfold upd at h; simpa [hx] using h
      by_cases hpi : p = i
      · subst hpi
        have hqp : q ≠ p := fun h => hpq h.symm
        simp only [if_true, if_neg hqp]
        exact .inr (hpr q hq (hd' q hqp hdq)).2.2
      · by_cases hqi : q = i
        · subst hqi
          simp only [if_true, if_neg hpi]
          exact .inl (hpr p hp' (hd' p hpi hdp)).2.2
        · simp only [if_neg hpi, if_neg hqi]
          exact hdis p q hp' hq (hd' p hpi hdp) (hd' q hqi hdq) hpq
    · have hup : ∀ x, dnOf done x = true → upd (dnOf done) i x = true := fun x h => by unfold upd; simp [h]
      by_cases hji : j = i
      · subst hji
        rw [hoi] at ho
        cases ho
        exact hup _ (hafter e he hb)
      · exact hup _ (hcl j o ho (by unfold upd at hd; simpa [hji] using hd) e he hb)
  · rintro done a w1 hs ⟨us, ss, es, rfl, hw, hpr, hdis, _⟩ hr
    have hall : ∀ j, j < l.length → dnOf done j = true := by
      have least : ∀ m, m < l.length → dnOf done m = true := by
        intro m
        induction m using Nat.strongRecOn with
        | _ m ih =>
          intro hm'
          cases h : dnOf done m with
          | true => rfl
          | false =>
            exfalso
            have hlt : m < done.size := by rw [hs, List.size_toArray]; exact hm'
            have hi : m ∈ Region.ready .any l.toArray done := by
              obtain ⟨o, ho⟩ : ∃ o, l.toArray[m]? = some o := ⟨l.toArray[m]'(by simpa using hm'), by simp⟩
              refine mem_ready.2 ⟨getD_in hlt h, o, ho, fun e he hb => ?_⟩
              have h1 := List.all_eq_true.1 hback m (List.mem_range.2 hm')
              rw [ho] at h1
              simp only [Option.map_some, Option.getD_some, Array.all_eq_true_iff_forall_mem] at h1
              have h2 := h1 e he
              rw [hb] at h2
              have h3 : e.on < m := by simpa using h2
              exact ih e.on h3 (by omega)
            rw [hr] at hi
            cases hi
      exact least
    exact hend (dnOf done) us ss es w1 hall hw (fun j hj => hpr j hj (hall j hj)) (fun i j hi hj => hdis i j hi hj (hall i hi) (hall j hj))

section
variable {P : Program} {ops : Array Oper} {Q : Exit → Act → World → Prop} {Pr : (Nat → Bool) → Nat → Value → Nat → Nat → World → Prop} {aim : Nat → Option Nat} {dn : Nat → Bool} {us : Nat → Value} {ss es : Nat → Nat} {i : Nat} {a : Act} {w : World} {o : Oper}
end
theorem grown_set (w : World) (k i : Nat) (u : Value) : w.grownBy (w.setCell ⟨k, i, none⟩ u) (some k) :=
  ⟨rfl, rfl, rfl, by simp, fun j _ hne => by
    unfold World.setCell
    rw [Array.getElem?_modify, if_neg (fun e => hne (congrArg some e.symm))]⟩
theorem grown_trans {w w1 w2 : World} {r : Option Nat} (h : w.grownBy w1 r) (k : w1.grownBy w2 r) : w.grownBy w2 r :=
  ⟨k.os.trans h.os, k.tape.trans h.tape, k.output.trans h.output, Nat.le_trans h.size k.size, fun j hj hne => (k.block j (Nat.lt_of_lt_of_le hj h.size) hne).trans (h.block j hj hne)⟩
end Go.Proofs.YtjgkeillmelkoaaGreat.By
namespace Go.Proofs.YtjgkeillmelkoaaGreat.By
open Go.RowKit

/-- What one operation does. -/
def Kip (P : Program) (ops : Array Oper) (Q : Exit → Act → World → Prop) (kn : Nat → Value → World → Prop) (i : Nat) (a : Act) (w : World) : Prop :=
  wpOp P ops Q i (fun a' w' => ∃ v, a' = a.put (dstOf ops i) v ∧ Below w.heap.size w w' ∧ kn i v w') a w

section
variable {P : Program} {ops : Array Oper} {Q : Exit → Act → World → Prop} {kn : Nat → Value → World → Prop} {i : Nat} {a : Act} {w : World} {o : Oper}
theorem wanted_none {tmps : Array Value} (h : o.guard = none) : Region.wanted o (yielded ops tmps) = true := by unfold Region.wanted; rw [h]
theorem wanted_some {g t : Nat} {b : Bool} (h : o.guard = some (g, b)) (hd : dstOf ops g = some t) (he : a.eval (.tmp t) = .bool b) : Region.wanted o (yielded ops a.tmps) = true := by
  unfold Region.wanted
  rw [h]
  show (yielded ops a.tmps g == some b) = true
  have h2 : a.tmps[t]? = some (.bool b) := by
    rw [eval_tmp, Array.getD_eq_getD_getElem?] at he
    cases h3 : a.tmps[t]? with
    | none => rw [h3] at he; cases he
    | some v => rw [h3] at he; exact congrArg some he
  unfold yielded
  unfold dstOf at hd
  rw [hd]
  show ((match a.tmps[t]? with | some (.bool b) => some b | _ => none) == some b) = true
  rw [h2]
  simp
theorem kip_val (ho : ops[i]? = some o) (hw : Region.wanted o (yielded ops a.tmps) = true) (v : Value) (w' : World) (hrun : (execOp a.eval o).run P w = .ok (.value v) w') (hb : Below w.heap.size w w') (hk : kn i v w') : Kip P ops Q kn i a w := by
  unfold Kip wpOp
  simp only [ho]
  rw [if_pos hw]
  refine .inl ?_
  unfold Oper.wp
  rw [hrun, Oper.upon_value]
  exact ⟨v, by unfold dstOf; rw [ho]; rfl, hb, hk⟩
theorem kip_same (ho : ops[i]? = some o) (hw : Region.wanted o (yielded ops a.tmps) = true) (v : Value) (hrun : (execOp a.eval o).run P w = .ok (.value v) w) (hk : kn i v w) : Kip P ops Q kn i a w :=
  kip_val ho hw v w hrun (Below.refl _ _) hk
theorem kip_call (ho : ops[i]? = some o) (hw : Region.wanted o (yielded ops a.tmps) = true) (f : FuncId) (args : Array Value) (hrun : (execOp a.eval o).run P w = .ok (.enter f args) w) (hc : Calls P f args w fun e w' => (∃ v, e = .returned v ∧ kn i v w') ∧ Below w.heap.size w w') : Kip P ops Q kn i a w := by
  unfold Kip wpOp
  simp only [ho]
  rw [if_pos hw]
  refine .inl ?_
  unfold Oper.wp
  rw [hrun, Oper.upon_enter]
  refine hc.mono ?_
  rintro e w' ⟨⟨v, rfl, hp⟩, hb⟩
  exact ⟨v, by unfold dstOf; rw [ho]; rfl, hb, hp⟩
end
/-- What is known of an operation's inputs. -/
def Known (ops : Array Oper) (kn : Nat → Value → World → Prop) (N : Nat) (A : Act) (w : World) (j : Nat) : Prop := ∃ v, kn j v w ∧ ∀ t, dstOf ops j = some t → t < N → A.eval (.tmp t) = v
theorem Known.eq {ops : Array Oper} {kn : Nat → Value → World → Prop} {N : Nat} {A : Act} {w : World} {j : Nat} (h : Known ops kn N A w j) (u : Value) (hk : ∀ v, kn j v w → v = u) (t : Nat) (ht : dstOf ops j = some t) (hN : t < N) : A.eval (.tmp t) = u := by
  obtain ⟨v, hv, he⟩ := h
  rw [he t ht hN]
  exact hk v hv
theorem Known.get {ops : Array Oper} {kn : Nat → Value → World → Prop} {N : Nat} {A : Act} {w : World} {j : Nat} (h : Known ops kn N A w j) (t : Nat) (ht : dstOf ops j = some t) (hN : t < N) : ∃ v, kn j v w ∧ A.eval (.tmp t) = v := by
  obtain ⟨v, hv, he⟩ := h
  exact ⟨v, hv, he t ht hN⟩
theorem tmps_at {A : Act} {t : Nat} {v : Value} (h : A.eval (.tmp t) = v) : A.tmps[t]?.getD undef = v := by rwa [eval_tmp, Array.getD_eq_getD_getElem?] at h

theorem wp_region_kip {P : Program} {id : Nat} {Q : Exit → Act → World → Prop} {a0 : Act} {w : World} {l : List Oper} (kn : Nat → Value → World → Prop) (N : Nat) (hN : a0.tmps.size = N) (hm : P.follows .mixedOrders = true) (hB : mixB .any l.toArray = true)
    (hlater : ∀ j v w1 w2, kn j v w1 → Below w1.heap.size w1 w2 → kn j v w2)
    (hops : ∀ i, i < l.length → ∀ (A : Act) w1, (∀ t, ((List.range l.length).all fun j => dstOf l.toArray j != some t) = true → A.eval (.tmp t) = a0.eval (.tmp t)) → Below w.heap.size w w1 →
      (∀ oi, l.toArray[i]? = some oi → ∀ e ∈ oi.after, Region.binds .any e = true → Known l.toArray kn N A w1 e.on) → Kip P l.toArray Q kn i A w1)
    (hend : ∀ (us : Nat → Value) w1, Below w.heap.size w w1 → (∀ j, j < l.length → kn j (us j) w1) → Q .normal (putAll l.toArray us l.length a0) w1) :
    (Code.region id l.toArray true).wp P Q a0 w := by
  have hback : backB .any l.toArray l.toArray.size = true := by simp only [mixB, Bool.and_eq_true] at hB; exact hB.2
  refine wp_region_mix' (fun _ j v _ _ w => kn j v w) (fun _ => none) hm hB ?_ ?_ ?_
  · intro dn i j v s e w1 w2 r _ _ h _ hg hr
    have hn : r = none := by
      cases r with
      | none => rfl
      | some k => exact absurd rfl (hr k rfl).2
    subst hn
    exact hlater j v _ _ h ⟨hg.os, hg.tape, hg.output, hg.size, fun i hi => hg.block i hi (fun h => by cases h)⟩
  · intro i hi dn us ss es A w1 hother hat hb hdi hcl hd
    have h := hops i hi A w1 hother hb fun oi ho e he hbd => by
      have h1 := hd oi ho e he hbd
      refine ⟨us e.on, h1.2.1, fun t ht htN => hat e.on t ?_ ht (by rw [hN]; exact htN)⟩
      have h2 := List.all_eq_true.1 hback i (List.mem_range.2 (by simpa using hi))
      rw [ho] at h2
      simp only [Option.map_some, Option.getD_some, Array.all_eq_true_iff_forall_mem] at h2
      have h3 := h2 e he
      rw [hbd] at h3
      have : e.on < i := by simpa using h3
      omega
    unfold Kip at h
    unfold Does
    exact wpOp_mono (fun a' w' ⟨v, ha, hb', hk⟩ => ⟨v, ha, .inl ⟨rfl, hb', hk⟩⟩) h
  · intro dn us ss es w1 _ hb hpr _
    exact hend us w1 hb fun j hj => (hpr j hj).1
end Go.Proofs.YtjgkeillmelkoaaGreat.By
namespace Go.Proofs.YtjgkeillmelkoaaGreat.By
open Go.RowKit

theorem wp_region_kipt {P : Program} {id : Nat} {Q : Exit → Act → World → Prop} {a0 : Act} {w : World} {l : List Oper} (n : Nat) (kn : Nat → Value → World → Prop) (N : Nat) (hN : a0.tmps.size = N) (hm : P.follows .mixedOrders = true) (hB : growB .any l.toArray n = true)
    (hlater : ∀ j v w1 w2, kn j v w1 → Below w1.heap.size w1 w2 → kn j v w2)
    (hops : ∀ i, i < n → ∀ (A : Act) w1, (∀ t, ((List.range n).all fun j => dstOf l.toArray j != some t) = true → A.eval (.tmp t) = a0.eval (.tmp t)) → Below w.heap.size w w1 →
      (∀ oi, l.toArray[i]? = some oi → ∀ e ∈ oi.after, Region.binds .any e = true → Known l.toArray kn N A w1 e.on) → Kip P l.toArray Q kn i A w1)
    (htail : ∀ (us : Nat → Value) w1, Below w.heap.size w w1 → (∀ j, j < n → kn j (us j) w1) → wpList P l.toArray Q (l.drop n) (putAll l.toArray us n a0) w1) :
    (Code.region id l.toArray true).wp P Q a0 w := by
  have hback : backB .any l.toArray n = true := by
    simp only [growB, Bool.and_eq_true] at hB
    exact hB.1.2
  refine wp_region_grow' n (fun j v _ _ w => kn j v w) hm hB (fun j v _ _ w1 w2 h hb => hlater j v w1 w2 h hb) (fun i hi us ss es A w1 hother hat hb hd => ?_) (fun us _ _ w1 hb hk _ _ => htail us w1 hb hk)
  refine hops i hi A w1 hother hb fun oi hoi e he hbi => ⟨us e.on, hd oi hoi e he hbi, fun t ht hN' => hat e.on t ?_ ht (by rw [hN]; exact hN')⟩
  have h1 := List.all_eq_true.1 hback i (List.mem_range.2 hi)
  rw [hoi] at h1
  simp only [Option.map_some, Option.getD_some, Array.all_eq_true_iff_forall_mem] at h1
  have h2 := h1 e he
  rw [hbi] at h2
  have h3 : e.on < i := by simpa using h2
  omega
end Go.Proofs.YtjgkeillmelkoaaGreat.By
namespace Go.Proofs.YtjgkeillmelkoaaGreat.By
open Go.RowKit
section
variable {P : Program} {ops : Array Oper} {Q : Exit → Act → World → Prop} {kn : Nat → Value → World → Prop} {i : Nat} {a : Act} {w : World} {o : Oper}
theorem unwanted_some {g t : Nat} {b : Bool} (h : o.guard = some (g, b)) (hd : dstOf ops g = some t) (he : a.eval (.tmp t) = .bool (!b)) : Region.wanted o (yielded ops a.tmps) = false := by
  unfold Region.wanted
  rw [h]
  show (yielded ops a.tmps g == some b) = false
  have h2 : a.tmps[t]? = some (.bool (!b)) := by
    rw [eval_tmp, Array.getD_eq_getD_getElem?] at he
    cases h3 : a.tmps[t]? with
    | none => rw [h3] at he; cases he
    | some v => rw [h3] at he; exact congrArg some he
  unfold yielded
  unfold dstOf at hd
  rw [hd]
  show ((match a.tmps[t]? with | some (.bool b) => some b | _ => none) == some b) = false
  rw [h2]
  cases b <;> simp
end
end Go.Proofs.YtjgkeillmelkoaaGreat.By
namespace Go.Proofs.YtjgkeillmelkoaaGreat.Dt
open Go.RowKit Go.Proofs.YtjgkeillmelkoaaGreat.By

/-- A reader lies in block r: its text, and how far it was read. -/
structure RD (r : Nat) (s : ByteArray) (k : Nat) (w : World) : Prop where
  c0 : w.cell? ⟨r, 0, none⟩ = some (.string s)
  c1 : w.cell? ⟨r, 1, none⟩ = some (.int .i64 (k : Int))
  f1 : w.frozen? ⟨r, 1, none⟩ = false
theorem below_grown {r : Nat} {w w' : World} (h : Below w.heap.size w w') : w.grownBy w' (some r) := ⟨h.os, h.tape, h.output, h.size, fun k hk _ => h.block k hk⟩
theorem bytes_get (s : ByteArray) (k : Nat) (h : k < s.size) : topB (s.data.toList.drop k) = s[k] := by
  have : s.data.toList.drop k = s[k] :: s.data.toList.drop (k + 1) := by
    rw [List.drop_eq_getElem_cons (by simpa using h)]; rfl
  rw [this]; rfl
theorem bytes_end (s : ByteArray) (k : Nat) (h : s.size ≤ k) : topB (s.data.toList.drop k) = 0 := by
  rw [List.drop_eq_nil_iff.2 (by rw [bytes_list]; exact h)]; rfl

theorem runL_get {p : UInt8 → Bool} : ∀ {l : List UInt8} {j : Nat}, j < runL p l → p (topB (l.drop j)) = true
  | [], _, h => absurd h (Nat.not_lt_zero _)
  | c :: l, j, h => by
    by_cases hc : p c = true
    · rw [runL_pos hc] at h
      rcases j with _ | j
      · exact hc
      · exact runL_get (l := l) (by omega)
    · rw [runL_neg (by simpa using hc)] at h
      exact absurd h (Nat.not_lt_zero _)
theorem cut_list (s : ByteArray) (k m : Nat) : (.string (s.extract k (k + m)) : Value) = str ((s.data.toList.drop k).take m) := by
  refine congrArg Value.string (ByteArray.ext ?_)
  rw [ByteArray.data_extract]
  refine Array.toList_inj.1 ?_
  rw [Array.toList_extract, List.extract_eq_take_drop]
  simp
end Go.Proofs.YtjgkeillmelkoaaGreat.Dt
