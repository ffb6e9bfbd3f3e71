/-
  A region that draws its order and only reads and makes memory: what is known of each operation's value, as a predicate that later memory does not touch. Over whatever program.
-/
import Derived.Test.YtcimipebpfajgaaDoorMixIf
namespace Go.Proofs.YtcimipebpfajgaaDoor.By
open Go.RowKit

/-- What one operation does. -/
def Kip (P : Program) (ops : Array Oper) (Q : Exit → Act → World → Prop) (kn : Nat → Value → World → Prop) (i : Nat) (a : Act) (w : World) : Prop :=
  wpOp P ops Q i (fun a' w' => ∃ v, a' = a.put (dstOf ops i) v ∧ Below w.heap.size w w' ∧ kn i v w') a w

section
variable {P : Program} {ops : Array Oper} {Q : Exit → Act → World → Prop} {kn : Nat → Value → World → Prop} {i : Nat} {a : Act} {w : World} {o : Oper}
theorem wanted_none {tmps : Array Value} (h : o.guard = none) : Region.wanted o (yielded ops tmps) = true := by unfold Region.wanted; rw [h]
theorem wanted_some {g t : Nat} {b : Bool} (h : o.guard = some (g, b)) (hd : dstOf ops g = some t) (he : a.eval (.tmp t) = .bool b) : Region.wanted o (yielded ops a.tmps) = true := by
  unfold Region.wanted
  rw [h]
  show (yielded ops a.tmps g == some b) = true
  have h2 : a.tmps[t]? = some (.bool b) := by
    rw [eval_tmp, Array.getD_eq_getD_getElem?] at he
    cases h3 : a.tmps[t]? with
    | none => rw [h3] at he; cases he
    | some v => rw [h3] at he; exact congrArg some he
  unfold yielded
  unfold dstOf at hd
  rw [hd]
  show ((match a.tmps[t]? with | some (.bool b) => some b | _ => none) == some b) = true
  rw [h2]
  simp
theorem kip_val (ho : ops[i]? = some o) (hw : Region.wanted o (yielded ops a.tmps) = true) (v : Value) (w' : World) (hrun : (execOp a.eval o).run P w = .ok (.value v) w') (hb : Below w.heap.size w w') (hk : kn i v w') : Kip P ops Q kn i a w := by
  unfold Kip wpOp
  simp only [ho]
  rw [if_pos hw]
  refine .inl ?_
  unfold Oper.wp
  rw [hrun, Oper.upon_value]
  exact ⟨v, by unfold dstOf; rw [ho]; rfl, hb, hk⟩
theorem kip_same (ho : ops[i]? = some o) (hw : Region.wanted o (yielded ops a.tmps) = true) (v : Value) (hrun : (execOp a.eval o).run P w = .ok (.value v) w) (hk : kn i v w) : Kip P ops Q kn i a w :=
  kip_val ho hw v w hrun (Below.refl _ _) hk
theorem kip_call (ho : ops[i]? = some o) (hw : Region.wanted o (yielded ops a.tmps) = true) (f : FuncId) (args : Array Value) (hrun : (execOp a.eval o).run P w = .ok (.enter f args) w) (hc : Calls P f args w fun e w' => (∃ v, e = .returned v ∧ kn i v w') ∧ Below w.heap.size w w') : Kip P ops Q kn i a w := by
  unfold Kip wpOp
  simp only [ho]
  rw [if_pos hw]
  refine .inl ?_
  unfold Oper.wp
  rw [hrun, Oper.upon_enter]
  refine hc.mono ?_
  rintro e w' ⟨⟨v, rfl, hp⟩, hb⟩
  exact ⟨v, by unfold dstOf; rw [ho]; rfl, hb, hp⟩
end
/-- What is known of an operation's inputs. -/
def Known (ops : Array Oper) (kn : Nat → Value → World → Prop) (N : Nat) (A : Act) (w : World) (j : Nat) : Prop := ∃ v, kn j v w ∧ ∀ t, dstOf ops j = some t → t < N → A.eval (.tmp t) = v
theorem Known.eq {ops : Array Oper} {kn : Nat → Value → World → Prop} {N : Nat} {A : Act} {w : World} {j : Nat} (h : Known ops kn N A w j) (u : Value) (hk : ∀ v, kn j v w → v = u) (t : Nat) (ht : dstOf ops j = some t) (hN : t < N) : A.eval (.tmp t) = u := by
  obtain ⟨v, hv, he⟩ := h
  rw [he t ht hN]
  exact hk v hv
theorem Known.get {ops : Array Oper} {kn : Nat → Value → World → Prop} {N : Nat} {A : Act} {w : World} {j : Nat} (h : Known ops kn N A w j) (t : Nat) (ht : dstOf ops j = some t) (hN : t < N) : ∃ v, kn j v w ∧ A.eval (.tmp t) = v := by
  obtain ⟨v, hv, he⟩ := h
  exact ⟨v, hv, he t ht hN⟩
theorem tmps_at {A : Act} {t : Nat} {v : Value} (h : A.eval (.tmp t) = v) : A.tmps[t]?.getD undef = v := by rwa [eval_tmp, Array.getD_eq_getD_getElem?] at h

theorem wp_region_kip {P : Program} {id : Nat} {Q : Exit → Act → World → Prop} {a0 : Act} {w : World} {l : List Oper} (kn : Nat → Value → World → Prop) (N : Nat) (hN : a0.tmps.size = N) (hm : P.follows .mixedOrders = true) (hB : mixB .any l.toArray = true)
    (hlater : ∀ j v w1 w2, kn j v w1 → Below w1.heap.size w1 w2 → kn j v w2)
    (hops : ∀ i, i < l.length → ∀ (A : Act) w1, (∀ t, ((List.range l.length).all fun j => dstOf l.toArray j != some t) = true → A.eval (.tmp t) = a0.eval (.tmp t)) → Below w.heap.size w w1 →
      (∀ oi, l.toArray[i]? = some oi → ∀ e ∈ oi.after, Region.binds .any e = true → Known l.toArray kn N A w1 e.on) → Kip P l.toArray Q kn i A w1)
    (hend : ∀ (us : Nat → Value) w1, Below w.heap.size w w1 → (∀ j, j < l.length → kn j (us j) w1) → Q .normal (putAll l.toArray us l.length a0) w1) :
    (Code.region id l.toArray true).wp P Q a0 w := by
  have hback : backB .any l.toArray l.toArray.size = true := by simp only [mixB, Bool.and_eq_true] at hB; exact hB.2
  refine wp_region_mix' (fun _ j v _ _ w => kn j v w) (fun _ => none) hm hB ?_ ?_ ?_
  · intro dn i j v s e w1 w2 r _ _ h _ hg hr
    have hn : r = none := by
      cases r with
      | none => rfl
      | some k => exact absurd rfl (hr k rfl).2
    subst hn
    exact hlater j v _ _ h ⟨hg.os, hg.tape, hg.output, hg.size, fun i hi => hg.block i hi (fun h => by cases h)⟩
  · intro i hi dn us ss es A w1 hother hat hb hdi hcl hd
    have h := hops i hi A w1 hother hb fun oi ho e he hbd => by
      have h1 := hd oi ho e he hbd
      refine ⟨us e.on, h1.2.1, fun t ht htN => hat e.on t ?_ ht (by rw [hN]; exact htN)⟩
      have h2 := List.all_eq_true.1 hback i (List.mem_range.2 (by simpa using hi))
      rw [ho] at h2
      simp only [Option.map_some, Option.getD_some, Array.all_eq_true_iff_forall_mem] at h2
      have h3 := h2 e he
      rw [hbd] at h3
      have : e.on < i := by simpa using h3
      omega
    unfold Kip at h
    unfold Does
    exact wpOp_mono (fun a' w' ⟨v, ha, hb', hk⟩ => ⟨v, ha, .inl ⟨rfl, hb', hk⟩⟩) h
  · intro dn us ss es w1 _ hb hpr _
    exact hend us w1 hb fun j hj => (hpr j hj).1
end Go.Proofs.YtcimipebpfajgaaDoor.By
