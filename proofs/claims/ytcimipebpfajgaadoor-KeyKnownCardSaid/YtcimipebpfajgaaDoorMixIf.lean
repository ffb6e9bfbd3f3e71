/-
  Guarded operations in a region that draws its order (text Mix).
-/
import Derived.Test.YtcimipebpfajgaaDoorMix
namespace Go.Proofs.YtcimipebpfajgaaDoor.By
open Go.RowKit
section
variable {P : Program} {ops : Array Oper} {Q : Exit → Act → World → Prop} {Pr : (Nat → Bool) → Nat → Value → Nat → Nat → World → Prop} {aim : Nat → Option Nat} {dn : Nat → Bool} {us : Nat → Value} {ss es : Nat → Nat} {i : Nat} {a : Act} {w : World} {o : Oper}
/-- A guarded operation that is wanted: a value; a call. -/
theorem does_val_if (ho : ops[i]? = some o) (hw : Region.wanted o (yielded ops a.tmps) = true) (ha : aim i = none) (v : Value) (w' : World) (hrun : (execOp a.eval o).run P w = .ok (.value v) w') (hb : Below w.heap.size w w') (hp : Pr (upd dn i) i v w.heap.size w'.heap.size w') : Does P ops Q Pr aim dn us ss es i a w := by
  unfold Does wpOp
  simp only [ho]
  rw [if_pos hw]
  refine .inl ?_
  unfold Oper.wp
  rw [hrun, Oper.upon_value]
  exact ⟨v, by unfold dstOf; rw [ho]; rfl, .inl ⟨ha, hb, hp⟩⟩
theorem does_call_if (ho : ops[i]? = some o) (hw : Region.wanted o (yielded ops a.tmps) = true) (ha : aim i = none) (f : FuncId) (args : Array Value) (hrun : (execOp a.eval o).run P w = .ok (.enter f args) w) (hc : Calls P f args w fun e w' => ∃ v, e = .returned v ∧ Below w.heap.size w w' ∧ Pr (upd dn i) i v w.heap.size w'.heap.size w') : Does P ops Q Pr aim dn us ss es i a w := by
  unfold Does wpOp
  simp only [ho]
  rw [if_pos hw]
  refine .inl ?_
  unfold Oper.wp
  rw [hrun, Oper.upon_enter]
  refine hc.mono ?_
  rintro e w' ⟨v, rfl, hb, hp⟩
  exact ⟨v, by unfold dstOf; rw [ho]; rfl, .inl ⟨ha, hb, hp⟩⟩
/-- A guarded operation that is not wanted. -/
theorem does_skip (ho : ops[i]? = some o) (hw : Region.wanted o (yielded ops a.tmps) = false) (ha : aim i = none) (hp : Pr (upd dn i) i undef w.heap.size w.heap.size w) : Does P ops Q Pr aim dn us ss es i a w := by
  unfold Does wpOp
  simp only [ho]
  rw [if_neg (by rw [hw]; decide)]
  exact ⟨undef, by unfold dstOf; rw [ho]; rfl, .inl ⟨ha, Below.refl _ _, hp⟩⟩
end
end Go.Proofs.YtcimipebpfajgaaDoor.By
