/-
  A region that draws its order, by an invariant over the set of its finished operations: kept by each operation that may come up, whichever. Over whatever program.
-/
import Derived.Test.YtcimipebpfajgaaDoorLater
namespace Go.Proofs.YtcimipebpfajgaaDoor.By
open Go.RowKit

section
variable {P : Program} {ops : Array Oper} {md : Region.Mode} {Q : Exit → Act → World → Prop}

theorem ready_false {done : Array Bool} {i : Nat} (h : i ∈ Region.ready md ops done) : ∃ hi : i < done.size, done[i] = false := by
  have h1 := (mem_ready.1 h).1
  rcases Nat.lt_or_ge i done.size with hi | hi
  · refine ⟨hi, ?_⟩
    simpa [hi] using h1
  · simp [Array.getElem?_eq_none hi] at h1
theorem count_set_true {done : Array Bool} {i : Nat} (hi : i < done.size) (h : done[i] = false) : (done.setIfInBounds i true).toList.count false + 1 = done.toList.count false := by
  rw [Array.toList_setIfInBounds, List.count_set (by simpa using hi)]
  have hpos : 0 < done.toList.count false := List.count_pos_iff.2 (by
    rw [← h]
    simp)
  have e : (done.toList[i]'(by simpa using hi) == false) = true := by simp [h]
  rw [if_pos e, if_neg (by decide)]
  omega

theorem wpAny_inv {I : Array Bool → Act → World → Prop}
    (hstep : ∀ done a w i, done.size = ops.size → I done a w → i ∈ Region.ready md ops done → wpOp P ops Q i (I (done.setIfInBounds i true)) a w)
    (hend : ∀ done a w, done.size = ops.size → I done a w → Region.ready md ops done = [] → Q .normal a w) :
    ∀ (fuel : Nat) (done : Array Bool) (a : Act) (w : World), done.size = ops.size → done.toList.count false ≤ fuel → I done a w → wpAny P md ops Q fuel done a w := by
  intro fuel
  induction fuel with
  | zero =>
    intro done a w hs hc hI
    have hr : Region.ready md ops done = [] := by
      cases hq : Region.ready md ops done with
      | nil => rfl
      | cons i l =>
        exfalso
        obtain ⟨hi, h⟩ := ready_false (md := md) (ops := ops) (done := done) (i := i) (by rw [hq]; exact List.mem_cons_self)
        have := count_set_true hi h
        omega
    exact ⟨hr, hend done a w hs hI hr⟩
  | succ fuel ih =>
    intro done a w hs hc hI
    refine ⟨fun hr => hend done a w hs hI hr, fun i hi => ?_⟩
    obtain ⟨hlt, h⟩ := ready_false hi
    have hcnt := count_set_true hlt h
    exact wpOp_mono (fun a' w' hI' => ih _ a' w' (by simpa using hs) (by omega) hI') (hstep done a w i hs hI hi)
end

theorem wp_region_inv {P : Program} {id : Nat} {Q : Exit → Act → World → Prop} {a : Act} {w : World} {ops : Array Oper} (hm : P.follows .mixedOrders = true) (I : Array Bool → Act → World → Prop)
    (h0 : I (Array.replicate ops.size false) a w.drew)
    (hstep : ∀ done a w i, done.size = ops.size → I done a w → i ∈ Region.ready .any ops done → wpOp P ops Q i (I (done.setIfInBounds i true)) a w)
    (hend : ∀ done a w, done.size = ops.size → I done a w → Region.ready .any ops done = [] → Q .normal a w) : (Code.region id ops true).wp P Q a w :=
  wp_region_any hm (wpAny_inv hstep hend ops.size _ a _ (by simp) (by
    rw [Array.toList_replicate]
    exact Nat.le_trans (List.count_le_length) (by simp)) h0)
end Go.Proofs.YtcimipebpfajgaaDoor.By
