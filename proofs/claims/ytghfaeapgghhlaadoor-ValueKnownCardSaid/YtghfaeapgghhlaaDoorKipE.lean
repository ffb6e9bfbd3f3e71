/-
  A drawn region with a predicate per operation's value: behind it the frame is known by its slots alone. Over whatever program.
-/
import Derived.Test.YtghfaeapgghhlaaDoorKipS
namespace Go.Proofs.YtghfaeapgghhlaaDoor.By
open Go.RowKit

theorem wp_region_kip' {P : Program} {id : Nat} {Q : Exit → Act → World → Prop} {a0 : Act} {w : World} {l : List Oper} (kn : Nat → Value → World → Prop) (N : Nat) (hN : a0.tmps.size = N) (hm : P.follows .mixedOrders = true) (hB : mixB .any l.toArray = true)
    (hlater : ∀ j v w1 w2, kn j v w1 → Below w1.heap.size w1 w2 → kn j v w2)
    (hops : ∀ i, i < l.length → ∀ (A : Act) w1, (∀ t, ((List.range l.length).all fun j => dstOf l.toArray j != some t) = true → A.eval (.tmp t) = a0.eval (.tmp t)) → Below w.heap.size w w1 →
      (∀ oi, l.toArray[i]? = some oi → ∀ e ∈ oi.after, Region.binds .any e = true → Known l.toArray kn N A w1 e.on) → Kip P l.toArray Q kn i A w1)
    (hend : ∀ (F : Act) w1, Below w.heap.size w w1 → (∀ j t, j < l.length → dstOf l.toArray j = some t → t < N → kn j (F.eval (.tmp t)) w1) → F.defers = a0.defers → F.tmps.size = N → Q .normal F w1) :
    (Code.region id l.toArray true).wp P Q a0 w := by
  have hap : apartB l.toArray l.toArray.size = true := by simp only [mixB, Bool.and_eq_true] at hB; exact hB.1
  rw [List.size_toArray] at hap
  refine wp_region_kip kn N hN hm hB hlater hops fun us w1 hb hh => hend _ w1 hb (fun j t hj hd ht => ?_) ?_ ?_
  · rw [eval_at hap us a0 hd (by rw [hN]; exact ht) l.length hj (Nat.le_refl _)]
    exact hh j hj
  · have : ∀ k, (putAll l.toArray us k a0).defers = a0.defers := by
      intro k
      induction k with
      | zero => rfl
      | succ k ih =>
        rw [putAll]
        cases dstOf l.toArray k with
        | none => exact ih
        | some d => exact ih
    exact this _
  · rw [putAll_size]; exact hN
end Go.Proofs.YtghfaeapgghhlaaDoor.By
