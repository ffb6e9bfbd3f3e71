/-
  A region that draws its order and ends in operations that come in one order alone; a predicate on each earlier operation's value. Over whatever program.
-/
import Derived.Test.YtghfaeapgghhlaaDoorKip
import Derived.Test.YtghfaeapgghhlaaDoorGrow
namespace Go.Proofs.YtghfaeapgghhlaaDoor.By
open Go.RowKit

theorem wp_region_kipt {P : Program} {id : Nat} {Q : Exit → Act → World → Prop} {a0 : Act} {w : World} {l : List Oper} (n : Nat) (kn : Nat → Value → World → Prop) (N : Nat) (hN : a0.tmps.size = N) (hm : P.follows .mixedOrders = true) (hB : growB .any l.toArray n = true)
    (hlater : ∀ j v w1 w2, kn j v w1 → Below w1.heap.size w1 w2 → kn j v w2)
    (hops : ∀ i, i < n → ∀ (A : Act) w1, (∀ t, ((List.range n).all fun j => dstOf l.toArray j != some t) = true → A.eval (.tmp t) = a0.eval (.tmp t)) → Below w.heap.size w w1 →
      (∀ oi, l.toArray[i]? = some oi → ∀ e ∈ oi.after, Region.binds .any e = true → Known l.toArray kn N A w1 e.on) → Kip P l.toArray Q kn i A w1)
    (htail : ∀ (us : Nat → Value) w1, Below w.heap.size w w1 → (∀ j, j < n → kn j (us j) w1) → wpList P l.toArray Q (l.drop n) (putAll l.toArray us n a0) w1) :
    (Code.region id l.toArray true).wp P Q a0 w := by
  have hback : backB .any l.toArray n = true := by
    simp only [growB, Bool.and_eq_true] at hB
    exact hB.1.2
  refine wp_region_grow' n (fun j v _ _ w => kn j v w) hm hB (fun j v _ _ w1 w2 h hb => hlater j v w1 w2 h hb) (fun i hi us ss es A w1 hother hat hb hd => ?_) (fun us _ _ w1 hb hk _ _ => htail us w1 hb hk)
  refine hops i hi A w1 hother hb fun oi hoi e he hbi => ⟨us e.on, hd oi hoi e he hbi, fun t ht hN' => hat e.on t ?_ ht (by rw [hN]; exact hN')⟩
  have h1 := List.all_eq_true.1 hback i (List.mem_range.2 hi)
  rw [hoi] at h1
  simp only [Option.map_some, Option.getD_some, Array.all_eq_true_iff_forall_mem] at h1
  have h2 := h1 e he
  rw [hbi] at h2
  have h3 : e.on < i := by simpa using h2
  omega
end Go.Proofs.YtghfaeapgghhlaaDoor.By
