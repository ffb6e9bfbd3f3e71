/-
  A region that draws its order, whose operations only read what was there, and whose callees make new memory alone and hand back values that do not hang on where it lies: one walk, in the order of the text.
-/
import Derived.WalkKit
import Derived.ProofKit
import Derived.Deep.QuietTactic
import Derived.BigQuiet
namespace Go.Proofs.YtcimipebpfajgaaDoor.By
open Go.RowKit

/-- The worlds in which all that is in 'w' stands as it was. -/
def Later (w : World) : Type := { w' : World // Below w.heap.size w w' }
instance (w : World) : Nonempty (Later w) := ⟨⟨w, Below.refl _ _⟩⟩
def lat (w : World) (e : Later w) : World := e.1

theorem lat_below (w : World) (e : Later w) : Below w.heap.size w (lat w e) := e.2
theorem cell_lt {w : World} {p : Addr} {v : Value} (h : w.cell? p = some v) : p.block < w.heap.size := by
  rcases Nat.lt_or_ge p.block w.heap.size with h1 | h1
  · exact h1
  · exfalso
    have h2 : w.heap[p.block]? = none := Array.getElem?_eq_none h1
    unfold World.cell? at h
    rw [h2] at h
    simp at h
theorem lat_cell {w : World} {p : Addr} {v : Value} (h : w.cell? p = some v) : ∀ e : Later w, (lat w e).cell? p = some v :=
  fun e => (e.2.cell (cell_lt h)).trans h

theorem lat_calls {P : Program} {f : FuncId} {args : Array Value} {w : World} {e : Later w} {v : Value}
    (h : Calls P f args (lat w e) fun r w' => r = .returned v ∧ Below (lat w e).heap.size (lat w e) w') : Calls P f args (lat w e) fun r w'' => r = .returned v ∧ ∃ m : Later w, w'' = lat w m :=
  h.mono fun _ w' ⟨he, hm⟩ => ⟨he, ⟨w', e.2.trans (hm.mono e.2.size)⟩, rfl⟩
theorem lat_calls_same {P : Program} {f : FuncId} {args : Array Value} {w : World} {e : Later w} {v : Value}
    (h : Calls P f args (lat w e) fun r w' => r = .returned v ∧ lat w e = w') : Calls P f args (lat w e) fun r w'' => r = .returned v ∧ ∃ m : Later w, w'' = lat w m :=
  h.mono fun _ _ ⟨he, hm⟩ => ⟨he, e, hm.symm⟩

theorem wp_region_later {P : Program} {id : Nat} {Q : Exit → Act → World → Prop} {a : Act} {w : World} {l : List Oper} (hm : P.follows .mixedOrders = true) (hB : Region.lexB .any l.toArray = true)
    (h : wpQuiet P l.toArray (fun w' => ∃ e : Later w, w' = lat w e) (fun a' => ∀ w', (∃ e : Later w, w' = lat w e) → Q .normal a' w') l a) : (Code.region id l.toArray true).wp P Q a w :=
  wp_region_quiet (C := fun w' => ∃ e : Later w, w' = lat w e) hm hB ⟨⟨_, Below.drew (Below.refl _ _)⟩, rfl⟩ (by simpa using h)
/-- Behind it. -/
theorem later_out {w : World} {p : World → Prop} (h : ∀ w', Below w.heap.size w w' → p w') : ∀ w', (∃ e : Later w, w' = lat w e) → p w' := by
  rintro w' ⟨e, rfl⟩
  exact h _ e.2
theorem drewN_below {B : Nat} {a w : World} (h : Below B a w) (n : Nat) : Below B a (w.drewN n) := ⟨h.os, h.tape, h.output, h.size, h.block⟩
/-- Strings held against each other, as the walk writes it. -/
theorem str_eq (a b : ByteArray) : (a.toList == b.toList) = decide (a = b) := by
  rw [ByteArray.toList_eq, ByteArray.toList_eq, Bool.eq_iff_iff, beq_iff_eq, decide_eq_true_eq]
  exact ⟨fun h => ByteArray.ext (Array.toList_inj.1 h), fun h => by rw [h]⟩
/-- 'b[:k]' of an array in a block. -/
theorem sliceAt_h {P : Program} (w : World) (t : TypeId) (ht : P.underlying t = some (.array (P.arrayLen t) (P.elem t))) (N : Nat) (hN : P.arrayLen t = N) (hsz : (sizeOf (P.elem t)).run P w = .ok 1 w) (b : Nat) (x : Int) (k : Nat) (hx : x = k) (hk : k ≤ N) :
    (Instr.sliceAt t (.pointer (some ⟨b, 0, none⟩)) none (some (.int .i64 x)) none).run P w = .ok (.slice (some ⟨b, 0, none⟩) k N) w := by
  rw [run_sliceAt_array_h w t _ ht .i64 x (by omega) (by omega), hsz]
  subst hx
  simp only [Result.andThen, slicedAt, hN, Int.toNat_natCast]
  simp [Addr.add_lit]
end Go.Proofs.YtcimipebpfajgaaDoor.By
