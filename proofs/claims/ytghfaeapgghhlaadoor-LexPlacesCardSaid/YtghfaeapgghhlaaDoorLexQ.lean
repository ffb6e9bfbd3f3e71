/-
  What the walks of the reader's texts and blobs share: the reader, the token's box, the bytes so far.
-/
import Derived.Test.YtghfaeapgghhlaaDoorLexTok
import Derived.Test.YtghfaeapgghhlaaDoorOwnX
import Derived.Test.YtghfaeapgghhlaaDoorKNumE
import Derived.Test.YtghfaeapgghhlaaDoorMix
namespace Go.Proofs.YtghfaeapgghhlaaDoor.Dt
open Go.RowKit Go.Proofs.YtghfaeapgghhlaaDoor.By

theorem wrapI (x : Int) (h0 : 0 ≤ x) (h1 : x ≤ 2000000) : wrap64 x = x := by unfold wrap64; omega
theorem wrapK (x : Int) (h0 : 0 ≤ x) (h1 : x ≤ 2000000) : IntKind.i64.wrap x = x := by rw [IntKind.wrap_i64]; omega
/-- The reader in block r at place p, an empty token in block b, the bytes O in a slice of the call's own. -/
structure QS (w : World) (r b : Nat) (s : ByteArray) (p : Nat) (v : Value) (O : List UInt8) (W : World) : Prop where
  rd : RD r s p W
  bx : TBox b W
  own : OwnB W (b + 1) 5 v O
  gr : w.grownBy W (some r)
  sz : b + 1 ≤ W.heap.size
theorem QS.later {w : World} {r b : Nat} {s : ByteArray} {p : Nat} {v : Value} {O : List UInt8} {W W' : World} (h : QS w r b s p v O W) (hb : Below W.heap.size W W') : QS w r b s p v O W' :=
  ⟨h.rd.later hb, h.bx.later hb, h.own.below hb, grown_trans h.gr (below_grown hb), Nat.le_trans h.sz hb.size⟩
theorem QS.set {w : World} {r b : Nat} {s : ByteArray} {p : Nat} {v : Value} {O : List UInt8} {W : World} (h : QS w r b s p v O W) (hr : r < b) (q : Nat) (x : Int) (hx : x = (q : Int)) : QS w r b s q v O (W.setCell ⟨r, 1, none⟩ (.int .i64 x)) := by
  subst hx
  exact ⟨h.rd.set q, h.bx.else (by omega), ownsRow_setCell_below h.own (by show r < b + 1; omega) _, grown_trans h.gr (grown_set _ _ _ _), by rw [World.size_setCell]; exact h.sz⟩
theorem QS.app {w : World} {r b : Nat} {s : ByteArray} {p : Nat} {v v' : Value} {O O' : List UInt8} {W W' : World} (h : QS w r b s p v O W) (hr : r < b) (hb : Below (b + 1) W W') (ho : OwnB W' (b + 1) 5 v' O') (hz : W.heap.size ≤ W'.heap.size) (hwb : w.heap.size ≤ b) : QS w r b s p v' O' W' := by
  have hc : ∀ j i, j < b + 1 → W'.cell? ⟨j, i, none⟩ = W.cell? ⟨j, i, none⟩ := fun j i hj => hb.cell (p := ⟨j, i, none⟩) hj
  have hf : ∀ j i, j < b + 1 → W'.frozen? ⟨j, i, none⟩ = W.frozen? ⟨j, i, none⟩ := fun j i hj => hb.frozen (p := ⟨j, i, none⟩) hj
  have hr1 : r < b + 1 := by omega
  have hb1 : b < b + 1 := by omega
  refine ⟨⟨(hc _ _ hr1).trans h.rd.c0, (hc _ _ hr1).trans h.rd.c1, (hf _ _ hr1).trans h.rd.f1⟩,
    ⟨(hc _ _ hb1).trans h.bx.c0, (hc _ _ hb1).trans h.bx.c1, (hc _ _ hb1).trans h.bx.c2, (hc _ _ hb1).trans h.bx.c3, (hf _ _ hb1).trans h.bx.f0, (hf _ _ hb1).trans h.bx.f1, (hf _ _ hb1).trans h.bx.f2, (hf _ _ hb1).trans h.bx.f3⟩, ho, ?_, Nat.le_trans h.sz hz⟩
  exact ⟨hb.os.trans h.gr.os, hb.tape.trans h.gr.tape, hb.output.trans h.gr.output, Nat.le_trans h.gr.size hz, fun k hk hn => (hb.block k (by omega)).trans (h.gr.block k hk hn)⟩
theorem QS.new {w : World} {r : Nat} {s : ByteArray} {k : Nat} (h : RD r s k w) (t : TypeId) : QS w r w.heap.size s k (.slice none 0 0) [] (w.alloc (.cells #[.int .u8 0, .string ⟨#[]⟩, .int .u64 0, .int .i64 0] t)) :=
  ⟨h.later ((Below.refl _ _).alloc (Nat.le_refl _) _), tBox_new _ _, OwnB.nil _ _ _, below_grown ((Below.refl _ _).alloc (Nat.le_refl _) _), by simp⟩
theorem drop_cons (s : ByteArray) {p : Nat} (h : p < s.size) : s.data.toList.drop p = s[p] :: s.data.toList.drop (p + 1) := by
  rw [List.drop_eq_getElem_cons (by simpa using h)]; rfl
theorem drop_end (s : ByteArray) {p : Nat} (h : s.size ≤ p) : s.data.toList.drop p = [] := List.drop_eq_nil_iff.2 (by rw [bytes_list]; exact h)
theorem qscan_other {c : UInt8} (h : c ≠ 39) (l : List UInt8) : qscan (c :: l) = (qscan l).map fun x => (c :: x.1, x.2 + 1) := by
  cases l with
  | nil => simp [qscan, h]
  | cons d l => rw [qscan, if_neg h]
theorem qscan_two (l : List UInt8) : qscan (39 :: 39 :: l) = (qscan l).map fun x => (39 :: x.1, x.2 + 2) := by rw [qscan, if_pos rfl, if_pos rfl]
theorem qscan_stop {l : List UInt8} (h : topB l ≠ 39) : qscan (39 :: l) = some ([], 1) := by
  cases l with
  | nil => simp [qscan]
  | cons d l => rw [qscan, if_pos rfl, if_neg (show ¬ d = 39 from h)]
/-- A text's token, by what its quotes hold. -/
def textR (n : Nat) : Option (List UInt8 × Nat) → One
  | none => .bad 6 n
  | some (t, m) => if 1000 < t.length then .bad 3 0 else .tok 4 t 0 (m + 1)
theorem textOne_eq (l : List UInt8) : textOne l = textR l.length (qscan (l.drop 1)) := by
  unfold textOne
  cases qscan (l.drop 1) with
  | none => rfl
  | some x => rfl
theorem textR_long {n m : Nat} {t : List UInt8} (h : 1000 < t.length) : textR n (some (t, m)) = .bad 3 0 := by show (if _ then _ else _) = _; rw [if_pos h]
theorem textR_ok {n m : Nat} {t : List UInt8} (h : ¬ 1000 < t.length) : textR n (some (t, m)) = .tok 4 t 0 (m + 1) := by show (if _ then _ else _) = _; rw [if_neg h]
/-- A blob's token, by what its pairs say. -/
def blobR : Nat ⊕ (List UInt8 × Nat) → One
  | .inl e => .bad 6 (e + 2)
  | .inr (t, m) => if 1000 < t.length then .bad 3 0 else .tok 5 t 0 (m + 2)
theorem blobOne_eq (l : List UInt8) : blobOne l = blobR (bscan (l.drop 2)) := by
  unfold blobOne
  cases bscan (l.drop 2) with
  | inl e => rfl
  | inr x => rfl
theorem blobR_long {m : Nat} {t : List UInt8} (h : 1000 < t.length) : blobR (.inr (t, m)) = .bad 3 0 := by show (if _ then _ else _) = _; rw [if_pos h]
theorem blobR_ok {m : Nat} {t : List UInt8} (h : ¬ 1000 < t.length) : blobR (.inr (t, m)) = .tok 5 t 0 (m + 2) := by show (if _ then _ else _) = _; rw [if_neg h]
end Go.Proofs.YtghfaeapgghhlaaDoor.Dt
