/-
  Slices of values that the call itself made.
-/
import Derived.Test.YtclkpbokngamiaaOwnU
import Derived.Test.YtclkpbokngamiaaWalkSpec
namespace Go.Proofs.Ytclkpbokngamiaa.Dt
open Go.RowKit Go.Proofs.Ytclkpbokngamiaa.By

theorem elV : By.Elem Try.prog 49 23 3 32 where
  slice := by kernel_rfl
  info := by
    have h : (Try.prog.info? 23).map (fun i => (i.zero, i.size, i.bytes)) = some (some (.agg #[.int .u8 0, .int .i64 0, .string ⟨#[]⟩]), 3, 32) := by kernel_rfl
    obtain ⟨i, hi, h1, h2, h3⟩ := info_parts h
    exact ⟨i, _, hi, h1, h2, h3, rfl⟩
  pos := by decide

def vCells (l : List V) : List Value := l.flatMap V.cells
theorem vCells_get (l : List V) : ∀ (i : Nat) (x : V), l[i]? = some x → ∀ j u, x.cells[j]? = some u → (vCells l)[i * 3 + j]? = some u := by
  induction l with
  | nil => intro i x h; simp at h
  | cons y l ih =>
    intro i x h j u hu
    have hj : j < 3 := (List.getElem?_eq_some_iff.1 hu).1
    have e : vCells (y :: l) = y.cells ++ vCells l := rfl
    rcases i with _ | i
    · simp at h; subst h
      rw [e, List.getElem?_append_left (by show 0 * 3 + j < 3; omega), Nat.zero_mul, Nat.zero_add]
      exact hu
    · rw [e, List.getElem?_append_right (by show 3 ≤ _; omega), show (i + 1) * 3 + j - y.cells.length = i * 3 + j by show _ - 3 = _; omega]
      exact ih i x (by simpa using h) j u hu
/-- Owned values. -/
def OwnV (w : World) (base : Nat) (v : Value) (l : List V) : Prop := w.ownsRow base 23 3 v l.length (vCells l)
theorem OwnV.nil (w : World) (base : Nat) : OwnV w base (.slice none 0 0) [] := World.ownsRow_nil _ _ _ _
theorem OwnV.shape {w : World} {base : Nat} {v : Value} {l : List V} (h : OwnV w base v l) : ∃ a c, v = .slice a l.length c := by
  rcases h.2 with ⟨rfl, hn⟩ | ⟨g, cap, cur, rfl, _⟩
  · exact ⟨none, 0, by rw [hn]⟩
  · exact ⟨_, _, rfl⟩
theorem OwnV.at_ {w : World} {base : Nat} {v : Value} {l : List V} (h : OwnV w base v l) : VsAt w v l := by
  rcases h.2 with ⟨rfl, hn⟩ | ⟨g, cap, cur, rfl, hg, hh, hn, hcap, hsz, ht⟩
  · obtain rfl : l = [] := List.eq_nil_of_length_eq_zero hn
    exact SlAt.nil _ _ _
  · refine ⟨_, cap, rfl, hn, fun i x hx => ⟨g, 0, rfl, fun j u hu => ?_⟩⟩
    have := World.ownsRow.cells h rfl (i * 3 + j) u (vCells_get l i x hx j u hu)
    rw [Addr.add_lit, ← Nat.add_assoc] at this
    exact this
theorem OwnV.notBlock {w : World} {base : Nat} {v : Value} {l : List V} {k : Nat} (h : OwnV w base v l) (hk : w.heap.size ≤ k) : v.ownBlock ≠ some k := by
  intro e
  have := (World.ownsRow.lt h k e).2
  omega
theorem OwnV.below {w w' : World} {base : Nat} {v : Value} {l : List V} (h : OwnV w base v l) (hb : Below w.heap.size w w') : OwnV w' base v l :=
  World.ownsRow.kept (row := none) h ⟨hb.os, hb.tape, hb.output, hb.size, fun i hi _ => hb.block i hi⟩ (by cases v.ownBlock <;> simp)
theorem OwnV.snoc {w : World} {base : Nat} {v : Value} {l : List V} {x : V} (h : w.ownsRow base 23 3 v (l.length + 1) (vCells l ++ [.int .u8 (x.k : Int), .int .i64 x.n, .string x.s])) : OwnV w base v (l ++ [x]) := by
  unfold OwnV
  rw [List.length_append]
  have e : vCells (l ++ [x]) = vCells l ++ [.int .u8 (x.k : Int), .int .i64 x.n, .string x.s] := by simp [vCells, V.cells]
  rw [e]
  exact h
/-- A value in a block of its own. -/
theorem reads_V (w : World) (base : Nat) (x : V) (hb : base ≤ w.heap.size) (k : Nat) (hk : w.heap.size = k) :
    Reads (w.alloc (.cells #[.int .u8 (x.k : Int), .int .i64 x.n, .string x.s] 23)) 3 (.slice (some ⟨k, 0, none⟩) 1 1) 1 [.int .u8 (x.k : Int), .int .i64 x.n, .string x.s] := by
  subst hk
  exact reads_of_owns (World.ownsRow_lit w #[.int .u8 (x.k : Int), .int .i64 x.n, .string x.s] 1 hb (by unfold maxLen; omega) rfl)
end Go.Proofs.Ytclkpbokngamiaa.Dt
