/-
  Tokens in rows: as they are read, and a row of the call's own that is appended to.
-/
import Derived.Test.YtghfaeapgghhlaaDoorLexTok
import Derived.Test.YtghfaeapgghhlaaDoorOwn
namespace Go.Proofs.YtghfaeapgghhlaaDoor.Dt
open Go.RowKit Go.Proofs.YtghfaeapgghhlaaDoor.By

def Tk.cells (t : Tk) : List Value := [.int .u8 (t.k : Int), .string t.s, .int .u64 (t.n : Int), .int .i64 t.a]
abbrev TksAt (w : World) (v : Value) (l : List Tk) : Prop := SlAt 4 Tk.cells w v l
/-- A token's cells in a row. -/
theorem at4 {w : World} {a : Option Addr} {n c k : Nat} {l : List Tk} {y : Tk} (h : TksAt w (.slice a n c) l) (hk : l[k]? = some y) :
    ∃ b o, a = some ⟨b, o, none⟩ ∧ b < w.heap.size ∧ w.cell? ⟨b, o + k * 4, none⟩ = some (.int .u8 (y.k : Int)) ∧ w.cell? ⟨b, o + k * 4 + 1, none⟩ = some (.string y.s) ∧ w.cell? ⟨b, o + k * 4 + 2, none⟩ = some (.int .u64 (y.n : Int)) ∧ w.cell? ⟨b, o + k * 4 + 3, none⟩ = some (.int .i64 y.a) := by
  obtain ⟨a', c', e, _, h⟩ := h
  simp only [Value.slice.injEq] at e
  obtain ⟨rfl, _, _⟩ := e
  obtain ⟨b, o, rfl, h'⟩ := h k y hk
  have h0 := h' 0 _ rfl
  exact ⟨b, o, rfl, cell_lt h0, h0, h' 1 _ rfl, h' 2 _ rfl, h' 3 _ rfl⟩
theorem elT : By.Elem Tryd.prog 41 48 4 40 where
  slice := by kernel_rfl
  info := by
    have h : (Tryd.prog.info? 48).map (fun i => (i.zero, i.size, i.bytes)) = some (some (.agg #[.int .u8 0, .string ⟨#[]⟩, .int .u64 0, .int .i64 0]), 4, 40) := by kernel_rfl
    obtain ⟨i, hi, h1, h2, h3⟩ := info_parts h
    exact ⟨i, _, hi, h1, h2, h3, rfl⟩
  pos := by decide

def tCells (l : List Tk) : List Value := l.flatMap Tk.cells
theorem tCells_get (l : List Tk) : ∀ (i : Nat) (x : Tk), l[i]? = some x → ∀ j u, x.cells[j]? = some u → (tCells l)[i * 4 + j]? = some u := by
  induction l with
  | nil => intro i x h; simp at h
  | cons y l ih =>
    intro i x h j u hu
    have hj : j < 4 := (List.getElem?_eq_some_iff.1 hu).1
    have e : tCells (y :: l) = y.cells ++ tCells l := rfl
    rcases i with _ | i
    · simp at h; subst h
      rw [e, List.getElem?_append_left (by show 0 * 3 + j < 4; omega), Nat.zero_mul, Nat.zero_add]
      exact hu
    · rw [e, List.getElem?_append_right (by show 4 ≤ _; omega), show (i + 1) * 4 + j - y.cells.length = i * 4 + j by show _ - 4 = _; omega]
      exact ih i x (by simpa using h) j u hu
/-- Owned values. -/
def OwnT (w : World) (base : Nat) (v : Value) (l : List Tk) : Prop := w.ownsRow base 48 4 v l.length (tCells l)
theorem OwnT.nil (w : World) (base : Nat) : OwnT w base (.slice none 0 0) [] := World.ownsRow_nil _ _ _ _
theorem OwnT.shape {w : World} {base : Nat} {v : Value} {l : List Tk} (h : OwnT w base v l) : ∃ a c, v = .slice a l.length c := by
  rcases h.2 with ⟨rfl, hn⟩ | ⟨g, cap, cur, rfl, _⟩
  · exact ⟨none, 0, by rw [hn]⟩
  · exact ⟨_, _, rfl⟩
theorem OwnT.at_ {w : World} {base : Nat} {v : Value} {l : List Tk} (h : OwnT w base v l) : TksAt w v l := by
  rcases h.2 with ⟨rfl, hn⟩ | ⟨g, cap, cur, rfl, hg, hh, hn, hcap, hsz, ht⟩
  · obtain rfl : l = [] := List.eq_nil_of_length_eq_zero hn
    exact SlAt.nil _ _ _
  · refine ⟨_, cap, rfl, hn, fun i x hx => ⟨g, 0, rfl, fun j u hu => ?_⟩⟩
    have := World.ownsRow.cells h rfl (i * 4 + j) u (tCells_get l i x hx j u hu)
    rw [Addr.add_lit, ← Nat.add_assoc] at this
    exact this
theorem OwnT.notBlock {w : World} {base : Nat} {v : Value} {l : List Tk} {k : Nat} (h : OwnT w base v l) (hk : w.heap.size ≤ k) : v.ownBlock ≠ some k := by
  intro e
  have := (World.ownsRow.lt h k e).2
  omega
theorem OwnT.below {w w' : World} {base : Nat} {v : Value} {l : List Tk} (h : OwnT w base v l) (hb : Below w.heap.size w w') : OwnT w' base v l :=
  World.ownsRow.kept (row := none) h ⟨hb.os, hb.tape, hb.output, hb.size, fun i hi _ => hb.block i hi⟩ (by cases v.ownBlock <;> simp)
theorem OwnT.snoc {w : World} {base : Nat} {v : Value} {l : List Tk} {x : Tk} (h : w.ownsRow base 48 4 v (l.length + 1) (tCells l ++ [.int .u8 (x.k : Int), .string x.s, .int .u64 (x.n : Int), .int .i64 x.a])) : OwnT w base v (l ++ [x]) := by
  unfold OwnT
  rw [List.length_append]
  have e : tCells (l ++ [x]) = tCells l ++ [.int .u8 (x.k : Int), .string x.s, .int .u64 (x.n : Int), .int .i64 x.a] := by simp [tCells, Tk.cells]
  rw [e]
  exact h
/-- A value in a block of its own. -/
theorem reads_T (w : World) (base : Nat) (x : Tk) (hb : base ≤ w.heap.size) (k : Nat) (hk : w.heap.size = k) :
    Reads (w.alloc (.cells #[.int .u8 (x.k : Int), .string x.s, .int .u64 (x.n : Int), .int .i64 x.a] 48)) 4 (.slice (some ⟨k, 0, none⟩) 1 1) 1 [.int .u8 (x.k : Int), .string x.s, .int .u64 (x.n : Int), .int .i64 x.a] := by
  subst hk
  exact reads_of_owns (World.ownsRow_lit w #[.int .u8 (x.k : Int), .string x.s, .int .u64 (x.n : Int), .int .i64 x.a] 1 hb (by unfold maxLen; omega) rfl)


end Go.Proofs.YtghfaeapgghhlaaDoor.Dt
