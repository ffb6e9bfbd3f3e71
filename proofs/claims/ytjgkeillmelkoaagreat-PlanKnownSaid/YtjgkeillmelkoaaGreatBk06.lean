import Derived.Deep.DeepCutAuto
import Derived.Laws.Tables
import Derived.Laws.Rows
import Derived.Test.YtjgkeillmelkoaaGreatProg
import Derived.ProofKit
import Derived.ArgAppend
import Derived.Deep.Onto
import Derived.Lib.SlBytesConst
import Derived.Test.YtjgkeillmelkoaaGreatBk02
import Derived.Test.YtjgkeillmelkoaaGreatBk04
import Derived.Test.YtjgkeillmelkoaaGreatBk05
import Derived.Test.YtjgkeillmelkoaaGreatBk03
import Derived.Test.YtjgkeillmelkoaaGreatBk01
namespace Go.Proofs.YtjgkeillmelkoaaGreat.Dt
open Go.RowKit Go.Proofs.YtjgkeillmelkoaaGreat.By

/-- What the library's variables read as. -/
structure LX (w : World) : Prop extends LW w
/-- Texts in a block. -/
def StrsAt (A : Nat) (l : List (List UInt8)) (w : World) : Prop := ∀ (j : Nat) x, l[j]? = some x → w.cell? ⟨A, j, none⟩ = some (str x)
theorem StrsAt.later {A : Nat} {l : List (List UInt8)} {w w' : World} (h : StrsAt A l w) (hb : Below w.heap.size w w') : StrsAt A l w' := fun j x hx => (hb.cell (cell_lt (h j x hx))).trans (h j x hx)
theorem cell_new (w : World) (l : List Value) (T : TypeId) (j : Nat) (v : Value) (h : l[j]? = some v) : (w.alloc (.cells l.toArray T)).cell? ⟨w.heap.size, j, none⟩ = some v := by
  unfold World.cell?
  rw [heap_alloc_new]
  simp [h]
theorem words_len : wordsL.length = 43 := by decide +kernel
end Go.Proofs.YtjgkeillmelkoaaGreat.Dt
namespace Go.Proofs.YtjgkeillmelkoaaGreat.Dt
open Go.RowKit Go.Proofs.YtjgkeillmelkoaaGreat.By

def T0 : Tk := ⟨0, ByteArray.empty, 0, 0⟩
/-- A box with no token in it yet. -/
structure TBox (b : Nat) (w : World) : Prop where
  c0 : w.cell? ⟨b, 0, none⟩ = some (.int .u8 0)
  c1 : w.cell? ⟨b, 1, none⟩ = some (.string ⟨#[]⟩)
  c2 : w.cell? ⟨b, 2, none⟩ = some (.int .u64 0)
  c3 : w.cell? ⟨b, 3, none⟩ = some (.int .i64 0)
  f0 : w.frozen? ⟨b, 0, none⟩ = false
  f1 : w.frozen? ⟨b, 1, none⟩ = false
  f2 : w.frozen? ⟨b, 2, none⟩ = false
  f3 : w.frozen? ⟨b, 3, none⟩ = false
theorem TBox.lt {b : Nat} {w : World} (h : TBox b w) : b < w.heap.size := cell_lt h.c0
theorem TBox.later {b : Nat} {w w' : World} (h : TBox b w) (hb : Below w.heap.size w w') : TBox b w' :=
  ⟨(hb.cell h.lt).trans h.c0, (hb.cell h.lt).trans h.c1, (hb.cell h.lt).trans h.c2, (hb.cell h.lt).trans h.c3, (hb.frozen h.lt).trans h.f0, (hb.frozen h.lt).trans h.f1, (hb.frozen h.lt).trans h.f2, (hb.frozen h.lt).trans h.f3⟩
theorem tBox_new (w : World) (t : TypeId) : TBox w.heap.size (w.alloc (.cells #[.int .u8 0, .string ⟨#[]⟩, .int .u64 0, .int .i64 0] t)) := by
  constructor <;> go_simp
theorem filled4 (w : World) (b : Nat) (x y z u : Value) (h : TBox b w) : ∀ W, W = ((((w.setCell ⟨b, 0, none⟩ x).setCell ⟨b, 1, none⟩ y).setCell ⟨b, 2, none⟩ z).setCell ⟨b, 3, none⟩ u) →
    W.cell? ⟨b, 0, none⟩ = some x ∧ W.cell? ⟨b, 1, none⟩ = some y ∧ W.cell? ⟨b, 2, none⟩ = some z ∧ W.cell? ⟨b, 3, none⟩ = some u := by
  rintro W rfl
  have s0 := set_same3 w ⟨b, 0, none⟩ x _ h.c0
  have s1 := set_same3 (w.setCell ⟨b, 0, none⟩ x) ⟨b, 1, none⟩ y _ ((set_else3 w b 0 1 x (by decide)).trans h.c1)
  have s2 := set_same3 ((w.setCell ⟨b, 0, none⟩ x).setCell ⟨b, 1, none⟩ y) ⟨b, 2, none⟩ z _ ((set_else3 _ b 1 2 y (by decide)).trans ((set_else3 w b 0 2 x (by decide)).trans h.c2))
  have s3 := set_same3 (((w.setCell ⟨b, 0, none⟩ x).setCell ⟨b, 1, none⟩ y).setCell ⟨b, 2, none⟩ z) ⟨b, 3, none⟩ u _ ((set_else3 _ b 2 3 z (by decide)).trans ((set_else3 _ b 1 3 y (by decide)).trans ((set_else3 w b 0 3 x (by decide)).trans h.c3)))
  exact ⟨(set_else3 _ b 3 0 u (by decide)).trans ((set_else3 _ b 2 0 z (by decide)).trans ((set_else3 _ b 1 0 y (by decide)).trans s0)), (set_else3 _ b 3 1 u (by decide)).trans ((set_else3 _ b 2 1 z (by decide)).trans s1), (set_else3 _ b 3 2 u (by decide)).trans s2, s3⟩
/-- The world that a reader lies in: above one in which the library's variables read as they are listed. -/
structure Env (w0 : World) (r : Nat) (w : World) : Prop where
  hw : LX w0
  hb : Below w0.heap.size w0 w
  hr : w0.heap.size ≤ r
end Go.Proofs.YtjgkeillmelkoaaGreat.Dt
namespace Go.Proofs.YtjgkeillmelkoaaGreat.Dt
open Go.RowKit Go.Proofs.YtjgkeillmelkoaaGreat.By

def Tk.cells (t : Tk) : List Value := [.int .u8 (t.k : Int), .string t.s, .int .u64 (t.n : Int), .int .i64 t.a]
abbrev TksAt (w : World) (v : Value) (l : List Tk) : Prop := SlAt 4 Tk.cells w v l
/-- A token's cells in a row. -/
theorem at4 {w : World} {a : Option Addr} {n c k : Nat} {l : List Tk} {y : Tk} (h : TksAt w (.slice a n c) l) (hk : l[k]? = some y) :
    ∃ b o, a = some ⟨b, o, none⟩ ∧ b < w.heap.size ∧ w.cell? ⟨b, o + k * 4, none⟩ = some (.int .u8 (y.k : Int)) ∧ w.cell? ⟨b, o + k * 4 + 1, none⟩ = some (.string y.s) ∧ w.cell? ⟨b, o + k * 4 + 2, none⟩ = some (.int .u64 (y.n : Int)) ∧ w.cell? ⟨b, o + k * 4 + 3, none⟩ = some (.int .i64 y.a) := by
  obtain ⟨a', c', e, _, h⟩ := h
  simp only [Value.slice.injEq] at e
  obtain ⟨rfl, _, _⟩ := e
  obtain ⟨b, o, rfl, h'⟩ := h k y hk
  have h0 := h' 0 _ rfl
  exact ⟨b, o, rfl, cell_lt h0, h0, h' 1 _ rfl, h' 2 _ rfl, h' 3 _ rfl⟩
theorem elT : By.Elem Tryz.prog 84 114 4 40 where
  slice := by kernel_rfl
  info := by
    have h : (Tryz.prog.info? 114).map (fun i => (i.zero, i.size, i.bytes)) = some (some (.agg #[.int .u8 0, .string ⟨#[]⟩, .int .u64 0, .int .i64 0]), 4, 40) := by kernel_rfl
    obtain ⟨i, hi, h1, h2, h3⟩ := info_parts h
    exact ⟨i, _, hi, h1, h2, h3, rfl⟩
  pos := by decide

def tCells (l : List Tk) : List Value := l.flatMap Tk.cells
theorem tCells_get (l : List Tk) : ∀ (i : Nat) (x : Tk), l[i]? = some x → ∀ j u, x.cells[j]? = some u → (tCells l)[i * 4 + j]? = some u := by
  induction l with
  | nil => intro i x h; simp at h
  | cons y l ih =>
    intro i x h j u hu
    have hj : j < 4 := (List.getElem?_eq_some_iff.1 hu).1
    have e : tCells (y :: l) = y.cells ++ tCells l := rfl
    rcases i with _ | i
    · simp at h; subst h
      rw [e, List.getElem?_append_left (by show 0 * 3 + j < 4; omega), Nat.zero_mul, Nat.zero_add]
      exact hu
    · rw [e, List.getElem?_append_right (by show 4 ≤ _; omega), show (i + 1) * 4 + j - y.cells.length = i * 4 + j by show _ - 4 = _; omega]
      exact ih i x (by simpa using h) j u hu
/-- Owned values. -/
def OwnT (w : World) (base : Nat) (v : Value) (l : List Tk) : Prop := w.ownsRow base 114 4 v l.length (tCells l)
theorem OwnT.nil (w : World) (base : Nat) : OwnT w base (.slice none 0 0) [] := World.ownsRow_nil _ _ _ _
theorem OwnT.shape {w : World} {base : Nat} {v : Value} {l : List Tk} (h : OwnT w base v l) : ∃ a c, v = .slice a l.length c := by
  rcases h.2 with ⟨rfl, hn⟩ | ⟨g, cap, cur, rfl, _⟩
  · exact ⟨none, 0, by rw [hn]⟩
  · exact ⟨_, _, rfl⟩
theorem OwnT.at_ {w : World} {base : Nat} {v : Value} {l : List Tk} (h : OwnT w base v l) : TksAt w v l := by
  rcases h.2 with ⟨rfl, hn⟩ | ⟨g, cap, cur, rfl, hg, hh, hn, hcap, hsz, ht⟩
  · obtain rfl : l = [] := List.eq_nil_of_length_eq_zero hn
    exact SlAt.nil _ _ _
  · refine ⟨_, cap, rfl, hn, fun i x hx => ⟨g, 0, rfl, fun j u hu => ?_⟩⟩
    have := World.ownsRow.cells h rfl (i * 4 + j) u (tCells_get l i x hx j u hu)
    rw [Addr.add_lit, ← Nat.add_assoc] at this
    exact this
theorem OwnT.below {w w' : World} {base : Nat} {v : Value} {l : List Tk} (h : OwnT w base v l) (hb : Below w.heap.size w w') : OwnT w' base v l :=
  World.ownsRow.kept (row := none) h ⟨hb.os, hb.tape, hb.output, hb.size, fun i hi _ => hb.block i hi⟩ (by cases v.ownBlock <;> simp)
theorem OwnT.snoc {w : World} {base : Nat} {v : Value} {l : List Tk} {x : Tk} (h : w.ownsRow base 114 4 v (l.length + 1) (tCells l ++ [.int .u8 (x.k : Int), .string x.s, .int .u64 (x.n : Int), .int .i64 x.a])) : OwnT w base v (l ++ [x]) := by
  unfold OwnT
  rw [List.length_append]
  have e : tCells (l ++ [x]) = tCells l ++ [.int .u8 (x.k : Int), .string x.s, .int .u64 (x.n : Int), .int .i64 x.a] := by simp [tCells, Tk.cells]
  rw [e]
  exact h
/-- A value in a block of its own. -/
theorem reads_T (w : World) (base : Nat) (x : Tk) (hb : base ≤ w.heap.size) (k : Nat) (hk : w.heap.size = k) :
    Reads (w.alloc (.cells #[.int .u8 (x.k : Int), .string x.s, .int .u64 (x.n : Int), .int .i64 x.a] 114)) 4 (.slice (some ⟨k, 0, none⟩) 1 1) 1 [.int .u8 (x.k : Int), .string x.s, .int .u64 (x.n : Int), .int .i64 x.a] := by
  subst hk
  exact reads_of_owns (World.ownsRow_lit w #[.int .u8 (x.k : Int), .string x.s, .int .u64 (x.n : Int), .int .i64 x.a] 1 hb (by unfold maxLen; omega) rfl)


end Go.Proofs.YtjgkeillmelkoaaGreat.Dt
namespace Go.Proofs.YtjgkeillmelkoaaGreat.Dt
open Go.RowKit Go.Proofs.YtjgkeillmelkoaaGreat.By

/-- What hangs on some blocks alone. -/
def Dep (S : Nat → Prop) (w : World) (P : World → Prop) : Prop := ∀ w', (∀ b, S b → b < w.heap.size → w'.heap[b]? = w.heap[b]?) → P w'
theorem Dep.here {S : Nat → Prop} {w : World} {P : World → Prop} (h : Dep S w P) : P w := h w fun _ _ _ => rfl
theorem Dep.step {S S' : Nat → Prop} {w w' : World} {P : World → Prop} (h : Dep S w P) (hz : w.heap.size ≤ w'.heap.size) (hs : ∀ b, S b → b < w.heap.size → S' b ∧ w'.heap[b]? = w.heap[b]?) : Dep S' w' P :=
  fun u hu => h u fun b hb hlt => (hu b (hs b hb hlt).1 (Nat.lt_of_lt_of_le hlt hz)).trans (hs b hb hlt).2
theorem Dep.imp {S : Nat → Prop} {w : World} {P Q : World → Prop} (h : Dep S w P) (hpq : ∀ u, P u → Q u) : Dep S w Q := fun u hu => hpq u (h u hu)
theorem Dep.imp2 {S : Nat → Prop} {w : World} {P Q R : World → Prop} (h : Dep S w P) (h2 : Dep S w Q) (hpq : ∀ u, P u → Q u → R u) : Dep S w R := fun u hu => hpq u (h u hu) (h2 u hu)
theorem Dep.sub {S S' : Nat → Prop} {w : World} {P : World → Prop} (h : Dep S w P) (hs : ∀ b, S b → b < w.heap.size → S' b) : Dep S' w P := h.step (Nat.le_refl _) fun b h1 h2 => ⟨hs b h1 h2, rfl⟩
theorem Dep.const {S : Nat → Prop} {w : World} {P : Prop} (h : P) : Dep S w (fun _ => P) := fun _ _ => h
/-- .. on blocks from n on. -/
def New (n : Nat) (w : World) (P : World → Prop) : Prop := Dep (fun b => n ≤ b) w P
theorem New.here {n : Nat} {w : World} {P : World → Prop} (h : New n w P) : P w := Dep.here h
theorem New.const {n : Nat} {w : World} {P : Prop} (h : P) : New n w (fun _ => P) := fun _ _ => h
theorem New.imp {n : Nat} {w : World} {P Q : World → Prop} (h : New n w P) (hpq : ∀ u, P u → Q u) : New n w Q := Dep.imp h hpq
theorem New.mono {n m : Nat} {w : World} {P : World → Prop} (h : New n w P) (hm : m ≤ n) : New m w P := Dep.sub h fun _ hb _ => Nat.le_trans hm hb
theorem New.below {n : Nat} {w w' : World} {P : World → Prop} (h : New n w P) (hb : Below w.heap.size w w') : New n w' P := Dep.step h hb.size fun b h1 h2 => ⟨h1, hb.block b h2⟩
/-- A slice whose elements, of so many cells each, are told by a relation. -/
def SlR {α : Type} (size : Nat) (R : World → List Value → α → Prop) (w : World) (v : Value) (l : List α) : Prop :=
  ∃ cs : List (List Value), SlAt size (fun c => c) w v cs ∧ cs.length = l.length ∧ ∀ (i : Nat) (c : List Value) (x : α), cs[i]? = some c → l[i]? = some x → c.length = size ∧ R w c x
theorem SlR.shape {α : Type} {size : Nat} {R : World → List Value → α → Prop} {w : World} {v : Value} {l : List α} (h : SlR size R w v l) : ∃ a c, v = .slice a l.length c ∧ l.length ≤ c := by
  obtain ⟨cs, ⟨a, c, rfl, hc, _⟩, hl, _⟩ := h
  exact ⟨a, c, by rw [hl], by omega⟩
theorem SlR.nil {α : Type} (size : Nat) (R : World → List Value → α → Prop) (w : World) : SlR size R w (.slice none 0 0) ([] : List α) :=
  ⟨[], SlAt.nil _ _ _, rfl, fun i c x h => by simp at h⟩
/-- One element's cells. -/
theorem SlR.get {α : Type} {size : Nat} {R : World → List Value → α → Prop} {w : World} {a : Option Addr} {n c k : Nat} {l : List α} {x : α} (h : SlR size R w (.slice a n c) l) (hk : l[k]? = some x) :
    ∃ b o cs, a = some ⟨b, o, none⟩ ∧ cs.length = size ∧ R w cs x ∧ ∀ (j : Nat) (u : Value), cs[j]? = some u → w.cell? ⟨b, o + k * size + j, none⟩ = some u := by
  obtain ⟨cs, ⟨a', c', e, hc, h⟩, hl, hR⟩ := h
  simp only [Value.slice.injEq] at e
  obtain ⟨rfl, _, _⟩ := e
  have hlt : k < cs.length := by rw [hl]; exact (List.getElem?_eq_some_iff.1 hk).1
  obtain ⟨b, o, rfl, h'⟩ := h k cs[k] (by simp [hlt])
  obtain ⟨h1, h2⟩ := hR k cs[k] x (by simp [hlt]) hk
  exact ⟨b, o, cs[k], rfl, h1, h2, h'⟩

/-- The cells of an expression, with the header of its kids' slice. -/
def PE.cells (x : PE) (kv : Value) : List Value := [.int .u8 (x.op : Int), .int .u8 (x.v.k : Int), .int .i64 x.v.n, .string x.v.s, .string x.t, .string x.m, .int .i64 x.n, kv]
/-- An expression lies in 'w', its node's cells are these. -/
inductive ExR (w : World) : List Value → PE → Prop where
  | mk (x : PE) (kv : Value) (cs : List (List Value)) (h : SlAt 8 (fun c => c) w kv cs) (hl : cs.length = x.kids.length) (h8 : ∀ (i : Nat) (c : List Value), cs[i]? = some c → c.length = 8)
      (hk : ∀ (i : Nat) (c : List Value) (y : PE), cs[i]? = some c → x.kids[i]? = some y → ExR w c y) : ExR w (x.cells kv) x
abbrev ExsR (w : World) (v : Value) (l : List PE) : Prop := SlR 8 ExR w v l
theorem exR_iff {w : World} {cs : List Value} {x : PE} : ExR w cs x ↔ ∃ kv, cs = x.cells kv ∧ ExsR w kv x.kids := by
  constructor
  · exact fun h => match h with
    | .mk _ kv cs ha hl h8 hk => ⟨kv, rfl, cs, ha, hl, fun i c y hc hy => ⟨h8 i c hc, hk i c y hc hy⟩⟩
  · rintro ⟨kv, rfl, cs, h, hl, hk⟩
    refine .mk x kv cs h hl (fun i c hc => ?_) (fun i c y hc hy => (hk i c y hc hy).2)
    have hlt : i < x.kids.length := by rw [← hl]; exact (List.getElem?_eq_some_iff.1 hc).1
    exact (hk i c x.kids[i] hc (by simp [hlt])).1
/-- The parser's box: the tokens, how far they were read, the text's length, the first error; in a world above the one in which the tokens were made. -/
structure PB (w0 : World) (r : Nat) (tv : Value) (L : List Tk) (en : Int) (s : PS) (w : World) : Prop where
  c0 : w.cell? ⟨r, 0, none⟩ = some tv
  c1 : w.cell? ⟨r, 1, none⟩ = some (.int .i64 (s.k : Int))
  c2 : w.cell? ⟨r, 2, none⟩ = some (.int .i64 en)
  c3 : w.cell? ⟨r, 3, none⟩ = some (.int .i64 (s.e : Int))
  c4 : w.cell? ⟨r, 4, none⟩ = some (.int .i64 s.a)
  f1 : w.frozen? ⟨r, 1, none⟩ = false
  f3 : w.frozen? ⟨r, 3, none⟩ = false
  f4 : w.frozen? ⟨r, 4, none⟩ = false
  tk : TksAt w0 tv L
  hb : Below w0.heap.size w0 w
  hr : w0.heap.size ≤ r
  hl : L.length ≤ 4096
  hk : s.k ≤ L.length
variable {w0 w w' : World} {r : Nat} {tv : Value} {L : List Tk} {en : Int} {s : PS}
end Go.Proofs.YtjgkeillmelkoaaGreat.Dt
namespace Go.Proofs.YtjgkeillmelkoaaGreat.Dt
open Go.RowKit Go.Proofs.YtjgkeillmelkoaaGreat.By

/-- A block holds these cells. -/
abbrev Row (g : Nat) (t : TypeId) (cs : Array Value) (w : World) : Prop := w.heap[g]? = some (.cells cs t (0, 0))
theorem Row.lt {g : Nat} {t : TypeId} {cs : Array Value} {w : World} (h : Row g t cs w) : g < w.heap.size := (Array.getElem?_eq_some_iff.1 h).1
theorem Row.later {g : Nat} {t : TypeId} {cs : Array Value} {w w' : World} (h : Row g t cs w) (hb : Below w.heap.size w w') : Row g t cs w' := (hb.block g h.lt).trans h
theorem Row.grown {g r : Nat} {t : TypeId} {cs : Array Value} {w w' : World} (h : Row g t cs w) (k : w.grownBy w' (some r)) (hr : g ≠ r) : Row g t cs w' := (k.block g h.lt (fun e => hr (by cases e; rfl))).trans h
theorem row_alloc (w : World) (t : TypeId) (cs : Array Value) : Row w.heap.size t cs (w.alloc (.cells cs t)) := by
  show (w.heap.push _)[w.heap.size]? = _
  simp
theorem Row.set {g : Nat} {t : TypeId} {cs : Array Value} {w : World} (h : Row g t cs w) (cs' : Array Value) : Row g t cs' (w.setRow g cs') := setRow_heap w g cs cs' t _ h
theorem Row.cell {g i : Nat} {t : TypeId} {cs : Array Value} {w : World} {v : Value} (h : Row g t cs w) (hi : cs[i]? = some v) : w.cell? ⟨g, i, none⟩ = some v := by
  unfold World.cell?
  rw [h]
  simpa using hi
theorem grown_setRow (w : World) (g : Nat) (cs : Array Value) : w.grownBy (w.setRow g cs) (some g) := ⟨rfl, rfl, rfl, by simp, fun k _ hk => setRow_other w g k cs (fun e => hk (by rw [e]))⟩
theorem below_setRow' {B g : Nat} {w0 w : World} (h : Below B w0 w) (hg : B ≤ g) (cs : Array Value) : Below B w0 (w.setRow g cs) :=
  ⟨h.os, h.tape, h.output, by simpa using h.size, fun k hk => (setRow_other w g k cs (by omega)).trans (h.block k hk)⟩
theorem grown_fill {w w' : World} {r g : Nat} (h : w.grownBy w' (some r)) (hg : w.heap.size ≤ g) (cs : Array Value) : w.grownBy (w'.setRow g cs) (some r) :=
  ⟨h.os, h.tape, h.output, by simpa using h.size, fun k hk hn => (setRow_other w' g k cs (by omega)).trans (h.block k hk hn)⟩
theorem ex_cells {w : World} {cs : List Value} {x : PE} (h : ExR w cs x) : cs.length = 8 ∧ ∀ v ∈ cs, v.oneCell' = true := by
  obtain ⟨kv, rfl, h2⟩ := exR_iff.1 h
  obtain ⟨a, c, rfl, _⟩ := h2.shape
  exact ⟨rfl, fun v hv => by simp [PE.cells] at hv; rcases hv with rfl | rfl | rfl | rfl | rfl | rfl | rfl | rfl <;> rfl⟩
/-- An expression told by its cells, which are not looked at; what it hangs on. -/
structure ExD (S : Nat → Prop) (w : World) (cs : Array Value) (x : PE) : Prop where
  size : cs.size = 8
  one : cs.all (·.oneCell') = true
  new : Dep S w fun u => ExR u cs.toList x
abbrev ExN (n : Nat) (w : World) (cs : Array Value) (x : PE) : Prop := ExD (fun b => n ≤ b) w cs x
theorem ExD.step {S S' : Nat → Prop} {w w' : World} {cs : Array Value} {x : PE} (h : ExD S w cs x) (hz : w.heap.size ≤ w'.heap.size) (hs : ∀ b, S b → b < w.heap.size → S' b ∧ w'.heap[b]? = w.heap[b]?) : ExD S' w' cs x := ⟨h.size, h.one, h.new.step hz hs⟩
theorem ExD.later {S : Nat → Prop} {w w' : World} {cs : Array Value} {x : PE} (h : ExD S w cs x) (hb : Below w.heap.size w w') : ExD S w' cs x := h.step hb.size fun b h1 h2 => ⟨h1, hb.block b h2⟩
theorem ExD.grown {S : Nat → Prop} {r : Nat} {w w' : World} {cs : Array Value} {x : PE} (h : ExD S w cs x) (g : w.grownBy w' (some r)) (hr : ¬ S r) : ExD S w' cs x := h.step g.size fun b h1 h2 => ⟨h1, g.block b h2 (fun e => by cases e; exact hr h1)⟩
theorem ExN.later {n : Nat} {w w' : World} {cs : Array Value} {x : PE} (h : ExN n w cs x) (hb : Below w.heap.size w w') : ExN n w' cs x := ExD.later h hb
theorem ExD.set {S : Nat → Prop} {g : Nat} {w : World} {cs d : Array Value} {x : PE} (h : ExD S w cs x) (hg : ¬ S g) : ExD S (w.setRow g d) cs x := h.step (by simp) fun b h1 _ => ⟨h1, setRow_other w g b d (fun e => hg (e ▸ h1))⟩

/-- A row of one expression, of two. -/
theorem exs_row {S : Nat → Prop} {g : Nat} {w : World} {t : TypeId} {css : List (Array Value)} {xs : List PE} (hr : Row g t (css.map Array.toList).flatten.toArray w) (hg : S g) (hl : css.length = xs.length)
    (hx : ∀ (i : Nat) (c : Array Value) (x : PE), css[i]? = some c → xs[i]? = some x → ExD S w c x) : Dep S w fun u => ExsR u (.slice (some ⟨g, 0, none⟩) xs.length xs.length) xs := by
  intro u hu
  have hru : Row g t (css.map Array.toList).flatten.toArray u := (hu g hg hr.lt).trans hr
  have h8 : ∀ (i : Nat) (c : Array Value), css[i]? = some c → c.size = 8 := fun i c hc => by
    have hi : i < xs.length := by rw [← hl]; exact (List.getElem?_eq_some_iff.1 hc).1
    exact (hx i c xs[i] hc (by simp [hi])).size
  refine ⟨css.map Array.toList, ⟨_, _, by rw [List.length_map, hl], by rw [List.length_map, hl]; exact Nat.le_refl _, fun i x hi => ⟨g, 0, rfl, fun j v hj => ?_⟩⟩, by rw [List.length_map, hl], fun i c x hc hxi => ?_⟩
  · refine hru.cell ?_
    have key : ∀ (l : List (Array Value)) (i : Nat) (x : List Value) (j : Nat) (v : Value), (∀ c ∈ l, c.size = 8) → (l.map Array.toList)[i]? = some x → x[j]? = some v → (l.map Array.toList).flatten[i * 8 + j]? = some v := by
      intro l
      induction l with
      | nil => intro i x j v _ h; simp at h
      | cons c l ih =>
        intro i x j v h8 hx hj
        have hc8 : c.toList.length = 8 := by simpa using h8 c (by simp)
        rcases i with _ | i
        · simp at hx; subst hx
          have : j < 8 := by rw [← hc8]; exact (List.getElem?_eq_some_iff.1 hj).1
          simp only [List.map_cons, List.flatten_cons]
          rw [List.getElem?_append_left (by omega), Nat.zero_mul, Nat.zero_add]
          exact hj
        · simp only [List.map_cons, List.flatten_cons]
          rw [List.getElem?_append_right (by omega), show (i + 1) * 8 + j - c.toList.length = i * 8 + j by omega]
          exact ih i x j v (fun c hc => h8 c (by simp [hc])) (by simpa using hx) hj
    rw [Nat.zero_add]
    simpa using key css i x j v (fun c hc => by obtain ⟨i, hi⟩ := List.getElem?_of_mem hc; exact h8 i c hi) hi hj
  · rw [List.getElem?_map] at hc
    cases hcc : css[i]? with
    | none => rw [hcc] at hc; cases hc
    | some c' =>
      rw [hcc] at hc
      cases hc
      have := hx i c' x hcc hxi
      exact ⟨by simpa using this.size, this.new u hu⟩
theorem exs_row1 {S : Nat → Prop} {g : Nat} {w : World} {t : TypeId} {c : Array Value} {x : PE} (hr : Row g t c w) (hg : S g) (hx : ExD S w c x) : Dep S w fun u => ExsR u (.slice (some ⟨g, 0, none⟩) 1 1) [x] :=
  exs_row (css := [c]) (xs := [x]) (by simpa using hr) hg rfl (fun i c' x' hc hx' => by
    rcases i with _ | i
    · simp at hc hx'; subst hc hx'; exact hx
    · simp at hc)
theorem exs_row2 {S : Nat → Prop} {g : Nat} {w : World} {t : TypeId} {c d : Array Value} {x y : PE} (hr : Row g t (c ++ d) w) (hg : S g) (hx : ExD S w c x) (hy : ExD S w d y) : Dep S w fun u => ExsR u (.slice (some ⟨g, 0, none⟩) 2 2) [x, y] :=
  exs_row (css := [c, d]) (xs := [x, y]) (by simpa [← Array.toList_append] using hr) hg rfl (fun i c' x' hc hx' => by
    rcases i with _ | _ | i
    · simp at hc hx'; subst hc hx'; exact hx
    · simp at hc hx'; subst hc hx'; exact hy
    · simp at hc)

theorem ex_size : (Tryz.prog.info? 44).map (·.size) = some 8 := by kernel_rfl
def isSt : TypeDesc → Bool
  | .struct _ => true
  | _ => false
theorem st_of {P : Program} {T : TypeId} (h : (P.underlying T).map isSt = some true) : ∃ fs, P.underlying T = some (.struct fs) := by
  cases hq : P.underlying T with
  | none => rw [hq] at h; cases h
  | some d =>
    rw [hq] at h
    cases d with
    | struct fs => exact ⟨fs, rfl⟩
    | _ => cases h
theorem ex_struct : ∃ fs, Tryz.prog.underlying 44 = some (.struct fs) := st_of (by kernel_rfl)
theorem arr8 {c : Array Value} (h : c.size = 8) : ∃ a0 a1 a2 a3 a4 a5 a6 a7, c = #[a0, a1, a2, a3, a4, a5, a6, a7] := by
  obtain ⟨a, b, d, e, f, g, i, j, h⟩ := list8 (l := c.toList) (by simpa using h)
  exact ⟨a, b, d, e, f, g, i, j, Array.toList_inj.1 h⟩
theorem exsl_under : Tryz.prog.underlying 32 = some (.slice 44) := by kernel_rfl
theorem exZero : ∀ w, (zeroValue 44).run Tryz.prog w = .ok (.agg #[.int .u8 0, .int .u8 0, .int .i64 0, .string ⟨#[]⟩, .string ⟨#[]⟩, .string ⟨#[]⟩, .int .i64 0, .slice none 0 0]) w := fun _ => by kernel_rfl
theorem run_bs1 (w : World) (c : Array Value) (h : c.size = 8) : (Instr.buildSlice 32 1 #[(0, .agg c)]).run Tryz.prog w = .ok (.slice (some ⟨w.heap.size, 0, none⟩) 1 1) (w.alloc (.cells c 44)) := by
  obtain ⟨a0, a1, a2, a3, a4, a5, a6, a7, rfl⟩ := arr8 h
  go_simp
theorem run_bs2 (w : World) (c d : Array Value) (h : c.size = 8) (h2 : d.size = 8) : (Instr.buildSlice 32 2 #[(0, .agg c), (1, .agg d)]).run Tryz.prog w = .ok (.slice (some ⟨w.heap.size, 0, none⟩) 2 2) (w.alloc (.cells (c ++ d) 44)) := by
  obtain ⟨a0, a1, a2, a3, a4, a5, a6, a7, rfl⟩ := arr8 h
  obtain ⟨b0, b1, b2, b3, b4, b5, b6, b7, rfl⟩ := arr8 h2
  go_simp

def veilSt (T : TypeId) (a : Addr) (v : Value) := storeVar T a v
def veilLd (T : TypeId) (a : Addr) := loadVar T a
theorem run_veilSt {T : TypeId} {n : Nat} (hi : (Tryz.prog.info? T).map (·.size) = some n) (W : World) (g : Nat) (old cells : Array Value) (t : TypeId) (hg : W.heap[g]? = some (.cells old t (0, 0))) (ho : old.size = n) (hc : cells.size = n) (h1 : cells.all (·.oneCell') = true) :
    (veilSt T ⟨g, 0, none⟩ (.agg cells)).run Tryz.prog W = .ok () (W.setRow g cells) :=
  run_storeVar_row W g t T old cells hg (by rw [hi, hc]) (ho.trans hc.symm) h1
theorem setRow_alloc (w : World) (cs cs' : Array Value) (t : TypeId) : (w.alloc (.cells cs t)).setRow w.heap.size cs' = w.alloc (.cells cs' t) := by
  have hm : ∀ (a : Array Obj) (x : Obj) (f : Obj → Obj), (a.push x).modify a.size f = a.push (f x) := by
    intro a x f
    apply Array.ext
    · simp
    · intro i h1 h2
      simp only [Array.size_modify, Array.size_push] at h1
      rcases Nat.lt_or_ge i a.size with hi | hi
      · simp [Array.getElem_modify, Array.getElem_push, hi, show a.size ≠ i by omega]
      · obtain rfl : i = a.size := by omega
        simp [Array.getElem_modify, Array.getElem_push]
  unfold World.setRow World.alloc
  simp only [hm]

theorem run_veilNew {T : TypeId} {n : Nat} (hi : (Tryz.prog.info? T).map (·.size) = some n) (W : World) (old cells : Array Value) (t : TypeId) (ho : old.size = n) (hc : cells.size = n) (h1 : cells.all (·.oneCell') = true) :
    (veilSt T ⟨W.heap.size, 0, none⟩ (.agg cells)).run Tryz.prog (W.alloc (.cells old t)) = .ok () (W.alloc (.cells cells t)) := by
  rw [run_veilSt hi _ _ old cells t (row_alloc W t old) ho hc h1, setRow_alloc]
theorem run_veilLd {T : TypeId} {n : Nat} {fs : Array Field} (hu : Tryz.prog.underlying T = some (.struct fs)) (hi : (Tryz.prog.info? T).map (·.size) = some n) (W : World) (g : Nat) (cells : Array Value) (t : TypeId) (hg : W.heap[g]? = some (.cells cells t (0, 0))) (hc : cells.size = n) :
    (veilLd T ⟨g, 0, none⟩).run Tryz.prog W = .ok (.agg cells) W :=
  run_loadVar_row W g t T cells (0, 0) _ hg hu rfl (by rw [hi, hc])
theorem tk_size : (Tryz.prog.info? 114).map (·.size) = some 4 := by kernel_rfl
abbrev tkC (t : Tk) : Array Value := #[.int .u8 (t.k : Int), .string t.s, .int .u64 (t.n : Int), .int .i64 t.a]
abbrev tkZ : Array Value := #[.int .u8 0, .string ⟨#[]⟩, .int .u64 0, .int .i64 0]
abbrev exZ : Array Value := #[.int .u8 0, .int .u8 0, .int .i64 0, .string ⟨#[]⟩, .string ⟨#[]⟩, .string ⟨#[]⟩, .int .i64 0, .slice none 0 0]
theorem veilSt_ex (a : Addr) (v : Value) : storeVar 44 a v = veilSt 44 a v := rfl
theorem veilLd_ex (a : Addr) : loadVar 44 a = veilLd 44 a := rfl
theorem veilSt_tk (a : Addr) (v : Value) : storeVar 114 a v = veilSt 114 a v := rfl
/-- A block that may be written to, of so many cells; what it holds. -/
def rowB (n : Nat) (w : World) (g : Nat) : Bool := match w.heap[g]? with
  | some (.cells cs _ fr) => decide (fr = (0, 0)) && decide (cs.size = n)
  | _ => false
def rowOf (w : World) (g : Nat) : Array Value := match w.heap[g]? with
  | some (.cells cs _ _) => cs
  | _ => #[]
theorem Row.b {g n : Nat} {t : TypeId} {cs : Array Value} {w : World} (h : Row g t cs w) (hs : cs.size = n) : rowB n w g = true := by
  unfold rowB
  rw [h]
  simp [hs]
theorem Row.of {g : Nat} {t : TypeId} {cs : Array Value} {w : World} (h : Row g t cs w) : rowOf w g = cs := by
  unfold rowOf
  rw [h]
theorem rowB_row {g n : Nat} {w : World} (h : rowB n w g = true) : ∃ t cs, Row g t cs w ∧ cs.size = n ∧ rowOf w g = cs := by
  unfold rowB at h
  split at h
  · rename_i cs t fr e
    simp only [Bool.and_eq_true, decide_eq_true_eq] at h
    obtain ⟨rfl, hs⟩ := h
    exact ⟨t, cs, e, hs, Row.of e⟩
  · cases h
/-- Cells that can be stored. -/
def okRow (n : Nat) (cs : Array Value) : Bool := decide (cs.size = n) && cs.all (·.oneCell')
theorem okRow_iff {n : Nat} {cs : Array Value} : okRow n cs = true ↔ cs.size = n ∧ cs.all (·.oneCell') = true := by unfold okRow; rw [Bool.and_eq_true, decide_eq_true_eq]
theorem okRow8 (a b c d e f g i : Value) : okRow 8 #[a, b, c, d, e, f, g, i] = (a.oneCell' && (b.oneCell' && (c.oneCell' && (d.oneCell' && (e.oneCell' && (f.oneCell' && (g.oneCell' && i.oneCell'))))))) := by simp [okRow]
theorem okRow4 (a b c d : Value) : okRow 4 #[a, b, c, d] = (a.oneCell' && (b.oneCell' && (c.oneCell' && d.oneCell'))) := by simp [okRow]
theorem ExD.ok {S : Nat → Prop} {w : World} {cs : Array Value} {x : PE} (h : ExD S w cs x) : okRow 8 cs = true := okRow_iff.2 ⟨h.size, h.one⟩
theorem run_exSt (W : World) (g : Nat) (cells : Array Value) (hg : rowB 8 W g = true) (h1 : okRow 8 cells = true) :
    (veilSt 44 ⟨g, 0, none⟩ (.agg cells)).run Tryz.prog W = .ok () (W.setRow g cells) := by
  obtain ⟨t, old, hr, ho, _⟩ := rowB_row hg
  obtain ⟨hc, h1⟩ := okRow_iff.1 h1
  exact run_veilSt ex_size W g old cells t hr ho hc h1
theorem run_exNew (W : World) (old cells : Array Value) (t : TypeId) (ho : old.size = 8) (h1 : okRow 8 cells = true) :
    (veilSt 44 ⟨W.heap.size, 0, none⟩ (.agg cells)).run Tryz.prog (W.alloc (.cells old t)) = .ok () (W.alloc (.cells cells t)) := by
  obtain ⟨hc, h1⟩ := okRow_iff.1 h1
  exact run_veilNew ex_size W old cells t ho hc h1
theorem run_exLd (W : World) (g : Nat) (hg : rowB 8 W g = true) : (veilLd 44 ⟨g, 0, none⟩).run Tryz.prog W = .ok (.agg (rowOf W g)) W := by
  obtain ⟨t, cs, hr, ho, e⟩ := rowB_row hg
  obtain ⟨fs, h⟩ := ex_struct
  rw [e]
  exact run_veilLd h ex_size W g cs t hr ho
theorem run_tkSt (W : World) (g : Nat) (cells : Array Value) (hg : rowB 4 W g = true) (h1 : okRow 4 cells = true) :
    (veilSt 114 ⟨g, 0, none⟩ (.agg cells)).run Tryz.prog W = .ok () (W.setRow g cells) := by
  obtain ⟨t, old, hr, ho, _⟩ := rowB_row hg
  obtain ⟨hc, h1⟩ := okRow_iff.1 h1
  exact run_veilSt tk_size W g old cells t hr ho hc h1
theorem run_tkNew (W : World) (old cells : Array Value) (t : TypeId) (ho : old.size = 4) (h1 : okRow 4 cells = true) :
    (veilSt 114 ⟨W.heap.size, 0, none⟩ (.agg cells)).run Tryz.prog (W.alloc (.cells old t)) = .ok () (W.alloc (.cells cells t)) := by
  obtain ⟨hc, h1⟩ := okRow_iff.1 h1
  exact run_veilNew tk_size W old cells t ho hc h1
/-- The results of a function that has one box of a struct for its result. -/
theorem res_row {fn : Func} {p : Tmp} {ty : TypeId} {n : Nat} (h : fn.results = #[.cell p ty]) (hs : ∃ fs, Tryz.prog.underlying ty = some (.struct fs)) (hi : (Tryz.prog.info? ty).map (·.size) = some n) (tmps : Array Value) (w : World) (g : Nat) (t : TypeId) (cs : Array Value)
    (hp : tmps.getD p undef = .pointer (some ⟨g, 0, none⟩)) (hg : Row g t cs w) (hc : cs.size = n) : (results fn tmps).run Tryz.prog w = .ok (.agg cs) w := by
  obtain ⟨fs, hu⟩ := hs
  exact results_cell_row h tmps w g t cs (0, 0) _ hp hg hu rfl (by rw [hi, hc])
end Go.Proofs.YtjgkeillmelkoaaGreat.Dt
namespace Go.Proofs.YtjgkeillmelkoaaGreat.Dt
open Go.RowKit Go.Proofs.YtjgkeillmelkoaaGreat.By

theorem exR_below {w w' : World} {cs : List Value} {x : PE} (h : ExR w cs x) (hb : Below w.heap.size w w') : ExR w' cs x := by
  induction h with
  | mk x kv cs h hl h8 _ ih => exact .mk x kv cs (h.below hb) hl h8 fun i c y hc hy => ih i c y hc hy
theorem SlR.below {α : Type} {size : Nat} {R : World → List Value → α → Prop} {w w' : World} {v : Value} {l : List α} (h : SlR size R w v l) (hb : Below w.heap.size w w') (hR : ∀ c x, R w c x → R w' c x) : SlR size R w' v l := by
  obtain ⟨cs, hs, hl, he⟩ := h
  exact ⟨cs, hs.below hb, hl, fun i c x hc hx => ⟨(he i c x hc hx).1, hR c x (he i c x hc hx).2⟩⟩
theorem exsR_below {w w' : World} {v : Value} {l : List PE} (h : ExsR w v l) (hb : Below w.heap.size w w') : ExsR w' v l := SlR.below h hb fun _ _ h => exR_below h hb
/-- An expression as a value, with the header of its kids' slice. -/
def PE.val (x : PE) (kv : Value) : Value := .agg #[.int .u8 (x.op : Int), .int .u8 (x.v.k : Int), .int .i64 x.v.n, .string x.v.s, .string x.t, .string x.m, .int .i64 x.n, kv]
/-- One element of a row of expressions, cell by cell. -/
theorem exs_at {w : World} {a : Option Addr} {n c k : Nat} {l : List PE} {x : PE} (h : ExsR w (.slice a n c) l) (hk : l[k]? = some x) : ∃ b o kv, a = some ⟨b, o, none⟩ ∧ ExsR w kv x.kids ∧
    w.cell? ⟨b, o + k * 8, none⟩ = some (.int .u8 (x.op : Int)) ∧ w.cell? ⟨b, o + k * 8 + 1, none⟩ = some (.int .u8 (x.v.k : Int)) ∧ w.cell? ⟨b, o + k * 8 + 2, none⟩ = some (.int .i64 x.v.n) ∧ w.cell? ⟨b, o + k * 8 + 3, none⟩ = some (.string x.v.s) ∧
    w.cell? ⟨b, o + k * 8 + 4, none⟩ = some (.string x.t) ∧ w.cell? ⟨b, o + k * 8 + 5, none⟩ = some (.string x.m) ∧ w.cell? ⟨b, o + k * 8 + 6, none⟩ = some (.int .i64 x.n) ∧ w.cell? ⟨b, o + k * 8 + 7, none⟩ = some kv := by
  obtain ⟨b, o, cs, rfl, _, hx, hc⟩ := h.get hk
  obtain ⟨kv, rfl, hkids⟩ := exR_iff.1 hx
  exact ⟨b, o, kv, rfl, hkids, hc 0 _ rfl, hc 1 _ rfl, hc 2 _ rfl, hc 3 _ rfl, hc 4 _ rfl, hc 5 _ rfl, hc 6 _ rfl, hc 7 _ rfl⟩
end Go.Proofs.YtjgkeillmelkoaaGreat.Dt
namespace Go.Proofs.YtjgkeillmelkoaaGreat.Dt
open Go.RowKit Go.Proofs.YtjgkeillmelkoaaGreat.By

/-- An expression none of whose rows is too long to be counted. -/
inductive Short : PE → Prop
  | mk (x : PE) : x.kids.length ≤ 140737488351232 → (∀ y, y ∈ x.kids → Short y) → Short x
end Go.Proofs.YtjgkeillmelkoaaGreat.Dt
namespace Go.Proofs.YtjgkeillmelkoaaGreat.Num

theorem cv_u8 : Tryz.prog.underlying 147 = some (.slice 5) := by kernel_rfl
end Go.Proofs.YtjgkeillmelkoaaGreat.Num
namespace Go.Proofs.YtjgkeillmelkoaaGreat.Num
open Go.RowKit Go.Proofs.YtjgkeillmelkoaaGreat.By

theorem elem_u8 : Elem Tryz.prog 147 5 1 1 where
  slice := cv_u8
  info := by
    have h : (Tryz.prog.info? 5).map (fun i => (i.zero, i.size, i.bytes)) = some (some (.int .u8 0), 1, 1) := by kernel_rfl
    obtain ⟨i, hi, h1, h2, h3⟩ := info_parts h
    exact ⟨i, _, hi, h1, h2, h3, rfl⟩
  pos := by decide

end Go.Proofs.YtjgkeillmelkoaaGreat.Num
namespace Go.Proofs.YtjgkeillmelkoaaGreat.By
open Go.RowKit

theorem OwnB.below {w w' : World} {base : Nat} {e : TypeId} {v : Value} {l : List UInt8} (h : OwnB w base e v l) (hb : Below w.heap.size w w') : OwnB w' base e v l :=
  World.ownsRow.kept (row := none) h ⟨hb.os, hb.tape, hb.output, hb.size, fun i hi _ => hb.block i hi⟩ (by cases v.ownBlock <;> simp)
/-- Owned bytes, or a text's own bytes, full. -/
def OwnX (w : World) (base : Nat) (e : TypeId) (v : Value) (l : List UInt8) : Prop :=
  OwnB w base e v l ∨ ∃ g, v = .slice (some ⟨g, 0, none⟩) l.length l.length ∧ ∀ i (h : i < l.length), w.cell? ⟨g, i, none⟩ = some (byte l[i])
theorem convX {P : Program} {w : World} (src e dst : TypeId) (hs : P.underlying src = some (.slice e)) (he : P.underlying e = some (.int .u8)) (hd : P.underlying dst = some .string)
    {base : Nat} {v : Value} {l : List UInt8} (h : OwnX w base e v l) : (convert src dst v).run P w = .ok (str l) w := by
  rcases h with h | ⟨g, rfl, h⟩
  · exact conv_own src e dst hs he hd h
  · exact conv_at w src e dst hs he hd g 0 l.length l.length l rfl (fun i hi => by rw [Nat.zero_add]; exact h i hi)
theorem bytes_get (l : List UInt8) {j : Nat} {u : Value} (h : (l.map byte)[j]? = some u) : ∃ hj : j < l.length, u = byte l[j] := by
  rw [List.getElem?_map] at h
  cases hj : l[j]? with
  | none => rw [hj] at h; cases h
  | some b =>
    rw [hj] at h
    obtain ⟨hk, rfl⟩ := List.getElem?_eq_some_iff.1 hj
    exact ⟨hk, (Option.some.inj h).symm⟩
theorem wpList_append_x {P : Program} {w : World} {ops : Array Oper} {rest : List Oper} {o : Oper} {a : Act} {Q : Exit → Act → World → Prop} (hgd : o.guard = none) (s x : Operand) (t : TypeId)
    (ho : o.op = .call { callee := .builtin .append, args := #[s, x], argTypes := #[t, t] })
    (base : Nat) (e : TypeId) (E : Elem P t e 1 1)
    (v : Value) (l : List UInt8) (hs : a.eval s = v) (hown : OwnX w base e v l)
    (sv : Value) (news : List UInt8) (hx : a.eval x = sv) (hr : Reads w 1 sv news.length (news.map byte)) (hm : 0 < news.length)
    (h63 : l.length + news.length ≤ 140737488355328) (hbase : base ≤ w.heap.size)
    (h : ∀ v' w', OwnB w' base e v' (l ++ news) → Below base w w' → wpList P ops Q rest (a.put o.dst v') w') : wpList P ops Q (o :: rest) a w := by
  have h1 : ∀ u ∈ news.map byte, u.oneCell' = true := oneCell_bytes news
  rcases hown with hown | ⟨g, rfl, hc⟩
  · exact wpList_append_reads hgd s x t ho base e 1 1 E v l.length (l.map byte) hs hown sv news.length (news.map byte) hx hr h1 (by unfold maxLen; omega) (by omega) hbase
      (fun v' w' h2 _ h4 => h v' w' (ownB_of h2 (by simp) (by simp)) h4)
  · rcases hr.2 with ⟨_, hn⟩ | ⟨ad, c, rfl, hcn⟩
    · omega
    · obtain ⟨i, z, hi, hz, hsize, hby, hzs⟩ := E.info
      refine wpList_append_grows w hgd s x t ho e i z 1 1 E.slice hi hz hsize hby hzs E.pos (some ⟨g, 0, none⟩) l.length l.length (l.map byte) hs (fun h => by cases h) (by simp) (fun b hb j u hu => ?_) ad news.length c (news.map byte) hx (by simp) hcn h1 (by omega) (by unfold maxLen; omega) (by omega) (fun v' w' h2 h3 => h v' w' (ownB_of (h2.mono hbase) (by simp) (by simp)) ?_)
      · obtain rfl := Option.some.inj hb
        obtain ⟨hj, rfl⟩ := bytes_get l hu
        have : (⟨g, 0, none⟩ : Addr).add j = ⟨g, j, none⟩ := by rw [Addr.add_lit, Nat.zero_add]
        rw [this]
        exact hc j hj
      · exact (Below.refl base w).grown h3 hbase (fun k hk => by cases hk)
/-- Bytes that lie in a block of their own. -/
theorem reads_cells {w : World} (b : Nat) (news : List UInt8) (h : ∀ i (hi : i < news.length), w.cell? ⟨b, i, none⟩ = some (byte news[i])) : Reads w 1 (.slice (some ⟨b, 0, none⟩) news.length news.length) news.length (news.map byte) := by
  refine ⟨by simp, .inr ⟨_, _, rfl, fun j u hu => ?_⟩⟩
  obtain ⟨hj, rfl⟩ := bytes_get news hu
  rw [Addr.add_lit, Nat.zero_add]
  exact h j hj
end Go.Proofs.YtjgkeillmelkoaaGreat.By
