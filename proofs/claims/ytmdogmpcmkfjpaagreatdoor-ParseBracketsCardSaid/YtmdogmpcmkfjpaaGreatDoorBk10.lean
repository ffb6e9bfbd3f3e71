import Derived.WalkKit
import Derived.ProofKit
import Derived.WalkLawsBesides
import Derived.Laws.BytesArg
import Derived.Laws.IdiomStrings
import Derived.Laws.Bits64
import Derived.Laws.AppendOwnNone
import Derived.ChangeArms
import Derived.Deep.Slices
import Derived.OpenShut
import Derived.SizedLaws
import Derived.Handy
import Derived.Lib.Hide
import Derived.Test.YtmdogmpcmkfjpaaGreatDoorProg
import Derived.Lib.Replace
import Derived.Lib.AppendIntMem
import Derived.Lib.AtoiErrMem
import Derived.Lib.LaidTab
import Derived.Stop.LaidErr
import Derived.LaidMore
import Derived.Deep.DeepCutAuto
import Derived.Test.YtmdogmpcmkfjpaaGreatDoorBk01
import Derived.Test.YtmdogmpcmkfjpaaGreatDoorBk09
import Derived.Test.YtmdogmpcmkfjpaaGreatDoorBk02
namespace Go.Proofs.YtmdogmpcmkfjpaaGreatDoor.By
open Go.RowKit

/-- A list of bytes as a string. -/
abbrev str (l : List UInt8) : Value := .string ⟨l.toArray⟩

/-- A byte as a cell. -/
abbrev byte (b : UInt8) : Value := .int .u8 (b.toNat : Int)

theorem strOfNums_bytes (l : List UInt8) : strOfNums (l.map fun b => (b.toNat : Int)) = ⟨l.toArray⟩ := by
  have h : ((fun n : Int => UInt8.ofNat n.toNat) ∘ fun b : UInt8 => (b.toNat : Int)) = id := by
    funext b; simp
  simp [strOfNums, h]

/-- Bytes in cells, converted to a string. -/
theorem conv_at {P : Program} (w : World) (src e dst : TypeId) (hs : P.underlying src = some (.slice e)) (he : P.underlying e = some (.int .u8)) (hd : P.underlying dst = some .string)
    (b off len cap : Nat) (l : List UInt8) (hlen : l.length = len) (hcell : ∀ i (h : i < l.length), w.cell? ⟨b, off + i, none⟩ = some (byte l[i])) :
    (convert src dst (.slice (some ⟨b, off, none⟩) len cap)).run P w = .ok (str l) w := by
  rw [run_convert_bytes_arg w src e hs he b off len cap (l.map fun b => (b.toNat : Int)) (by simp [hlen]) (fun i hi => by
    have hi' : i < l.length := by omega
    rw [hcell i hi']
    simp [hi']) dst hd, strOfNums_bytes]

/-- Bytes as cells of a block. -/
def cellsOf (l : List UInt8) : Array Value := (l.map byte).toArray
end Go.Proofs.YtmdogmpcmkfjpaaGreatDoor.By
namespace Go.Proofs.YtmdogmpcmkfjpaaGreatDoor.By
open Go.RowKit

/-- A slice value of m elements of so many cells reads as these cells. -/
def Reads (w : World) (size : Nat) (v : Value) (m : Nat) (xs : List Value) : Prop :=
  xs.length = m * size ∧ ((v = .slice none 0 0 ∧ m = 0) ∨ ∃ ad c, v = .slice (some ad) m c ∧ ∀ j u, xs[j]? = some u → w.cell? (ad.add j) = some u)

theorem reads_of_owns {w : World} {base : Nat} {e : TypeId} {size : Nat} {v : Value} {n : Nat} {xs : List Value} (h : w.ownsRow base e size v n xs) : Reads w size v n xs := by
  refine ⟨h.1, ?_⟩
  rcases h.2 with ⟨rfl, rfl⟩ | ⟨g, cap, cur, rfl, hg, hh, hn, hc, hs, ht⟩
  · exact Or.inl ⟨rfl, rfl⟩
  · exact Or.inr ⟨_, cap, rfl, h.cells rfl⟩

/-- What one element's type has in the program's table. -/
structure Elem (P : Program) (t e : TypeId) (size bytes : Nat) : Prop where
  slice : P.underlying t = some (.slice e)
  info : ∃ i z, P.info? e = some i ∧ i.zero = some z ∧ i.size = size ∧ i.bytes = bytes ∧ z.cells.size = size
  pos : 0 < size

theorem wpList_append_reads {P : Program} {w : World} {ops : Array Oper} {rest : List Oper} {o : Oper} {a : Act} {Q : Exit → Act → World → Prop} (hgd : o.guard = none) (s x : Operand) (t : TypeId)
    (ho : o.op = .call { callee := .builtin .append, args := #[s, x], argTypes := #[t, t] })
    (base : Nat) (e : TypeId) (size bytes : Nat) (E : Elem P t e size bytes)
    (v : Value) (n : Nat) (xs : List Value) (hs : a.eval s = v) (hown : w.ownsRow base e size v n xs)
    (sv : Value) (m : Nat) (news : List Value) (hx : a.eval x = sv) (hr : Reads w size sv m news) (h1 : ∀ u ∈ news, u.oneCell' = true)
    (h63 : n + m ≤ maxLen) (hbytes : (n + m) * bytes ≤ 140737488355328) (hbase : base ≤ w.heap.size)
    (h : ∀ v' w', w'.ownsRow base e size v' (n + m) (xs ++ news) → w.grownBy w' v.ownBlock → Below base w w' → wpList P ops Q rest (a.put o.dst v') w') : wpList P ops Q (o :: rest) a w := by
  obtain ⟨i, z, hi, hz, hsize, hby, hzs⟩ := E.info
  have hbel : ∀ w', w.grownBy w' v.ownBlock → Below base w w' := fun w' hg =>
    (Below.refl base w).grown hg hbase (fun k hk => (hown.lt k hk).1)
  rcases hr.2 with ⟨rfl, rfl⟩ | ⟨ad, c, rfl, hc⟩
  · have hn : news = [] := by simpa using hr.1
    subst hn
    refine wpList_append_own_none hgd s x t ho base e i size E.slice hi v n xs hs hown hx ?_
    refine h v w (by simpa using hown) ⟨rfl, rfl, rfl, Nat.le_refl _, fun _ _ _ => rfl⟩ (Below.refl _ _)
  · exact wpList_append_own w hgd s x t ho base e i z size bytes E.slice hi hz hsize hby hzs E.pos v n xs hs hown ad m c news hx hr.1 hc h1 h63 hbytes hbase fun v' w' h1 h2 _ => h v' w' h1 h2 (hbel w' h2)

/-- Owned bytes. -/
def OwnB (w : World) (base : Nat) (e : TypeId) (v : Value) (l : List UInt8) : Prop := w.ownsRow base e 1 v l.length (l.map byte)

theorem OwnB.nil (w : World) (base : Nat) (e : TypeId) : OwnB w base e (.slice none 0 0) [] := World.ownsRow_nil _ _ _ _

theorem OwnB.alloc {w : World} {base : Nat} {e : TypeId} {v : Value} {l : List UInt8} (h : OwnB w base e v l) (o : Obj) : OwnB (w.alloc o) base e v l := World.ownsRow.alloc h o
theorem OwnB.drew {w : World} {base : Nat} {e : TypeId} {v : Value} {l : List UInt8} (h : OwnB w base e v l) : OwnB w.drew base e v l := h
theorem ownB_of {w : World} {base : Nat} {e : TypeId} {v : Value} {l : List UInt8} {n : Nat} {xs : List Value} (h : w.ownsRow base e 1 v n xs) (hn : n = l.length) (hx : xs = l.map byte) : OwnB w base e v l := by
  subst hn hx; exact h
/-- A block of one byte that has just been laid. -/
theorem own_one (w : World) (base : Nat) (e : TypeId) (x : Value) (hb : base ≤ w.heap.size) : (w.alloc (.cells #[x] e)).ownsRow base e 1 (.slice (some ⟨w.heap.size, 0, none⟩) 1 1) 1 [x] :=
  World.ownsRow_lit w #[x] 1 hb (by unfold maxLen; omega) rfl

theorem oneCell_bytes (l : List UInt8) : ∀ u ∈ l.map byte, u.oneCell' = true := by
  intro u hu
  obtain ⟨b, _, rfl⟩ := List.mem_map.1 hu
  rfl

/-- Owned bytes, as a string. -/
theorem conv_own {P : Program} {w : World} (src e dst : TypeId) (hs : P.underlying src = some (.slice e)) (he : P.underlying e = some (.int .u8)) (hd : P.underlying dst = some .string)
    {base : Nat} {v : Value} {l : List UInt8} (h : OwnB w base e v l) : (convert src dst v).run P w = .ok (str l) w := by
  rcases h.2 with ⟨rfl, hn⟩ | ⟨g, cap, cur, rfl, hg, hh, hn, hc, hsz, ht⟩
  · obtain rfl : l = [] := List.eq_nil_of_length_eq_zero hn
    rw [run_convert_bytes_nil w src e hs he 0 0 dst hd]
    rfl
  · refine conv_at w src e dst hs he hd g 0 l.length cap l rfl fun i hi => ?_
    have := World.ownsRow.cellAt (w := w) (e := e) (size := 1) h i (by omega)
    rw [Nat.zero_add, this]
    simp [hi]

/-- The length in a slice's value: for a loop's measure. -/
def lenOf : Value → Nat | .slice _ n _ => n | _ => 0
theorem OwnB.lenOf {w : World} {base : Nat} {e : TypeId} {v : Value} {l : List UInt8} (h : OwnB w base e v l) : By.lenOf v = l.length := by
  rcases h.2 with ⟨rfl, hn⟩ | ⟨g, cap, cur, rfl, _⟩
  · simp [By.lenOf, hn]
  · rfl
theorem OwnB.shape {w : World} {base : Nat} {e : TypeId} {v : Value} {l : List UInt8} (h : OwnB w base e v l) : ∃ a c, v = .slice a l.length c := by
  rcases h.2 with ⟨rfl, hn⟩ | ⟨g, cap, cur, rfl, _⟩
  · exact ⟨none, 0, by rw [hn]⟩
  · exact ⟨_, _, rfl⟩

theorem OwnB.some {w : World} {base : Nat} {e : TypeId} {v : Value} {l : List UInt8} (h : OwnB w base e v l) (hl : 0 < l.length) : ∃ g c, v = .slice (some ⟨g, 0, none⟩) l.length c ∧ base ≤ g ∧ g < w.heap.size := by
  rcases h.2 with ⟨rfl, hn⟩ | ⟨g, cap, cur, rfl, hg, hh, _⟩
  · omega
  · exact ⟨g, cap, rfl, hg, (Array.getElem?_eq_some_iff.1 hh).1⟩
theorem OwnB.cell {w : World} {base : Nat} {e : TypeId} {g n c : Nat} {l : List UInt8} (h : OwnB w base e (.slice (.some ⟨g, 0, none⟩) n c) l) {k : Nat} {b : UInt8} (hb : l[k]? = .some b) : w.cell? ⟨g, k, none⟩ = .some (byte b) := by
  obtain ⟨hk, rfl⟩ := List.getElem?_eq_some_iff.1 hb
  have hn : n = l.length := h.lenOf
  subst hn
  have := World.ownsRow.cellAt (w := w) (e := e) (size := 1) h k (by omega)
  rw [this]
  simp [hk]
theorem OwnB.free {w : World} {base : Nat} {e : TypeId} {g n c : Nat} {l : List UInt8} (h : OwnB w base e (.slice (.some ⟨g, 0, none⟩) n c) l) (k : Nat) : w.frozen? ⟨g, k, none⟩ = false := by
  have hn : n = l.length := h.lenOf
  subst hn
  exact World.ownsRow.frozenAt (w := w) (e := e) (size := 1) h k
end Go.Proofs.YtmdogmpcmkfjpaaGreatDoor.By
namespace Go.Proofs.YtmdogmpcmkfjpaaGreatDoor.Dt
open Go.ChangeShapes Go.WideShapes Go.RowKit Go.Proofs.YtmdogmpcmkfjpaaGreatDoor.By

section
variable {H : Type} {enc : TypeId × Value → H} {P : Program} {w : World} {base : Nat} {spare : Nat → Bool} {held : Bool}

/-- A struct's field: its type and its place. -/
def fieldB (P : Program) (t : TypeId) (i : Nat) : Option (TypeId × Nat) :=
  match P.underlying t with
  | some (.struct fs) => (fs[i]?).map fun f => (f.type, f.offset)
  | _ => none

/-- The types of a value's struct. -/
structure VType (P : Program) (t : TypeId) : Prop where
  size : P.cellsOf t = 3
  bytes : P.bytesOf t = 32
  f0 : ∃ ty, fieldB P t 0 = some (ty, 0) ∧ P.cellsOf ty = 1 ∧ P.underlying ty = some (.int .u8)
  f1 : ∃ ty, fieldB P t 1 = some (ty, 1) ∧ P.cellsOf ty = 1 ∧ P.underlying ty = some (.int .i64)
  f2 : ∃ ty, fieldB P t 2 = some (ty, 2) ∧ P.cellsOf ty = 1 ∧ P.underlying ty = some .string

theorem list8 {α : Type} {l : List α} (h : l.length = 8) : ∃ a b c d e f g i, l = [a, b, c, d, e, f, g, i] := by
  match l, h with
  | [a, b, c, d, e, f, g, i], _ => exact ⟨a, b, c, d, e, f, g, i, rfl⟩

/-- The types of an expression's struct. -/
structure ExType (P : Program) (t : TypeId) : Prop where
  size : P.cellsOf t = 8
  bytes : P.bytesOf t = 104
  f0 : ∃ ty, fieldB P t 0 = some (ty, 0) ∧ P.cellsOf ty = 1 ∧ P.underlying ty = some (.int .u8)
  f1 : ∃ ty, fieldB P t 1 = some (ty, 1) ∧ VType P ty
  f2 : ∃ ty, fieldB P t 2 = some (ty, 4) ∧ P.cellsOf ty = 1 ∧ P.underlying ty = some .string
  f3 : ∃ ty, fieldB P t 3 = some (ty, 5) ∧ P.cellsOf ty = 1 ∧ P.underlying ty = some .string
  f4 : ∃ ty, fieldB P t 4 = some (ty, 6) ∧ P.cellsOf ty = 1 ∧ P.underlying ty = some (.int .i64)
  f5 : ∃ ty, fieldB P t 5 = some (ty, 7) ∧ P.cellsOf ty = 1 ∧ P.underlying ty = some (.slice t)

/-- A row of rows: each row's header and its values. -/
structure Rw where
  hd : Value
  l : List V
def Rw.cells (r : Rw) : List Value := [r.hd]
/-- Rows that lie in 'w'. -/
structure RowsAt (w : World) (v : Value) (rs : List Rw) : Prop where
  at_ : SlAt 1 Rw.cells w v rs
  rows : ∀ r ∈ rs, VsAt w r.hd r.l
theorem RowsAt.below {w w' : World} {v : Value} {rs : List Rw} (h : RowsAt w v rs) (hb : Below w.heap.size w w') : RowsAt w' v rs :=
  ⟨h.at_.below hb, fun r hr => (h.rows r hr).below hb⟩
/-- A slice of bytes. -/
def u8Cells (n : Nat) : List Value := [.int .u8 (n : Int)]
abbrev U8sAt (w : World) (v : Value) (l : List Nat) : Prop := SlAt 1 u8Cells w v l
end
end Go.Proofs.YtmdogmpcmkfjpaaGreatDoor.Dt
namespace Go.Proofs.YtmdogmpcmkfjpaaGreatDoor.Dt
open Go.RowKit Go.Proofs.YtmdogmpcmkfjpaaGreatDoor.By
theorem set_same3 (w : World) (a : Addr) (v u : Value) (h : w.cell? a = some u) : (w.setCell a v).cell? a = some v := by
  apply World.cell?_setCell_same
  exact h
theorem set_else3 (w : World) (k i j : Nat) (v : Value) (h : i ≠ j) : (w.setCell ⟨k, i, none⟩ v).cell? ⟨k, j, none⟩ = w.cell? ⟨k, j, none⟩ := by
  apply World.cell?_setCell_other
  intro e; cases e; exact h rfl
def uCells (l : List Nat) : List Value := l.map fun (k : Nat) => .int .u8 (k : Int)
/-- Owned kinds. -/
def OwnU (w : World) (base : Nat) (v : Value) (l : List Nat) : Prop := w.ownsRow base 5 1 v l.length (uCells l)
theorem OwnU.shape {w : World} {base : Nat} {v : Value} {l : List Nat} (h : OwnU w base v l) : ∃ a c, v = .slice a l.length c := by
  rcases h.2 with ⟨rfl, hn⟩ | ⟨g, cap, cur, rfl, _⟩
  · exact ⟨none, 0, by rw [hn]⟩
  · exact ⟨_, _, rfl⟩
theorem OwnU.at_ {w : World} {base : Nat} {v : Value} {l : List Nat} (h : OwnU w base v l) : U8sAt w v l := by
  rcases h.2 with ⟨rfl, hn⟩ | ⟨g, cap, cur, rfl, hg, hh, hn, hcap, hsz, ht⟩
  · obtain rfl : l = [] := List.eq_nil_of_length_eq_zero hn
    exact SlAt.nil _ _ _
  · refine ⟨_, cap, rfl, hn, fun i x hx => ⟨g, 0, rfl, fun j u hu => ?_⟩⟩
    obtain ⟨hi, rfl⟩ := List.getElem?_eq_some_iff.1 hx
    match j, hu with
    | 0, hu =>
      simp [u8Cells] at hu
      subst hu
      have := World.ownsRow.cellAt (w := w) (e := 5) (size := 1) h i (by omega)
      rw [Nat.zero_add, Nat.mul_one, Nat.add_zero, this]
      simp [uCells, hi]
    | j + 1, hu => simp [u8Cells] at hu
theorem OwnU.below {w w' : World} {base : Nat} {v : Value} {l : List Nat} (h : OwnU w base v l) (hb : Below w.heap.size w w') : OwnU w' base v l :=
  World.ownsRow.kept (row := none) h ⟨hb.os, hb.tape, hb.output, hb.size, fun i hi _ => hb.block i hi⟩ (by cases v.ownBlock <;> simp)
theorem OwnU.snoc {w : World} {base : Nat} {v : Value} {l : List Nat} {k : Nat} (h : w.ownsRow base 5 1 v (l.length + 1) (uCells l ++ [.int .u8 (k : Int)])) : OwnU w base v (l ++ [k]) := by
  unfold OwnU
  rw [List.length_append]
  simpa [uCells] using h
theorem cell_grown {W w2 : World} {r : Option Nat} {b : Nat} (h : W.grownBy w2 r) (hk : b < W.heap.size) (hne : r ≠ some b) (o : Nat) : w2.cell? ⟨b, o, none⟩ = W.cell? ⟨b, o, none⟩ :=
  World.cell?_of_block (w := W) (h.block b hk (Ne.symm hne))

/-- A result's box: a value's, that nothing has been laid into. -/
structure ResBox (k : Nat) (w : World) : Prop where
  c0 : w.cell? ⟨k, 0, none⟩ = some (.int .u8 0)
  c1 : w.cell? ⟨k, 1, none⟩ = some (.int .i64 0)
  c2 : w.cell? ⟨k, 2, none⟩ = some (.string ⟨#[]⟩)
  f0 : w.frozen? ⟨k, 0, none⟩ = false
  f1 : w.frozen? ⟨k, 1, none⟩ = false
  f2 : w.frozen? ⟨k, 2, none⟩ = false
theorem ResBox.lt {k : Nat} {w : World} (h : ResBox k w) : k < w.heap.size := cell_lt h.c0
theorem ResBox.below {k B : Nat} {w w' : World} (h : ResBox k w) (hb : Below B w w') (hk : k < B) : ResBox k w' :=
  ⟨(hb.cell (p := ⟨k, 0, none⟩) hk).trans h.c0, (hb.cell (p := ⟨k, 1, none⟩) hk).trans h.c1, (hb.cell (p := ⟨k, 2, none⟩) hk).trans h.c2,
    (hb.frozen (p := ⟨k, 0, none⟩) hk).trans h.f0, (hb.frozen (p := ⟨k, 1, none⟩) hk).trans h.f1, (hb.frozen (p := ⟨k, 2, none⟩) hk).trans h.f2⟩
theorem ResBox.later {k : Nat} {w w' : World} (h : ResBox k w) (hb : Below w.heap.size w w') : ResBox k w' := h.below hb h.lt
def vCells (l : List V) : List Value := l.flatMap V.cells
theorem vCells_get (l : List V) : ∀ (i : Nat) (x : V), l[i]? = some x → ∀ j u, x.cells[j]? = some u → (vCells l)[i * 3 + j]? = some u := by
  induction l with
  | nil => intro i x h; simp at h
  | cons y l ih =>
    intro i x h j u hu
    have hj : j < 3 := (List.getElem?_eq_some_iff.1 hu).1
    have e : vCells (y :: l) = y.cells ++ vCells l := rfl
    rcases i with _ | i
    · simp at h; subst h
      rw [e, List.getElem?_append_left (by show 0 * 3 + j < 3; omega), Nat.zero_mul, Nat.zero_add]
      exact hu
    · rw [e, List.getElem?_append_right (by show 3 ≤ _; omega), show (i + 1) * 3 + j - y.cells.length = i * 3 + j by show _ - 3 = _; omega]
      exact ih i x (by simpa using h) j u hu
/-- Owned values. -/
def OwnV (w : World) (base : Nat) (v : Value) (l : List V) : Prop := w.ownsRow base 46 3 v l.length (vCells l)
theorem OwnV.shape {w : World} {base : Nat} {v : Value} {l : List V} (h : OwnV w base v l) : ∃ a c, v = .slice a l.length c := by
  rcases h.2 with ⟨rfl, hn⟩ | ⟨g, cap, cur, rfl, _⟩
  · exact ⟨none, 0, by rw [hn]⟩
  · exact ⟨_, _, rfl⟩
theorem OwnV.at_ {w : World} {base : Nat} {v : Value} {l : List V} (h : OwnV w base v l) : VsAt w v l := by
  rcases h.2 with ⟨rfl, hn⟩ | ⟨g, cap, cur, rfl, hg, hh, hn, hcap, hsz, ht⟩
  · obtain rfl : l = [] := List.eq_nil_of_length_eq_zero hn
    exact SlAt.nil _ _ _
  · refine ⟨_, cap, rfl, hn, fun i x hx => ⟨g, 0, rfl, fun j u hu => ?_⟩⟩
    have := World.ownsRow.cells h rfl (i * 3 + j) u (vCells_get l i x hx j u hu)
    rw [Addr.add_lit, ← Nat.add_assoc] at this
    exact this
theorem OwnV.below {w w' : World} {base : Nat} {v : Value} {l : List V} (h : OwnV w base v l) (hb : Below w.heap.size w w') : OwnV w' base v l :=
  World.ownsRow.kept (row := none) h ⟨hb.os, hb.tape, hb.output, hb.size, fun i hi _ => hb.block i hi⟩ (by cases v.ownBlock <;> simp)
theorem OwnV.snoc {w : World} {base : Nat} {v : Value} {l : List V} {x : V} (h : w.ownsRow base 46 3 v (l.length + 1) (vCells l ++ [.int .u8 (x.k : Int), .int .i64 x.n, .string x.s])) : OwnV w base v (l ++ [x]) := by
  unfold OwnV
  rw [List.length_append]
  have e : vCells (l ++ [x]) = vCells l ++ [.int .u8 (x.k : Int), .int .i64 x.n, .string x.s] := by simp [vCells, V.cells]
  rw [e]
  exact h
theorem set_other (w : World) (k j i i' : Nat) (u : Value) (h : ¬ (j = k ∧ i = i')) : (w.setCell ⟨j, i, none⟩ u).cell? ⟨k, i', none⟩ = w.cell? ⟨k, i', none⟩ := by
  apply World.cell?_setCell_other
  intro e; cases e; exact h ⟨rfl, rfl⟩

/-- A box of these cells. -/
def Box (k : Nat) (cs : List Value) (w : World) : Prop := ∀ i u, cs[i]? = some u → w.cell? ⟨k, i, none⟩ = some u ∧ w.frozen? ⟨k, i, none⟩ = false
theorem Box.lt {k : Nat} {c : Value} {cs : List Value} {w : World} (h : Box k (c :: cs) w) : k < w.heap.size := cell_lt (h 0 c rfl).1
theorem Box.later {k : Nat} {cs : List Value} {w w' : World} (h : Box k cs w) (hb : Below w.heap.size w w') : Box k cs w' := fun i u hu =>
  ⟨(hb.cell (p := ⟨k, i, none⟩) (cell_lt (h i u hu).1)).trans (h i u hu).1, (hb.frozen (p := ⟨k, i, none⟩) (cell_lt (h i u hu).1)).trans (h i u hu).2⟩
theorem Box.else {k : Nat} {cs : List Value} {w : World} (h : Box k cs w) {j i : Nat} {u : Value} (hj : j ≠ k) : Box k cs (w.setCell ⟨j, i, none⟩ u) := fun i' u' hu => by
  refine ⟨?_, ?_⟩
  · rw [set_other _ _ _ _ _ _ (fun e => hj e.1)]; exact (h i' u' hu).1
  · rw [World.frozen?_setCell]; exact (h i' u' hu).2
theorem Box.set {k : Nat} {cs : List Value} {w : World} (h : Box k cs w) {i : Nat} {u : Value} (hi : i < cs.length) : Box k (cs.set i u) (w.setCell ⟨k, i, none⟩ u) := fun i' u' hu => by
  by_cases he : i = i'
  · subst he
    rw [List.getElem?_set_self hi] at hu
    cases hu
    have h1 := h i cs[i] (by simp [hi])
    exact ⟨set_same3 _ _ _ _ h1.1, by rw [World.frozen?_setCell]; exact h1.2⟩
  · rw [List.getElem?_set_ne he] at hu
    refine ⟨?_, ?_⟩
    · rw [set_other _ _ _ _ _ _ (fun e => he e.2)]; exact (h i' u' hu).1
    · rw [World.frozen?_setCell]; exact (h i' u' hu).2
section
variable {w W : World}
theorem below_set {B j i : Nat} {u : Value} (h : Below B w W) (hj : B ≤ j) : Below B w (W.setCell ⟨j, i, none⟩ u) := by
  have hsz := h.size
  go_grown
theorem ResBox.else {k j i : Nat} {u : Value} (h : ResBox k W) (hj : j ≠ k) : ResBox k (W.setCell ⟨j, i, none⟩ u) := by
  have hs : ∀ i', (W.setCell ⟨j, i, none⟩ u).cell? ⟨k, i', none⟩ = W.cell? ⟨k, i', none⟩ := fun i' => set_other _ _ _ _ _ _ (fun e => hj e.1)
  exact ⟨(hs 0).trans h.c0, (hs 1).trans h.c1, (hs 2).trans h.c2, by rw [World.frozen?_setCell]; exact h.f0, by rw [World.frozen?_setCell]; exact h.f1, by rw [World.frozen?_setCell]; exact h.f2⟩
end
end Go.Proofs.YtmdogmpcmkfjpaaGreatDoor.Dt
namespace Go.Proofs.YtmdogmpcmkfjpaaGreatDoor.Dt
open Go.RowKit Go.Proofs.YtmdogmpcmkfjpaaGreatDoor.By

/-- A builder of these bytes. -/
abbrev BuildB (B b : Nat) (l : List UInt8) (w : World) : Prop := Lib.IsBuilderF 65 5 B b (Lib.byteCells l) w
abbrev KeptB (b : Nat) (w w' : World) : Prop := Lib.OthersKept 5 (some b) w w'
theorem BuildB.later {B b : Nat} {l : List UInt8} {w w' : World} (h : BuildB B b l w) (hb : Below w.heap.size w w') : BuildB B b l w' := by
  have one : ∀ p, Lib.BuilderAtF 65 5 B b p (Lib.byteCells l) w → Lib.BuilderAtF 65 5 B b p (Lib.byteCells l) w' := by
    rintro p ⟨hB, v, hv, hown, hne⟩
    have hlt : b < w.heap.size := (Array.getElem?_eq_some_iff.1 hv).1
    exact ⟨hB, v, (hb.block b hlt).trans hv, World.ownsRowF.kept (row := none) hown ⟨hb.os, hb.tape, hb.output, hb.size, fun i hi _ => hb.block i hi⟩ (by cases v.ownBlock <;> simp), hne⟩
  rcases h with h | h
  · exact .inl (one _ h)
  · exact .inr (one _ h)
/-- A value's box that lies beside a builder. -/
def BoxV (b : Nat) (v : V) (w : World) : Prop := w.heap[b]? = some (.cells #[.int .u8 (v.k : Int), .int .i64 v.n, .string v.s] 46 (0, 0))
theorem BoxV.later {b : Nat} {v : V} {w w' : World} (h : BoxV b v w) (hb : Below w.heap.size w w') : BoxV b v w' := by
  unfold BoxV at *
  rw [hb.block b (Array.getElem?_eq_some_iff.1 h).1]
  exact h
theorem BoxV.kept {b c : Nat} {v : V} {w w' : World} (h : BoxV b v w) (hk : KeptB c w w') (hne : b ≠ c) : BoxV b v w' :=
  hk b _ h (fun e => hne (Option.some.inj e)) (fun c fz e => by
    injection e with _ e2
    revert e2
    decide)
theorem BoxV.cells {b : Nat} {v : V} {w : World} (h : BoxV b v w) : w.cell? ⟨b, 0, none⟩ = some (.int .u8 (v.k : Int)) ∧ w.cell? ⟨b, 1, none⟩ = some (.int .i64 v.n) ∧ w.cell? ⟨b, 2, none⟩ = some (.string v.s) := by
  unfold BoxV at h
  refine ⟨?_, ?_, ?_⟩ <;> (unfold World.cell?; simp [h])
end Go.Proofs.YtmdogmpcmkfjpaaGreatDoor.Dt
namespace Go.Proofs.YtmdogmpcmkfjpaaGreatDoor.Dt
open Go.RowKit Go.Proofs.YtmdogmpcmkfjpaaGreatDoor.By

/-- The machine's own bound of a search lies where it lies. -/
def MaxAt (w : World) : Prop := ∃ m : Int, w.cell? ⟨2, 0, none⟩ = some (.int .i64 m)
theorem MaxAt.later {w w' : World} (h : MaxAt w) (hb : Below w.heap.size w w') : MaxAt w' := by
  obtain ⟨m, hm⟩ := h
  exact ⟨m, (hb.cell (cell_lt hm)).trans hm⟩
theorem maxAt {w : World} (h : w.ShapedOpen Tryz.prog) : MaxAt w := Tryz.laysM155.s1_3 w h
end Go.Proofs.YtmdogmpcmkfjpaaGreatDoor.Dt
namespace Go.Proofs.YtmdogmpcmkfjpaaGreatDoor.Dt

/-- Each byte of one kind replaced. -/
def subL (z : UInt8) (new : List UInt8) : List UInt8 → List UInt8
  | [] => []
  | c :: l => if c = z then new ++ subL z new l else c :: subL z new l
theorem index_one (z c : UInt8) (s : List UInt8) : Lib.index (c :: s) [z] = if c = z then 0 else if Lib.index s [z] = -1 then -1 else Lib.index s [z] + 1 := by
  rw [Lib.index]
  by_cases hc : c = z
  · subst hc; simp [List.isPrefixOf]
  · have : ([z] : List UInt8).isPrefixOf (c :: s) = false := by simp [List.isPrefixOf, Ne.symm hc]
    rw [this, if_neg hc]
    simp
theorem sub_other {z c : UInt8} (new : List UInt8) (hc : c ≠ z) (k : Nat) (s : List UInt8) : Lib.replaceK [z] new k (c :: s) = c :: Lib.replaceK [z] new k s := by
  cases k with
  | zero => rfl
  | succ k =>
    have hi := index_one z c s
    rw [if_neg hc] at hi
    by_cases h : Lib.index s [z] = -1
    · rw [if_pos h] at hi
      rw [Lib.replaceK, Lib.replaceK, if_pos (beq_iff_eq.2 hi), if_pos (beq_iff_eq.2 h)]
    · have hge := Lib.index_ge s [z]
      obtain ⟨i, h1⟩ : ∃ i : Nat, Lib.index s [z] = i := ⟨(Lib.index s [z]).toNat, by omega⟩
      rw [if_neg h, h1] at hi
      rw [Lib.replaceK_hit [z] new k (c :: s) (i + 1) (by rw [hi]; rfl), Lib.replaceK_hit [z] new k s i h1]
      simp
theorem sub_hit (z : UInt8) (new : List UInt8) (k : Nat) (s : List UInt8) : Lib.replaceK [z] new (k + 1) (z :: s) = new ++ Lib.replaceK [z] new k s := by
  rw [Lib.replaceK_hit [z] new k (z :: s) 0 (by rw [index_one, if_pos rfl]; rfl)]
  rfl
theorem cnt_other {z c : UInt8} (hc : c ≠ z) (s : List UInt8) : Lib.count (c :: s) [z] = Lib.count s [z] := by
  have hi := index_one z c s
  rw [if_neg hc] at hi
  by_cases h : Lib.index s [z] = -1
  · rw [if_pos h] at hi
    rw [Lib.count_miss hi, Lib.count_miss h]
  · have hge := Lib.index_ge s [z]
    obtain ⟨i, h1⟩ : ∃ i : Nat, Lib.index s [z] = i := ⟨(Lib.index s [z]).toNat, by omega⟩
    rw [if_neg h, h1] at hi
    rw [Lib.count_hit (i := i + 1) (by simp) (by rw [hi]; rfl), Lib.count_hit (i := i) (by simp) h1]
    rfl
theorem cnt_hit (z : UInt8) (s : List UInt8) : Lib.count (z :: s) [z] = 1 + Lib.count s [z] := by
  rw [Lib.count_hit (i := 0) (by simp) (by rw [index_one, if_pos rfl]; rfl)]
  rfl
theorem sub_all (z : UInt8) (new : List UInt8) : ∀ s : List UInt8, Lib.replaceK [z] new (Lib.count s [z]) s = subL z new s
  | [] => by rw [Lib.count_miss (by rfl)]; rfl
  | c :: s => by
    unfold subL
    by_cases hc : c = z
    · subst hc
      rw [cnt_hit, Nat.add_comm, sub_hit, sub_all c new s, if_pos rfl]
    · rw [cnt_other hc, sub_other new hc, sub_all z new s, if_neg hc]
theorem cnt_le (z : UInt8) : ∀ s : List UInt8, Lib.count s [z] ≤ s.length
  | [] => by rw [Lib.count_miss (by rfl)]; exact Nat.zero_le _
  | c :: s => by
    have := cnt_le z s
    by_cases hc : c = z
    · subst hc; rw [cnt_hit, List.length_cons]; omega
    · rw [cnt_other hc, List.length_cons]; omega
theorem replaceAll_sub (z : UInt8) (new s : List UInt8) (h : new ≠ [z]) : Lib.replaceAll s [z] new = subL z new s := by
  unfold Lib.replaceAll Lib.replace Lib.replaceNum
  rw [if_neg (by simpa using Ne.symm h), if_pos (.inl (by decide))]
  exact sub_all z new s
end Go.Proofs.YtmdogmpcmkfjpaaGreatDoor.Dt
namespace Go.Proofs.YtmdogmpcmkfjpaaGreatDoor.Dt
open Go.RowKit Go.Proofs.YtmdogmpcmkfjpaaGreatDoor.By

theorem var_later {w w' : World} {name : String} {cs : Array Value} (h : w.var? Tryz.prog name = some cs) (hb : Below w.heap.size w w') : w'.var? Tryz.prog name = some cs := by
  unfold World.var? at h ⊢
  cases hg : Tryz.prog.globalNamed name with
  | none => rw [hg] at h; cases h
  | some g =>
    rw [hg] at h
    simp only [Option.bind_some] at h ⊢
    have hlt : g < w.heap.size := by
      rcases Nat.lt_or_ge g w.heap.size with h' | h'
      · exact h'
      · rw [Array.getElem?_eq_none h'] at h; cases h
    rw [hb.block g hlt]
    exact h
/-- What the library's variables read as. -/
structure LW (w : World) : Prop where
  mx : MaxAt w
  tab : Lib.TabIs Tryz.prog w "internal/strconv.uint64pow10" .u64 Lib.pow10Tab
  syn : ∃ tp p, w.var? Tryz.prog "strconv.ErrSyntax" = some #[.iface tp p]
  rng : ∃ tp p, w.var? Tryz.prog "strconv.ErrRange" = some #[.iface tp p]
theorem LW.later {w w' : World} (h : LW w) (hb : Below w.heap.size w w') : LW w' := by
  obtain ⟨h1, h2, ⟨t, p, h3⟩, ⟨u, q, h4⟩⟩ := h
  exact ⟨h1.later hb, var_later h2 hb, ⟨t, p, var_later h3 hb⟩, ⟨u, q, var_later h4 hb⟩⟩

theorem quoteL_sub : ∀ l, subL 39 [39, 39] l = quoteL l
  | [] => rfl
  | c :: l => by rw [subL, quoteL, quoteL_sub l]; rfl
theorem quoteW (s : ByteArray) (w : World) (hm : MaxAt w) (hs : s.size ≤ 1000000) :
    Calls Tryz.prog 131 #[.string s, .string ⟨#[39]⟩, .string ⟨#[39, 39]⟩] w fun e w' => e = .returned (str (quoteL s.data.toList)) ∧ Below w.heap.size w w' := by
  obtain ⟨m, hm⟩ := hm
  have hc : Lib.countB s ⟨#[39]⟩ ≤ s.size := by
    have := cnt_le 39 s.data.toList
    rw [Array.length_toList] at this
    exact this
  have := Tryz.strings_ReplaceAll s ⟨#[39]⟩ ⟨#[39, 39]⟩ m w (by omega) hm (by decide) (by
    have e : (ByteArray.mk #[39, 39]).size = 2 := rfl
    rw [e]
    omega)
  refine this.mono fun e w' h => ⟨?_, h.2⟩
  rw [h.1]
  show Ending.returned (.string ⟨(Lib.replaceAll s.data.toList [39] [39, 39]).toArray⟩) = _
  rw [replaceAll_sub _ _ _ (by decide), quoteL_sub]
end Go.Proofs.YtmdogmpcmkfjpaaGreatDoor.Dt
namespace Go.Proofs.YtmdogmpcmkfjpaaGreatDoor.Dt
open Go.RowKit Go.Proofs.YtmdogmpcmkfjpaaGreatDoor.By

theorem smallW (c : UInt8) (w : World) : Calls Tryz.prog 115 #[byte c] w fun e w' => e = .returned (.bool (smallB c)) ∧ w = w' := by
  have hc := c.toNat_lt
  by_cases h1 : 97 ≤ c.toNat
  · have a1 : (97 : Int) ≤ (c.toNat : Int) := by omega
    by_cases h2 : c.toNat ≤ 122
    · have a2 : (c.toNat : Int) ≤ 122 := by omega
      rw [show smallB c = true from decide_eq_true ⟨h1, h2⟩]
      clear h1 h2
      go_enter Tryz.func115, Tryz.ntmps115
      go_wp2_with fail
      go_ret
      exact ⟨rfl, rfl⟩
    · have a2 : ¬ (c.toNat : Int) ≤ 122 := by omega
      rw [show smallB c = false from decide_eq_false (fun h => h2 h.2)]
      clear h1 h2
      go_enter Tryz.func115, Tryz.ntmps115
      go_wp2_with fail
      go_ret
      exact ⟨rfl, rfl⟩
  · have a1 : ¬ (97 : Int) ≤ (c.toNat : Int) := by omega
    rw [show smallB c = false from decide_eq_false (fun h => h1 h.1)]
    clear h1
    go_enter Tryz.func115, Tryz.ntmps115
    go_wp2_with fail
    go_ret
    exact ⟨rfl, rfl⟩
theorem capW (c : UInt8) (w : World) : Calls Tryz.prog 116 #[byte c] w fun e w' => e = .returned (.bool (capB c)) ∧ w = w' := by
  have hc := c.toNat_lt
  by_cases h1 : 65 ≤ c.toNat
  · have a1 : (65 : Int) ≤ (c.toNat : Int) := by omega
    by_cases h2 : c.toNat ≤ 90
    · have a2 : (c.toNat : Int) ≤ 90 := by omega
      rw [show capB c = true from decide_eq_true ⟨h1, h2⟩]
      clear h1 h2
      go_enter Tryz.func116, Tryz.ntmps116
      go_wp2_with fail
      go_ret
      exact ⟨rfl, rfl⟩
    · have a2 : ¬ (c.toNat : Int) ≤ 90 := by omega
      rw [show capB c = false from decide_eq_false (fun h => h2 h.2)]
      clear h1 h2
      go_enter Tryz.func116, Tryz.ntmps116
      go_wp2_with fail
      go_ret
      exact ⟨rfl, rfl⟩
  · have a1 : ¬ (65 : Int) ≤ (c.toNat : Int) := by omega
    rw [show capB c = false from decide_eq_false (fun h => h1 h.1)]
    clear h1
    go_enter Tryz.func116, Tryz.ntmps116
    go_wp2_with fail
    go_ret
    exact ⟨rfl, rfl⟩
theorem digW (c : UInt8) (w : World) : Calls Tryz.prog 118 #[byte c] w fun e w' => e = .returned (.bool (digB c)) ∧ w = w' := by
  have hc := c.toNat_lt
  by_cases h1 : 48 ≤ c.toNat
  · have a1 : (48 : Int) ≤ (c.toNat : Int) := by omega
    by_cases h2 : c.toNat ≤ 57
    · have a2 : (c.toNat : Int) ≤ 57 := by omega
      rw [show digB c = true from decide_eq_true ⟨h1, h2⟩]
      clear h1 h2
      go_enter Tryz.func118, Tryz.ntmps118
      go_wp2_with fail
      go_ret
      exact ⟨rfl, rfl⟩
    · have a2 : ¬ (c.toNat : Int) ≤ 57 := by omega
      rw [show digB c = false from decide_eq_false (fun h => h2 h.2)]
      clear h1 h2
      go_enter Tryz.func118, Tryz.ntmps118
      go_wp2_with fail
      go_ret
      exact ⟨rfl, rfl⟩
  · have a1 : ¬ (48 : Int) ≤ (c.toNat : Int) := by omega
    rw [show digB c = false from decide_eq_false (fun h => h1 h.1)]
    clear h1
    go_enter Tryz.func118, Tryz.ntmps118
    go_wp2_with fail
    go_ret
    exact ⟨rfl, rfl⟩
theorem inWordW (c : UInt8) (w : World) : Calls Tryz.prog 73 #[byte c] w fun e w' => e = .returned (.bool (wordB c)) ∧ w = w' := by
  have HS := Lib.hid (fun W => smallW c W)
  have HC := Lib.hid (fun W => capW c W)
  have HD := Lib.hid (fun W => digW c W)
  have hr : wordB c = (smallB c || capB c || digB c || decide (c.toNat = 95)) := rfl
  rw [hr]
  clear hr
  generalize smallB c = s at *
  generalize capB c = p at *
  generalize digB c = d at *
  cases s with
  | true =>
    simp only [Bool.true_or]
    go_enter Tryz.func73, Tryz.ntmps73
    go_wp2_with fail
    refine (HS.out _).mono ?_
    rintro e w1 ⟨rfl, rfl⟩
    go_wp2_with fail
    go_ret
    exact ⟨rfl, rfl⟩
  | false =>
    cases p with
    | true =>
      simp only [Bool.true_or, Bool.or_true]
      go_enter Tryz.func73, Tryz.ntmps73
      go_wp2_with fail
      refine (HS.out _).mono ?_
      rintro e w1 ⟨rfl, rfl⟩
      go_wp2_with fail
      refine (HC.out _).mono ?_
      rintro e w1 ⟨rfl, rfl⟩
      go_wp2_with fail
      go_ret
      exact ⟨rfl, rfl⟩
    | false =>
      cases d with
      | true =>
        simp only [Bool.true_or, Bool.or_true]
        go_enter Tryz.func73, Tryz.ntmps73
        go_wp2_with fail
        refine (HS.out _).mono ?_
        rintro e w1 ⟨rfl, rfl⟩
        go_wp2_with fail
        refine (HC.out _).mono ?_
        rintro e w1 ⟨rfl, rfl⟩
        go_wp2_with fail
        refine (HD.out _).mono ?_
        rintro e w1 ⟨rfl, rfl⟩
        go_wp2_with fail
        go_ret
        exact ⟨rfl, rfl⟩
      | false =>
        by_cases h : c.toNat = 95
        · have e1 : ((c.toNat : Int) == 95) = true := by simp; omega
          simp only [Bool.false_or, decide_eq_true h]
          clear h
          go_enter Tryz.func73, Tryz.ntmps73
          go_wp2_with fail
          refine (HS.out _).mono ?_
          rintro e w1 ⟨rfl, rfl⟩
          go_wp2_with fail
          refine (HC.out _).mono ?_
          rintro e w1 ⟨rfl, rfl⟩
          go_wp2_with fail
          refine (HD.out _).mono ?_
          rintro e w1 ⟨rfl, rfl⟩
          go_wp2_with fail
          go_ret
          exact ⟨rfl, rfl⟩
        · have e1 : ((c.toNat : Int) == 95) = false := by simp; omega
          simp only [Bool.false_or, decide_eq_false h]
          clear h
          go_enter Tryz.func73, Tryz.ntmps73
          go_wp2_with fail
          refine (HS.out _).mono ?_
          rintro e w1 ⟨rfl, rfl⟩
          go_wp2_with fail
          refine (HC.out _).mono ?_
          rintro e w1 ⟨rfl, rfl⟩
          go_wp2_with fail
          refine (HD.out _).mono ?_
          rintro e w1 ⟨rfl, rfl⟩
          go_wp2_with fail
          go_ret
          exact ⟨rfl, rfl⟩
theorem nameW (c : UInt8) (w : World) : Calls Tryz.prog 142 #[byte c] w fun e w' => e = .returned (.bool (nameB c)) ∧ w = w' := by
  have HI := Lib.hid (fun W => inWordW c W)
  have HC := Lib.hid (fun W => capW c W)
  have hr : nameB c = (wordB c && !capB c) := rfl
  rw [hr]
  clear hr
  generalize wordB c = s at *
  generalize capB c = p at *
  cases s with
  | false =>
    simp only [Bool.false_and]
    go_enter Tryz.func142, Tryz.ntmps142
    go_wp2_with fail
    refine (HI.out _).mono ?_
    rintro e w1 ⟨rfl, rfl⟩
    go_wp2_with fail
    go_ret
    exact ⟨rfl, rfl⟩
  | true =>
    cases p <;> simp only [Bool.true_and, Bool.not_false, Bool.not_true]
    all_goals
      go_enter Tryz.func142, Tryz.ntmps142
      go_wp2_with fail
      refine (HI.out _).mono ?_
      rintro e w1 ⟨rfl, rfl⟩
      go_wp2_with fail
      refine (HC.out _).mono ?_
      rintro e w1 ⟨rfl, rfl⟩
      go_wp2_with fail
      go_ret
      exact ⟨rfl, rfl⟩
theorem lineW (c : UInt8) (w : World) : Calls Tryz.prog 112 #[byte c] w fun e w' => e = .returned (.bool (lineB c)) ∧ w = w' := by
  have hc := c.toNat_lt
  by_cases h : c.toNat = 10
  · have e1 : ((c.toNat : Int) != 10) = false := by simp; omega
    rw [show lineB c = false from decide_eq_false (fun e => e h)]
    clear h
    go_enter Tryz.func112, Tryz.ntmps112
    go_wp2_with fail
    go_ret
    exact ⟨rfl, rfl⟩
  · have e1 : ((c.toNat : Int) != 10) = true := by simp; omega
    rw [show lineB c = true from decide_eq_true h]
    clear h
    go_enter Tryz.func112, Tryz.ntmps112
    go_wp2_with fail
    go_ret
    exact ⟨rfl, rfl⟩
theorem blankW (c : UInt8) (w : World) : Calls Tryz.prog 110 #[byte c] w fun e w' => e = .returned (.bool (blankB c)) ∧ w = w' := by
  have hc := c.toNat_lt
  by_cases h32 : c.toNat = 32
  · have e32 : ((c.toNat : Int) == 32) = true := by simp; omega
    rw [show blankB c = true from decide_eq_true (by omega)]
    clear h32
    go_enter Tryz.func110, Tryz.ntmps110
    go_wp2_with fail
    go_ret
    exact ⟨rfl, rfl⟩
  · have e32 : ((c.toNat : Int) == 32) = false := by simp; omega
    by_cases h9 : c.toNat = 9
    · have e9 : ((c.toNat : Int) == 9) = true := by simp; omega
      rw [show blankB c = true from decide_eq_true (by omega)]
      clear h32 h9
      go_enter Tryz.func110, Tryz.ntmps110
      go_wp2_with fail
      go_ret
      exact ⟨rfl, rfl⟩
    · have e9 : ((c.toNat : Int) == 9) = false := by simp; omega
      by_cases h10 : c.toNat = 10
      · have e10 : ((c.toNat : Int) == 10) = true := by simp; omega
        rw [show blankB c = true from decide_eq_true (by omega)]
        clear h32 h9 h10
        go_enter Tryz.func110, Tryz.ntmps110
        go_wp2_with fail
        go_ret
        exact ⟨rfl, rfl⟩
      · have e10 : ((c.toNat : Int) == 10) = false := by simp; omega
        by_cases h13 : c.toNat = 13
        · have e13 : ((c.toNat : Int) == 13) = true := by simp; omega
          rw [show blankB c = true from decide_eq_true (by omega)]
          clear h32 h9 h10 h13
          go_enter Tryz.func110, Tryz.ntmps110
          go_wp2_with fail
          go_ret
          exact ⟨rfl, rfl⟩
        · have e13 : ((c.toNat : Int) == 13) = false := by simp; omega
          rw [show blankB c = false from decide_eq_false (by omega)]
          clear h32 h9 h10 h13
          go_enter Tryz.func110, Tryz.ntmps110
          go_wp2_with fail
          go_ret
          exact ⟨rfl, rfl⟩
end Go.Proofs.YtmdogmpcmkfjpaaGreatDoor.Dt
