/-
  How Go's structs and slices lie in memory: values, expressions; no program in sight.
-/
import Derived.Test.YtcimipebpfajgaaDoorLater
import Derived.Lib.Hide
namespace Go.Proofs.YtcimipebpfajgaaDoor.Dt
open Go.RowKit Go.Proofs.YtcimipebpfajgaaDoor.By

/-- A slice whose elements, of so many cells each, are told by a list. -/
def SlAt {α : Type} (size : Nat) (cells : α → List Value) (w : World) (v : Value) (l : List α) : Prop :=
  ∃ a c, v = .slice a l.length c ∧ l.length ≤ c ∧ ∀ i x, l[i]? = some x → ∃ b o, a = some ⟨b, o, none⟩ ∧ ∀ j u, (cells x)[j]? = some u → w.cell? ⟨b, o + i * size + j, none⟩ = some u

theorem SlAt.shape {α : Type} {size : Nat} {cells : α → List Value} {w : World} {v : Value} {l : List α} (h : SlAt size cells w v l) : ∃ a c, v = .slice a l.length c := by
  obtain ⟨a, c, rfl, _⟩ := h
  exact ⟨a, c, rfl⟩

theorem SlAt.some {α : Type} {size : Nat} {cells : α → List Value} {w : World} {v : Value} {l : List α} (h : SlAt size cells w v l) (hl : 0 < l.length) :
    ∃ b o c, v = .slice (.some ⟨b, o, none⟩) l.length c ∧ l.length ≤ c ∧ ∀ i x, l[i]? = .some x → ∀ j u, (cells x)[j]? = .some u → w.cell? ⟨b, o + i * size + j, none⟩ = .some u := by
  obtain ⟨a, c, rfl, hc, h⟩ := h
  obtain ⟨b, o, rfl, _⟩ := h 0 l[0] (by simp [hl])
  refine ⟨b, o, c, rfl, hc, fun i x hx j u hu => ?_⟩
  obtain ⟨b', o', e, h'⟩ := h i x hx
  cases e
  exact h' j u hu

theorem SlAt.below {α : Type} {size : Nat} {cells : α → List Value} {w w' : World} {v : Value} {l : List α} (h : SlAt size cells w v l) (hb : Below w.heap.size w w') : SlAt size cells w' v l := by
  obtain ⟨a, c, rfl, hc, h⟩ := h
  refine ⟨a, c, rfl, hc, fun i x hx => ?_⟩
  obtain ⟨b, o, e, h'⟩ := h i x hx
  refine ⟨b, o, e, fun j u hu => ?_⟩
  have hk := h' j u hu
  exact (hb.cell (cell_lt hk)).trans hk

theorem SlAt.nil {α : Type} (size : Nat) (cells : α → List Value) (w : World) : SlAt size cells w (.slice none 0 0) ([] : List α) :=
  ⟨none, 0, rfl, Nat.le_refl _, fun i x h => by simp at h⟩

/-- A value. -/
structure V where
  k : Nat
  n : Int
  s : ByteArray

def V.cells (v : V) : List Value := [.int .u8 (v.k : Int), .int .i64 v.n, .string v.s]
abbrev V.val (v : V) : Value := .agg #[.int .u8 (v.k : Int), .int .i64 v.n, .string v.s]
/-- .. that Go can hold. -/
def V.ok (v : V) : Prop := v.k < 256 ∧ (-9223372036854775808 ≤ v.n ∧ v.n ≤ 9223372036854775807) ∧ v.s.size ≤ 140737488351232
/-- A row of values. -/
abbrev VsAt (w : World) (v : Value) (l : List V) : Prop := SlAt 3 V.cells w v l

/-- A cell as a value: where a slice's header lies in an element. -/
def hdCells (v : Value) : List Value := [v]

/-- An expression, with the header of its kids' slice. -/
inductive Ex where
  | mk (op : Nat) (v : V) (t m : ByteArray) (n : Int) (kv : Value) (kids : List Ex)

namespace Ex
def op : Ex → Nat | .mk o _ _ _ _ _ _ => o
def v : Ex → V | .mk _ v _ _ _ _ _ => v
def t : Ex → ByteArray | .mk _ _ t _ _ _ _ => t
def m : Ex → ByteArray | .mk _ _ _ m _ _ _ => m
def n : Ex → Int | .mk _ _ _ _ n _ _ => n
def kv : Ex → Value | .mk _ _ _ _ _ kv _ => kv
def kids : Ex → List Ex | .mk _ _ _ _ _ _ l => l
def cells (x : Ex) : List Value := [.int .u8 (x.op : Int), .int .u8 (x.v.k : Int), .int .i64 x.v.n, .string x.v.s, .string x.t, .string x.m, .int .i64 x.n, x.kv]
abbrev val (x : Ex) : Value := .agg #[.int .u8 (x.op : Int), .int .u8 (x.v.k : Int), .int .i64 x.v.n, .string x.v.s, .string x.t, .string x.m, .int .i64 x.n, x.kv]
/-- What one node holds fits Go's types. -/
def okOne (x : Ex) : Prop := x.op < 256 ∧ x.v.ok ∧ x.t.size ≤ 140737488351232 ∧ x.m.size ≤ 140737488351232 ∧ -9223372036854775808 ≤ x.n ∧ x.n ≤ 9223372036854775807 ∧ x.kids.length * 104 ≤ 140737488351232

section
variable (o : Nat) (v : V) (t m : ByteArray) (n : Int) (kv : Value) (l : List Ex)
theorem op_mk : (mk o v t m n kv l).op = o := rfl
theorem v_mk : (mk o v t m n kv l).v = v := rfl
theorem t_mk : (mk o v t m n kv l).t = t := rfl
theorem m_mk : (mk o v t m n kv l).m = m := rfl
theorem n_mk : (mk o v t m n kv l).n = n := rfl
theorem kv_mk : (mk o v t m n kv l).kv = kv := rfl
theorem kids_mk : (mk o v t m n kv l).kids = l := rfl
end

mutual
/-- The kids lie in 'w'. -/
def In (w : World) : Ex → Prop
  | .mk _ _ _ _ _ kv kids => SlAt 8 Ex.cells w kv kids ∧ InAll w kids
def InAll (w : World) : List Ex → Prop
  | [] => True
  | x :: l => In w x ∧ InAll w l
end
mutual
def Ok : Ex → Prop
  | .mk op v t m n kv kids => okOne (.mk op v t m n kv kids) ∧ OkAll kids
def OkAll : List Ex → Prop
  | [] => True
  | x :: l => Ok x ∧ OkAll l
end
theorem inAll_iff (w : World) : ∀ l : List Ex, InAll w l ↔ ∀ x ∈ l, In w x
  | [] => by simp [InAll]
  | x :: l => by simp [InAll, inAll_iff w l]
theorem okAll_iff : ∀ l : List Ex, OkAll l ↔ ∀ x ∈ l, Ok x
  | [] => by simp [OkAll]
  | x :: l => by simp [OkAll, okAll_iff l]
theorem in_iff (w : World) (x : Ex) : In w x ↔ SlAt 8 Ex.cells w x.kv x.kids ∧ ∀ y ∈ x.kids, In w y := by
  cases x
  rw [In, inAll_iff]
  rfl
theorem ok_iff (x : Ex) : Ok x ↔ okOne x ∧ ∀ y ∈ x.kids, Ok y := by
  cases x
  rw [Ok, okAll_iff]
  rfl

mutual
/-- How deep an expression is: what the proofs go down by. -/
def deep : Ex → Nat
  | .mk _ _ _ _ _ _ kids => deepAll kids + 1
def deepAll : List Ex → Nat
  | [] => 0
  | x :: l => max (deep x) (deepAll l)
end
theorem deep_kid {x y : Ex} (h : y ∈ x.kids) : y.deep < x.deep := by
  cases x with
  | mk op v t m n kv kids =>
    have : ∀ l : List Ex, y ∈ l → y.deep ≤ deepAll l := by
      intro l
      induction l with
      | nil => intro h; cases h
      | cons z l ih =>
        intro h
        rw [deepAll]
        rcases List.mem_cons.1 h with rfl | h
        · exact Nat.le_max_left _ _
        · exact Nat.le_trans (ih h) (Nat.le_max_right _ _)
    have h' := this kids h
    rw [deep]
    omega
/-- By the depth. -/
theorem ind {p : Ex → Prop} (h : ∀ x, (∀ y ∈ x.kids, p y) → p x) : ∀ x, p x := by
  have : ∀ n x, deep x < n → p x := by
    intro n
    induction n with
    | zero => intro x hx; omega
    | succ n ih =>
      intro x hx
      exact h x fun y hy => ih y (by have := deep_kid hy; omega)
  intro x
  exact this (x.deep + 1) x (by omega)

/-- The kids' header is a slice's. -/
theorem kv_of {w : World} {x : Ex} (h : In w x) : ∃ a c, x.kv = .slice a x.kids.length c := ((in_iff w x).1 h).1.shape
theorem in_below {w w' : World} (hb : Below w.heap.size w w') : ∀ x : Ex, In w x → In w' x := by
  refine ind fun x ih hx => ?_
  rw [in_iff] at hx ⊢
  exact ⟨hx.1.below hb, fun y hy => ih y hy (hx.2 y hy)⟩
/-- An element's cells. -/
theorem at8 {w : World} {a : Option Addr} {n c k : Nat} {l : List Ex} {y : Ex} (h : SlAt 8 Ex.cells w (.slice a n c) l) (hk : l[k]? = some y) :
    ∃ b o, a = some ⟨b, o, none⟩ ∧ b < w.heap.size ∧ w.cell? ⟨b, o + k * 8, none⟩ = some (.int .u8 (y.op : Int)) ∧ w.cell? ⟨b, o + k * 8 + 1, none⟩ = some (.int .u8 (y.v.k : Int)) ∧ w.cell? ⟨b, o + k * 8 + 2, none⟩ = some (.int .i64 y.v.n) ∧ w.cell? ⟨b, o + k * 8 + 3, none⟩ = some (.string y.v.s) ∧
      w.cell? ⟨b, o + k * 8 + 4, none⟩ = some (.string y.t) ∧ w.cell? ⟨b, o + k * 8 + 5, none⟩ = some (.string y.m) ∧ w.cell? ⟨b, o + k * 8 + 6, none⟩ = some (.int .i64 y.n) ∧ w.cell? ⟨b, o + k * 8 + 7, none⟩ = some y.kv := by
  obtain ⟨a', c', e, _, h⟩ := h
  simp only [Value.slice.injEq] at e
  obtain ⟨rfl, _, _⟩ := e
  obtain ⟨b, o, rfl, h'⟩ := h k y hk
  have h0 := h' 0 _ rfl
  exact ⟨b, o, rfl, cell_lt h0, h0, h' 1 _ rfl, h' 2 _ rfl, h' 3 _ rfl, h' 4 _ rfl, h' 5 _ rfl, h' 6 _ rfl, h' 7 _ rfl⟩
end Ex
/-- A value's cells in a row. -/
theorem at3 {w : World} {a : Option Addr} {n c k : Nat} {l : List V} {y : V} (h : VsAt w (.slice a n c) l) (hk : l[k]? = some y) :
    ∃ b o, a = some ⟨b, o, none⟩ ∧ b < w.heap.size ∧ w.cell? ⟨b, o + k * 3, none⟩ = some (.int .u8 (y.k : Int)) ∧ w.cell? ⟨b, o + k * 3 + 1, none⟩ = some (.int .i64 y.n) ∧ w.cell? ⟨b, o + k * 3 + 2, none⟩ = some (.string y.s) := by
  obtain ⟨a', c', e, _, h⟩ := h
  simp only [Value.slice.injEq] at e
  obtain ⟨rfl, _, _⟩ := e
  obtain ⟨b, o, rfl, h'⟩ := h k y hk
  have h0 := h' 0 _ rfl
  exact ⟨b, o, rfl, cell_lt h0, h0, h' 1 _ rfl, h' 2 _ rfl⟩
/-- What was there reads as it did: as rules for the walk. -/
theorem bcell {W w1 : World} (hb : Below W.heap.size W w1) : (∀ b o, b < W.heap.size → w1.cell? ⟨b, o, none⟩ = W.cell? ⟨b, o, none⟩) ∧ (∀ b o, b < W.heap.size → w1.frozen? ⟨b, o, none⟩ = W.frozen? ⟨b, o, none⟩) :=
  ⟨fun b o h => hb.cell (p := ⟨b, o, none⟩) h, fun b o h => hb.frozen (p := ⟨b, o, none⟩) h⟩
end Go.Proofs.YtcimipebpfajgaaDoor.Dt
