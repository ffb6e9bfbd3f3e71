import Derived.WalkKit
import Derived.ProofKit
import Derived.Deep.QuietTactic
import Derived.BigQuiet
import Derived.Lib.Hide
import Derived.Lib.ItoaMem
import Derived.Lib.ParseIntB
import Derived.Lib.ParseIntBTie
namespace Go.Proofs.YtjgkeillmelkoaaGreat.By
open Go.RowKit

/-- The worlds in which all that is in 'w' stands as it was. -/
def Later (w : World) : Type := { w' : World // Below w.heap.size w w' }
instance (w : World) : Nonempty (Later w) := ⟨⟨w, Below.refl _ _⟩⟩
def lat (w : World) (e : Later w) : World := e.1

theorem lat_below (w : World) (e : Later w) : Below w.heap.size w (lat w e) := e.2
theorem cell_lt {w : World} {p : Addr} {v : Value} (h : w.cell? p = some v) : p.block < w.heap.size := by
  rcases Nat.lt_or_ge p.block w.heap.size with h1 | h1
  · exact h1
  · exfalso
    have h2 : w.heap[p.block]? = none := Array.getElem?_eq_none h1
    unfold World.cell? at h
    rw [h2] at h
    simp at h
theorem lat_cell {w : World} {p : Addr} {v : Value} (h : w.cell? p = some v) : ∀ e : Later w, (lat w e).cell? p = some v :=
  fun e => (e.2.cell (cell_lt h)).trans h

theorem lat_calls {P : Program} {f : FuncId} {args : Array Value} {w : World} {e : Later w} {v : Value}
    (h : Calls P f args (lat w e) fun r w' => r = .returned v ∧ Below (lat w e).heap.size (lat w e) w') : Calls P f args (lat w e) fun r w'' => r = .returned v ∧ ∃ m : Later w, w'' = lat w m :=
  h.mono fun _ w' ⟨he, hm⟩ => ⟨he, ⟨w', e.2.trans (hm.mono e.2.size)⟩, rfl⟩
theorem wp_region_later {P : Program} {id : Nat} {Q : Exit → Act → World → Prop} {a : Act} {w : World} {l : List Oper} (hm : P.follows .mixedOrders = true) (hB : Region.lexB .any l.toArray = true)
    (h : wpQuiet P l.toArray (fun w' => ∃ e : Later w, w' = lat w e) (fun a' => ∀ w', (∃ e : Later w, w' = lat w e) → Q .normal a' w') l a) : (Code.region id l.toArray true).wp P Q a w :=
  wp_region_quiet (C := fun w' => ∃ e : Later w, w' = lat w e) hm hB ⟨⟨_, Below.drew (Below.refl _ _)⟩, rfl⟩ (by simpa using h)
/-- Behind it. -/
theorem later_out {w : World} {p : World → Prop} (h : ∀ w', Below w.heap.size w w' → p w') : ∀ w', (∃ e : Later w, w' = lat w e) → p w' := by
  rintro w' ⟨e, rfl⟩
  exact h _ e.2
theorem drewN_below {B : Nat} {a w : World} (h : Below B a w) (n : Nat) : Below B a (w.drewN n) := ⟨h.os, h.tape, h.output, h.size, h.block⟩
/-- Strings held against each other, as the walk writes it. -/
theorem str_eq (a b : ByteArray) : (a.toList == b.toList) = decide (a = b) := by
  rw [ByteArray.toList_eq, ByteArray.toList_eq, Bool.eq_iff_iff, beq_iff_eq, decide_eq_true_eq]
  exact ⟨fun h => ByteArray.ext (Array.toList_inj.1 h), fun h => by rw [h]⟩
end Go.Proofs.YtjgkeillmelkoaaGreat.By
namespace Go.Proofs.YtjgkeillmelkoaaGreat.Dt
open Go.RowKit Go.Proofs.YtjgkeillmelkoaaGreat.By

/-- A slice whose elements, of so many cells each, are told by a list. -/
def SlAt {α : Type} (size : Nat) (cells : α → List Value) (w : World) (v : Value) (l : List α) : Prop :=
  ∃ a c, v = .slice a l.length c ∧ l.length ≤ c ∧ ∀ i x, l[i]? = some x → ∃ b o, a = some ⟨b, o, none⟩ ∧ ∀ j u, (cells x)[j]? = some u → w.cell? ⟨b, o + i * size + j, none⟩ = some u

theorem SlAt.shape {α : Type} {size : Nat} {cells : α → List Value} {w : World} {v : Value} {l : List α} (h : SlAt size cells w v l) : ∃ a c, v = .slice a l.length c := by
  obtain ⟨a, c, rfl, _⟩ := h
  exact ⟨a, c, rfl⟩

theorem SlAt.below {α : Type} {size : Nat} {cells : α → List Value} {w w' : World} {v : Value} {l : List α} (h : SlAt size cells w v l) (hb : Below w.heap.size w w') : SlAt size cells w' v l := by
  obtain ⟨a, c, rfl, hc, h⟩ := h
  refine ⟨a, c, rfl, hc, fun i x hx => ?_⟩
  obtain ⟨b, o, e, h'⟩ := h i x hx
  refine ⟨b, o, e, fun j u hu => ?_⟩
  have hk := h' j u hu
  exact (hb.cell (cell_lt hk)).trans hk

theorem SlAt.nil {α : Type} (size : Nat) (cells : α → List Value) (w : World) : SlAt size cells w (.slice none 0 0) ([] : List α) :=
  ⟨none, 0, rfl, Nat.le_refl _, fun i x h => by simp at h⟩

/-- A value. -/
structure V where
  k : Nat
  n : Int
  s : ByteArray

def V.cells (v : V) : List Value := [.int .u8 (v.k : Int), .int .i64 v.n, .string v.s]
abbrev V.val (v : V) : Value := .agg #[.int .u8 (v.k : Int), .int .i64 v.n, .string v.s]
/-- .. that Go can hold. -/
def V.ok (v : V) : Prop := v.k < 256 ∧ (-9223372036854775808 ≤ v.n ∧ v.n ≤ 9223372036854775807) ∧ v.s.size ≤ 140737488351232
/-- A row of values. -/
abbrev VsAt (w : World) (v : Value) (l : List V) : Prop := SlAt 3 V.cells w v l

/-- An expression, with the header of its kids' slice. -/
inductive Ex where
  | mk (op : Nat) (v : V) (t m : ByteArray) (n : Int) (kv : Value) (kids : List Ex)

namespace Ex
def op : Ex → Nat | .mk o _ _ _ _ _ _ => o
def v : Ex → V | .mk _ v _ _ _ _ _ => v
def t : Ex → ByteArray | .mk _ _ t _ _ _ _ => t
def m : Ex → ByteArray | .mk _ _ _ m _ _ _ => m
def n : Ex → Int | .mk _ _ _ _ n _ _ => n
def kv : Ex → Value | .mk _ _ _ _ _ kv _ => kv
def kids : Ex → List Ex | .mk _ _ _ _ _ _ l => l
def cells (x : Ex) : List Value := [.int .u8 (x.op : Int), .int .u8 (x.v.k : Int), .int .i64 x.v.n, .string x.v.s, .string x.t, .string x.m, .int .i64 x.n, x.kv]
abbrev val (x : Ex) : Value := .agg #[.int .u8 (x.op : Int), .int .u8 (x.v.k : Int), .int .i64 x.v.n, .string x.v.s, .string x.t, .string x.m, .int .i64 x.n, x.kv]
/-- What one node holds fits Go's types. -/
def okOne (x : Ex) : Prop := x.op < 256 ∧ x.v.ok ∧ x.t.size ≤ 140737488351232 ∧ x.m.size ≤ 140737488351232 ∧ -9223372036854775808 ≤ x.n ∧ x.n ≤ 9223372036854775807 ∧ x.kids.length * 104 ≤ 140737488351232

section
variable (o : Nat) (v : V) (t m : ByteArray) (n : Int) (kv : Value) (l : List Ex)
end

mutual
/-- The kids lie in 'w'. -/
def In (w : World) : Ex → Prop
  | .mk _ _ _ _ _ kv kids => SlAt 8 Ex.cells w kv kids ∧ InAll w kids
def InAll (w : World) : List Ex → Prop
  | [] => True
  | x :: l => In w x ∧ InAll w l
end
mutual
def Ok : Ex → Prop
  | .mk op v t m n kv kids => okOne (.mk op v t m n kv kids) ∧ OkAll kids
def OkAll : List Ex → Prop
  | [] => True
  | x :: l => Ok x ∧ OkAll l
end
theorem inAll_iff (w : World) : ∀ l : List Ex, InAll w l ↔ ∀ x ∈ l, In w x
  | [] => by simp [InAll]
  | x :: l => by simp [InAll, inAll_iff w l]
theorem okAll_iff : ∀ l : List Ex, OkAll l ↔ ∀ x ∈ l, Ok x
  | [] => by simp [OkAll]
  | x :: l => by simp [OkAll, okAll_iff l]
theorem in_iff (w : World) (x : Ex) : In w x ↔ SlAt 8 Ex.cells w x.kv x.kids ∧ ∀ y ∈ x.kids, In w y := by
  cases x
  rw [In, inAll_iff]
  rfl
theorem ok_iff (x : Ex) : Ok x ↔ okOne x ∧ ∀ y ∈ x.kids, Ok y := by
  cases x
  rw [Ok, okAll_iff]
  rfl

mutual
/-- How deep an expression is: what the proofs go down by. -/
def deep : Ex → Nat
  | .mk _ _ _ _ _ _ kids => deepAll kids + 1
def deepAll : List Ex → Nat
  | [] => 0
  | x :: l => max (deep x) (deepAll l)
end
theorem deep_kid {x y : Ex} (h : y ∈ x.kids) : y.deep < x.deep := by
  cases x with
  | mk op v t m n kv kids =>
    have : ∀ l : List Ex, y ∈ l → y.deep ≤ deepAll l := by
      intro l
      induction l with
      | nil => intro h; cases h
      | cons z l ih =>
        intro h
        rw [deepAll]
        rcases List.mem_cons.1 h with rfl | h
        · exact Nat.le_max_left _ _
        · exact Nat.le_trans (ih h) (Nat.le_max_right _ _)
    have h' := this kids h
    rw [deep]
    omega
/-- By the depth. -/
theorem ind {p : Ex → Prop} (h : ∀ x, (∀ y ∈ x.kids, p y) → p x) : ∀ x, p x := by
  have : ∀ n x, deep x < n → p x := by
    intro n
    induction n with
    | zero => intro x hx; omega
    | succ n ih =>
      intro x hx
      exact h x fun y hy => ih y (by have := deep_kid hy; omega)
  intro x
  exact this (x.deep + 1) x (by omega)

/-- The kids' header is a slice's. -/
theorem kv_of {w : World} {x : Ex} (h : In w x) : ∃ a c, x.kv = .slice a x.kids.length c := ((in_iff w x).1 h).1.shape
theorem in_below {w w' : World} (hb : Below w.heap.size w w') : ∀ x : Ex, In w x → In w' x := by
  refine ind fun x ih hx => ?_
  rw [in_iff] at hx ⊢
  exact ⟨hx.1.below hb, fun y hy => ih y hy (hx.2 y hy)⟩
/-- An element's cells. -/
theorem at8 {w : World} {a : Option Addr} {n c k : Nat} {l : List Ex} {y : Ex} (h : SlAt 8 Ex.cells w (.slice a n c) l) (hk : l[k]? = some y) :
    ∃ b o, a = some ⟨b, o, none⟩ ∧ b < w.heap.size ∧ w.cell? ⟨b, o + k * 8, none⟩ = some (.int .u8 (y.op : Int)) ∧ w.cell? ⟨b, o + k * 8 + 1, none⟩ = some (.int .u8 (y.v.k : Int)) ∧ w.cell? ⟨b, o + k * 8 + 2, none⟩ = some (.int .i64 y.v.n) ∧ w.cell? ⟨b, o + k * 8 + 3, none⟩ = some (.string y.v.s) ∧
      w.cell? ⟨b, o + k * 8 + 4, none⟩ = some (.string y.t) ∧ w.cell? ⟨b, o + k * 8 + 5, none⟩ = some (.string y.m) ∧ w.cell? ⟨b, o + k * 8 + 6, none⟩ = some (.int .i64 y.n) ∧ w.cell? ⟨b, o + k * 8 + 7, none⟩ = some y.kv := by
  obtain ⟨a', c', e, _, h⟩ := h
  simp only [Value.slice.injEq] at e
  obtain ⟨rfl, _, _⟩ := e
  obtain ⟨b, o, rfl, h'⟩ := h k y hk
  have h0 := h' 0 _ rfl
  exact ⟨b, o, rfl, cell_lt h0, h0, h' 1 _ rfl, h' 2 _ rfl, h' 3 _ rfl, h' 4 _ rfl, h' 5 _ rfl, h' 6 _ rfl, h' 7 _ rfl⟩
end Ex
end Go.Proofs.YtjgkeillmelkoaaGreat.Dt
namespace Go.Proofs.YtjgkeillmelkoaaGreat.Dt

theorem V.ext' {a b : V} (h1 : a.k = b.k) (h2 : a.n = b.n) (h3 : a.s = b.s) : a = b := by
  cases a; cases b; simp_all
instance : DecidableEq V := fun a b => decidable_of_iff (a.k = b.k ∧ a.n = b.n ∧ a.s = b.s) ⟨fun h => V.ext' h.1 h.2.1 h.2.2, fun h => by rw [h]; exact ⟨rfl, rfl, rfl⟩⟩

/-- Is there too much in it? -/
def badV (v : V) : Prop := 3 < v.k ∨ (v.k ≠ 1 ∧ v.n ≠ 0) ∨ (v.k < 2 ∧ v.s ≠ ByteArray.empty)
instance (v : V) : Decidable (badV v) := by unfold badV; exact inferInstance
def checkV (v : V) : Nat := if badV v then 2 else if 1000 < v.s.size then 3 else 0

/-- The order of two texts. -/
def cmpL : List UInt8 → List UInt8 → Int
  | [], [] => 0
  | [], _ :: _ => -1
  | _ :: _, [] => 1
  | a :: l, b :: m => if a < b then -1 else if b < a then 1 else cmpL l m
def cmpI (a b : Int) : Int := if a < b then -1 else if b < a then 1 else 0
/-- The order of two values. -/
def cmpV (a b : V) : Int :=
  if a.k ≠ b.k then cmpI a.k b.k
  else if a.k = 1 then cmpI a.n b.n
  else if a.k = 2 ∨ a.k = 3 then cmpL a.s.data.toList b.s.data.toList
  else 0
end Go.Proofs.YtjgkeillmelkoaaGreat.Dt
namespace Go.Proofs.YtjgkeillmelkoaaGreat.Dt
open Go.Lib

/-- What digits say, behind what stands ahead of them. -/
def decV : Nat → List UInt8 → Option Nat
  | acc, [] => some acc
  | acc, c :: r => if 48 ≤ c.toNat ∧ c.toNat ≤ 57 then decV (10 * acc + (c.toNat - 48)) r else none

theorem head_app {l m : List UInt8} (h : l ≠ []) : (l ++ m).head? = l.head? := by cases l with | nil => exact absurd rfl h | cons a l => rfl
theorem decV_snoc (c : UInt8) : ∀ (l : List UInt8) (acc : Nat), decV acc (l ++ [c]) = (decV acc l).bind fun n => if 48 ≤ c.toNat ∧ c.toNat ≤ 57 then some (10 * n + (c.toNat - 48)) else none
  | [], acc => by simp [decV]
  | d :: l, acc => by
    simp only [List.cons_append, decV]
    by_cases h : 48 ≤ d.toNat ∧ d.toNat ≤ 57
    · rw [if_pos h, if_pos h, decV_snoc c l]
    · rw [if_neg h, if_neg h]; rfl
theorem decV_le : ∀ (l : List UInt8) (acc n : Nat), decV acc l = some n → acc ≤ n
  | [], acc, n, h => by simp only [decV, Option.some.injEq] at h; omega
  | c :: l, acc, n, h => by
    simp only [decV] at h
    by_cases hd : 48 ≤ c.toNat ∧ c.toNat ≤ 57
    · rw [if_pos hd] at h
      have := decV_le l _ n h
      omega
    · rw [if_neg hd] at h; cases h
theorem digit_nat (k : Nat) (h : k < 10) : (UInt8.ofNat (48 + k)).toNat = 48 + k := by rw [UInt8.toNat_ofNat', Nat.mod_eq_of_lt (by omega)]
theorem dec_small {n : Nat} (h : n < 10) : decDigits n = [UInt8.ofNat (48 + n)] := decDigits_one h
theorem dec_big {n : Nat} (h : ¬ n < 10) : decDigits n = decDigits (n / 10) ++ [UInt8.ofNat (48 + n % 10)] := by rw [decDigits, dif_neg h]
theorem decV_dec (n : Nat) : decV 0 (decDigits n) = some n := by
  induction n using Nat.strongRecOn with
  | _ n ih =>
    by_cases h : n < 10
    · rw [dec_small h]
      simp only [decV]
      rw [digit_nat n h, if_pos (by omega)]
      congr 1
      omega
    · rw [dec_big h, decV_snoc, ih (n / 10) (by omega), Option.bind_some, digit_nat _ (Nat.mod_lt _ (by decide)), if_pos (by have := Nat.mod_lt n (show 0 < 10 by decide); omega)]
      congr 1
      omega
theorem dec_ne (n : Nat) : decDigits n ≠ [] := by
  intro h
  by_cases hn : n < 10
  · rw [dec_small hn] at h; cases h
  · rw [dec_big hn] at h; simp at h
/-- No digit 0 ahead of others. -/
theorem dec_head (n : Nat) (h : 0 < n) : (decDigits n).head? ≠ some 48 := by
  induction n using Nat.strongRecOn with
  | _ n ih =>
    by_cases hn : n < 10
    · rw [dec_small hn]
      intro e
      have e2 := congrArg UInt8.toNat (Option.some.inj e)
      rw [digit_nat n hn] at e2
      have : (48 : UInt8).toNat = 48 := rfl
      omega
    · rw [dec_big hn]
      intro e
      have hne := dec_ne (n / 10)
      rw [head_app hne] at e
      exact ih (n / 10) (by omega) (by omega) e
theorem dec_head_digit (n : Nat) : ∃ c, (decDigits n).head? = some c ∧ 48 ≤ c.toNat ∧ c.toNat ≤ 57 := by
  induction n using Nat.strongRecOn with
  | _ n ih =>
    by_cases hn : n < 10
    · refine ⟨UInt8.ofNat (48 + n), by rw [dec_small hn]; rfl, ?_⟩
      rw [digit_nat n hn]; omega
    · rw [dec_big hn, head_app (dec_ne _)]
      exact ih (n / 10) (by omega)
theorem dec_len : ∀ (k n : Nat), n < 10 ^ k → 1 ≤ k → (decDigits n).length ≤ k
  | 0, _, _, h => by omega
  | k + 1, n, h, _ => by
    by_cases hn : n < 10
    · rw [dec_small hn]; simp
    · rw [dec_big hn, List.length_append]
      have hk : 1 ≤ k := by
        rcases k with _ | k
        · simp at h; omega
        · omega
      have := dec_len k (n / 10) (by rw [Nat.pow_succ] at h; omega) hk
      simp; omega
end Go.Proofs.YtjgkeillmelkoaaGreat.Dt
namespace Go.Proofs.YtjgkeillmelkoaaGreat.Dt
open Go.Lib

/-- A text with its quotes doubled. -/
def quoteL : List UInt8 → List UInt8
  | [] => []
  | c :: l => if c = 39 then 39 :: 39 :: quoteL l else c :: quoteL l
/-- A digit to the base 16, and back. -/
def hexC (n : Nat) : UInt8 := if n < 10 then UInt8.ofNat (48 + n) else UInt8.ofNat (87 + n)
def hexV (c : UInt8) : Option Nat := if 48 ≤ c.toNat ∧ c.toNat ≤ 57 then some (c.toNat - 48) else if 97 ≤ c.toNat ∧ c.toNat ≤ 102 then some (c.toNat - 87) else none
def hexL : List UInt8 → List UInt8
  | [] => []
  | c :: l => hexC (c.toNat / 16) :: hexC (c.toNat % 16) :: hexL l
theorem hexV_hexC (n : Nat) (h : n < 16) : hexV (hexC n) = some n := by
  unfold hexC
  by_cases h1 : n < 10
  · rw [if_pos h1]; unfold hexV
    rw [UInt8.toNat_ofNat', Nat.mod_eq_of_lt (by omega), if_pos (by omega)]
    congr 1; omega
  · rw [if_neg h1]; unfold hexV
    rw [UInt8.toNat_ofNat', Nat.mod_eq_of_lt (by omega), if_neg (by omega), if_pos (by omega)]
    congr 1; omega
theorem hexC_hexV {c : UInt8} {n : Nat} (h : hexV c = some n) : hexC n = c ∧ n < 16 := by
  unfold hexV at h
  by_cases h1 : 48 ≤ c.toNat ∧ c.toNat ≤ 57
  · rw [if_pos h1] at h
    obtain rfl := Option.some.inj h
    refine ⟨?_, by omega⟩
    unfold hexC
    rw [if_pos (by omega), show 48 + (c.toNat - 48) = c.toNat by omega]
    exact UInt8.ofNat_toNat
  · rw [if_neg h1] at h
    by_cases h2 : 97 ≤ c.toNat ∧ c.toNat ≤ 102
    · rw [if_pos h2] at h
      obtain rfl := Option.some.inj h
      refine ⟨?_, by omega⟩
      unfold hexC
      rw [if_neg (by omega), show 87 + (c.toNat - 87) = c.toNat by omega]
      exact UInt8.ofNat_toNat
    · rw [if_neg h2] at h; cases h
theorem quoteL_len : ∀ l : List UInt8, (quoteL l).length ≤ 2 * l.length
  | [] => Nat.le_refl _
  | c :: l => by
    have := quoteL_len l
    simp only [quoteL]
    split <;> simp only [List.length_cons] <;> omega
theorem hexL_length : ∀ l : List UInt8, (hexL l).length = 2 * l.length
  | [] => rfl
  | c :: l => by simp only [hexL, List.length_cons, hexL_length l]; omega
/-- A value's literal. -/
def litV (v : V) : List UInt8 :=
  if checkV v ≠ 0 then [] else if v.k = 1 then itoa v.n else if v.k = 2 then 39 :: (quoteL v.s.data.toList ++ [39])
  else if v.k = 3 then 120 :: 39 :: (hexL v.s.data.toList ++ [39]) else [78, 85, 76, 76]
theorem bytes_list (s : ByteArray) : s.data.toList.length = s.size := by rw [Array.length_toList, ByteArray.size_data]
end Go.Proofs.YtjgkeillmelkoaaGreat.Dt
