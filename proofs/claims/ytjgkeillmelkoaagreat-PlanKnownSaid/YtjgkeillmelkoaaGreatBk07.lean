import Derived.Laws.Bits64
import Derived.Deep.DeepCutAuto
import Derived.Handy
import Derived.Lib.Join
import Derived.Lib.ItoaMem
import Derived.Laws.Concat
import Derived.Test.YtjgkeillmelkoaaGreatProg
import Derived.Laws.Rows
import Derived.Test.YtjgkeillmelkoaaGreatBk06
import Derived.Test.YtjgkeillmelkoaaGreatBk05
import Derived.Test.YtjgkeillmelkoaaGreatBk01
import Derived.Test.YtjgkeillmelkoaaGreatBk04
import Derived.Test.YtjgkeillmelkoaaGreatBk02
import Derived.Test.YtjgkeillmelkoaaGreatBk03
namespace Go.Proofs.YtjgkeillmelkoaaGreat.Dt
open Go.RowKit Go.Proofs.YtjgkeillmelkoaaGreat.By

theorem wrapI (x : Int) (h0 : 0 ≤ x) (h1 : x ≤ 2000000) : wrap64 x = x := by unfold wrap64; omega
theorem wrapK (x : Int) (h0 : 0 ≤ x) (h1 : x ≤ 2000000) : IntKind.i64.wrap x = x := by rw [IntKind.wrap_i64]; omega
/-- The reader in block r at place p, an empty token in block b, the bytes O in a slice of the call's own. -/
structure QS (w : World) (r b : Nat) (s : ByteArray) (p : Nat) (v : Value) (O : List UInt8) (W : World) : Prop where
  rd : RD r s p W
  bx : TBox b W
  own : OwnB W (b + 1) 5 v O
  gr : w.grownBy W (some r)
  sz : b + 1 ≤ W.heap.size
theorem drop_cons (s : ByteArray) {p : Nat} (h : p < s.size) : s.data.toList.drop p = s[p] :: s.data.toList.drop (p + 1) := by
  rw [List.drop_eq_getElem_cons (by simpa using h)]; rfl
theorem drop_end (s : ByteArray) {p : Nat} (h : s.size ≤ p) : s.data.toList.drop p = [] := List.drop_eq_nil_iff.2 (by rw [bytes_list]; exact h)
theorem qscan_other {c : UInt8} (h : c ≠ 39) (l : List UInt8) : qscan (c :: l) = (qscan l).map fun x => (c :: x.1, x.2 + 1) := by
  cases l with
  | nil => simp [qscan, h]
  | cons d l => rw [qscan, if_neg h]
theorem qscan_two (l : List UInt8) : qscan (39 :: 39 :: l) = (qscan l).map fun x => (39 :: x.1, x.2 + 2) := by rw [qscan, if_pos rfl, if_pos rfl]
theorem qscan_stop {l : List UInt8} (h : topB l ≠ 39) : qscan (39 :: l) = some ([], 1) := by
  cases l with
  | nil => simp [qscan]
  | cons d l => rw [qscan, if_pos rfl, if_neg (show ¬ d = 39 from h)]
/-- A text's token, by what its quotes hold. -/
def textR (n : Nat) : Option (List UInt8 × Nat) → One
  | none => .bad 6 n
  | some (t, m) => if 1000 < t.length then .bad 3 0 else .tok 4 t 0 (m + 1)
theorem textOne_eq (l : List UInt8) : textOne l = textR l.length (qscan (l.drop 1)) := by
  unfold textOne
  cases qscan (l.drop 1) with
  | none => rfl
  | some x => rfl
theorem textR_long {n m : Nat} {t : List UInt8} (h : 1000 < t.length) : textR n (some (t, m)) = .bad 3 0 := by show (if _ then _ else _) = _; rw [if_pos h]
theorem textR_ok {n m : Nat} {t : List UInt8} (h : ¬ 1000 < t.length) : textR n (some (t, m)) = .tok 4 t 0 (m + 1) := by show (if _ then _ else _) = _; rw [if_neg h]
/-- A blob's token, by what its pairs say. -/
def blobR : Nat ⊕ (List UInt8 × Nat) → One
  | .inl e => .bad 6 (e + 2)
  | .inr (t, m) => if 1000 < t.length then .bad 3 0 else .tok 5 t 0 (m + 2)
theorem blobOne_eq (l : List UInt8) : blobOne l = blobR (bscan (l.drop 2)) := by
  unfold blobOne
  cases bscan (l.drop 2) with
  | inl e => rfl
  | inr x => rfl
theorem blobR_long {m : Nat} {t : List UInt8} (h : 1000 < t.length) : blobR (.inr (t, m)) = .bad 3 0 := by show (if _ then _ else _) = _; rw [if_pos h]
theorem blobR_ok {m : Nat} {t : List UInt8} (h : ¬ 1000 < t.length) : blobR (.inr (t, m)) = .tok 5 t 0 (m + 2) := by show (if _ then _ else _) = _; rw [if_neg h]
end Go.Proofs.YtjgkeillmelkoaaGreat.Dt
namespace Go.Proofs.YtjgkeillmelkoaaGreat.Dt
open Go.RowKit

def hexI (c : UInt8) : Int := match hexV c with | some n => (n : Int) | none => -1
theorem hexI_some {c : UInt8} {n : Nat} (h : hexV c = some n) : hexI c = (n : Int) := by unfold hexI; rw [h]
theorem hexI_none {c : UInt8} (h : hexV c = none) : hexI c = -1 := by unfold hexI; rw [h]
end Go.Proofs.YtjgkeillmelkoaaGreat.Dt
namespace Go.Proofs.YtjgkeillmelkoaaGreat.Dt
open Go.RowKit Go.Proofs.YtjgkeillmelkoaaGreat.By

/-- What was read of pairs, and what they are from there on. -/
def bsh (O : List UInt8) (j : Nat) : Nat ⊕ (List UInt8 × Nat) → Nat ⊕ (List UInt8 × Nat)
  | .inl e => .inl (j + e)
  | .inr x => .inr (O ++ x.1, j + x.2)
theorem bscan_none {c : UInt8} (h39 : c ≠ 39) (h : hexV c = none) (l : List UInt8) : bscan (c :: l) = .inl 0 := by
  cases l with
  | nil => rw [bscan, if_neg h39, if_pos h]
  | cons d l => rw [bscan, if_neg h39, h]
theorem bscan_half {c : UInt8} (h39 : c ≠ 39) {a : Nat} (h : hexV c = some a) {l : List UInt8} (hl : hexV (topB l) = none) : bscan (c :: l) = .inl 1 := by
  cases l with
  | nil => rw [bscan, if_neg h39, if_neg (by rw [h]; simp)]
  | cons d l =>
    have hd : hexV d = none := hl
    rw [bscan, if_neg h39, h, hd]
theorem bscan_pair {c d : UInt8} (h39 : c ≠ 39) {a b : Nat} (h : hexV c = some a) (hd : hexV d = some b) (l : List UInt8) (O : List UInt8) (j : Nat) : bsh O j (bscan (c :: d :: l)) = bsh (O ++ [UInt8.ofNat (16 * a + b)]) (j + 2) (bscan l) := by
  rw [bscan, if_neg h39, h, hd]
  simp only
  cases bscan l with
  | inl e => simp only [bsh]; congr 1; omega
  | inr x => simp only [bsh]; congr 2; simp; omega
theorem bscan_quote (l : List UInt8) : bscan (39 :: l) = .inr ([], 1) := by
  cases l with
  | nil => rw [bscan, if_pos rfl]
  | cons d l => rw [bscan, if_pos rfl]
theorem hex_zero : hexV 0 = none := by decide +kernel
end Go.Proofs.YtjgkeillmelkoaaGreat.Dt
namespace Go.Proofs.YtjgkeillmelkoaaGreat.Dt
open Go.RowKit Go.Proofs.YtjgkeillmelkoaaGreat.By

theorem equal_T (a b : Int) (s t : ByteArray) (c d e f : Int) (w : World) (n : Nat) : (Op.equalIn (n + 3) 114 (.agg #[.int .u8 a, .string s, .int .u64 c, .int .i64 e]) (.agg #[.int .u8 b, .string t, .int .u64 d, .int .i64 f])).run Tryz.prog w = .ok (a == b && (s.toList == t.toList && (c == d && e == f))) w := by
  rw [show n + 3 = (n + 2) + 1 from rfl, run_equalIn_agg w (n + 2) 114 _ _ (by kernel_rfl) (by kernel_rfl)]
  go_simp
  by_cases h1 : a = b <;> by_cases h2 : c = d <;> by_cases h3 : (s.toList == t.toList) = true <;> by_cases h4 : e = f <;> simp_all
theorem same_T (x y : Tk) : ((x.k : Int) == (y.k : Int) && (x.s.toList == y.s.toList && ((x.n : Int) == (y.n : Int) && x.a == y.a))) = decide (x = y) := by
  rw [str_eq, Bool.eq_iff_iff]
  simp only [Bool.and_eq_true, beq_iff_eq, decide_eq_true_eq]
  constructor
  · rintro ⟨h1, h2, h3, h4⟩; exact Tk.ext' (by omega) h2 (by omega) h4
  · rintro rfl; exact ⟨rfl, rfl, rfl, rfl⟩
theorem neq_toldT (x y : Tk) (t : Bool) (h : (x = y) = ¬ (t = true)) (w : World) : (binOp .neq 114 (.agg #[.int .u8 (x.k : Int), .string x.s, .int .u64 (x.n : Int), .int .i64 x.a]) (.agg #[.int .u8 (y.k : Int), .string y.s, .int .u64 (y.n : Int), .int .i64 y.a])).run Tryz.prog w = .ok (.bool t) w := by
  rw [run_neq_struct, equal_T _ _ _ _ _ _ _ _ w 9997, same_T]
  show Result.ok (Value.bool _) w = _
  congr 2; rw [Bool.eq_iff_iff]; simp [h]
end Go.Proofs.YtjgkeillmelkoaaGreat.Dt
namespace Go.Proofs.YtjgkeillmelkoaaGreat.Dt
open Go.ChangeShapes Go.WideShapes Go.RowKit Go.Proofs.YtjgkeillmelkoaaGreat.By

section
variable {H : Type} {enc : TypeId × Value → H} {P : Program} {w : World} {base : Nat} {spare : Nat → Bool} {held : Bool}

/-- The types of a token's struct. -/
structure TkType (P : Program) (t : TypeId) : Prop where
  size : P.cellsOf t = 4
  bytes : P.bytesOf t = 40
  f0 : ∃ ty, fieldB P t 0 = some (ty, 0) ∧ P.cellsOf ty = 1 ∧ P.underlying ty = some (.int .u8)
  f1 : ∃ ty, fieldB P t 1 = some (ty, 1) ∧ P.cellsOf ty = 1 ∧ P.underlying ty = some .string
  f2 : ∃ ty, fieldB P t 2 = some (ty, 2) ∧ P.cellsOf ty = 1 ∧ P.underlying ty = some (.int .u64)
  f3 : ∃ ty, fieldB P t 3 = some (ty, 3) ∧ P.cellsOf ty = 1 ∧ P.underlying ty = some (.int .i64)
/-- Rows of texts. -/
def sCells (s : ByteArray) : List Value := [.string s]
abbrev SsAt (w : World) (v : Value) (l : List ByteArray) : Prop := SlAt 1 sCells w v l
end
/-- A text's cell in a row. -/
theorem at1 {w : World} {a : Option Addr} {n c k : Nat} {l : List ByteArray} {y : ByteArray} (h : SsAt w (.slice a n c) l) (hk : l[k]? = some y) : ∃ b o, a = some ⟨b, o, none⟩ ∧ w.cell? ⟨b, o + k, none⟩ = some (.string y) := by
  obtain ⟨a', c', e, _, h⟩ := h
  simp only [Value.slice.injEq] at e
  obtain ⟨rfl, _, _⟩ := e
  obtain ⟨b, o, rfl, h'⟩ := h k y hk
  have h0 := h' 0 _ rfl
  simp only [Nat.mul_one, Nat.add_zero] at h0
  exact ⟨b, o, rfl, h0⟩
theorem elS : By.Elem Tryz.prog 27 9 1 16 where
  slice := by kernel_rfl
  info := by
    have h : (Tryz.prog.info? 9).map (fun i => (i.zero, i.size, i.bytes)) = some (some (.string ⟨#[]⟩), 1, 16) := by kernel_rfl
    obtain ⟨i, hi, h1, h2, h3⟩ := info_parts h
    exact ⟨i, _, hi, h1, h2, h3, rfl⟩
  pos := by decide
def ssCells (l : List ByteArray) : List Value := l.map fun s => .string s
def OwnS (w : World) (base : Nat) (v : Value) (l : List ByteArray) : Prop := w.ownsRow base 9 1 v l.length (ssCells l)
theorem OwnS.nil (w : World) (base : Nat) : OwnS w base (.slice none 0 0) [] := World.ownsRow_nil _ _ _ _
theorem OwnS.shape {w : World} {base : Nat} {v : Value} {l : List ByteArray} (h : OwnS w base v l) : ∃ a c, v = .slice a l.length c := by
  rcases h.2 with ⟨rfl, hn⟩ | ⟨g, cap, cur, rfl, _⟩
  · exact ⟨none, 0, by rw [hn]⟩
  · exact ⟨_, _, rfl⟩
theorem OwnS.at_ {w : World} {base : Nat} {v : Value} {l : List ByteArray} (h : OwnS w base v l) : SsAt w v l := by
  rcases h.2 with ⟨rfl, hn⟩ | ⟨g, cap, cur, rfl, hg, hh, hn, hcap, hsz, ht⟩
  · obtain rfl : l = [] := List.eq_nil_of_length_eq_zero hn
    exact SlAt.nil _ _ _
  · refine ⟨_, cap, rfl, hn, fun i x hx => ⟨g, 0, rfl, fun j u hu => ?_⟩⟩
    match j, hu with
    | 0, hu =>
      have := World.ownsRow.cells h rfl i u (by simp only [sCells, List.getElem?_cons_zero, Option.some.injEq] at hu; subst hu; simp [ssCells, hx])
      rw [Addr.add_lit] at this
      simpa using this
    | _ + 1, hu => simp [sCells] at hu
theorem OwnS.below {w w' : World} {base : Nat} {v : Value} {l : List ByteArray} (h : OwnS w base v l) (hb : Below w.heap.size w w') : OwnS w' base v l :=
  World.ownsRow.kept (row := none) h ⟨hb.os, hb.tape, hb.output, hb.size, fun i hi _ => hb.block i hi⟩ (by cases v.ownBlock <;> simp)
theorem OwnS.snoc {w : World} {base : Nat} {v : Value} {l : List ByteArray} {s : ByteArray} (h : w.ownsRow base 9 1 v (l.length + 1) (ssCells l ++ [.string s])) : OwnS w base v (l ++ [s]) := by
  unfold OwnS
  rw [List.length_append]
  simpa [ssCells] using h
end Go.Proofs.YtjgkeillmelkoaaGreat.Dt
namespace Go.Proofs.YtjgkeillmelkoaaGreat.Dt
open Go.Lib

end Go.Proofs.YtjgkeillmelkoaaGreat.Dt
namespace Go.Proofs.YtjgkeillmelkoaaGreat.Dt
open Go.RowKit Go.Sort Go.Lib Go.Proofs.YtjgkeillmelkoaaGreat.By

end Go.Proofs.YtjgkeillmelkoaaGreat.Dt
namespace Go.Proofs.YtjgkeillmelkoaaGreat.Dt
open Go.RowKit Go.Proofs.YtjgkeillmelkoaaGreat.By

end Go.Proofs.YtjgkeillmelkoaaGreat.Dt
namespace Go.Proofs.YtjgkeillmelkoaaGreat.Dt
open Go.RowKit Go.Proofs.YtjgkeillmelkoaaGreat.By

theorem tks_cap2 {w : World} {a : Option Addr} {n c : Nat} {l : List Tk} (h : TksAt w (.slice a n c) l) : n = l.length ∧ l.length ≤ c := by
  obtain ⟨a', c', e, hc, _⟩ := h
  simp only [Value.slice.injEq] at e
  obtain ⟨_, h1, rfl⟩ := e
  exact ⟨h1, hc⟩
end Go.Proofs.YtjgkeillmelkoaaGreat.Dt
namespace Go.Proofs.YtjgkeillmelkoaaGreat.Dt
open Go.RowKit Go.Proofs.YtjgkeillmelkoaaGreat.By

theorem write_bad {l : List Tk} {t : Tk} (ht : t ∈ l) (h : ¬ okT t) : writeL l = ([], 2) := by
  unfold writeL
  rw [if_neg (fun a => h (a t ht))]
theorem write_ok {l : List Tk} (h : ∀ t ∈ l, okT t) : writeL l = (joinL (l.map textT), 0) := by
  unfold writeL
  rw [if_pos h]
end Go.Proofs.YtjgkeillmelkoaaGreat.Dt
namespace Go.Proofs.YtjgkeillmelkoaaGreat.Dt
open Go.RowKit Go.Proofs.YtjgkeillmelkoaaGreat.By

section
variable {P : Program} {w : World}
theorem append_where (base : Nat) (t ty e : TypeId) (i : TypeInfo) (z : Value) (size bytes : Nat) (ht : P.underlying t = some (.slice e)) (hi : P.info? e = some i) (hz : i.zero = some z)
    (hsize : i.size = size) (hby : i.bytes = bytes) (hzs : z.cells.size = size) (hsz : 0 < size)
    (v : Value) (n : Nat) (xs : List Value) (hown : w.ownsRow base e size v n xs)
    (a : Addr) (c : Nat) (news : List Value) (hl : news.length = size) (hnews : ∀ j u, news[j]? = some u → w.cell? (a.add j) = some u) (h1 : ∀ u ∈ news, u.oneCell' = true)
    (h63 : n + 1 ≤ maxLen) (hbytes : (n + 1) * bytes ≤ 140737488355328) (v' : Value) (w' : World) (hr : (Builtin.append_ #[t, t] ty #[v, .slice (some a) 1 c]).run P w = .ok v' w') :
    v'.ownBlock = v.ownBlock ∨ v'.ownBlock = some w.heap.size := by
  subst hsize
  subst hby
  have hsmall : n + 1 ≤ 9223372036854775807 := by simp only [maxLen] at h63; omega
  have hl' : news.length = 1 * i.size := by rw [Nat.one_mul]; exact hl
  rcases hown.2 with ⟨rfl, rfl⟩ | ⟨g, cap, cur, rfl, hbg, hg, hnc, hcm, hcs, htake⟩
  · have h := run_append_nil (P := P) w t ty e i z ht hi hz a 1 c news hl' hnews (by omega) (by omega) (by have hb := hbytes; simp only [Nat.zero_add] at hb; omega)
    rw [h] at hr
    cases hr
    exact .inr rfl
  · by_cases hroom : n + 1 ≤ cap
    · have hfit : n * i.size + news.length ≤ cur.size := by rw [hl', hcs, ← Nat.add_mul]; exact Nat.mul_le_mul_right _ hroom
      have h := run_append_room (P := P) w t ty e i ht hi g n cap cur hg a 1 c news hl' hnews h1 hroom hfit
      rw [h] at hr
      cases hr
      exact .inl rfl
    · have holds : ∀ j u, xs[j]? = some u → w.cell? ((⟨g, 0, none⟩ : Addr).add j) = some u := hown.cells (g := g) rfl
      have h := run_append_grow (P := P) w t ty e i z ht hi hz ⟨g, 0, none⟩ n cap xs hown.1 holds a 1 c news hl' hnews (by omega) (by omega) (growslice_fits (by omega) hbytes)
      rw [h] at hr
      cases hr
      exact .inr rfl
theorem wpList_append_one {ops : Array Oper} {rest : List Oper} {o : Oper} {a : Act} {Q : Exit → Act → World → Prop} (hgd : o.guard = none) (s x : Operand) (t : TypeId)
    (ho : o.op = .call { callee := .builtin .append, args := #[s, x], argTypes := #[t, t] })
    (base : Nat) (e : TypeId) (size bytes : Nat) (E : Elem P t e size bytes)
    (v : Value) (n : Nat) (xs : List Value) (hs : a.eval s = v) (hown : w.ownsRow base e size v n xs)
    (b c : Nat) (news : List Value) (hx : a.eval x = .slice (some ⟨b, 0, none⟩) 1 c) (hl : news.length = size) (hnews : ∀ j u, news[j]? = some u → w.cell? ⟨b, j, none⟩ = some u) (h1 : ∀ u ∈ news, u.oneCell' = true)
    (h63 : n + 1 ≤ maxLen) (hbytes : (n + 1) * bytes ≤ 140737488355328) (hbase : base ≤ w.heap.size)
    (h : ∀ v' w', w'.ownsRow base e size v' (n + 1) (xs ++ news) → w.grownBy w' v.ownBlock → (v'.ownBlock = v.ownBlock ∨ v'.ownBlock = some w.heap.size) → wpList P ops Q rest (a.put o.dst v') w') : wpList P ops Q (o :: rest) a w := by
  obtain ⟨i, z, hi, hz, hsize, hby, hzs⟩ := E.info
  have hn : ∀ j u, news[j]? = some u → w.cell? ((⟨b, 0, none⟩ : Addr).add j) = some u := fun j u hu => by rw [Addr.add_lit, Nat.zero_add]; exact hnews j u hu
  refine wpList_plain hgd fun K hK => ?_
  obtain ⟨v', w', hr, h2, h3, _⟩ := run_append_own (P := P) w base t o.type e i z size bytes E.slice hi hz hsize hby hzs E.pos v n xs hown ⟨b, 0, none⟩ 1 c news (by rw [Nat.one_mul]; exact hl) hn h1 h63 hbytes hbase
  have h4 := append_where base t o.type e i z size bytes E.slice hi hz hsize hby hzs E.pos v n xs hown ⟨b, 0, none⟩ c news hl hn h1 h63 hbytes v' w' hr
  unfold Oper.wp execOp
  simp only [ho, resolve, invoke, builtin, Sem.run_bind, Sem.run_pure, Result.andThen_ok, List.map_toArray, List.map_cons, List.map_nil, hs, hx, hr]
  exact hK _ _ (h v' w' h2 h3 h4)
end

/-- A row of the call's own, from block 'lo' on: its elements' cells, and what the elements are; they hang on other blocks. -/
structure OwnL {α : Type} (e : TypeId) (size : Nat) (R : World → List Value → α → Prop) (lo : Nat) (w : World) (v : Value) (l : List α) (cs : List (List Value)) : Prop where
  own : w.ownsRow lo e size v cs.length cs.flatten
  len : cs.length = l.length
  elt : ∀ (i : Nat) (c : List Value) (x : α), cs[i]? = some c → l[i]? = some x → c.length = size ∧ Dep (fun b => lo ≤ b ∧ v.ownBlock ≠ some b) w fun u => R u c x
section
variable {α : Type} {e : TypeId} {size : Nat} {R : World → List Value → α → Prop} {lo : Nat} {w w' : World} {v : Value} {l : List α} {cs : List (List Value)}
theorem OwnL.nil (e : TypeId) (size : Nat) (R : World → List Value → α → Prop) (lo : Nat) (w : World) : OwnL e size R lo w (.slice none 0 0) [] [] := ⟨World.ownsRow_nil _ _ _ _, rfl, fun i c x h => by simp at h⟩
theorem OwnL.shape (h : OwnL e size R lo w v l cs) : ∃ a c, v = .slice a l.length c := by
  rcases h.own.2 with ⟨rfl, hn⟩ | ⟨g, cap, cur, rfl, _⟩
  · exact ⟨none, 0, by rw [← h.len, hn]⟩
  · exact ⟨_, _, by rw [h.len]⟩
theorem OwnL.grown {r : Nat} (h : OwnL e size R lo w v l cs) (g : w.grownBy w' (some r)) (hr : r < lo) : OwnL e size R lo w' v l cs :=
  ⟨World.ownsRow.kept h.own g (.inr (fun e => by have := (World.ownsRow.lt h.own r e).1; omega)), h.len, fun i c x hc hx => ⟨(h.elt i c x hc hx).1, (h.elt i c x hc hx).2.step g.size fun b hb hlt => ⟨hb, g.block b hlt (fun e => by cases e; have := hb.1; omega)⟩⟩⟩
theorem OwnL.later (h : OwnL e size R lo w v l cs) (hb : Below w.heap.size w w') : OwnL e size R lo w' v l cs :=
  ⟨World.ownsRow.kept (row := none) h.own ⟨hb.os, hb.tape, hb.output, hb.size, fun i hi _ => hb.block i hi⟩ (by cases v.ownBlock <;> simp), h.len,
    fun i c x hc hx => ⟨(h.elt i c x hc hx).1, (h.elt i c x hc hx).2.step hb.size fun b hq hlt => ⟨hq, hb.block b hlt⟩⟩⟩
/-- One element more. -/
theorem OwnL.snoc {v' : Value} {x : α} {c : List Value} {m : Nat} (h : OwnL e size R lo w v l cs) (hown : w'.ownsRow lo e size v' (cs.length + 1) (cs.flatten ++ c)) (g : w.grownBy w' v.ownBlock) (hv : v'.ownBlock = v.ownBlock ∨ v'.ownBlock = some w.heap.size)
    (hc : c.length = size) (hx : New m w fun u => R u c x) (hlo : lo ≤ m) (hm : ∀ k, v.ownBlock = some k → k < m) : OwnL e size R lo w' v' (l ++ [x]) (cs ++ [c]) := by
  have hnew : ∀ b, b < w.heap.size → v.ownBlock ≠ some b → v'.ownBlock ≠ some b := fun b hb hne => by
    rcases hv with hv | hv
    · rw [hv]; exact hne
    · rw [hv]; intro e; cases e; omega
  refine ⟨by simpa using hown, by simp [h.len], fun i d y hd hy => ?_⟩
  rcases Nat.lt_or_ge i cs.length with hi | hi
  · rw [List.getElem?_append_left hi] at hd
    rw [List.getElem?_append_left (by rw [← h.len]; exact hi)] at hy
    obtain ⟨h1, h2⟩ := h.elt i d y hd hy
    exact ⟨h1, h2.step g.size fun b hb hlt => ⟨⟨hb.1, hnew b hlt hb.2⟩, g.block b hlt (Ne.symm hb.2)⟩⟩
  · rw [List.getElem?_append_right hi] at hd
    rw [List.getElem?_append_right (by rw [← h.len]; exact hi)] at hy
    have hi0 : i - cs.length = 0 := by
      rcases hk : i - cs.length with _ | k
      · rfl
      · rw [hk] at hd; simp at hd
    rw [hi0] at hd
    rw [← h.len, hi0] at hy
    simp only [List.getElem?_cons_zero, Option.some.injEq] at hd hy
    subst hd hy
    refine ⟨hc, Dep.step hx g.size fun b hb hlt => ?_⟩
    have hne : v.ownBlock ≠ some b := fun e => by have := hm b e; omega
    exact ⟨⟨Nat.le_trans hlo hb, hnew b hlt hne⟩, g.block b hlt (Ne.symm hne)⟩
theorem flatten_get {size : Nat} : ∀ (l : List (List Value)) (i : Nat) (x : List Value) (j : Nat) (v : Value), (∀ c ∈ l, c.length = size) → l[i]? = some x → x[j]? = some v → l.flatten[i * size + j]? = some v := by
  intro l
  induction l with
  | nil => intro i x j v _ h; simp at h
  | cons c l ih =>
    intro i x j v h8 hx hj
    have hc8 : c.length = size := h8 c (by simp)
    rcases i with _ | i
    · simp at hx; subst hx
      have : j < size := by rw [← hc8]; exact (List.getElem?_eq_some_iff.1 hj).1
      rw [List.flatten_cons, List.getElem?_append_left (by omega), Nat.zero_mul, Nat.zero_add]
      exact hj
    · rw [List.flatten_cons, List.getElem?_append_right (by rw [Nat.add_mul]; omega), show (i + 1) * size + j - c.length = i * size + j by rw [Nat.add_mul]; omega]
      exact ih i x j v (fun c hc => h8 c (by simp [hc])) (by simpa using hx) hj
/-- Finished: a row that hangs on blocks from 'lo' on. -/
theorem OwnL.done (h : OwnL e size R lo w v l cs) : New lo w fun u => SlR size R u v l := by
  intro u hu
  have hs : ∀ c ∈ cs, c.length = size := fun c hc => by
    obtain ⟨i, hi⟩ := List.getElem?_of_mem hc
    have hil : i < l.length := by rw [← h.len]; exact (List.getElem?_eq_some_iff.1 hi).1
    exact (h.elt i c l[i] hi (by simp [hil])).1
  refine ⟨cs, ?_, h.len, fun i c x hc hx => ⟨(h.elt i c x hc hx).1, (h.elt i c x hc hx).2 u fun b hb hlt => hu b hb.1 hlt⟩⟩
  rcases h.own.2 with ⟨rfl, hn⟩ | ⟨g, cap, cur, rfl, hg, hh, hn, hcap, hsz, ht⟩
  · obtain rfl : cs = [] := List.eq_nil_of_length_eq_zero hn
    exact SlAt.nil _ _ _
  · refine ⟨_, cap, rfl, hn, fun i x hx => ⟨g, 0, rfl, fun j y hj => ?_⟩⟩
    have hglt : g < w.heap.size := (Array.getElem?_eq_some_iff.1 hh).1
    have h1 := World.ownsRow.cells h.own rfl (i * size + j) y (flatten_get cs i x j y hs hx hj)
    rw [Addr.add_lit, ← Nat.add_assoc] at h1
    rw [World.cell?_of_block (w := w) (hu g hg hglt)]
    exact h1
end
end Go.Proofs.YtjgkeillmelkoaaGreat.Dt
namespace Go.Proofs.YtjgkeillmelkoaaGreat.Dt
open Go.RowKit Go.Proofs.YtjgkeillmelkoaaGreat.By

theorem grown_row {w w2 w' : World} {r : Nat} {o : Option Nat} (h : w.grownBy w2 (some r)) (g : w2.grownBy w' o) (ho : ∀ k, o = some k → w.heap.size ≤ k) : w.grownBy w' (some r) :=
  ⟨g.os.trans h.os, g.tape.trans h.tape, g.output.trans h.output, Nat.le_trans h.size g.size, fun k hk hn => (g.block k (Nat.lt_of_lt_of_le hk h.size) (fun e => by have := ho k e.symm; omega)).trans (h.block k hk hn)⟩
/-- A row literal, behind a veil. -/
def veilBs (T : TypeId) (n : Nat) (ps : Array (Nat × Value)) := Instr.buildSlice T n ps
/-- A text in a row; as a value. -/
def SR (_ : World) (c : List Value) (s : ByteArray) : Prop := c = [.string s]
/-- A struct as a value, whose cells are told by a relation. -/
def AgV {α : Type} (R : World → List Value → α → Prop) (w : World) (v : Value) (x : α) : Prop := ∃ cs : List Value, v = .agg cs.toArray ∧ R w cs x
/-- How many cells a relation has, each fit to be stored. -/
def Cells {α : Type} (size : Nat) (R : World → List Value → α → Prop) : Prop := ∀ (w : World) (c : List Value) (x : α), R w c x → c.length = size ∧ ∀ u ∈ c, u.oneCell' = true
theorem heB {α : Type} {R : World → List Value → α → Prop} {size : Nat} (hsz : Cells size R) (m : Nat) (w : World) (v : Value) (x : α) (h : New m w fun u => AgV R u v x) :
    ∃ c : List Value, v = .agg c.toArray ∧ c.length = size ∧ (∀ u ∈ c, u.oneCell' = true) ∧ okRow size c.toArray = true ∧ New m w (fun u => R u c x) := by
  obtain ⟨c, rfl, hx⟩ := h.here
  obtain ⟨h1, h2⟩ := hsz w c x hx
  refine ⟨c, rfl, h1, h2, okRow_iff.2 ⟨by simpa using h1, by simpa using h2⟩, h.imp fun u ⟨c', e, hu⟩ => ?_⟩
  have : c = c' := by simpa using e
  rw [this]; exact hu
def ItemR (w : World) (c : List Value) (x : PE × ByteArray) : Prop := ∃ ec, c = ec ++ [.string x.2] ∧ ExR w ec x.1
def OrderR (w : World) (c : List Value) (x : PE × Bool) : Prop := ∃ ec, c = ec ++ [.bool x.2] ∧ ExR w ec x.1
def SetR (w : World) (c : List Value) (x : ByteArray × PE) : Prop := ∃ ec, c = .string x.1 :: ec ∧ ExR w ec x.2
def ColR (_ : World) (c : List Value) (x : PCol) : Prop := c = [.string x.name, .int .u8 (x.ty : Int), .bool x.nn]
def SrcR (w : World) (c : List Value) (x : PSrc) : Prop := ∃ v, c = [.string x.table, .string x.as, v] ∧ ExsR w v x.on
def RowR (w : World) (c : List Value) (l : List PE) : Prop := ∃ v, c = [v] ∧ ExsR w v l
theorem elEx : By.Elem Tryz.prog 32 44 8 104 where
  slice := by kernel_rfl
  info := by
    have h : (Tryz.prog.info? 44).map (fun i => (i.zero, i.size, i.bytes)) = some (some (.agg #[.int .u8 0, .int .u8 0, .int .i64 0, .string ⟨#[]⟩, .string ⟨#[]⟩, .string ⟨#[]⟩, .int .i64 0, .slice none 0 0]), 8, 104) := by kernel_rfl
    obtain ⟨i, hi, h1, h2, h3⟩ := info_parts h
    exact ⟨i, _, hi, h1, h2, h3, rfl⟩
  pos := by decide
theorem elItem : By.Elem Tryz.prog 30 141 9 120 where
  slice := by kernel_rfl
  info := by
    have h : (Tryz.prog.info? 141).map (fun i => (i.zero, i.size, i.bytes)) = some (some (.agg #[.int .u8 0, .int .u8 0, .int .i64 0, .string ⟨#[]⟩, .string ⟨#[]⟩, .string ⟨#[]⟩, .int .i64 0, .slice none 0 0, .string ⟨#[]⟩]), 9, 120) := by kernel_rfl
    obtain ⟨i, hi, h1, h2, h3⟩ := info_parts h
    exact ⟨i, _, hi, h1, h2, h3, rfl⟩
  pos := by decide
theorem elSrc : By.Elem Tryz.prog 31 80 3 56 where
  slice := by kernel_rfl
  info := by
    have h : (Tryz.prog.info? 80).map (fun i => (i.zero, i.size, i.bytes)) = some (some (.agg #[.string ⟨#[]⟩, .string ⟨#[]⟩, .slice none 0 0]), 3, 56) := by kernel_rfl
    obtain ⟨i, hi, h1, h2, h3⟩ := info_parts h
    exact ⟨i, _, hi, h1, h2, h3, rfl⟩
  pos := by decide
theorem sm_size : (Tryz.prog.info? 35).map (·.size) = some 16 := by kernel_rfl
theorem sm_struct : ∃ fs, Tryz.prog.underlying 35 = some (.struct fs) := st_of (by kernel_rfl)
theorem veilSt_sm (a : Addr) (v : Value) : storeVar 35 a v = veilSt 35 a v := rfl
theorem veilLd_sm (a : Addr) : loadVar 35 a = veilLd 35 a := rfl
theorem run_smSt (W : World) (g : Nat) (cells : Array Value) (hg : rowB 16 W g = true) (h1 : okRow 16 cells = true) :
    (veilSt 35 ⟨g, 0, none⟩ (.agg cells)).run Tryz.prog W = .ok () (W.setRow g cells) := by
  obtain ⟨t, old, hr, ho, _⟩ := rowB_row hg
  obtain ⟨hc, h1⟩ := okRow_iff.1 h1
  exact run_veilSt sm_size W g old cells t hr ho hc h1
theorem run_smNew (W : World) (old cells : Array Value) (t : TypeId) (ho : old.size = 16) (h1 : okRow 16 cells = true) :
    (veilSt 35 ⟨W.heap.size, 0, none⟩ (.agg cells)).run Tryz.prog (W.alloc (.cells old t)) = .ok () (W.alloc (.cells cells t)) := by
  obtain ⟨hc, h1⟩ := okRow_iff.1 h1
  exact run_veilNew sm_size W old cells t ho hc h1
theorem run_smLd (W : World) (g : Nat) (hg : rowB 16 W g = true) : (veilLd 35 ⟨g, 0, none⟩).run Tryz.prog W = .ok (.agg (rowOf W g)) W := by
  obtain ⟨t, cs, hr, ho, e⟩ := rowB_row hg
  obtain ⟨fs, h⟩ := sm_struct
  rw [e]
  exact run_veilLd h sm_size W g cs t hr ho
section
variable {w0 : World} {r : Nat} {tv : Value} {L : List Tk} {en : Int} {s : PS}
end
end Go.Proofs.YtjgkeillmelkoaaGreat.Dt
