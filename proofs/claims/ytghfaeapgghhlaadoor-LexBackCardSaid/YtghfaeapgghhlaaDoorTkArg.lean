/-
  Rows of tokens and of texts, as a call's arguments.
-/
import Derived.Test.YtghfaeapgghhlaaDoorTkOwn
import Derived.Test.YtghfaeapgghhlaaDoorOpen
namespace Go.Proofs.YtghfaeapgghhlaaDoor.Dt
open Go.ChangeShapes Go.WideShapes Go.RowKit Go.Proofs.YtghfaeapgghhlaaDoor.By

section
variable {H : Type} {enc : TypeId × Value → H} {P : Program} {w : World} {base : Nat} {spare : Nat → Bool} {held : Bool}

/-- The types of a token's struct. -/
structure TkType (P : Program) (t : TypeId) : Prop where
  size : P.cellsOf t = 4
  bytes : P.bytesOf t = 40
  f0 : ∃ ty, fieldB P t 0 = some (ty, 0) ∧ P.cellsOf ty = 1 ∧ P.underlying ty = some (.int .u8)
  f1 : ∃ ty, fieldB P t 1 = some (ty, 1) ∧ P.cellsOf ty = 1 ∧ P.underlying ty = some .string
  f2 : ∃ ty, fieldB P t 2 = some (ty, 2) ∧ P.cellsOf ty = 1 ∧ P.underlying ty = some (.int .u64)
  f3 : ∃ ty, fieldB P t 3 = some (ty, 3) ∧ P.cellsOf ty = 1 ∧ P.underlying ty = some (.int .i64)
theorem list4 {α : Type} {l : List α} (h : l.length = 4) : ∃ a b c d, l = [a, b, c, d] := by
  match l, h with
  | [a, b, c, d], _ => exact ⟨a, b, c, d, rfl⟩
theorem u64_of {t : TypeId} {fuel : Nat} {c : Value} {x : DataW H × List MemPlace} (ht : P.underlying t = some (.int .u64)) (h : DataW.trod enc P w base spare held fuel t [c] = some x) : ∃ n : Nat, c = .int .u64 (n : Int) ∧ n < 18446744073709551616 := by
  obtain ⟨n, cx, _, wn⟩ := DataW.trod_int ht h
  obtain ⟨l, u⟩ := bounds_u64 wn
  obtain ⟨k, rfl⟩ := Int.eq_ofNat_of_zero_le l
  exact ⟨k, by simpa using cx, by omega⟩
/-- A token that Go can hold. -/
def Tk.ok (t : Tk) : Prop := t.k < 256 ∧ t.s.size ≤ 140737488351232 ∧ t.n < 18446744073709551616 ∧ -9223372036854775808 ≤ t.a ∧ t.a ≤ 9223372036854775807
theorem open_T {t : TypeId} (T : TkType P t) {fuel : Nat} {cs : List Value} {x : DataW H × List MemPlace} (h : DataW.trod enc P w base spare held fuel t cs = some x) (hL : Lim P t x.1) : ∃ v : Tk, cs = v.cells ∧ v.ok := by
  obtain ⟨t0, a0, b0, u0⟩ := T.f0
  obtain ⟨t1, a1, b1, u1⟩ := T.f1
  obtain ⟨t2, a2, b2, u2⟩ := T.f2
  obtain ⟨t3, a3, b3, u3⟩ := T.f3
  obtain ⟨hl, _, _, _, h0, _⟩ := field_of h a0 b0
  obtain ⟨_, _, _, _, h1, L1⟩ := field_of h a1 b1
  obtain ⟨_, _, _, _, h2, _⟩ := field_of h a2 b2
  obtain ⟨_, _, _, _, h3, _⟩ := field_of h a3 b3
  rw [T.size] at hl
  obtain ⟨c0, c1, c2, c3, rfl⟩ := list4 hl
  obtain ⟨k, rfl, hk⟩ := u8_of u0 h0
  obtain ⟨s, rfl, hs⟩ := str_of u1 h1 (L1 hL)
  obtain ⟨n, rfl, hn⟩ := u64_of u2 h2
  obtain ⟨a, rfl, ha⟩ := i64_of u3 h3
  exact ⟨⟨k, s, n, a⟩, rfl, hk, hs, hn, ha⟩
theorem arg_Ts {t e : TypeId} (T : TkType P e) (ht : P.underlying t = some (.slice e)) {r : Reach} {b0 : Nat} {v : Value} {d : DataW H} {ps : List MemPlace} (hv : Value.okWide P w r b0 t v) (h : DataW.Trod enc P w base spare held t v d ps) (hL : Lim P t d) :
    ∃ l : List Tk, TksAt w v l ∧ (∀ a ∈ l, a.ok) ∧ l.length * 40 ≤ 140737488351232 :=
  arg_slice 40 Tk.cells Tk.ok (fun _ => rfl) (by omega) ht T.size T.bytes (fun _ _ _ h hl => open_T T h hl) hv h hL
/-- Rows of texts. -/
def sCells (s : ByteArray) : List Value := [.string s]
abbrev SsAt (w : World) (v : Value) (l : List ByteArray) : Prop := SlAt 1 sCells w v l
theorem arg_Ss {t e : TypeId} (he : P.underlying e = some .string) (he1 : P.cellsOf e = 1) (he2 : P.bytesOf e = 16) (ht : P.underlying t = some (.slice e)) {r : Reach} {b0 : Nat} {v : Value} {d : DataW H} {ps : List MemPlace} (hv : Value.okWide P w r b0 t v) (h : DataW.Trod enc P w base spare held t v d ps) (hL : Lim P t d) :
    ∃ l : List ByteArray, SsAt w v l ∧ (∀ s ∈ l, s.size ≤ 140737488351232) ∧ l.length * 16 ≤ 140737488351232 :=
  arg_slice (size := 1) 16 sCells (fun s => s.size ≤ 140737488351232) (fun _ => rfl) (by omega) ht he1 he2 (fun n cs x hx hl => by
    obtain ⟨s, cx, hx2, hs⟩ := DataW.trod_string he hx
    have hw := hl s.data.toList.length (by rw [hx2]; simp [DataW.weights])
    rw [Array.length_toList, ByteArray.size_data] at hw
    exact ⟨s, cx, hw⟩) hv h hL
end
theorem tkT : TkType Tryd.prog 48 :=
  ⟨by kernel_rfl, by kernel_rfl, ⟨5, by kernel_rfl, by kernel_rfl, by kernel_rfl⟩, ⟨9, by kernel_rfl, by kernel_rfl, by kernel_rfl⟩, ⟨46, by kernel_rfl, by kernel_rfl, by kernel_rfl⟩, ⟨3, by kernel_rfl, by kernel_rfl, by kernel_rfl⟩⟩
/-- A text's cell in a row. -/
theorem at1 {w : World} {a : Option Addr} {n c k : Nat} {l : List ByteArray} {y : ByteArray} (h : SsAt w (.slice a n c) l) (hk : l[k]? = some y) : ∃ b o, a = some ⟨b, o, none⟩ ∧ w.cell? ⟨b, o + k, none⟩ = some (.string y) := by
  obtain ⟨a', c', e, _, h⟩ := h
  simp only [Value.slice.injEq] at e
  obtain ⟨rfl, _, _⟩ := e
  obtain ⟨b, o, rfl, h'⟩ := h k y hk
  have h0 := h' 0 _ rfl
  simp only [Nat.mul_one, Nat.add_zero] at h0
  exact ⟨b, o, rfl, h0⟩
/-! Texts in a row of the call's own. -/
theorem elS : By.Elem Tryd.prog 36 9 1 16 where
  slice := by kernel_rfl
  info := by
    have h : (Tryd.prog.info? 9).map (fun i => (i.zero, i.size, i.bytes)) = some (some (.string ⟨#[]⟩), 1, 16) := by kernel_rfl
    obtain ⟨i, hi, h1, h2, h3⟩ := info_parts h
    exact ⟨i, _, hi, h1, h2, h3, rfl⟩
  pos := by decide
def ssCells (l : List ByteArray) : List Value := l.map fun s => .string s
def OwnS (w : World) (base : Nat) (v : Value) (l : List ByteArray) : Prop := w.ownsRow base 9 1 v l.length (ssCells l)
theorem OwnS.nil (w : World) (base : Nat) : OwnS w base (.slice none 0 0) [] := World.ownsRow_nil _ _ _ _
theorem OwnS.shape {w : World} {base : Nat} {v : Value} {l : List ByteArray} (h : OwnS w base v l) : ∃ a c, v = .slice a l.length c := by
  rcases h.2 with ⟨rfl, hn⟩ | ⟨g, cap, cur, rfl, _⟩
  · exact ⟨none, 0, by rw [hn]⟩
  · exact ⟨_, _, rfl⟩
theorem OwnS.at_ {w : World} {base : Nat} {v : Value} {l : List ByteArray} (h : OwnS w base v l) : SsAt w v l := by
  rcases h.2 with ⟨rfl, hn⟩ | ⟨g, cap, cur, rfl, hg, hh, hn, hcap, hsz, ht⟩
  · obtain rfl : l = [] := List.eq_nil_of_length_eq_zero hn
    exact SlAt.nil _ _ _
  · refine ⟨_, cap, rfl, hn, fun i x hx => ⟨g, 0, rfl, fun j u hu => ?_⟩⟩
    match j, hu with
    | 0, hu =>
      have := World.ownsRow.cells h rfl i u (by simp only [sCells, List.getElem?_cons_zero, Option.some.injEq] at hu; subst hu; simp [ssCells, hx])
      rw [Addr.add_lit] at this
      simpa using this
    | _ + 1, hu => simp [sCells] at hu
theorem OwnS.below {w w' : World} {base : Nat} {v : Value} {l : List ByteArray} (h : OwnS w base v l) (hb : Below w.heap.size w w') : OwnS w' base v l :=
  World.ownsRow.kept (row := none) h ⟨hb.os, hb.tape, hb.output, hb.size, fun i hi _ => hb.block i hi⟩ (by cases v.ownBlock <;> simp)
theorem OwnS.snoc {w : World} {base : Nat} {v : Value} {l : List ByteArray} {s : ByteArray} (h : w.ownsRow base 9 1 v (l.length + 1) (ssCells l ++ [.string s])) : OwnS w base v (l ++ [s]) := by
  unfold OwnS
  rw [List.length_append]
  simpa [ssCells] using h
theorem reads_S (w : World) (base : Nat) (s : ByteArray) (hb : base ≤ w.heap.size) (k : Nat) (hk : w.heap.size = k) :
    Reads (w.alloc (.cells #[.string s] 9)) 1 (.slice (some ⟨k, 0, none⟩) 1 1) 1 [.string s] := by
  subst hk
  exact reads_of_owns (own_one w base _ (.string s) hb)
end Go.Proofs.YtghfaeapgghhlaaDoor.Dt
