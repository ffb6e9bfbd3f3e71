/-
  Go's data, as a call's arguments: what reads as a struct or a slice lies in memory as told. Over whatever program.
-/
import Derived.Test.YtcimipebpfajgaaDoorData
import Derived.ProofKit
import Derived.ChangeArms
import Derived.Deep.Slices
import Derived.OpenShut
import Derived.SizedLaws
namespace Go.Proofs.YtcimipebpfajgaaDoor.Dt
open Go.ChangeShapes Go.WideShapes Go.RowKit Go.Proofs.YtcimipebpfajgaaDoor.By

section
variable {H : Type} {enc : TypeId × Value → H} {P : Program} {w : World} {base : Nat} {spare : Nat → Bool} {held : Bool}

/-- What is read takes no more room than the form lets. -/
def Lim (P : Program) (t : TypeId) (d : DataW H) : Prop := ∀ n ∈ d.weights P t, n ≤ 140737488351232
theorem lim_arg {ts : List TypeId} {ds : List (DataW H)} (h : (DataW.weightsEach P ts ds).all (· ≤ reachBytes) = true) {j : Nat} {t : TypeId} {d : DataW H} (ht : ts[j]? = some t) (hd : ds[j]? = some d) : Lim P t d := by
  intro n hn
  have := List.all_eq_true.1 h n (DataW.weights_mem_each ht hd n hn)
  exact of_decide_eq_true this
theorem weights_all {e : TypeId} : ∀ {l : List (DataW H)} {d : DataW H}, d ∈ l → ∀ n ∈ d.weights P e, n ∈ DataW.weightsAll P e l
  | x :: l, d, hd, n, hn => by
    simp only [DataW.weightsAll, List.mem_append]
    rcases List.mem_cons.1 hd with rfl | hd
    · exact .inl hn
    · exact .inr (weights_all hd n hn)
  | [], _, hd, _, _ => by cases hd

/-- A struct's field: its type and its place. -/
def fieldB (P : Program) (t : TypeId) (i : Nat) : Option (TypeId × Nat) :=
  match P.underlying t with
  | some (.struct fs) => (fs[i]?).map fun f => (f.type, f.offset)
  | _ => none

theorem field_of {t ty : TypeId} {off sz i fuel : Nat} {cs : List Value} {x : DataW H × List MemPlace} (h : DataW.trod enc P w base spare held fuel t cs = some x) (hf : fieldB P t i = some (ty, off)) (hs : P.cellsOf ty = sz) :
    cs.length = P.cellsOf t ∧ ∃ n y, n < fuel ∧ DataW.trod enc P w base spare held n ty ((cs.drop off).take sz) = some y ∧ (Lim P t x.1 → Lim P ty y.1) := by
  unfold fieldB at hf
  split at hf
  · rename_i fs ht
    obtain ⟨xs, n, rfl, hxx, hl, hx, hall⟩ := DataW.trod_struct ht h
    cases hi : fs[i]? with
    | none => rw [hi] at hf; simp at hf
    | some f =>
      rw [hi] at hf
      simp only [Option.map_some, Option.some.injEq, Prod.mk.injEq] at hf
      obtain ⟨rfl, rfl⟩ := hf
      have := hall i f hi
      rw [hs] at this
      have hlt : i < fs.size := (Array.getElem?_eq_some_iff.1 hi).1
      rw [List.getElem?_eq_getElem (by omega)] at this
      refine ⟨hl, n, _, Nat.lt_succ_self n, this, fun hL m hm => hL m ?_⟩
      rw [hxx]
      simp only [DataW.weights, ht]
      refine DataW.weights_mem_each (j := i) (t := f.type) ?_ ?_ m hm
      · rw [List.getElem?_map, Array.getElem?_toList, hi]; rfl
      · rw [List.getElem?_map, List.getElem?_eq_getElem (by omega)]; rfl
  · simp at hf

/-- A slice, whatever its elements, opened: where each element of it reads as told. -/
theorem open_slice {α : Type} {t e : TypeId} {size fuel : Nat} (bytes : Nat) (cells : α → List Value) (p : α → Prop) (hc : ∀ a, (cells a).length = size) (hpos : 0 < size) (ht : P.underlying t = some (.slice e)) (hs : P.cellsOf e = size) (hby : P.bytesOf e = bytes)
    (one : ∀ n cs x, n < fuel → DataW.trod enc P w base spare held n e cs = some x → Lim P e x.1 → ∃ a, cs = cells a ∧ p a)
    {cs : List Value} {x : DataW H × List MemPlace} (h : DataW.trod enc P w base spare held fuel t cs = some x) (hL : Lim P t x.1) :
    ∃ (v : Value) (l : List α), cs = [v] ∧ SlAt size cells w v l ∧ (∀ a ∈ l, p a) ∧ l.length * bytes ≤ 140737488351232 := by
  rcases DataW.trod_slice ht h with ⟨rfl, _⟩ | ⟨a, len, cap, elems, rest, n, rfl, rfl, hx, hb, hl, hm, hlen, hel, _, _⟩
  · exact ⟨_, [], rfl, SlAt.nil _ _ _, by simp, by simp⟩
  · have hall : ∀ i, i < len → ∃ y : α, p y ∧ w.cells? base (a.add (i * size)) size = some (cells y) := by
      intro i hi
      have := hel i hi
      rw [List.getElem?_eq_getElem (by omega), hs] at this
      obtain ⟨cs', h1, h2⟩ := Option.bind_eq_some_iff.1 this
      obtain ⟨y, rfl, hy⟩ := one n _ _ (Nat.lt_succ_self n) h2 (fun m hm => hL m (by
        rw [hx]
        simp only [DataW.weights, ht, List.mem_cons, List.mem_append]
        exact .inr (.inl (weights_all (List.mem_map.2 ⟨_, List.getElem_mem _, rfl⟩) m hm))))
      exact ⟨y, hy, h1⟩
    rcases Nat.eq_zero_or_pos len with h0 | hpl
    · subst h0
      exact ⟨_, [], rfl, ⟨_, cap, rfl, Nat.zero_le _, fun i x h => by simp at h⟩, by simp, by simp⟩
    obtain ⟨y0, _, _⟩ := hall 0 hpl
    have : Inhabited α := ⟨y0⟩
    obtain ⟨f, hf⟩ := Go.Deep.choose_lt hall
    obtain ⟨b, o, spot⟩ := a
    have hspot : spot = none := by
      have h1 := (World.cells?_some (hf 0 hpl).2).2.2 0 hpos
      rw [List.getElem?_eq_getElem (by rw [hc]; exact hpos)] at h1
      simpa [Addr.add] using World.cell?_spot h1
    subst hspot
    have hlen' : len * bytes ≤ 140737488351232 := by
      have := hL ((elems.length + rest.length) * P.bytesOf e) (by rw [hx]; simp [DataW.weights, ht])
      rw [hby] at this
      exact Nat.le_trans (Nat.mul_le_mul_right _ (by omega)) this
    refine ⟨_, (List.range len).map f, rfl, ⟨_, cap, by simp, by simpa using hl, fun i x hx => ⟨b, o, rfl, fun j u hu => ?_⟩⟩, ?_, by simpa using hlen'⟩
    · have hi : i < len := by have := (List.getElem?_eq_some_iff.1 hx).1; simpa using this
      have hx' : x = f i := by simpa [hi] using hx.symm
      subst hx'
      have hj : j < size := by have := (List.getElem?_eq_some_iff.1 hu).1; rw [hc] at this; exact this
      have h1 := (World.cells?_some (hf i hi).2).2.2 j hj
      rw [Addr.add_lit, Addr.add_lit] at h1
      rw [h1, hu]
    · intro y hy
      obtain ⟨i, hi, rfl⟩ := List.mem_map.1 hy
      exact (hf i (List.mem_range.1 hi)).1

theorem u8_of {t : TypeId} {fuel : Nat} {c : Value} {x : DataW H × List MemPlace} (ht : P.underlying t = some (.int .u8)) (h : DataW.trod enc P w base spare held fuel t [c] = some x) : ∃ n : Nat, c = .int .u8 (n : Int) ∧ n < 256 := by
  obtain ⟨n, cx, _, wn⟩ := DataW.trod_int ht h
  obtain ⟨l, u⟩ := bounds_u8 wn
  obtain ⟨k, rfl⟩ := Int.eq_ofNat_of_zero_le l
  exact ⟨k, by simpa using cx, by omega⟩
theorem i64_of {t : TypeId} {fuel : Nat} {c : Value} {x : DataW H × List MemPlace} (ht : P.underlying t = some (.int .i64)) (h : DataW.trod enc P w base spare held fuel t [c] = some x) : ∃ n : Int, c = .int .i64 n ∧ -9223372036854775808 ≤ n ∧ n ≤ 9223372036854775807 := by
  obtain ⟨n, cx, _, wn⟩ := DataW.trod_int ht h
  obtain ⟨l, u⟩ := bounds_i64 wn
  exact ⟨n, by simpa using cx, by omega, by omega⟩
theorem str_of {t : TypeId} {fuel : Nat} {c : Value} {x : DataW H × List MemPlace} (ht : P.underlying t = some .string) (h : DataW.trod enc P w base spare held fuel t [c] = some x) (hL : Lim P t x.1) : ∃ s : ByteArray, c = .string s ∧ s.size ≤ 140737488351232 := by
  obtain ⟨s, cx, rfl, hs⟩ := DataW.trod_string ht h
  have := hL s.data.toList.length (by simp [DataW.weights])
  rw [Array.length_toList, ByteArray.size_data] at this
  exact ⟨s, by simpa using cx, this⟩

/-- The types of a value's struct. -/
structure VType (P : Program) (t : TypeId) : Prop where
  size : P.cellsOf t = 3
  bytes : P.bytesOf t = 32
  f0 : ∃ ty, fieldB P t 0 = some (ty, 0) ∧ P.cellsOf ty = 1 ∧ P.underlying ty = some (.int .u8)
  f1 : ∃ ty, fieldB P t 1 = some (ty, 1) ∧ P.cellsOf ty = 1 ∧ P.underlying ty = some (.int .i64)
  f2 : ∃ ty, fieldB P t 2 = some (ty, 2) ∧ P.cellsOf ty = 1 ∧ P.underlying ty = some .string

theorem list3 {α : Type} {l : List α} (h : l.length = 3) : ∃ a b c, l = [a, b, c] := by
  match l, h with
  | [a, b, c], _ => exact ⟨a, b, c, rfl⟩
theorem list8 {α : Type} {l : List α} (h : l.length = 8) : ∃ a b c d e f g i, l = [a, b, c, d, e, f, g, i] := by
  match l, h with
  | [a, b, c, d, e, f, g, i], _ => exact ⟨a, b, c, d, e, f, g, i, rfl⟩

theorem open_V {t : TypeId} (T : VType P t) {fuel : Nat} {cs : List Value} {x : DataW H × List MemPlace} (h : DataW.trod enc P w base spare held fuel t cs = some x) (hL : Lim P t x.1) : ∃ v : V, cs = v.cells ∧ v.ok := by
  obtain ⟨t0, a0, b0, u0⟩ := T.f0
  obtain ⟨t1, a1, b1, u1⟩ := T.f1
  obtain ⟨t2, a2, b2, u2⟩ := T.f2
  obtain ⟨hl, _, _, _, h0, _⟩ := field_of h a0 b0
  obtain ⟨_, _, _, _, h1, _⟩ := field_of h a1 b1
  obtain ⟨_, _, _, _, h2, L2⟩ := field_of h a2 b2
  rw [T.size] at hl
  obtain ⟨c0, c1, c2, rfl⟩ := list3 hl
  obtain ⟨k, rfl, hk⟩ := u8_of u0 h0
  obtain ⟨n, rfl, hn⟩ := i64_of u1 h1
  obtain ⟨s, rfl, hs⟩ := str_of u2 h2 (L2 hL)
  exact ⟨⟨k, n, s⟩, rfl, hk, hn, hs⟩

/-- The types of an expression's struct. -/
structure ExType (P : Program) (t : TypeId) : Prop where
  size : P.cellsOf t = 8
  bytes : P.bytesOf t = 104
  f0 : ∃ ty, fieldB P t 0 = some (ty, 0) ∧ P.cellsOf ty = 1 ∧ P.underlying ty = some (.int .u8)
  f1 : ∃ ty, fieldB P t 1 = some (ty, 1) ∧ VType P ty
  f2 : ∃ ty, fieldB P t 2 = some (ty, 4) ∧ P.cellsOf ty = 1 ∧ P.underlying ty = some .string
  f3 : ∃ ty, fieldB P t 3 = some (ty, 5) ∧ P.cellsOf ty = 1 ∧ P.underlying ty = some .string
  f4 : ∃ ty, fieldB P t 4 = some (ty, 6) ∧ P.cellsOf ty = 1 ∧ P.underlying ty = some (.int .i64)
  f5 : ∃ ty, fieldB P t 5 = some (ty, 7) ∧ P.cellsOf ty = 1 ∧ P.underlying ty = some (.slice t)

theorem open_Ex {t : TypeId} (T : ExType P t) : ∀ (fuel : Nat) (cs : List Value) (x : DataW H × List MemPlace), DataW.trod enc P w base spare held fuel t cs = some x → Lim P t x.1 → ∃ e : Ex, cs = e.cells ∧ e.In w ∧ e.Ok := by
  intro fuel
  induction fuel using Nat.strongRecOn with
  | _ fuel ih =>
    intro cs x h hL
    obtain ⟨t0, a0, b0, u0⟩ := T.f0
    obtain ⟨t1, a1, V1⟩ := T.f1
    obtain ⟨t2, a2, b2, u2⟩ := T.f2
    obtain ⟨t3, a3, b3, u3⟩ := T.f3
    obtain ⟨t4, a4, b4, u4⟩ := T.f4
    obtain ⟨t5, a5, b5, u5⟩ := T.f5
    obtain ⟨hl, _, _, _, h0, _⟩ := field_of h a0 b0
    obtain ⟨_, _, _, _, h1, L1⟩ := field_of h a1 V1.size
    obtain ⟨_, _, _, _, h2, L2⟩ := field_of h a2 b2
    obtain ⟨_, _, _, _, h3, L3⟩ := field_of h a3 b3
    obtain ⟨_, _, _, _, h4, _⟩ := field_of h a4 b4
    obtain ⟨_, n5, _, l5, h5, L5⟩ := field_of h a5 b5
    rw [T.size] at hl
    obtain ⟨c0, c1, c2, c3, c4, c5, c6, c7, rfl⟩ := list8 hl
    obtain ⟨op, rfl, hop⟩ := u8_of u0 h0
    obtain ⟨v, hv, hvo⟩ := open_V V1 h1 (L1 hL)
    simp [V.cells] at hv
    obtain ⟨rfl, rfl, rfl⟩ := hv
    obtain ⟨tb, rfl, htb⟩ := str_of u2 h2 (L2 hL)
    obtain ⟨nm, rfl, hnm⟩ := str_of u3 h3 (L3 hL)
    obtain ⟨n, rfl, hn1, hn2⟩ := i64_of u4 h4
    obtain ⟨kv, kids, hkv, hat, hall, hle⟩ := open_slice (size := 8) 104 Ex.cells (fun e => e.In w ∧ e.Ok) (fun _ => rfl) (by omega) u5 T.size T.bytes (fun m cs x hm hx hl => ih m (by omega) cs x hx hl) h5 (L5 hL)
    simp at hkv
    subst hkv
    refine ⟨.mk op v tb nm n c7 kids, rfl, ?_, ?_⟩
    · rw [Ex.in_iff]
      exact ⟨hat, fun y hy => (hall y hy).1⟩
    · rw [Ex.ok_iff]
      exact ⟨⟨hop, hvo, htb, hnm, hn1, hn2, hle⟩, fun y hy => (hall y hy).2⟩

/-! ### As arguments -/

theorem arg_agg {r : Reach} {b0 : Nat} {t : TypeId} {fs : Array Field} {v : Value} (ht : P.underlying t = some (.struct fs)) (hv : Value.okWide P w r b0 t v) : ∃ cs : Array Value, v = .agg cs := by
  obtain ⟨cs, rfl, _⟩ := okWide_struct ht hv
  exact ⟨cs, rfl⟩
theorem struct_of {t ty : TypeId} {i off : Nat} (hf : fieldB P t i = some (ty, off)) : ∃ fs, P.underlying t = some (.struct fs) := by
  unfold fieldB at hf
  split at hf
  · rename_i fs ht; exact ⟨fs, ht⟩
  · simp at hf

theorem arg_V {t : TypeId} (T : VType P t) {r : Reach} {b0 : Nat} {v : Value} {d : DataW H} {ps : List MemPlace} (hv : Value.okWide P w r b0 t v) (h : DataW.Trod enc P w base spare held t v d ps) (hL : Lim P t d) : ∃ x : V, v = x.val ∧ x.ok := by
  obtain ⟨_, hf, _⟩ := T.f0
  obtain ⟨fs, ht⟩ := struct_of hf
  obtain ⟨cs, rfl⟩ := arg_agg ht hv
  obtain ⟨fuel, h⟩ := h
  obtain ⟨x, hx, ho⟩ := open_V T h hL
  refine ⟨x, ?_, ho⟩
  congr 1
  exact Array.toList_inj.1 hx
theorem arg_Ex {t : TypeId} (T : ExType P t) {r : Reach} {b0 : Nat} {v : Value} {d : DataW H} {ps : List MemPlace} (hv : Value.okWide P w r b0 t v) (h : DataW.Trod enc P w base spare held t v d ps) (hL : Lim P t d) : ∃ x : Ex, v = x.val ∧ x.In w ∧ x.Ok := by
  obtain ⟨_, hf, _⟩ := T.f0
  obtain ⟨fs, ht⟩ := struct_of hf
  obtain ⟨cs, rfl⟩ := arg_agg ht hv
  obtain ⟨fuel, h⟩ := h
  obtain ⟨x, hx, hi, ho⟩ := open_Ex T _ _ _ h hL
  refine ⟨x, ?_, hi, ho⟩
  congr 1
  exact Array.toList_inj.1 hx
theorem arg_slice {α : Type} {t e : TypeId} {size : Nat} (bytes : Nat) (cells : α → List Value) (p : α → Prop) (hc : ∀ a, (cells a).length = size) (hpos : 0 < size) (ht : P.underlying t = some (.slice e)) (hs : P.cellsOf e = size) (hby : P.bytesOf e = bytes)
    (one : ∀ n cs x, DataW.trod enc P w base spare held n e cs = some x → Lim P e x.1 → ∃ a, cs = cells a ∧ p a)
    {r : Reach} {b0 : Nat} {v : Value} {d : DataW H} {ps : List MemPlace} (hv : Value.okWide P w r b0 t v) (h : DataW.Trod enc P w base spare held t v d ps) (hL : Lim P t d) :
    ∃ l : List α, SlAt size cells w v l ∧ (∀ a ∈ l, p a) ∧ l.length * bytes ≤ 140737488351232 := by
  obtain ⟨fuel, h⟩ := h
  obtain ⟨a0, len, cap, rfl⟩ := okWide_slice ht hv
  obtain ⟨v', l, h1, h2, h3, h4⟩ := open_slice bytes cells p hc hpos ht hs hby (fun n cs x _ => one n cs x) h hL
  simp [Value.cells] at h1
  subst h1
  exact ⟨l, h2, h3, h4⟩
theorem arg_Vs {t e : TypeId} (T : VType P e) (ht : P.underlying t = some (.slice e)) {r : Reach} {b0 : Nat} {v : Value} {d : DataW H} {ps : List MemPlace} (hv : Value.okWide P w r b0 t v) (h : DataW.Trod enc P w base spare held t v d ps) (hL : Lim P t d) :
    ∃ l : List V, VsAt w v l ∧ (∀ a ∈ l, a.ok) ∧ l.length * 32 ≤ 140737488351232 :=
  arg_slice 32 V.cells V.ok (fun _ => rfl) (by omega) ht T.size T.bytes (fun _ _ _ h hl => open_V T h hl) hv h hL

/-- A row of rows: each row's header and its values. -/
structure Rw where
  hd : Value
  l : List V
def Rw.cells (r : Rw) : List Value := [r.hd]
/-- Rows that lie in 'w'. -/
structure RowsAt (w : World) (v : Value) (rs : List Rw) : Prop where
  at_ : SlAt 1 Rw.cells w v rs
  rows : ∀ r ∈ rs, VsAt w r.hd r.l
theorem RowsAt.below {w w' : World} {v : Value} {rs : List Rw} (h : RowsAt w v rs) (hb : Below w.heap.size w w') : RowsAt w' v rs :=
  ⟨h.at_.below hb, fun r hr => (h.rows r hr).below hb⟩
theorem arg_Rows {t u e : TypeId} (T : VType P e) (hu : P.underlying u = some (.slice e)) (hu1 : P.cellsOf u = 1) (hu2 : P.bytesOf u = 24) (ht : P.underlying t = some (.slice u)) {r : Reach} {b0 : Nat} {v : Value} {d : DataW H} {ps : List MemPlace} (hv : Value.okWide P w r b0 t v) (h : DataW.Trod enc P w base spare held t v d ps) (hL : Lim P t d) :
    ∃ rs : List Rw, RowsAt w v rs ∧ (∀ r ∈ rs, (∀ a ∈ r.l, a.ok) ∧ r.l.length * 32 ≤ 140737488351232) ∧ rs.length * 24 ≤ 140737488351232 := by
  obtain ⟨rs, h1, h2, h3⟩ := arg_slice (α := Rw) (size := 1) 24 Rw.cells (fun r => VsAt w r.hd r.l ∧ (∀ a ∈ r.l, a.ok) ∧ r.l.length * 32 ≤ 140737488351232) (fun _ => rfl) (by omega) ht hu1 hu2 (fun n cs x hx hl => by
    obtain ⟨v, l, rfl, g2, g3, g4⟩ := open_slice (size := 3) 32 V.cells V.ok (fun _ => rfl) (by omega) hu T.size T.bytes (fun _ _ _ _ h hl => open_V T h hl) hx hl
    exact ⟨⟨v, l⟩, rfl, g2, g3, g4⟩) hv h hL
  exact ⟨rs, ⟨h1, fun r hr => (h2 r hr).1⟩, fun r hr => (h2 r hr).2, h3⟩
/-- A slice of bytes. -/
def u8Cells (n : Nat) : List Value := [.int .u8 (n : Int)]
abbrev U8sAt (w : World) (v : Value) (l : List Nat) : Prop := SlAt 1 u8Cells w v l
theorem arg_U8s {t e : TypeId} (he : P.underlying e = some (.int .u8)) (he1 : P.cellsOf e = 1) (he2 : P.bytesOf e = 1) (ht : P.underlying t = some (.slice e)) {r : Reach} {b0 : Nat} {v : Value} {d : DataW H} {ps : List MemPlace} (hv : Value.okWide P w r b0 t v) (h : DataW.Trod enc P w base spare held t v d ps) (hL : Lim P t d) :
    ∃ l : List Nat, U8sAt w v l ∧ (∀ a ∈ l, a < 256) ∧ l.length * 1 ≤ 140737488351232 :=
  arg_slice (size := 1) 1 u8Cells (· < 256) (fun _ => rfl) (by omega) ht he1 he2 (fun n cs x hx _ => by
    obtain ⟨k, cx, _, wn⟩ := DataW.trod_int he hx
    obtain ⟨l, u⟩ := bounds_u8 wn
    obtain ⟨k, rfl⟩ := Int.eq_ofNat_of_zero_le l
    exact ⟨k, cx, by omega⟩) hv h hL
end
end Go.Proofs.YtcimipebpfajgaaDoor.Dt
