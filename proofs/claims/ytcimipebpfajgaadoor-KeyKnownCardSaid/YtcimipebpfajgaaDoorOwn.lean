/-
  Slices that the call itself made: what they read as, and append to one of them from another one, nil or not; over whatever program.
-/
import Derived.Test.YtcimipebpfajgaaDoorBytes
import Derived.Laws.AppendOwnNone
namespace Go.Proofs.YtcimipebpfajgaaDoor.By
open Go.RowKit

/-- A slice value of m elements of so many cells reads as these cells. -/
def Reads (w : World) (size : Nat) (v : Value) (m : Nat) (xs : List Value) : Prop :=
  xs.length = m * size ∧ ((v = .slice none 0 0 ∧ m = 0) ∨ ∃ ad c, v = .slice (some ad) m c ∧ ∀ j u, xs[j]? = some u → w.cell? (ad.add j) = some u)

theorem reads_of_owns {w : World} {base : Nat} {e : TypeId} {size : Nat} {v : Value} {n : Nat} {xs : List Value} (h : w.ownsRow base e size v n xs) : Reads w size v n xs := by
  refine ⟨h.1, ?_⟩
  rcases h.2 with ⟨rfl, rfl⟩ | ⟨g, cap, cur, rfl, hg, hh, hn, hc, hs, ht⟩
  · exact Or.inl ⟨rfl, rfl⟩
  · exact Or.inr ⟨_, cap, rfl, h.cells rfl⟩

/-- What one element's type has in the program's table. -/
structure Elem (P : Program) (t e : TypeId) (size bytes : Nat) : Prop where
  slice : P.underlying t = some (.slice e)
  info : ∃ i z, P.info? e = some i ∧ i.zero = some z ∧ i.size = size ∧ i.bytes = bytes ∧ z.cells.size = size
  pos : 0 < size

theorem wpList_append_reads {P : Program} {w : World} {ops : Array Oper} {rest : List Oper} {o : Oper} {a : Act} {Q : Exit → Act → World → Prop} (hgd : o.guard = none) (s x : Operand) (t : TypeId)
    (ho : o.op = .call { callee := .builtin .append, args := #[s, x], argTypes := #[t, t] })
    (base : Nat) (e : TypeId) (size bytes : Nat) (E : Elem P t e size bytes)
    (v : Value) (n : Nat) (xs : List Value) (hs : a.eval s = v) (hown : w.ownsRow base e size v n xs)
    (sv : Value) (m : Nat) (news : List Value) (hx : a.eval x = sv) (hr : Reads w size sv m news) (h1 : ∀ u ∈ news, u.oneCell' = true)
    (h63 : n + m ≤ maxLen) (hbytes : (n + m) * bytes ≤ 140737488355328) (hbase : base ≤ w.heap.size)
    (h : ∀ v' w', w'.ownsRow base e size v' (n + m) (xs ++ news) → w.grownBy w' v.ownBlock → Below base w w' → wpList P ops Q rest (a.put o.dst v') w') : wpList P ops Q (o :: rest) a w := by
  obtain ⟨i, z, hi, hz, hsize, hby, hzs⟩ := E.info
  have hbel : ∀ w', w.grownBy w' v.ownBlock → Below base w w' := fun w' hg =>
    (Below.refl base w).grown hg hbase (fun k hk => (hown.lt k hk).1)
  rcases hr.2 with ⟨rfl, rfl⟩ | ⟨ad, c, rfl, hc⟩
  · have hn : news = [] := by simpa using hr.1
    subst hn
    refine wpList_append_own_none hgd s x t ho base e i size E.slice hi v n xs hs hown hx ?_
    refine h v w (by simpa using hown) ⟨rfl, rfl, rfl, Nat.le_refl _, fun _ _ _ => rfl⟩ (Below.refl _ _)
  · exact wpList_append_own w hgd s x t ho base e i z size bytes E.slice hi hz hsize hby hzs E.pos v n xs hs hown ad m c news hx hr.1 hc h1 h63 hbytes hbase fun v' w' h1 h2 _ => h v' w' h1 h2 (hbel w' h2)

/-- Owned bytes. -/
def OwnB (w : World) (base : Nat) (e : TypeId) (v : Value) (l : List UInt8) : Prop := w.ownsRow base e 1 v l.length (l.map byte)

theorem OwnB.nil (w : World) (base : Nat) (e : TypeId) : OwnB w base e (.slice none 0 0) [] := World.ownsRow_nil _ _ _ _

theorem OwnB.alloc {w : World} {base : Nat} {e : TypeId} {v : Value} {l : List UInt8} (h : OwnB w base e v l) (o : Obj) : OwnB (w.alloc o) base e v l := World.ownsRow.alloc h o
theorem OwnB.drew {w : World} {base : Nat} {e : TypeId} {v : Value} {l : List UInt8} (h : OwnB w base e v l) : OwnB w.drew base e v l := h
theorem OwnB.reads {w : World} {base : Nat} {e : TypeId} {v : Value} {l : List UInt8} (h : OwnB w base e v l) : Reads w 1 v l.length (l.map byte) := reads_of_owns h
theorem ownB_of {w : World} {base : Nat} {e : TypeId} {v : Value} {l : List UInt8} {n : Nat} {xs : List Value} (h : w.ownsRow base e 1 v n xs) (hn : n = l.length) (hx : xs = l.map byte) : OwnB w base e v l := by
  subst hn hx; exact h
/-- A block of one byte that has just been laid. -/
theorem own_one (w : World) (base : Nat) (e : TypeId) (x : Value) (hb : base ≤ w.heap.size) : (w.alloc (.cells #[x] e)).ownsRow base e 1 (.slice (some ⟨w.heap.size, 0, none⟩) 1 1) 1 [x] :=
  World.ownsRow_lit w #[x] 1 hb (by unfold maxLen; omega) rfl

theorem oneCell_bytes (l : List UInt8) : ∀ u ∈ l.map byte, u.oneCell' = true := by
  intro u hu
  obtain ⟨b, _, rfl⟩ := List.mem_map.1 hu
  rfl

/-- Owned bytes, as a string. -/
theorem conv_own {P : Program} {w : World} (src e dst : TypeId) (hs : P.underlying src = some (.slice e)) (he : P.underlying e = some (.int .u8)) (hd : P.underlying dst = some .string)
    {base : Nat} {v : Value} {l : List UInt8} (h : OwnB w base e v l) : (convert src dst v).run P w = .ok (str l) w := by
  rcases h.2 with ⟨rfl, hn⟩ | ⟨g, cap, cur, rfl, hg, hh, hn, hc, hsz, ht⟩
  · obtain rfl : l = [] := List.eq_nil_of_length_eq_zero hn
    rw [run_convert_bytes_nil w src e hs he 0 0 dst hd]
    rfl
  · refine conv_at w src e dst hs he hd g 0 l.length cap l rfl fun i hi => ?_
    have := World.ownsRow.cellAt (w := w) (e := e) (size := 1) h i (by omega)
    rw [Nat.zero_add, this]
    simp [hi]

/-- The length in a slice's value: for a loop's measure. -/
def lenOf : Value → Nat | .slice _ n _ => n | _ => 0
theorem OwnB.lenOf {w : World} {base : Nat} {e : TypeId} {v : Value} {l : List UInt8} (h : OwnB w base e v l) : By.lenOf v = l.length := by
  rcases h.2 with ⟨rfl, hn⟩ | ⟨g, cap, cur, rfl, _⟩
  · simp [By.lenOf, hn]
  · rfl
theorem OwnB.shape {w : World} {base : Nat} {e : TypeId} {v : Value} {l : List UInt8} (h : OwnB w base e v l) : ∃ a c, v = .slice a l.length c := by
  rcases h.2 with ⟨rfl, hn⟩ | ⟨g, cap, cur, rfl, _⟩
  · exact ⟨none, 0, by rw [hn]⟩
  · exact ⟨_, _, rfl⟩

theorem OwnB.some {w : World} {base : Nat} {e : TypeId} {v : Value} {l : List UInt8} (h : OwnB w base e v l) (hl : 0 < l.length) : ∃ g c, v = .slice (some ⟨g, 0, none⟩) l.length c ∧ base ≤ g ∧ g < w.heap.size := by
  rcases h.2 with ⟨rfl, hn⟩ | ⟨g, cap, cur, rfl, hg, hh, _⟩
  · omega
  · exact ⟨g, cap, rfl, hg, (Array.getElem?_eq_some_iff.1 hh).1⟩
theorem OwnB.cell {w : World} {base : Nat} {e : TypeId} {g n c : Nat} {l : List UInt8} (h : OwnB w base e (.slice (.some ⟨g, 0, none⟩) n c) l) {k : Nat} {b : UInt8} (hb : l[k]? = .some b) : w.cell? ⟨g, k, none⟩ = .some (byte b) := by
  obtain ⟨hk, rfl⟩ := List.getElem?_eq_some_iff.1 hb
  have hn : n = l.length := h.lenOf
  subst hn
  have := World.ownsRow.cellAt (w := w) (e := e) (size := 1) h k (by omega)
  rw [this]
  simp [hk]
theorem OwnB.free {w : World} {base : Nat} {e : TypeId} {g n c : Nat} {l : List UInt8} (h : OwnB w base e (.slice (.some ⟨g, 0, none⟩) n c) l) (k : Nat) : w.frozen? ⟨g, k, none⟩ = false := by
  have hn : n = l.length := h.lenOf
  subst hn
  exact World.ownsRow.frozenAt (w := w) (e := e) (size := 1) h k
theorem OwnB.stored {w : World} {base : Nat} {e : TypeId} {g n c : Nat} {l : List UInt8} (h : OwnB w base e (.slice (.some ⟨g, 0, none⟩) n c) l) (k : Nat) (b : UInt8) :
    OwnB (w.setCell ⟨g, k, none⟩ (byte b)) base e (.slice (.some ⟨g, 0, none⟩) n c) (l.set k b) := by
  have hn : n = l.length := h.lenOf
  subst hn
  exact ownB_of (World.ownsRow.stored (w := w) (e := e) (size := 1) h k (byte b)).1 (by simp) (by rw [List.map_set])
end Go.Proofs.YtcimipebpfajgaaDoor.By
