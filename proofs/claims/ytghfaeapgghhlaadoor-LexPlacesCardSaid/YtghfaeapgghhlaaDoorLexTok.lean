/-
  Tokens as values, their boxes; what the walks of the reader's tokens share.
-/
import Derived.Test.YtghfaeapgghhlaaDoorLexR
import Derived.Test.YtghfaeapgghhlaaDoorLexFind
import Derived.Test.YtghfaeapgghhlaaDoorLexPlain
namespace Go.Proofs.YtghfaeapgghhlaaDoor.Dt
open Go.RowKit Go.Proofs.YtghfaeapgghhlaaDoor.By

def Tk.val (t : Tk) : Value := .agg #[.int .u8 (t.k : Int), .string t.s, .int .u64 (t.n : Int), .int .i64 t.a]
def T0 : Tk := ⟨0, ByteArray.empty, 0, 0⟩
/-- A box with no token in it yet. -/
structure TBox (b : Nat) (w : World) : Prop where
  c0 : w.cell? ⟨b, 0, none⟩ = some (.int .u8 0)
  c1 : w.cell? ⟨b, 1, none⟩ = some (.string ⟨#[]⟩)
  c2 : w.cell? ⟨b, 2, none⟩ = some (.int .u64 0)
  c3 : w.cell? ⟨b, 3, none⟩ = some (.int .i64 0)
  f0 : w.frozen? ⟨b, 0, none⟩ = false
  f1 : w.frozen? ⟨b, 1, none⟩ = false
  f2 : w.frozen? ⟨b, 2, none⟩ = false
  f3 : w.frozen? ⟨b, 3, none⟩ = false
theorem TBox.lt {b : Nat} {w : World} (h : TBox b w) : b < w.heap.size := cell_lt h.c0
theorem TBox.later {b : Nat} {w w' : World} (h : TBox b w) (hb : Below w.heap.size w w') : TBox b w' :=
  ⟨(hb.cell h.lt).trans h.c0, (hb.cell h.lt).trans h.c1, (hb.cell h.lt).trans h.c2, (hb.cell h.lt).trans h.c3, (hb.frozen h.lt).trans h.f0, (hb.frozen h.lt).trans h.f1, (hb.frozen h.lt).trans h.f2, (hb.frozen h.lt).trans h.f3⟩
theorem TBox.grown {b r : Nat} {w w' : World} (h : TBox b w) (g : w.grownBy w' (some r)) (hne : b ≠ r) : TBox b w' := by
  have c : ∀ i, w'.cell? ⟨b, i, none⟩ = w.cell? ⟨b, i, none⟩ := fun i => cell_grown g h.lt (fun e => hne (Option.some.inj e).symm) i
  have f : ∀ i, w'.frozen? ⟨b, i, none⟩ = w.frozen? ⟨b, i, none⟩ := fun i => by
    unfold World.frozen?
    rw [g.block b h.lt (fun e => hne (Option.some.inj e))]
  exact ⟨(c 0).trans h.c0, (c 1).trans h.c1, (c 2).trans h.c2, (c 3).trans h.c3, (f 0).trans h.f0, (f 1).trans h.f1, (f 2).trans h.f2, (f 3).trans h.f3⟩
theorem TBox.else {b r i : Nat} {u : Value} {w : World} (h : TBox b w) (hne : b ≠ r) : TBox b (w.setCell ⟨r, i, none⟩ u) := h.grown (grown_set w r i u) hne
theorem tBox_new (w : World) (t : TypeId) : TBox w.heap.size (w.alloc (.cells #[.int .u8 0, .string ⟨#[]⟩, .int .u64 0, .int .i64 0] t)) := by
  constructor <;> go_simp
theorem filled4 (w : World) (b : Nat) (x y z u : Value) (h : TBox b w) : ∀ W, W = ((((w.setCell ⟨b, 0, none⟩ x).setCell ⟨b, 1, none⟩ y).setCell ⟨b, 2, none⟩ z).setCell ⟨b, 3, none⟩ u) →
    W.cell? ⟨b, 0, none⟩ = some x ∧ W.cell? ⟨b, 1, none⟩ = some y ∧ W.cell? ⟨b, 2, none⟩ = some z ∧ W.cell? ⟨b, 3, none⟩ = some u := by
  rintro W rfl
  have s0 := set_same3 w ⟨b, 0, none⟩ x _ h.c0
  have s1 := set_same3 (w.setCell ⟨b, 0, none⟩ x) ⟨b, 1, none⟩ y _ ((set_else3 w b 0 1 x (by decide)).trans h.c1)
  have s2 := set_same3 ((w.setCell ⟨b, 0, none⟩ x).setCell ⟨b, 1, none⟩ y) ⟨b, 2, none⟩ z _ ((set_else3 _ b 1 2 y (by decide)).trans ((set_else3 w b 0 2 x (by decide)).trans h.c2))
  have s3 := set_same3 (((w.setCell ⟨b, 0, none⟩ x).setCell ⟨b, 1, none⟩ y).setCell ⟨b, 2, none⟩ z) ⟨b, 3, none⟩ u _ ((set_else3 _ b 2 3 z (by decide)).trans ((set_else3 _ b 1 3 y (by decide)).trans ((set_else3 w b 0 3 x (by decide)).trans h.c3)))
  exact ⟨(set_else3 _ b 3 0 u (by decide)).trans ((set_else3 _ b 2 0 z (by decide)).trans ((set_else3 _ b 1 0 y (by decide)).trans s0)), (set_else3 _ b 3 1 u (by decide)).trans ((set_else3 _ b 2 1 z (by decide)).trans s1), (set_else3 _ b 3 2 u (by decide)).trans s2, s3⟩
theorem RD.else {r : Nat} {s : ByteArray} {k : Nat} {w : World} (h : RD r s k w) {b i : Nat} {u : Value} (hb : b ≠ r) : RD r s k (w.setCell ⟨b, i, none⟩ u) := by
  refine ⟨(set_other w r b i 0 u (fun e => hb e.1)).trans h.c0, (set_other w r b i 1 u (fun e => hb e.1)).trans h.c1, ?_⟩
  have := h.f1
  simpa using this
theorem RD.box {r : Nat} {s : ByteArray} {k : Nat} {w : World} (h : RD r s k w) {b : Nat} (x y z u : Value) (hb : b ≠ r) : RD r s k ((((w.setCell ⟨b, 0, none⟩ x).setCell ⟨b, 1, none⟩ y).setCell ⟨b, 2, none⟩ z).setCell ⟨b, 3, none⟩ u) :=
  (((h.else hb).else hb).else hb).else hb
theorem grown_new {w W : World} {r : Nat} (h : w.grownBy W (some r)) {b i : Nat} {u : Value} (hb : w.heap.size ≤ b) : w.grownBy (W.setCell ⟨b, i, none⟩ u) (some r) := by
  have g := grown_set W b i u
  refine ⟨g.os.trans h.os, g.tape.trans h.tape, g.output.trans h.output, Nat.le_trans h.size g.size, fun k hk hn => ?_⟩
  exact (g.block k (Nat.lt_of_lt_of_le hk h.size) (fun e => by cases e; omega)).trans (h.block k hk hn)
theorem grown_box {w W : World} {r : Nat} (h : w.grownBy W (some r)) {b : Nat} (x y z u : Value) (hb : w.heap.size ≤ b) : w.grownBy ((((W.setCell ⟨b, 0, none⟩ x).setCell ⟨b, 1, none⟩ y).setCell ⟨b, 2, none⟩ z).setCell ⟨b, 3, none⟩ u) (some r) :=
  grown_new (grown_new (grown_new (grown_new h hb) hb) hb) hb

/-- The world that a reader lies in: above one in which the library's variables read as they are listed. -/
structure Env (w0 : World) (r : Nat) (w : World) : Prop where
  hw : LX w0
  hb : Below w0.heap.size w0 w
  hr : w0.heap.size ≤ r
theorem Env.grown {w0 w w' : World} {r : Nat} (h : Env w0 r w) (g : w.grownBy w' (some r)) : Env w0 r w' := ⟨h.hw, grown_below h.hb h.hr g h.hb.size, h.hr⟩
theorem Env.lx {w0 w : World} {r : Nat} (h : Env w0 r w) : LX w := h.hw.later h.hb

/-- What a method of the reader hands back: the token and no error, or none and an error; and how far it has read. -/
def outV : One → Value
  | .tok k s n _ => .tuple #[Tk.val ⟨k, ⟨s.toArray⟩, n, 0⟩, .int .i64 0]
  | .bad e _ => .tuple #[T0.val, .int .i64 (e : Int)]
def lenO : One → Nat
  | .tok _ _ _ m => m
  | .bad _ m => m
end Go.Proofs.YtghfaeapgghhlaaDoor.Dt
