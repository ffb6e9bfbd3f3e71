/-
  A builder that the call has made itself: the library's contracts for what is written to it, where the dump's own copy check bears a refused branch.
-/
import Derived.Test.YtcimipebpfajgaaDoorShelf
import Derived.Test.YtcimipebpfajgaaDoorKBase
namespace Go.Proofs.YtcimipebpfajgaaDoor.Dt
open Go.RowKit Go.Proofs.YtcimipebpfajgaaDoor.By

/-- The numbering of ReplaceAll's closure, and WriteByte's own. -/
def renW : Go.Shelf.Ren := ⟨fun | 167 => 10 | n => Tryd.lays155_ren.f n, Tryd.lays155_ren.t, Tryd.lays155_ren.g⟩
set_option maxRecDepth 100000 in
theorem laysW : Go.Proofs.Lays.n167 Tryd.prog renW := {
  mixed := Tryd.lays155.mixed
  f167 := Tryd.func10.trans (congrArg some (by kernel_rfl))
  f240 := Tryd.lays155.f240
  f276 := Tryd.lays155.f276
  t0 := Tryd.lays155.t0
  a0 := Tryd.lays155.a0
  z0 := Tryd.lays155.z0
  v0 := Tryd.lays155.v0
  t4 := Tryd.lays155.t4
  a4 := Tryd.lays155.a4
  z4 := Tryd.lays155.z4
  v4 := Tryd.lays155.v4
  t5 := Tryd.lays155.t5
  a5 := Tryd.lays155.a5
  z5 := Tryd.lays155.z5
  v5 := Tryd.lays155.v5
  t9 := Tryd.lays155.t9
  a9 := Tryd.lays155.a9
  z9 := Tryd.lays155.z9
  v9 := Tryd.lays155.v9
  t20 := Tryd.lays155.t20
  a20 := Tryd.lays155.a20
  z20 := Tryd.lays155.z20
  v20 := Tryd.lays155.v20
  t37 := Tryd.lays155.t37
  a37 := Tryd.lays155.a37
  z37 := Tryd.lays155.z37
  v37 := Tryd.lays155.v37
  t70 := Tryd.lays155.t70
  a70 := Tryd.lays155.a70
  z70 := Tryd.lays155.z70
  v70 := Tryd.lays155.v70
  t72 := Tryd.lays155.t72
  a72 := Tryd.lays155.a72
  z72 := Tryd.lays155.z72
  v72 := Tryd.lays155.v72
  t75 := Tryd.lays155.t75
  a75 := Tryd.lays155.a75
  z75 := Tryd.lays155.z75
  v75 := Tryd.lays155.v75
  t164 := Tryd.lays155.t164
  a164 := Tryd.lays155.a164
  z164 := Tryd.lays155.z164
  v164 := Tryd.lays155.v164 }
set_option maxRecDepth 100000 in
theorem extraW : Builder.Extra Tryd.prog renW := {
  sizeBuilder := Tryd.Builder_Extra_155.sizeBuilder
  liesBuilder := Tryd.Builder_Extra_155.liesBuilder
  t5 := Tryd.Builder_Extra_155.t5
  a5 := Tryd.Builder_Extra_155.a5
  z5 := Tryd.Builder_Extra_155.z5
  v5 := Tryd.Builder_Extra_155.v5
  infoByte := Tryd.Builder_Extra_155.infoByte
  cellsByte := Tryd.Builder_Extra_155.cellsByte
  sizeByte := Tryd.Builder_Extra_155.sizeByte
  neB5 := Tryd.Builder_Extra_155.neB5 }
/-- A builder of these bytes. -/
abbrev BuildB (B b : Nat) (l : List UInt8) (w : World) : Prop := Lib.IsBuilderF 39 5 B b (Lib.byteCells l) w
abbrev KeptB (b : Nat) (w w' : World) : Prop := Lib.OthersKept 5 (some b) w w'
theorem writeByte (B b : Nat) (l : List UInt8) (c : UInt8) (w : World) (h : BuildB B b l w) (hlen : l.length + 1 ≤ 140737488355328) (hBw : B ≤ w.heap.size) :
    Calls Tryd.prog 10 #[.pointer (some ⟨b, 0, none⟩), .int .u8 (c.toNat : Int)] w fun e w' => e = .returned .nilIface ∧ BuildB B b (l ++ [c]) w' ∧ Below B w w' ∧ KeptB b w w' :=
  (Any.Builder_WriteByte_k laysW extraW B b (Lib.byteCells l) (c.toNat : Int) w h (by rw [Lib.byteCells_length]; exact hlen) hBw).mono fun _ _ ⟨he, hb, hw, hk⟩ => ⟨he, .inr (by
    have e : Lib.byteCells (l ++ [c]) = Lib.byteCells l ++ [.int .u8 (c.toNat : Int)] := by simp [Lib.byteCells]
    rw [e]; exact hb), hw, hk⟩
theorem writeString (B b : Nat) (l : List UInt8) (s : ByteArray) (w : World) (h : BuildB B b l w) (hlen : l.length + s.size ≤ 140737488355328) (hBw : B ≤ w.heap.size) :
    Calls Tryd.prog 11 #[.pointer (some ⟨b, 0, none⟩), .string s] w fun e w' => e = .returned (.tuple #[.int .i64 s.size, .nilIface]) ∧ BuildB B b (l ++ s.data.toList) w' ∧ Below B w w' ∧ KeptB b w w' :=
  (Any.Builder_WriteString_k { Tryd.lays155 with } Tryd.Builder_Extra_155 B b (Lib.byteCells l) s w h (by rw [Lib.byteCells_length]; exact hlen) hBw).mono fun _ _ ⟨he, hb, hw, hk⟩ => ⟨he, .inr (by
    have e : Lib.byteCells (l ++ s.data.toList) = Lib.byteCells l ++ Lib.strCells s := by simp [Lib.byteCells, Lib.strCells]
    rw [e]; exact hb), hw, hk⟩
theorem builderString (B b : Nat) (l : List UInt8) (w : World) (h : BuildB B b l w) (hBw : B ≤ w.heap.size) :
    Calls Tryd.prog 14 #[.pointer (some ⟨b, 0, none⟩)] w fun e w' => e = .returned (str l) ∧ Below B w w' := (Tryd.Builder_String_any_k B b l w h hBw).mono fun _ _ h => ⟨h.1, h.2.2.1⟩
theorem BuildB.later {B b : Nat} {l : List UInt8} {w w' : World} (h : BuildB B b l w) (hb : Below w.heap.size w w') : BuildB B b l w' := by
  have one : ∀ p, Lib.BuilderAtF 39 5 B b p (Lib.byteCells l) w → Lib.BuilderAtF 39 5 B b p (Lib.byteCells l) w' := by
    rintro p ⟨hB, v, hv, hown, hne⟩
    have hlt : b < w.heap.size := (Array.getElem?_eq_some_iff.1 hv).1
    exact ⟨hB, v, (hb.block b hlt).trans hv, World.ownsRowF.kept (row := none) hown ⟨hb.os, hb.tape, hb.output, hb.size, fun i hi _ => hb.block i hi⟩ (by cases v.ownBlock <;> simp), hne⟩
  rcases h with h | h
  · exact .inl (one _ h)
  · exact .inr (one _ h)
theorem buildB_new (B : Nat) (w : World) (hB : B ≤ w.heap.size) : BuildB B w.heap.size [] (w.alloc (.cells #[.pointer none, .slice none 0 0] 39)) :=
  .inl ⟨hB, .slice none 0 0, heap_alloc_new _ _, World.ownsRowF_nil _ _ _ _, fun e => by cases e⟩
/-- A value's box that lies beside a builder. -/
def BoxV (b : Nat) (v : V) (w : World) : Prop := w.heap[b]? = some (.cells #[.int .u8 (v.k : Int), .int .i64 v.n, .string v.s] 26 (0, 0))
theorem BoxV.later {b : Nat} {v : V} {w w' : World} (h : BoxV b v w) (hb : Below w.heap.size w w') : BoxV b v w' := by
  unfold BoxV at *
  rw [hb.block b (Array.getElem?_eq_some_iff.1 h).1]
  exact h
theorem BoxV.kept {b c : Nat} {v : V} {w w' : World} (h : BoxV b v w) (hk : KeptB c w w') (hne : b ≠ c) : BoxV b v w' :=
  hk b _ h (fun e => hne (Option.some.inj e)) (fun c fz e => by
    injection e with _ e2
    revert e2
    decide)
theorem BoxV.cells {b : Nat} {v : V} {w : World} (h : BoxV b v w) : w.cell? ⟨b, 0, none⟩ = some (.int .u8 (v.k : Int)) ∧ w.cell? ⟨b, 1, none⟩ = some (.int .i64 v.n) ∧ w.cell? ⟨b, 2, none⟩ = some (.string v.s) := by
  unfold BoxV at h
  refine ⟨?_, ?_, ?_⟩ <;> (unfold World.cell?; simp [h])
theorem boxV_new (v : V) (w : World) : BoxV w.heap.size v (w.alloc (.cells #[.int .u8 (v.k : Int), .int .i64 v.n, .string v.s] 26)) := heap_alloc_new _ _
end Go.Proofs.YtcimipebpfajgaaDoor.Dt
