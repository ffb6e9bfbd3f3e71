/-
  A slice of bytes that the call itself appends to, made by append or written out as a constant text. Over whatever program.
-/
import Derived.Test.YtghfaeapgghhlaaDoorOwn
import Derived.Test.YtghfaeapgghhlaaDoorLater
import Derived.Test.YtghfaeapgghhlaaDoorGrow
import Derived.ArgAppend
import Derived.Deep.Onto
import Derived.Lib.SlBytesConst
namespace Go.Proofs.YtghfaeapgghhlaaDoor.By
open Go.RowKit

theorem OwnB.below {w w' : World} {base : Nat} {e : TypeId} {v : Value} {l : List UInt8} (h : OwnB w base e v l) (hb : Below w.heap.size w w') : OwnB w' base e v l :=
  World.ownsRow.kept (row := none) h ⟨hb.os, hb.tape, hb.output, hb.size, fun i hi _ => hb.block i hi⟩ (by cases v.ownBlock <;> simp)
/-- Owned bytes, or a text's own bytes, full. -/
def OwnX (w : World) (base : Nat) (e : TypeId) (v : Value) (l : List UInt8) : Prop :=
  OwnB w base e v l ∨ ∃ g, v = .slice (some ⟨g, 0, none⟩) l.length l.length ∧ ∀ i (h : i < l.length), w.cell? ⟨g, i, none⟩ = some (byte l[i])
theorem OwnX.below {w w' : World} {base : Nat} {e : TypeId} {v : Value} {l : List UInt8} (h : OwnX w base e v l) (hb : Below w.heap.size w w') : OwnX w' base e v l := by
  rcases h with h | ⟨g, rfl, h⟩
  · exact .inl (h.below hb)
  · exact .inr ⟨g, rfl, fun i hi => (hb.cell (cell_lt (h i hi))).trans (h i hi)⟩
theorem OwnX.shape {w : World} {base : Nat} {e : TypeId} {v : Value} {l : List UInt8} (h : OwnX w base e v l) : ∃ a c, v = .slice a l.length c := by
  rcases h with h | ⟨g, rfl, h⟩
  · exact h.shape
  · exact ⟨_, _, rfl⟩
theorem convX {P : Program} {w : World} (src e dst : TypeId) (hs : P.underlying src = some (.slice e)) (he : P.underlying e = some (.int .u8)) (hd : P.underlying dst = some .string)
    {base : Nat} {v : Value} {l : List UInt8} (h : OwnX w base e v l) : (convert src dst v).run P w = .ok (str l) w := by
  rcases h with h | ⟨g, rfl, h⟩
  · exact conv_own src e dst hs he hd h
  · exact conv_at w src e dst hs he hd g 0 l.length l.length l rfl (fun i hi => by rw [Nat.zero_add]; exact h i hi)
theorem bytes_get (l : List UInt8) {j : Nat} {u : Value} (h : (l.map byte)[j]? = some u) : ∃ hj : j < l.length, u = byte l[j] := by
  rw [List.getElem?_map] at h
  cases hj : l[j]? with
  | none => rw [hj] at h; cases h
  | some b =>
    rw [hj] at h
    obtain ⟨hk, rfl⟩ := List.getElem?_eq_some_iff.1 hj
    exact ⟨hk, (Option.some.inj h).symm⟩
theorem wpList_append_x {P : Program} {w : World} {ops : Array Oper} {rest : List Oper} {o : Oper} {a : Act} {Q : Exit → Act → World → Prop} (hgd : o.guard = none) (s x : Operand) (t : TypeId)
    (ho : o.op = .call { callee := .builtin .append, args := #[s, x], argTypes := #[t, t] })
    (base : Nat) (e : TypeId) (E : Elem P t e 1 1)
    (v : Value) (l : List UInt8) (hs : a.eval s = v) (hown : OwnX w base e v l)
    (sv : Value) (news : List UInt8) (hx : a.eval x = sv) (hr : Reads w 1 sv news.length (news.map byte)) (hm : 0 < news.length)
    (h63 : l.length + news.length ≤ 140737488355328) (hbase : base ≤ w.heap.size)
    (h : ∀ v' w', OwnB w' base e v' (l ++ news) → Below base w w' → wpList P ops Q rest (a.put o.dst v') w') : wpList P ops Q (o :: rest) a w := by
  have h1 : ∀ u ∈ news.map byte, u.oneCell' = true := oneCell_bytes news
  rcases hown with hown | ⟨g, rfl, hc⟩
  · exact wpList_append_reads hgd s x t ho base e 1 1 E v l.length (l.map byte) hs hown sv news.length (news.map byte) hx hr h1 (by unfold maxLen; omega) (by omega) hbase
      (fun v' w' h2 _ h4 => h v' w' (ownB_of h2 (by simp) (by simp)) h4)
  · rcases hr.2 with ⟨_, hn⟩ | ⟨ad, c, rfl, hcn⟩
    · omega
    · obtain ⟨i, z, hi, hz, hsize, hby, hzs⟩ := E.info
      refine wpList_append_grows w hgd s x t ho e i z 1 1 E.slice hi hz hsize hby hzs E.pos (some ⟨g, 0, none⟩) l.length l.length (l.map byte) hs (fun h => by cases h) (by simp) (fun b hb j u hu => ?_) ad news.length c (news.map byte) hx (by simp) hcn h1 (by omega) (by unfold maxLen; omega) (by omega) (fun v' w' h2 h3 => h v' w' (ownB_of (h2.mono hbase) (by simp) (by simp)) ?_)
      · obtain rfl := Option.some.inj hb
        obtain ⟨hj, rfl⟩ := bytes_get l hu
        have : (⟨g, 0, none⟩ : Addr).add j = ⟨g, j, none⟩ := by rw [Addr.add_lit, Nat.zero_add]
        rw [this]
        exact hc j hj
      · exact (Below.refl base w).grown h3 hbase (fun k hk => by cases hk)
/-- Bytes that lie in a block of their own. -/
theorem reads_cells {w : World} (b : Nat) (news : List UInt8) (h : ∀ i (hi : i < news.length), w.cell? ⟨b, i, none⟩ = some (byte news[i])) : Reads w 1 (.slice (some ⟨b, 0, none⟩) news.length news.length) news.length (news.map byte) := by
  refine ⟨by simp, .inr ⟨_, _, rfl, fun j u hu => ?_⟩⟩
  obtain ⟨hj, rfl⟩ := bytes_get news hu
  rw [Addr.add_lit, Nat.zero_add]
  exact h j hj
end Go.Proofs.YtghfaeapgghhlaaDoor.By
