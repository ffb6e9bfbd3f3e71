import Derived.Test.YtjgkeillmelkoaaGreatBk45
import Derived.Test.YtjgkeillmelkoaaGreatBk41
namespace Go.Proofs.YtjgkeillmelkoaaGreat.Dt
open Go.RowKit Go.Proofs.YtjgkeillmelkoaaGreat.By

theorem elRso : By.Elem Tryz.prog 99 98 5 104 where
  slice := by kernel_rfl
  info := by
    have h : (Tryz.prog.info? 98).map (fun i => (i.zero, i.size, i.bytes)) = some (some (.agg #[.string ⟨#[]⟩, .string ⟨#[]⟩, .slice none 0 0, .slice none 0 0, .slice none 0 0]), 5, 104) := by kernel_rfl
    obtain ⟨i, hi, h1, h2, h3⟩ := info_parts h
    exact ⟨i, _, hi, h1, h2, h3, rfl⟩
  pos := by decide
/-- What lies there while a SELECT's sources are found: the statement, the result's box, the zero statement, the sources found, the sources with their conditions. -/
structure CJ (w : World) (S : Array Value) (vl : Value) (nl : Nat) (xl : List Value) (vf : Value) (nf : Nat) (xf : List Value) (W : World) : Prop where
  hb : Below w.heap.size w W
  x : Row w.heap.size 35 S W
  r4 : Row (w.heap.size + 1) 35 stZ W
  r6 : Row (w.heap.size + 2) 35 stZ W
  ol : W.ownsRow (w.heap.size + 3) 98 5 vl nl xl
  of : W.ownsRow (w.heap.size + 3) 80 3 vf nf xf
  ne : ∀ k, vl.ownBlock = some k → vf.ownBlock ≠ some k
  sz : w.heap.size + 3 ≤ W.heap.size
section
variable {w W W' : World} {S : Array Value} {vl vl' vf vf' : Value} {nl nf nl' nf' : Nat} {xl xf xl' xf' : List Value}
theorem CJ.later (h : CJ w S vl nl xl vf nf xf W) (q : Below W.heap.size W W') : CJ w S vl nl xl vf nf xf W' :=
  ⟨next h.hb q, h.x.later q, h.r4.later q, h.r6.later q, World.ownsRow.kept h.ol (pl_grown q) (by cases vl.ownBlock <;> simp), World.ownsRow.kept h.of (pl_grown q) (by cases vf.ownBlock <;> simp), h.ne, Nat.le_trans h.sz q.size⟩
theorem CJ.appL (h : CJ w S vl nl xl vf nf xf W) (ho : W'.ownsRow (w.heap.size + 3) 98 5 vl' nl' xl') (q : W.grownBy W' vl.ownBlock) (hv : vl'.ownBlock = vl.ownBlock ∨ vl'.ownBlock = some W.heap.size) : CJ w S vl' nl' xl' vf nf xf W' := by
  have hlo : ∀ k, vl.ownBlock = some k → w.heap.size + 3 ≤ k := fun k hk => (World.ownsRow.lt h.ol k hk).1
  have hk : ∀ b, b < w.heap.size + 3 → W'.heap[b]? = W.heap[b]? := fun b hb => q.block b (Nat.lt_of_lt_of_le hb h.sz) (fun e => by have := hlo b e.symm; omega)
  refine ⟨⟨q.os.trans h.hb.os, q.tape.trans h.hb.tape, q.output.trans h.hb.output, Nat.le_trans h.hb.size q.size, fun b hb => (hk b (by omega)).trans (h.hb.block b hb)⟩, (hk _ (by omega)).trans h.x, (hk _ (by omega)).trans h.r4, (hk _ (by omega)).trans h.r6, ho, ?_, ?_, Nat.le_trans h.sz q.size⟩
  · refine World.ownsRow.kept h.of q ?_
    cases hf : vf.ownBlock with
    | none => exact .inl rfl
    | some k => exact .inr fun e => h.ne k e.symm hf
  · intro k hk2 hf
    rcases hv with e | e
    · exact h.ne k (e ▸ hk2) hf
    · rw [e] at hk2; cases hk2
      have := (World.ownsRow.lt h.of _ hf).2
      omega
theorem CJ.appF (h : CJ w S vl nl xl vf nf xf W) (ho : W'.ownsRow (w.heap.size + 3) 80 3 vf' nf' xf') (q : W.grownBy W' vf.ownBlock) (hv : vf'.ownBlock = vf.ownBlock ∨ vf'.ownBlock = some W.heap.size) : CJ w S vl nl xl vf' nf' xf' W' := by
  have hlo : ∀ k, vf.ownBlock = some k → w.heap.size + 3 ≤ k := fun k hk => (World.ownsRow.lt h.of k hk).1
  have hk : ∀ b, b < w.heap.size + 3 → W'.heap[b]? = W.heap[b]? := fun b hb => q.block b (Nat.lt_of_lt_of_le hb h.sz) (fun e => by have := hlo b e.symm; omega)
  refine ⟨⟨q.os.trans h.hb.os, q.tape.trans h.hb.tape, q.output.trans h.hb.output, Nat.le_trans h.hb.size q.size, fun b hb => (hk b (by omega)).trans (h.hb.block b hb)⟩, (hk _ (by omega)).trans h.x, (hk _ (by omega)).trans h.r4, (hk _ (by omega)).trans h.r6, ?_, ho, ?_, Nat.le_trans h.sz q.size⟩
  · refine World.ownsRow.kept h.ol q ?_
    cases hf : vl.ownBlock with
    | none => exact .inl rfl
    | some k => exact .inr fun e => h.ne k hf e.symm
  · intro k hk2 hf
    rcases hv with e | e
    · exact h.ne k hk2 (e ▸ hf)
    · rw [e] at hf; cases hf
      have := (World.ownsRow.lt h.ol _ hk2).2
      omega
theorem CJ.other (h : CJ w S vl nl xl vf nf xf W) (g : Nat) (hg : w.heap.size + 3 ≤ g) (hl : vl.ownBlock ≠ some g) (hf : vf.ownBlock ≠ some g) (cs : Array Value) : CJ w S vl nl xl vf nf xf (W.setRow g cs) :=
  ⟨below_setRow' h.hb (by omega) _, (setRow_other _ _ _ _ (by omega)).trans h.x, (setRow_other _ _ _ _ (by omega)).trans h.r4, (setRow_other _ _ _ _ (by omega)).trans h.r6, World.ownsRow.kept h.ol (grown_setRow _ _ _) (.inr hl), World.ownsRow.kept h.of (grown_setRow _ _ _) (.inr hf), h.ne, by simpa using h.sz⟩
end
/-- What lies there behind: the statement's cells, and all that lay there (but the statement) as it was. -/
structure CK (w w1 : World) (Z : Array Value) (W : World) : Prop where
  x : Row w.heap.size 35 Z W
  g : w1.grownBy W (some w.heap.size)
section
variable {w w1 W W' : World} {Z : Array Value}
theorem CK.later (h : CK w w1 Z W) (q : Below W.heap.size W W') : CK w w1 Z W' := ⟨h.x.later q, grown_trans h.g (below_grown (r := w.heap.size) q)⟩
theorem CK.put (h : CK w w1 Z W) (i : Nat) (v : Value) (Z' : Array Value) (hz : Z.setIfInBounds i v = Z') : CK w w1 Z' (W.setCell ⟨w.heap.size, i, none⟩ v) := by
  have e := setCell_eq_setRow W w.heap.size i _ _ _ v h.x
  rw [hz] at e
  rw [e]
  exact ⟨h.x.set _, grown_trans h.g (grown_setRow _ _ _)⟩
end
/-- An item's cells, of a column. -/
def itCell (x : PE) : List Value := [.int .u8 (x.op : Int), .int .u8 (x.v.k : Int), .int .i64 x.v.n, .string x.v.s, .string x.t, .string x.m, .int .i64 x.n, .slice none 0 0, .string ⟨#[]⟩]
/-- What lies there while a star's columns are put down. -/
structure IT (w w1 : World) (lo : Nat) (Z9 : Value → Array Value) (vi : Value) (m : Nat) (W : World) : Prop where
  ck : CK w w1 (Z9 vi) W
  own : W.ownsRow lo 141 9 vi m ((raw6.take m).map itCell).flatten
  hn : w.heap.size < w1.heap.size
  l1 : w1.heap.size ≤ lo
  l2 : lo ≤ W.heap.size
section
variable {w w1 W W' : World} {lo m : Nat} {Z9 : Value → Array Value} {vi vi' : Value}
theorem IT.later (h : IT w w1 lo Z9 vi m W) (q : Below W.heap.size W W') : IT w w1 lo Z9 vi m W' := ⟨h.ck.later q, World.ownsRow.kept h.own (pl_grown q) (by cases vi.ownBlock <;> simp), h.hn, h.l1, Nat.le_trans h.l2 q.size⟩
theorem IT.app {x : PE} (h : IT w w1 lo Z9 vi m W) (ho : W'.ownsRow lo 141 9 vi' (m + 1) (((raw6.take m).map itCell).flatten ++ itCell x)) (q : W.grownBy W' vi.ownBlock) (hx : raw6[m]? = some x) (hz : (Z9 vi).setIfInBounds 9 vi' = Z9 vi') :
    Row w.heap.size 35 (Z9 vi) W' ∧ IT w w1 lo Z9 vi' (m + 1) (W'.setCell ⟨w.heap.size, 9, none⟩ vi') := by
  have hlo : ∀ k, vi.ownBlock = some k → lo ≤ k := fun k hk => (World.ownsRow.lt h.own k hk).1
  have h1 := h.hn
  have h2 := h.l1
  have h3 := h.l2
  have hk : ∀ b, b < w1.heap.size → W'.heap[b]? = W.heap[b]? := fun b hb => q.block b (by omega) (fun e => by have := hlo b e.symm; omega)
  have hr : Row w.heap.size 35 (Z9 vi) W' := (hk _ h1).trans h.ck.x
  have hg : w1.grownBy W' (some w.heap.size) := ⟨q.os.trans h.ck.g.os, q.tape.trans h.ck.g.tape, q.output.trans h.ck.g.output, Nat.le_trans h.ck.g.size q.size, fun b hb hne => (hk b hb).trans (h.ck.g.block b hb hne)⟩
  have e := setCell_eq_setRow W' w.heap.size 9 _ _ _ vi' hr
  refine ⟨hr, CK.put ⟨hr, hg⟩ 9 vi' _ hz, ?_, h1, h2, ?_⟩
  · rw [e, List.take_add_one, hx, Option.toList_some, List.map_append, List.flatten_append, List.map_singleton, List.flatten_singleton]
    exact World.ownsRow.kept ho (grown_setRow _ _ _) (.inr fun e => by have := (World.ownsRow.lt ho _ e).1; omega)
  · rw [e]; have := q.size; simp; omega
end
/-- The cells of a source that was found. -/
def soC (nm : ByteArray) (ca : Option Addr) (cc : Nat) (ja : Option Addr) (jc : Nat) (xa : Option Addr) (xc : Nat) : List Value := [.string nm, .string ⟨#[116]⟩, .slice ca 3 cc, .slice ja 2 jc, .slice xa 1 xc]
/-- Both sources, found. -/
theorem sos_sel {W : World} {lo n : Nat} {vl : Value} {ca ja xa : Option Addr} {cc jc xc : Nat} (h : W.ownsRow lo 98 5 vl n (soC ⟨#[116]⟩ ca cc ja jc xa xc ++ soC ⟨#[117]⟩ ca cc ja jc xa xc)) (hn : n = 2) (ht : TbR W [.string ⟨#[116]⟩, .slice ca 3 cc, .slice ja 2 jc, .slice xa 1 xc] smallT) : SosR W vl selS := by
  subst hn
  refine slR_owns (cs := [soC ⟨#[116]⟩ ca cc ja jc xa xc, soC ⟨#[117]⟩ ca cc ja jc xa xc]) (by simpa using h) rfl (fun c hc => ?_) (fun i c x hc hx => ?_)
  · simp only [List.mem_cons, List.not_mem_nil, or_false] at hc
    rcases hc with rfl | rfl <;> rfl
  · match i with
    | 0 => cases hc; cases hx; exact ⟨_, rfl, ht⟩
    | 1 => cases hc; cases hx; exact ⟨_, rfl, ht⟩
    | n + 2 => cases hx
theorem soc_c2 (ca ja xa : Option Addr) (cc jc xc : Nat) : ∀ i, i < 2 → (soC ⟨#[116]⟩ ca cc ja jc xa xc ++ soC ⟨#[117]⟩ ca cc ja jc xa xc)[i * 5 + 1 + 1]? = some (.slice ca 3 cc)
  | 0, _ => rfl
  | 1, _ => rfl
theorem star_at (ca ja xa : Option Addr) (cc jc xc : Nat) : ∀ i k, i < 2 → k < 3 → ∃ (nm cn : ByteArray) (cl : PCol), raw6[3 * i + k]? = some (dotE nm cn 0) ∧ (soC ⟨#[116]⟩ ca cc ja jc xa xc ++ soC ⟨#[117]⟩ ca cc ja jc xa xc)[i * 5]? = some (.string nm) ∧ smallT.cols[k]? = some cl ∧ cl.name = cn
  | 0, 0, _, _ => ⟨_, _, _, rfl, rfl, rfl, rfl⟩
  | 0, 1, _, _ => ⟨_, _, _, rfl, rfl, rfl, rfl⟩
  | 0, 2, _, _ => ⟨_, _, _, rfl, rfl, rfl, rfl⟩
  | 1, 0, _, _ => ⟨_, _, _, rfl, rfl, rfl, rfl⟩
  | 1, 1, _, _ => ⟨_, _, _, rfl, rfl, rfl, rfl⟩
  | 1, 2, _, _ => ⟨_, _, _, rfl, rfl, rfl, rfl⟩
/-- An item of a row of items, cell by cell. -/
theorem item_cells {W : World} {lo gi n ic j : Nat} {l : List PE} {x : PE} (h : W.ownsRow lo 141 9 (.slice (some ⟨gi, 0, none⟩) n ic) n (l.map itCell).flatten) (hx : l[j]? = some x) :
    W.cell? ⟨gi, j * 9, none⟩ = some (.int .u8 (x.op : Int)) ∧ W.cell? ⟨gi, j * 9 + 1, none⟩ = some (.int .u8 (x.v.k : Int)) ∧ W.cell? ⟨gi, j * 9 + 2, none⟩ = some (.int .i64 x.v.n) ∧ W.cell? ⟨gi, j * 9 + 3, none⟩ = some (.string x.v.s) ∧ W.cell? ⟨gi, j * 9 + 4, none⟩ = some (.string x.t) ∧
    W.cell? ⟨gi, j * 9 + 5, none⟩ = some (.string x.m) ∧ W.cell? ⟨gi, j * 9 + 6, none⟩ = some (.int .i64 x.n) ∧ W.cell? ⟨gi, j * 9 + 7, none⟩ = some (.slice none 0 0) ∧ W.cell? ⟨gi, j * 9 + 8, none⟩ = some (.string ⟨#[]⟩) := by
  have hg : ∀ q u, (itCell x)[q]? = some u → W.cell? ⟨gi, j * 9 + q, none⟩ = some u := fun q u hq => by
    have h1 := World.ownsRow.cells h rfl (j * 9 + q) u (flatten_get (l.map itCell) j (itCell x) q u (fun c hc => by obtain ⟨z, _, rfl⟩ := List.mem_map.1 hc; rfl) (by rw [List.getElem?_map, hx]; rfl) hq)
    rw [Addr.add_lit, Nat.zero_add] at h1
    exact h1
  exact ⟨hg 0 _ rfl, hg 1 _ rfl, hg 2 _ rfl, hg 3 _ rfl, hg 4 _ rfl, hg 5 _ rfl, hg 6 _ rfl, hg 7 _ rfl, hg 8 _ rfl⟩
/-- Items that were asked for: cells, whatever their nil kids' header. -/
def ItL (j : Nat) (cs : List (List Value)) : Prop := cs.length = j ∧ ∀ (i : Nat) (c : List Value) (x : PE), cs[i]? = some c → itm6[i]? = some x → c.length = 9 ∧ ∀ u, ItemR u c (x, ⟨#[]⟩)
theorem itm_at : ∀ j, j < 6 → ∃ (nm cn : ByteArray) (p : Int), raw6[j]? = some (dotE nm cn 0) ∧ itm6[j]? = some (dotE nm cn p)
  | 0, _ => ⟨_, _, _, rfl, rfl⟩
  | 1, _ => ⟨_, _, _, rfl, rfl⟩
  | 2, _ => ⟨_, _, _, rfl, rfl⟩
  | 3, _ => ⟨_, _, _, rfl, rfl⟩
  | 4, _ => ⟨_, _, _, rfl, rfl⟩
  | 5, _ => ⟨_, _, _, rfl, rfl⟩
/-- What is known while a star's column is put down. -/
def StKn (n gl lc cb co cc i k m ic : Nat) (ia : Option Addr) (nm cn : ByteArray) (j : Nat) (v : Value) (w : World) : Prop := match j with
  | 0 => v = .pointer (some ⟨n, 9, none⟩)
  | 1 => v = .slice ia m ic
  | 2 => v = .slice (some ⟨gl, 0, none⟩) 2 lc
  | 3 => v = .int .i64 (i : Int)
  | 4 => v = .pointer (some ⟨gl, i * 5, none⟩)
  | 5 => v = .pointer (some ⟨gl, i * 5, none⟩)
  | 6 => v = .string nm
  | 7 => v = .slice (some ⟨gl, 0, none⟩) 2 lc
  | 8 => v = .int .i64 (i : Int)
  | 9 => v = .pointer (some ⟨gl, i * 5, none⟩)
  | 10 => v = .pointer (some ⟨gl, i * 5 + 1, none⟩)
  | 11 => v = .pointer (some ⟨gl, i * 5 + 1 + 1, none⟩)
  | 12 => v = .slice (some ⟨cb, co, none⟩) 3 cc
  | 13 => v = .int .i64 (k : Int)
  | 14 => v = .pointer (some ⟨cb, co + k * 3, none⟩)
  | 15 => v = .pointer (some ⟨cb, co + k * 3, none⟩)
  | 16 => v = .string cn
  | 17 => v = .agg #[.int .u8 2, .int .u8 0, .int .i64 0, .string ⟨#[]⟩, .string nm, .string cn, .int .i64 0, .slice none 0 0]
  | 18 => v = .agg #[.int .u8 2, .int .u8 0, .int .i64 0, .string ⟨#[]⟩, .string nm, .string cn, .int .i64 0, .slice none 0 0, .string ⟨#[]⟩]
  | _ => ∃ g, v = .slice (some ⟨g, 0, none⟩) 1 1 ∧ Row g 141 #[.int .u8 2, .int .u8 0, .int .i64 0, .string ⟨#[]⟩, .string nm, .string cn, .int .i64 0, .slice none 0 0, .string ⟨#[]⟩] w
theorem StKn.later {n gl lc cb co cc i k m ic : Nat} {ia : Option Addr} {nm cn : ByteArray} (j : Nat) (v : Value) (w1 w2 : World) (h : StKn n gl lc cb co cc i k m ic ia nm cn j v w1) (hb : Below w1.heap.size w1 w2) : StKn n gl lc cb co cc i k m ic ia nm cn j v w2 :=
  match j, h with
  | 0, h => h
  | 1, h => h
  | 2, h => h
  | 3, h => h
  | 4, h => h
  | 5, h => h
  | 6, h => h
  | 7, h => h
  | 8, h => h
  | 9, h => h
  | 10, h => h
  | 11, h => h
  | 12, h => h
  | 13, h => h
  | 14, h => h
  | 15, h => h
  | 16, h => h
  | 17, h => h
  | 18, h => h
  | _ + 19, ⟨g, e, h⟩ => ⟨g, e, h.later hb⟩
/-- What is known while an item that was asked for is put down. -/
def AkKn (n gi ic j oc : Nat) (oa ka : Option Addr) (kc : Nat) (nm cn : ByteArray) (p : Int) (k : Nat) (v : Value) (w : World) : Prop := match k with
  | 0 => v = .slice oa j oc
  | 1 => v = .agg #[.int .u8 2, .int .u8 0, .int .i64 0, .string ⟨#[]⟩, .string nm, .string cn, .int .i64 p, .slice ka 0 kc]
  | 2 => v = .pointer (some ⟨n, 9, none⟩)
  | 3 => v = .slice (some ⟨gi, 0, none⟩) 6 ic
  | 4 => v = .int .i64 (j : Int)
  | 5 => v = .pointer (some ⟨gi, j * 9, none⟩)
  | 6 => v = .pointer (some ⟨gi, j * 9 + 8, none⟩)
  | 7 => v = .string ⟨#[]⟩
  | 8 => v = .agg #[.int .u8 2, .int .u8 0, .int .i64 0, .string ⟨#[]⟩, .string nm, .string cn, .int .i64 p, .slice ka 0 kc, .string ⟨#[]⟩]
  | _ => ∃ g, v = .slice (some ⟨g, 0, none⟩) 1 1 ∧ Row g 141 #[.int .u8 2, .int .u8 0, .int .i64 0, .string ⟨#[]⟩, .string nm, .string cn, .int .i64 p, .slice ka 0 kc, .string ⟨#[]⟩] w
theorem AkKn.later {n gi ic j oc : Nat} {oa ka : Option Addr} {kc : Nat} {nm cn : ByteArray} {p : Int} (k : Nat) (v : Value) (w1 w2 : World) (h : AkKn n gi ic j oc oa ka kc nm cn p k v w1) (hb : Below w1.heap.size w1 w2) : AkKn n gi ic j oc oa ka kc nm cn p k v w2 :=
  match k, h with
  | 0, h => h
  | 1, h => h
  | 2, h => h
  | 3, h => h
  | 4, h => h
  | 5, h => h
  | 6, h => h
  | 7, h => h
  | 8, h => h
  | _ + 9, ⟨g, e, h⟩ => ⟨g, e, h.later hb⟩
/-- One item more. -/
theorem ItL.snoc {j : Nat} {cs : List (List Value)} {nm cn : ByteArray} {p : Int} {ka : Option Addr} {kc : Nat} (h : ItL j cs) (hy : itm6[j]? = some (dotE nm cn p)) :
    ItL (j + 1) (cs ++ [[.int .u8 2, .int .u8 0, .int .i64 0, .string ⟨#[]⟩, .string nm, .string cn, .int .i64 p, .slice ka 0 kc, .string ⟨#[]⟩]]) := by
  obtain ⟨h1, h2⟩ := h
  refine ⟨by simp [h1], fun i c x hc hx => ?_⟩
  rcases Nat.lt_or_ge i cs.length with hi | hi
  · rw [List.getElem?_append_left hi] at hc
    exact h2 i c x hc hx
  · rw [List.getElem?_append_right hi] at hc
    have hi0 : i - cs.length = 0 := by
      rcases hk : i - cs.length with _ | k
      · rfl
      · rw [hk] at hc; simp at hc
    obtain rfl : i = j := by omega
    rw [hi0] at hc
    simp only [List.getElem?_cons_zero, Option.some.injEq] at hc
    rw [hy] at hx
    cases hx
    subst hc
    exact ⟨rfl, fun u => ⟨_, rfl, exR_iff.2 ⟨_, rfl, slR_zero⟩⟩⟩
theorem itl_done {W : World} {lo oc : Nat} {oa : Option Addr} {cs : List (List Value)} (h : ItL 6 cs) (ho : W.ownsRow lo 141 9 (.slice oa 6 oc) 6 cs.flatten) : New lo W fun u => SlR 9 ItemR u (.slice oa 6 oc) (itm6.map fun x => (x, ⟨#[]⟩)) := by
  obtain ⟨h1, h2⟩ := h
  refine OwnL.done (e := 141) (cs := cs) ⟨by rw [h1]; exact ho, h1, fun i c x hc hx => ?_⟩
  rw [List.getElem?_map] at hx
  cases hy : itm6[i]? with
  | none => rw [hy] at hx; cases hx
  | some y =>
    rw [hy] at hx
    cases hx
    exact ⟨(h2 i c y hc hy).1, fun u _ => (h2 i c y hc hy).2 u⟩
attribute [local go_sem ↓] veilSt_sm veilLd_sm
attribute [local go_sem] run_smSt run_smNew run_smLd okRow16 Value.oneCell'
set_option maxRecDepth 100000 in
set_option maxHeartbeats 64000000 in
theorem choose6W (va : Option Addr) (vc : Nat) (a4 a5 a6 a7 a8 a11 a12 a13 a14 a10 : Option Addr) (n4 n5 n6 n7 n8 n11 n12 n13 n14 n10 : Nat) (w : World) (hcat : CatR w (.slice va 1 vc) [smallT]) (hs : SlR 3 SrcR w (.slice a10 2 n10) src6) :
    Calls Tryz.prog 36 #[.slice va 1 vc, .agg #[.int .u8 8, .string ⟨#[]⟩, .string ⟨#[]⟩, .bool false, .slice a4 0 n4, .slice a5 0 n5, .slice a6 0 n6, .slice a7 0 n7, .slice a8 0 n8, .slice none 0 0, .slice a10 2 n10, .slice a11 0 n11, .slice a12 0 n12, .slice a13 0 n13, .slice a14 0 n14, .int .i64 (-1)]] w fun e w' => ∃ c, e = .returned (.tuple #[.agg c, .int .i64 0]) ∧
      New w.heap.size w' (fun u => StR u c.toList { kind := 8, items := itm6.map fun x => (x, ⟨#[]⟩), src := [⟨⟨#[116]⟩, ⟨#[]⟩, []⟩, ⟨⟨#[116]⟩, ⟨#[117]⟩, [px6]⟩], limit := -1 }) ∧ Below w.heap.size w w' := by
  obtain ⟨b, o, ca, cc, ja, jc, xa, xc, rfl, htb, t0, t1, t2, t3⟩ := tb_ld hcat (k := 0) rfl (Below.refl _ w)
  obtain ⟨b10, o10, k10, rfl, _, _, _, _⟩ := src_at0 hs src6_0
  simp only [Nat.zero_mul, Nat.add_zero] at t0 t1 t2 t3
  have HTB := Lib.hid (show w.cell? ⟨b, o, none⟩ = some (.string ⟨#[116]⟩) ∧ w.cell? ⟨b, o + 1, none⟩ = some (.slice ca 3 cc) ∧ w.cell? ⟨b, o + 2, none⟩ = some (.slice ja 2 jc) ∧ w.cell? ⟨b, o + 3, none⟩ = some (.slice xa 1 xc) from ⟨t0, t1, t2, t3⟩)
  have HSR := Lib.hid hs
  have HCT := Lib.hid hcat
  have HTR := Lib.hid htb
  clear t0 t1 t2 t3 hs hcat htb
  obtain ⟨S, hS⟩ : ∃ S : Array Value, S = #[.int .u8 8, .string ⟨#[]⟩, .string ⟨#[]⟩, .bool false, .slice a4 0 n4, .slice a5 0 n5, .slice a6 0 n6, .slice a7 0 n7, .slice a8 0 n8, .slice none 0 0, .slice (some ⟨b10, o10, none⟩) 2 n10, .slice a11 0 n11, .slice a12 0 n12, .slice a13 0 n13, .slice a14 0 n14, .int .i64 (-1)] := ⟨_, rfl⟩
  have HSE := Lib.hid hS
  have hb1 := (Below.refl _ w).alloc (Nat.le_refl _) (.cells #[.int .u8 8, .string ⟨#[]⟩, .string ⟨#[]⟩, .bool false, .slice a4 0 n4, .slice a5 0 n5, .slice a6 0 n6, .slice a7 0 n7, .slice a8 0 n8, .slice none 0 0, .slice (some ⟨b10, o10, none⟩) 2 n10, .slice a11 0 n11, .slice a12 0 n12, .slice a13 0 n13, .slice a14 0 n14, .int .i64 (-1)] 35)
  have hb2 := (Below.refl _ (w.alloc (.cells #[.int .u8 8, .string ⟨#[]⟩, .string ⟨#[]⟩, .bool false, .slice a4 0 n4, .slice a5 0 n5, .slice a6 0 n6, .slice a7 0 n7, .slice a8 0 n8, .slice none 0 0, .slice (some ⟨b10, o10, none⟩) 2 n10, .slice a11 0 n11, .slice a12 0 n12, .slice a13 0 n13, .slice a14 0 n14, .int .i64 (-1)] 35))).alloc (Nat.le_refl _) (.cells stZ 35)
  have z1 : (w.alloc (.cells #[.int .u8 8, .string ⟨#[]⟩, .string ⟨#[]⟩, .bool false, .slice a4 0 n4, .slice a5 0 n5, .slice a6 0 n6, .slice a7 0 n7, .slice a8 0 n8, .slice none 0 0, .slice (some ⟨b10, o10, none⟩) 2 n10, .slice a11 0 n11, .slice a12 0 n12, .slice a13 0 n13, .slice a14 0 n14, .int .i64 (-1)] 35)).heap.size = w.heap.size + 1 := by simp
  have z2 : ((w.alloc (.cells #[.int .u8 8, .string ⟨#[]⟩, .string ⟨#[]⟩, .bool false, .slice a4 0 n4, .slice a5 0 n5, .slice a6 0 n6, .slice a7 0 n7, .slice a8 0 n8, .slice none 0 0, .slice (some ⟨b10, o10, none⟩) 2 n10, .slice a11 0 n11, .slice a12 0 n12, .slice a13 0 n13, .slice a14 0 n14, .int .i64 (-1)] 35)).alloc (.cells stZ 35)).heap.size = w.heap.size + 2 := by simp
  have hr2 := row_alloc (w.alloc (.cells #[.int .u8 8, .string ⟨#[]⟩, .string ⟨#[]⟩, .bool false, .slice a4 0 n4, .slice a5 0 n5, .slice a6 0 n6, .slice a7 0 n7, .slice a8 0 n8, .slice none 0 0, .slice (some ⟨b10, o10, none⟩) 2 n10, .slice a11 0 n11, .slice a12 0 n12, .slice a13 0 n13, .slice a14 0 n14, .int .i64 (-1)] 35)) 35 stZ
  rw [z1] at hr2
  have HA := Lib.hid (show Below w.heap.size w ((w.alloc (.cells #[.int .u8 8, .string ⟨#[]⟩, .string ⟨#[]⟩, .bool false, .slice a4 0 n4, .slice a5 0 n5, .slice a6 0 n6, .slice a7 0 n7, .slice a8 0 n8, .slice none 0 0, .slice (some ⟨b10, o10, none⟩) 2 n10, .slice a11 0 n11, .slice a12 0 n12, .slice a13 0 n13, .slice a14 0 n14, .int .i64 (-1)] 35)).alloc (.cells stZ 35)) ∧ Row w.heap.size 35 #[.int .u8 8, .string ⟨#[]⟩, .string ⟨#[]⟩, .bool false, .slice a4 0 n4, .slice a5 0 n5, .slice a6 0 n6, .slice a7 0 n7, .slice a8 0 n8, .slice none 0 0, .slice (some ⟨b10, o10, none⟩) 2 n10, .slice a11 0 n11, .slice a12 0 n12, .slice a13 0 n13, .slice a14 0 n14, .int .i64 (-1)] ((w.alloc (.cells #[.int .u8 8, .string ⟨#[]⟩, .string ⟨#[]⟩, .bool false, .slice a4 0 n4, .slice a5 0 n5, .slice a6 0 n6, .slice a7 0 n7, .slice a8 0 n8, .slice none 0 0, .slice (some ⟨b10, o10, none⟩) 2 n10, .slice a11 0 n11, .slice a12 0 n12, .slice a13 0 n13, .slice a14 0 n14, .int .i64 (-1)] 35)).alloc (.cells stZ 35)) ∧ Row (w.heap.size + 1) 35 stZ ((w.alloc (.cells #[.int .u8 8, .string ⟨#[]⟩, .string ⟨#[]⟩, .bool false, .slice a4 0 n4, .slice a5 0 n5, .slice a6 0 n6, .slice a7 0 n7, .slice a8 0 n8, .slice none 0 0, .slice (some ⟨b10, o10, none⟩) 2 n10, .slice a11 0 n11, .slice a12 0 n12, .slice a13 0 n13, .slice a14 0 n14, .int .i64 (-1)] 35)).alloc (.cells stZ 35)) from ⟨next hb1 hb2, (row_alloc w 35 #[.int .u8 8, .string ⟨#[]⟩, .string ⟨#[]⟩, .bool false, .slice a4 0 n4, .slice a5 0 n5, .slice a6 0 n6, .slice a7 0 n7, .slice a8 0 n8, .slice none 0 0, .slice (some ⟨b10, o10, none⟩) 2 n10, .slice a11 0 n11, .slice a12 0 n12, .slice a13 0 n13, .slice a14 0 n14, .int .i64 (-1)]).later hb2, hr2⟩)
  clear hb1 hb2 z1 hr2 hS
  go_enter Tryz.func36, Tryz.ntmps36
  go_upto_region 1 with fail
  generalize (w.alloc (.cells #[.int .u8 8, .string ⟨#[]⟩, .string ⟨#[]⟩, .bool false, .slice a4 0 n4, .slice a5 0 n5, .slice a6 0 n6, .slice a7 0 n7, .slice a8 0 n8, .slice none 0 0, .slice (some ⟨b10, o10, none⟩) 2 n10, .slice a11 0 n11, .slice a12 0 n12, .slice a13 0 n13, .slice a14 0 n14, .int .i64 (-1)] 35)).alloc (.cells stZ 35) = wA at *
  rw [← HSE.out]
  rw [← HSE.out] at HA
  have hb3 := (Below.refl _ wA).alloc (Nat.le_refl _) (.cells stZ 35)
  have hr3 := row_alloc wA 35 stZ
  rw [z2] at hr3
  have HJ1 : Hid (CJ w S (.slice none 0 0) 0 [] (.slice none 0 0) 0 [] (wA.alloc (.cells stZ 35))) := Lib.hid ⟨next HA.out.1 hb3, HA.out.2.1.later hb3, HA.out.2.2.later hb3, hr3, World.ownsRow_nil _ _ _ _, World.ownsRow_nil _ _ _ _, fun k hk => by simp [Value.ownBlock] at hk, by simp [z2]⟩
  have HZ2 := Lib.hid z2
  clear hb3 hr3 HA z2
  go_upto_region 2 with fail
  rw [HZ2.out]
  generalize wA.alloc (.cells stZ 35) = w1 at *
  clear HZ2
  have c9 := HJ1.out.x.cell (i := 9) (v := .slice none 0 0) (by rw [HSE.out]; rfl)
  have c10 := HJ1.out.x.cell (i := 10) (v := .slice (some ⟨b10, o10, none⟩) 2 n10) (by rw [HSE.out]; rfl)
  go_wp2_with fail
  clear c9 c10
  go_loopg [7, 8, 9] 2 (fun gk lv fv iv wr => ∃ (i : Nat) (la : Option Addr) (lc : Nat) (xl : List Value) (fa : Option Addr) (fc : Nat) (xf : List Value), lv = .slice la i lc ∧ fv = .slice fa i fc ∧ iv = .int .i64 (i : Int) ∧ gk = 2 - i ∧ Hid (CJ w S (.slice la i lc) i xl (.slice fa i fc) i xf wr) ∧
      ((i = 0 ∧ xl = [] ∧ xf = []) ∨ (i = 1 ∧ ∃ ya yc, xl = soC ⟨#[116]⟩ ca cc ja jc xa xc ∧ xf = [.string ⟨#[116]⟩, .string ⟨#[]⟩, .slice ya 0 yc]) ∨
        (i = 2 ∧ ∃ ya yc za zc, xl = soC ⟨#[116]⟩ ca cc ja jc xa xc ++ soC ⟨#[117]⟩ ca cc ja jc xa xc ∧ xf = [.string ⟨#[116]⟩, .string ⟨#[]⟩, .slice ya 0 yc] ++ [.string ⟨#[116]⟩, .string ⟨#[117]⟩, .slice za 1 zc] ∧ Hid (Dep (fun k => w.heap.size + 3 ≤ k ∧ (Value.slice fa i fc).ownBlock ≠ some k) wr fun u => ExsR u (.slice za 1 zc) [px6]))))
  case atStart => exact ⟨0, none, 0, [], none, 0, [], rfl, rfl, rfl, rfl, HJ1, .inl ⟨rfl, rfl, rfl⟩⟩
  case round =>
    obtain ⟨i, la, lc, xl, fa, fc, xf, rfl, rfl, rfl, rfl, HJ, hor⟩ := hrel
    clear HJ1
    rcases hor with ⟨hi, rfl, rfl⟩ | ⟨hi, ya, yc, rfl, rfl⟩ | ⟨hi, ya, yc, za, zc, rfl, rfl, HDP⟩
    · have hx : src6[i]? = some ⟨⟨#[116]⟩, ⟨#[]⟩, []⟩ := by rw [hi]; rfl
      have HI0 := Lib.hid hi
      have il0 : ¬ (0 : Int) < (i : Int) := by omega
      have ilt : (i : Int) < 2 := by omega
      have ige : (0 : Int) ≤ (i : Int) := by omega
      obtain ⟨b1, o1, k1, e1, p0, p1, p2, hon⟩ := src_at0 HSR.out hx
      cases e1
      have HON := Lib.hid hon
      obtain ⟨na, nc, rfl, _⟩ := hon.shape
      have p0 := (HJ.out.hb.cell (cell_lt p0)).trans p0
      have p1 := (HJ.out.hb.cell (cell_lt p1)).trans p1
      have p2 := (HJ.out.hb.cell (cell_lt p2)).trans p2
      change Hid (ExsR w (.slice na 0 nc) []) at HON
      change wr.cell? ⟨b10, o10 + i * 3 + 2, none⟩ = some (.slice na 0 nc) at p2
      change wr.cell? ⟨b10, o10 + i * 3 + 1, none⟩ = some (.string ⟨#[]⟩) at p1
      change wr.cell? ⟨b10, o10 + i * 3, none⟩ = some (.string ⟨#[116]⟩) at p0
      have c10 := HJ.out.x.cell (i := 10) (v := .slice (some ⟨b10, o10, none⟩) 2 n10) (by rw [HSE.out]; rfl)
      have hbx := (Below.refl _ wr).alloc (Nat.le_refl _) (.cells #[.string ⟨#[116]⟩, .string ⟨#[]⟩, .slice na 0 nc] 80)
      have HJ5 := Lib.hid (HJ.out.later hbx)
      have HY := Lib.hid (row_alloc wr 80 #[.string ⟨#[116]⟩, .string ⟨#[]⟩, .slice na 0 nc])
      have HGF : Hid (w.heap.size + 3 ≤ wr.heap.size ∧ (∀ k, (Value.slice la i lc).ownBlock = some k → k < wr.heap.size) ∧ ∀ k, (Value.slice fa i fc).ownBlock = some k → k < wr.heap.size) := Lib.hid ⟨HJ.out.sz, fun k hk => (World.ownsRow.lt HJ.out.ol k hk).2, fun k hk => (World.ownsRow.lt HJ.out.of k hk).2⟩
      clear hbx hon hx hi HJ
      go_upto_region 10 with fail
      clear p0 p1 p2 c10
      generalize wr.alloc (.cells #[.string ⟨#[116]⟩, .string ⟨#[]⟩, .slice na 0 nc] 80) = w5 at *
      generalize wr.heap.size = gf at *
      have l0 := HY.out.cell (i := 0) (v := .string ⟨#[116]⟩) rfl
      have l1 := HY.out.cell (i := 1) (v := .string ⟨#[]⟩) rfl
      have l2 := HY.out.cell (i := 2) (v := .slice na 0 nc) rfl
      have hf := findW [smallT] (some ⟨b, o, none⟩) vc ⟨#[116]⟩ w5 (by decide) (catR_below HCT.out HJ5.out.hb)
      rw [show idxL (fun x : PTb => decide (x.name = ⟨#[116]⟩)) [smallT] 0 = 0 by decide +kernel] at hf
      have HF := Lib.hid hf
      clear hf
      go_wp2_with fail
      refine HF.out.mono ?_
      rintro e5 w5' ⟨rfl, rfl⟩
      clear HF
      go_wp2_with fail
      go_loopg [13] 1 (fun gk iv wx => iv = .int .i64 0 ∧ gk = 1 ∧ w5 = wx)
      case atStart => exact ⟨rfl, rfl, rfl⟩
      case round =>
        obtain ⟨rfl, rfl, rfl⟩ := hrel
        have t0 := (HJ5.out.hb.cell (cell_lt HTB.out.1)).trans HTB.out.1
        have t1 := (HJ5.out.hb.cell (cell_lt HTB.out.2.1)).trans HTB.out.2.1
        have t2 := (HJ5.out.hb.cell (cell_lt HTB.out.2.2.1)).trans HTB.out.2.2.1
        have t3 := (HJ5.out.hb.cell (cell_lt HTB.out.2.2.2)).trans HTB.out.2.2.2
        have hba := (Below.refl _ w5).alloc (Nat.le_refl _) (.cells #[.string ⟨#[116]⟩, .string ⟨#[116]⟩, .slice ca 3 cc, .slice ja 2 jc, .slice xa 1 xc] 98)
        have hJ6 := HJ5.out.later hba
        obtain ⟨v6, w6, hrun, hown, hg6, hv6⟩ := pl_run_append (P := Tryz.prog) 99 99 98 5 104 elRso (w.heap.size + 3) (.slice la i lc) i [] hJ6.ol (.slice (some ⟨w5.heap.size, 0, none⟩) 1 1) 1 (#[.string ⟨#[116]⟩, .string ⟨#[116]⟩, .slice ca 3 cc, .slice ja 2 jc, .slice xa 1 xc] : Array Value).toList (prd_lit (row_alloc w5 _ _) rfl) (by simp [Value.oneCell']) (by have := HI0.out; unfold maxLen; omega) (by have := HI0.out; omega) hJ6.sz
        have HJ6 := Lib.hid (hJ6.appL hown hg6 hv6)
        have HY6 : Hid (Row gf 80 #[.string ⟨#[116]⟩, .string ⟨#[]⟩, .slice na 0 nc] w6) := Lib.hid ((hg6.block _ (HY.out.later hba).lt (fun e => by have := HGF.out.2.1 _ e.symm; omega)).trans (HY.out.later hba))
        have HNE : Hid ((Value.slice la i lc).ownBlock = (Value.slice la i lc).ownBlock ∧ ∀ k, v6.ownBlock = some k → k ≠ gf) := Lib.hid ⟨rfl, fun k hk e => by
          have hgl := (HY.out.later hba).lt
          rcases hv6 with h | h
          · have := HGF.out.2.1 k (h ▸ hk); omega
          · rw [h] at hk; cases hk; omega⟩
        obtain ⟨va6, vc6, rfl⟩ := own_slR hown
        clear hown hg6 hv6 hba hJ6 l0 l1 l2
        have l2 := HY6.out.cell (i := 2) (v := .slice na 0 nc) rfl
        have HC := Lib.hid (cond0W (.slice va6 (i + 1) vc6) na nc w6)
        go_upto_region 22 with (at_builtin; refine pl_list_run rfl (.tmp 92) (.tmp 99) 99 rfl rfl rfl hrun ?_)
        clear hrun t0 t1 t2 t3
        go_wp2_with fail
        refine HC.out.mono ?_
        rintro e7 w7 ⟨ov, rfl, hov, hb7⟩
        obtain ⟨ya, yc, rfl, _⟩ := hov.here.shape
        have HOV : Hid (New w6.heap.size w7 fun u => ExsR u (.slice ya 0 yc) []) := Lib.hid hov
        have HJ7 := Lib.hid (HJ6.out.later hb7)
        have HY7 := Lib.hid (HY6.out.later hb7)
        have HGL : Hid (gf < w6.heap.size) := Lib.hid HY6.out.lt
        have HGM : Hid (w6.heap.size ≤ w7.heap.size) := Lib.hid hb7.size
        clear hov hb7 HC HJ6 HY6 l2
        have l2 := HY7.out.cell (i := 2) (v := .slice na 0 nc) rfl
        have f2 := HY7.out.free 2
        go_upto_region 26 with fail
        clear l2 f2
        have hex := setCell_eq_setRow w7 gf 2 _ _ _ (.slice ya 0 yc) HY7.out
        have HY8 : Hid (Row gf 80 #[.string ⟨#[116]⟩, .string ⟨#[]⟩, .slice ya 0 yc] (w7.setCell ⟨gf, 2, none⟩ (.slice ya 0 yc))) := Lib.hid (by rw [hex]; exact HY7.out.set _)
        have HJ8 : Hid (CJ w S (.slice va6 (i + 1) vc6) (i + 1) _ (.slice fa i fc) i [] (w7.setCell ⟨gf, 2, none⟩ (.slice ya 0 yc))) := Lib.hid (by
          rw [hex]
          exact HJ7.out.other gf HGF.out.1 (fun e => HNE.out.2 _ e rfl) (fun e => by have := HGF.out.2.2 _ e; omega) _)
        have HOW : Hid (New w6.heap.size (w7.setCell ⟨gf, 2, none⟩ (.slice ya 0 yc)) fun u => ExsR u (.slice ya 0 yc) []) := Lib.hid (by
          rw [hex]
          exact HOV.out.step (by simp) fun b hb _ => ⟨hb, setRow_other _ _ _ _ (by have := HGL.out; omega)⟩)
        have HZ8 : Hid ((w7.setCell ⟨gf, 2, none⟩ (.slice ya 0 yc)).heap.size = w7.heap.size) := Lib.hid (by rw [hex]; simp)
        clear hex HJ7 HY7 HOV
        generalize w7.setCell ⟨gf, 2, none⟩ (.slice ya 0 yc) = w8 at *
        have l0 := HY8.out.cell (i := 0) (v := .string ⟨#[116]⟩) rfl
        have l1 := HY8.out.cell (i := 1) (v := .string ⟨#[]⟩) rfl
        have l2 := HY8.out.cell (i := 2) (v := .slice ya 0 yc) rfl
        have hba := (Below.refl _ w8).alloc (Nat.le_refl _) (.cells #[.string ⟨#[116]⟩, .string ⟨#[]⟩, .slice ya 0 yc] 80)
        have hJ9 := HJ8.out.later hba
        obtain ⟨v9, w9, hrun, hown, hg9, hv9⟩ := pl_run_append (P := Tryz.prog) 31 31 80 3 56 elSrc (w.heap.size + 3) (.slice fa i fc) i [] hJ9.of (.slice (some ⟨w8.heap.size, 0, none⟩) 1 1) 1 (#[.string ⟨#[116]⟩, .string ⟨#[]⟩, .slice ya 0 yc] : Array Value).toList (prd_lit (row_alloc w8 _ _) rfl) (by simp [Value.oneCell']) (by have := HI0.out; unfold maxLen; omega) (by have := HI0.out; omega) hJ9.sz
        have HJ9 := Lib.hid (hJ9.appF hown hg9 hv9)
        obtain ⟨va9, vc9, rfl⟩ := own_slR hown
        clear hown hg9 hv9 hba hJ9
        go_wp2_with (at_builtin; refine pl_list_run rfl (.tmp 114) (.tmp 116) 31 rfl rfl rfl hrun ?_)
        clear hrun l0 l1 l2
        go_wp2_with fail
        go_roundg (2 - (i + 1))
        case measure => have := HI0.out; omega
        case rel => exact ⟨i + 1, va6, vc6, _, va9, vc9, _, rfl, rfl, congrArg (Value.int .i64) (by have := HI0.out; omega), rfl, HJ9, .inr (.inl ⟨by have := HI0.out; omega, ya, yc, rfl, rfl⟩)⟩
    · have hx : src6[i]? = some ⟨⟨#[116]⟩, ⟨#[117]⟩, [rx6]⟩ := by rw [hi]; rfl
      have HI0 := Lib.hid hi
      have ilt : (i : Int) < 2 := by omega
      have ige : (0 : Int) ≤ (i : Int) := by omega
      obtain ⟨b1, o1, k1, e1, p0, p1, p2, hon⟩ := src_at0 HSR.out hx
      cases e1
      have HON := Lib.hid hon
      obtain ⟨na, nc, rfl, _⟩ := hon.shape
      have p0 := (HJ.out.hb.cell (cell_lt p0)).trans p0
      have p1 := (HJ.out.hb.cell (cell_lt p1)).trans p1
      have p2 := (HJ.out.hb.cell (cell_lt p2)).trans p2
      change Hid (ExsR w (.slice na 1 nc) [rx6]) at HON
      change wr.cell? ⟨b10, o10 + i * 3 + 2, none⟩ = some (.slice na 1 nc) at p2
      change wr.cell? ⟨b10, o10 + i * 3 + 1, none⟩ = some (.string ⟨#[117]⟩) at p1
      change wr.cell? ⟨b10, o10 + i * 3, none⟩ = some (.string ⟨#[116]⟩) at p0
      have c10 := HJ.out.x.cell (i := 10) (v := .slice (some ⟨b10, o10, none⟩) 2 n10) (by rw [HSE.out]; rfl)
      have hbx := (Below.refl _ wr).alloc (Nat.le_refl _) (.cells #[.string ⟨#[116]⟩, .string ⟨#[117]⟩, .slice na 1 nc] 80)
      have HJ5 := Lib.hid (HJ.out.later hbx)
      have HY := Lib.hid (row_alloc wr 80 #[.string ⟨#[116]⟩, .string ⟨#[117]⟩, .slice na 1 nc])
      have HGF : Hid (w.heap.size + 3 ≤ wr.heap.size ∧ (∀ k, (Value.slice la i lc).ownBlock = some k → k < wr.heap.size) ∧ ∀ k, (Value.slice fa i fc).ownBlock = some k → k < wr.heap.size) := Lib.hid ⟨HJ.out.sz, fun k hk => (World.ownsRow.lt HJ.out.ol k hk).2, fun k hk => (World.ownsRow.lt HJ.out.of k hk).2⟩
      clear hbx hon hx hi HJ
      go_upto_region 10 with fail
      clear p0 p1 p2 c10
      generalize wr.alloc (.cells #[.string ⟨#[116]⟩, .string ⟨#[117]⟩, .slice na 1 nc] 80) = w5 at *
      generalize wr.heap.size = gf at *
      have l0 := HY.out.cell (i := 0) (v := .string ⟨#[116]⟩) rfl
      have l1 := HY.out.cell (i := 1) (v := .string ⟨#[117]⟩) rfl
      have l2 := HY.out.cell (i := 2) (v := .slice na 1 nc) rfl
      have hf := findW [smallT] (some ⟨b, o, none⟩) vc ⟨#[116]⟩ w5 (by decide) (catR_below HCT.out HJ5.out.hb)
      rw [show idxL (fun x : PTb => decide (x.name = ⟨#[116]⟩)) [smallT] 0 = 0 by decide +kernel] at hf
      have HF := Lib.hid hf
      clear hf
      go_wp2_with fail
      refine HF.out.mono ?_
      rintro e5 w5' ⟨rfl, rfl⟩
      clear HF
      go_wp2_with fail
      go_loopg [13] 1 (fun gk iv wx => ∃ m : Nat, iv = .int .i64 (m : Int) ∧ gk = 1 - m ∧ m ≤ 1 ∧ w5 = wx)
      case atStart => exact ⟨0, rfl, rfl, by decide, rfl⟩
      case round =>
        obtain ⟨m, rfl, rfl, hm, rfl⟩ := hrel
        rcases Nat.lt_or_ge m 1 with hm1 | hm1
        · obtain rfl : m = 0 := by omega
          obtain ⟨g, e⟩ : ∃ g, la = some ⟨g, 0, none⟩ := by
            rcases HJ5.out.ol.2 with ⟨_, h0⟩ | ⟨g, cap, cur, e, _⟩
            · have := HI0.out; omega
            · cases e; exact ⟨g, rfl⟩
          subst e
          have q0 : w5.cell? ⟨g, 0, none⟩ = some (.string ⟨#[116]⟩) := by
            have := World.ownsRow.cells HJ5.out.ol rfl 0 (.string ⟨#[116]⟩) rfl
            rw [Addr.add_lit] at this
            exact this
          have il : (0 : Int) < (i : Int) := by have := HI0.out; omega
          have en : ((⟨#[116]⟩ : ByteArray) == ⟨#[117]⟩) = false := by decide
          go_wp2_with fail
          go_roundg 0
          case measure => exact Nat.zero_lt_one
          case rel => exact ⟨1, rfl, rfl, Nat.le_refl _, rfl⟩
        · obtain rfl : m = 1 := by omega
          have il1 : ¬ ((1 : Nat) : Int) < (i : Int) := by have := HI0.out; omega
          clear hm hm1
          have t0 := (HJ5.out.hb.cell (cell_lt HTB.out.1)).trans HTB.out.1
          have t1 := (HJ5.out.hb.cell (cell_lt HTB.out.2.1)).trans HTB.out.2.1
          have t2 := (HJ5.out.hb.cell (cell_lt HTB.out.2.2.1)).trans HTB.out.2.2.1
          have t3 := (HJ5.out.hb.cell (cell_lt HTB.out.2.2.2)).trans HTB.out.2.2.2
          have hba := (Below.refl _ w5).alloc (Nat.le_refl _) (.cells #[.string ⟨#[117]⟩, .string ⟨#[116]⟩, .slice ca 3 cc, .slice ja 2 jc, .slice xa 1 xc] 98)
          have hJ6 := HJ5.out.later hba
          obtain ⟨v6, w6, hrun, hown, hg6, hv6⟩ := pl_run_append (P := Tryz.prog) 99 99 98 5 104 elRso (w.heap.size + 3) (.slice la i lc) i (soC ⟨#[116]⟩ ca cc ja jc xa xc) hJ6.ol (.slice (some ⟨w5.heap.size, 0, none⟩) 1 1) 1 (#[.string ⟨#[117]⟩, .string ⟨#[116]⟩, .slice ca 3 cc, .slice ja 2 jc, .slice xa 1 xc] : Array Value).toList (prd_lit (row_alloc w5 _ _) rfl) (by simp [Value.oneCell']) (by have := HI0.out; unfold maxLen; omega) (by have := HI0.out; omega) hJ6.sz
          have HJ6 := Lib.hid (hJ6.appL hown hg6 hv6)
          have HY6 : Hid (Row gf 80 #[.string ⟨#[116]⟩, .string ⟨#[117]⟩, .slice na 1 nc] w6) := Lib.hid ((hg6.block _ (HY.out.later hba).lt (fun e => by have := HGF.out.2.1 _ e.symm; omega)).trans (HY.out.later hba))
          have HNE : Hid ((Value.slice la i lc).ownBlock = (Value.slice la i lc).ownBlock ∧ ∀ k, v6.ownBlock = some k → k ≠ gf) := Lib.hid ⟨rfl, fun k hk e => by
            have hgl := (HY.out.later hba).lt
            rcases hv6 with h | h
            · have := HGF.out.2.1 k (h ▸ hk); omega
            · rw [h] at hk; cases hk; omega⟩
          obtain ⟨va6, vc6, rfl⟩ := own_slR hown
          clear hown hg6 hv6 hba hJ6 l0 l1 l2
          have l2 := HY6.out.cell (i := 2) (v := .slice na 1 nc) rfl
          have hc := condW selS va6 vc6 rx6 px6 na nc w6 (by decide) selS_cols rx6_pt px6_ty (sos_sel (n := 2) (show w6.ownsRow (w.heap.size + 3) 98 5 (.slice va6 2 vc6) 2 (soC ⟨#[116]⟩ ca cc ja jc xa xc ++ soC ⟨#[117]⟩ ca cc ja jc xa xc) by have h := HJ6.out.ol; rw [HI0.out] at h; exact h) rfl (tbR_below HTR.out HJ6.out.hb)) (exsR_below HON.out HJ6.out.hb)
          rw [show selS.length = i + 1 by rw [HI0.out]; rfl] at hc
          have HC := Lib.hid hc
          clear hc
          go_upto_region 22 with (at_builtin; refine pl_list_run rfl (.tmp 92) (.tmp 99) 99 rfl rfl rfl hrun ?_)
          clear hrun t0 t1 t2 t3
          go_wp2_with fail
          refine HC.out.mono ?_
          rintro e7 w7 ⟨ov, rfl, hov, hb7⟩
          obtain ⟨ya2, yc2, rfl, _⟩ := hov.here.shape
          have HOV : Hid (New w6.heap.size w7 fun u => ExsR u (.slice ya2 1 yc2) [px6]) := Lib.hid hov
          have HJ7 := Lib.hid (HJ6.out.later hb7)
          have HY7 := Lib.hid (HY6.out.later hb7)
          have HGL : Hid (gf < w6.heap.size) := Lib.hid HY6.out.lt
          have HGM : Hid (w6.heap.size ≤ w7.heap.size) := Lib.hid hb7.size
          clear hov hb7 HC HJ6 HY6 l2
          have l2 := HY7.out.cell (i := 2) (v := .slice na 1 nc) rfl
          have f2 := HY7.out.free 2
          go_upto_region 26 with fail
          clear l2 f2
          have hex := setCell_eq_setRow w7 gf 2 _ _ _ (.slice ya2 1 yc2) HY7.out
          have HY8 : Hid (Row gf 80 #[.string ⟨#[116]⟩, .string ⟨#[117]⟩, .slice ya2 1 yc2] (w7.setCell ⟨gf, 2, none⟩ (.slice ya2 1 yc2))) := Lib.hid (by rw [hex]; exact HY7.out.set _)
          have HJ8 : Hid (CJ w S (.slice va6 (i + 1) vc6) (i + 1) _ (.slice fa i fc) i [.string ⟨#[116]⟩, .string ⟨#[]⟩, .slice ya 0 yc] (w7.setCell ⟨gf, 2, none⟩ (.slice ya2 1 yc2))) := Lib.hid (by
            rw [hex]
            exact HJ7.out.other gf HGF.out.1 (fun e => HNE.out.2 _ e rfl) (fun e => by have := HGF.out.2.2 _ e; omega) _)
          have HOW : Hid (New w6.heap.size (w7.setCell ⟨gf, 2, none⟩ (.slice ya2 1 yc2)) fun u => ExsR u (.slice ya2 1 yc2) [px6]) := Lib.hid (by
            rw [hex]
            exact HOV.out.step (by simp) fun b hb _ => ⟨hb, setRow_other _ _ _ _ (by have := HGL.out; omega)⟩)
          have HZ8 : Hid ((w7.setCell ⟨gf, 2, none⟩ (.slice ya2 1 yc2)).heap.size = w7.heap.size) := Lib.hid (by rw [hex]; simp)
          clear hex HJ7 HY7 HOV
          generalize w7.setCell ⟨gf, 2, none⟩ (.slice ya2 1 yc2) = w8 at *
          have l0 := HY8.out.cell (i := 0) (v := .string ⟨#[116]⟩) rfl
          have l1 := HY8.out.cell (i := 1) (v := .string ⟨#[117]⟩) rfl
          have l2 := HY8.out.cell (i := 2) (v := .slice ya2 1 yc2) rfl
          have hba := (Below.refl _ w8).alloc (Nat.le_refl _) (.cells #[.string ⟨#[116]⟩, .string ⟨#[117]⟩, .slice ya2 1 yc2] 80)
          have hJ9 := HJ8.out.later hba
          obtain ⟨v9, w9, hrun, hown, hg9, hv9⟩ := pl_run_append (P := Tryz.prog) 31 31 80 3 56 elSrc (w.heap.size + 3) (.slice fa i fc) i [.string ⟨#[116]⟩, .string ⟨#[]⟩, .slice ya 0 yc] hJ9.of (.slice (some ⟨w8.heap.size, 0, none⟩) 1 1) 1 (#[.string ⟨#[116]⟩, .string ⟨#[117]⟩, .slice ya2 1 yc2] : Array Value).toList (prd_lit (row_alloc w8 _ _) rfl) (by simp [Value.oneCell']) (by have := HI0.out; unfold maxLen; omega) (by have := HI0.out; omega) hJ9.sz
          have HJ9 := Lib.hid (hJ9.appF hown hg9 hv9)
          have HDP : Hid (Dep (fun k => w.heap.size + 3 ≤ k ∧ v9.ownBlock ≠ some k) w9 fun u => ExsR u (.slice ya2 1 yc2) [px6]) := Lib.hid (HOW.out.step (Nat.le_trans hba.size hg9.size) fun k hk hlt => by
            have h1 := HGF.out
            have h2 := HGL.out
            have h3 := HGM.out
            have h4 := HZ8.out
            have h5 : w8.heap.size ≤ (w8.alloc (.cells #[.string ⟨#[116]⟩, .string ⟨#[117]⟩, .slice ya2 1 yc2] 80)).heap.size := hba.size
            refine ⟨⟨by omega, fun e => ?_⟩, (hg9.block k (Nat.lt_of_lt_of_le hlt h5) (fun e => by have := h1.2.2 _ e.symm; omega)).trans (hba.block k hlt)⟩
            rcases hv9 with h | h
            · have := h1.2.2 k (h ▸ e); omega
            · rw [h] at e; cases e; omega)
          obtain ⟨va9, vc9, rfl⟩ := own_slR hown
          clear hown hg9 hv9 hba hJ9
          go_wp2_with (at_builtin; refine pl_list_run rfl (.tmp 114) (.tmp 116) 31 rfl rfl rfl hrun ?_)
          clear hrun l0 l1 l2
          go_wp2_with fail
          go_roundg (2 - (i + 1))
          case measure => have := HI0.out; omega
          case rel => exact ⟨i + 1, va6, vc6, _, va9, vc9, _, rfl, rfl, congrArg (Value.int .i64) (by have := HI0.out; omega), rfl, HJ9, .inr (.inr ⟨by have := HI0.out; omega, ya, yc, ya2, yc2, rfl, rfl, HDP⟩)⟩
    · subst hi
      obtain ⟨w1a, rfl⟩ : ∃ z, z = wr := ⟨wr, rfl⟩
      have hx : Row w.heap.size 35 #[.int .u8 8, .string ⟨#[]⟩, .string ⟨#[]⟩, .bool false, .slice a4 0 n4, .slice a5 0 n5, .slice a6 0 n6, .slice a7 0 n7, .slice a8 0 n8, .slice none 0 0, .slice (some ⟨b10, o10, none⟩) 2 n10, .slice a11 0 n11, .slice a12 0 n12, .slice a13 0 n13, .slice a14 0 n14, .int .i64 (-1)] w1a := by rw [← HSE.out]; exact HJ.out.x
      have HK0 : Hid (CK w w1a #[.int .u8 8, .string ⟨#[]⟩, .string ⟨#[]⟩, .bool false, .slice a4 0 n4, .slice a5 0 n5, .slice a6 0 n6, .slice a7 0 n7, .slice a8 0 n8, .slice none 0 0, .slice (some ⟨b10, o10, none⟩) 2 n10, .slice a11 0 n11, .slice a12 0 n12, .slice a13 0 n13, .slice a14 0 n14, .int .i64 (-1)] w1a) := Lib.hid ⟨hx, grown_refl _ _⟩
      have HFR : Hid (New (w.heap.size + 3) w1a fun u => SlR 3 SrcR u (.slice fa 2 fc) [⟨⟨#[116]⟩, ⟨#[]⟩, []⟩, ⟨⟨#[116]⟩, ⟨#[117]⟩, [px6]⟩]) := Lib.hid (OwnL.done (e := 80) (cs := [[.string ⟨#[116]⟩, .string ⟨#[]⟩, .slice ya 0 yc], [.string ⟨#[116]⟩, .string ⟨#[117]⟩, .slice za 1 zc]]) ⟨HJ.out.of, rfl, fun i c x hc hx => by
        match i with
        | 0 => cases hc; cases hx; exact ⟨rfl, fun u _ => ⟨_, rfl, slR_zero⟩⟩
        | 1 => cases hc; cases hx; exact ⟨rfl, HDP.out.imp fun u hu => ⟨_, rfl, hu⟩⟩
        | i + 2 => cases hx⟩)
      have c10 := hx.cell (i := 10) (v := .slice (some ⟨b10, o10, none⟩) 2 n10) rfl
      have f10 := hx.free 10
      clear hx HDP
      go_upto_region 28 with fail
      have HK1 := Lib.hid (HK0.out.put 10 (.slice fa 2 fc) #[.int .u8 8, .string ⟨#[]⟩, .string ⟨#[]⟩, .bool false, .slice a4 0 n4, .slice a5 0 n5, .slice a6 0 n6, .slice a7 0 n7, .slice a8 0 n8, .slice none 0 0, .slice fa 2 fc, .slice a11 0 n11, .slice a12 0 n12, .slice a13 0 n13, .slice a14 0 n14, .int .i64 (-1)] rfl)
      clear c10 f10 HK0
      generalize w1a.setCell ⟨w.heap.size, 10, none⟩ (.slice fa 2 fc) = w2 at *
      have c11 := HK1.out.x.cell (i := 11) (v := .slice a11 0 n11) rfl
      have HC := Lib.hid (cond0W (.slice la 2 lc) a11 n11 w2)
      go_wp2_with fail
      refine HC.out.mono ?_
      rintro e3 w3 ⟨hv, rfl, hhv, hb3⟩
      obtain ⟨ha, hc, rfl, _⟩ := hhv.here.shape
      have HK2 := Lib.hid (HK1.out.later hb3)
      clear hhv hb3 HC HK1 c11
      have c11 := HK2.out.x.cell (i := 11) (v := .slice a11 0 n11) rfl
      have f11 := HK2.out.x.free 11
      go_upto_region 32 with fail
      clear c11 f11
      have HK3 : Hid (CK w w1a #[.int .u8 8, .string ⟨#[]⟩, .string ⟨#[]⟩, .bool false, .slice a4 0 n4, .slice a5 0 n5, .slice a6 0 n6, .slice a7 0 n7, .slice a8 0 n8, .slice none 0 0, .slice fa 2 fc, .slice ha 0 hc, .slice a12 0 n12, .slice a13 0 n13, .slice a14 0 n14, .int .i64 (-1)] (w3.setCell ⟨w.heap.size, 11, none⟩ (.slice ha ([] : List PE).length hc))) := Lib.hid (HK2.out.put 11 (.slice ha 0 hc) #[.int .u8 8, .string ⟨#[]⟩, .string ⟨#[]⟩, .bool false, .slice a4 0 n4, .slice a5 0 n5, .slice a6 0 n6, .slice a7 0 n7, .slice a8 0 n8, .slice none 0 0, .slice fa 2 fc, .slice ha 0 hc, .slice a12 0 n12, .slice a13 0 n13, .slice a14 0 n14, .int .i64 (-1)] rfl)
      clear HK2
      generalize w3.setCell ⟨w.heap.size, 11, none⟩ (.slice ha ([] : List PE).length hc) = w4 at *
      go_wp2_with fail
      go_loopg [18, 19, 20] 1 (fun gk gv bv iv wx => gv = .slice none 0 0 ∧ bv = .slice none 0 0 ∧ iv = .int .i64 0 ∧ gk = 1 ∧ w4 = wx)
      case atStart => exact ⟨rfl, rfl, rfl, rfl, rfl⟩
      case round =>
        obtain ⟨rfl, rfl, rfl, rfl, rfl⟩ := hrel
        have c12 := HK3.out.x.cell (i := 12) (v := .slice a12 0 n12) rfl
        have f12 := HK3.out.x.free 12
        go_upto_region 45 with fail
        clear c12 f12
        have HK4 := Lib.hid (HK3.out.put 12 (.slice none 0 0) #[.int .u8 8, .string ⟨#[]⟩, .string ⟨#[]⟩, .bool false, .slice a4 0 n4, .slice a5 0 n5, .slice a6 0 n6, .slice a7 0 n7, .slice a8 0 n8, .slice none 0 0, .slice fa 2 fc, .slice ha 0 hc, .slice none 0 0, .slice a13 0 n13, .slice a14 0 n14, .int .i64 (-1)] rfl)
        clear HK3
        generalize w4.setCell ⟨w.heap.size, 12, none⟩ (.slice none 0 0) = w5 at *
        go_wp2_with fail
        go_loopg [23, 24] 1 (fun gk bv iv wx => bv = .bool false ∧ iv = .int .i64 0 ∧ gk = 1 ∧ w5 = wx)
        case atStart => exact ⟨rfl, rfl, rfl, rfl⟩
        case round =>
          obtain ⟨rfl, rfl, rfl, rfl⟩ := hrel
          have c9 := HK4.out.x.cell (i := 9) (v := .slice none 0 0) rfl
          go_wp2_with fail
          clear c9
          go_loopg [23, 25] 1 (fun gk bv iv wx => bv = .bool false ∧ iv = .int .i64 0 ∧ gk = 1 ∧ w5 = wx)
          case atStart => exact ⟨rfl, rfl, rfl, rfl⟩
          case round =>
            obtain ⟨rfl, rfl, rfl, rfl⟩ := hrel
            have c13 := HK4.out.x.cell (i := 13) (v := .slice a13 0 n13) rfl
            go_wp2_with fail
            clear c13
            go_loopg [23, 26] 1 (fun gk bv iv wx => bv = .bool false ∧ iv = .int .i64 0 ∧ gk = 1 ∧ w5 = wx)
            case atStart => exact ⟨rfl, rfl, rfl, rfl⟩
            case round =>
              obtain ⟨rfl, rfl, rfl, rfl⟩ := hrel
              have c14 := HK4.out.x.cell (i := 14) (v := .slice a14 0 n14) rfl
              have c13 := HK4.out.x.cell (i := 13) (v := .slice a13 0 n13) rfl
              have c9 := HK4.out.x.cell (i := 9) (v := .slice none 0 0) rfl
              go_wp2_with fail
              clear c9 c13 c14
              obtain ⟨Z9, hZ9⟩ : ∃ Z9 : Value → Array Value, Z9 = fun v => #[.int .u8 8, .string ⟨#[]⟩, .string ⟨#[]⟩, .bool false, .slice a4 0 n4, .slice a5 0 n5, .slice a6 0 n6, .slice a7 0 n7, .slice a8 0 n8, v, .slice fa 2 fc, .slice ha 0 hc, .slice none 0 0, .slice a13 0 n13, .slice a14 0 n14, .int .i64 (-1)] := ⟨_, rfl⟩
              have HZ9 := Lib.hid hZ9
              have HI0 : Hid (IT w w1a w5.heap.size Z9 (.slice none 0 0) 0 w5) := Lib.hid ⟨by rw [hZ9]; exact HK4.out, World.ownsRow_nil _ _ _ _, by have := HJ.out.sz; omega, HK4.out.g.size, Nat.le_refl _⟩
              obtain ⟨gl, e⟩ : ∃ gl, la = some ⟨gl, 0, none⟩ := by
                rcases HJ.out.ol.2 with ⟨_, h0⟩ | ⟨g, cap, cur, e, _⟩
                · cases h0
                · cases e; exact ⟨g, rfl⟩
              subst e
              have HLC : Hid (∀ (j : Nat) (u : Value), (soC ⟨#[116]⟩ ca cc ja jc xa xc ++ soC ⟨#[117]⟩ ca cc ja jc xa xc)[j]? = some u → ∀ W, w1a.grownBy W (some w.heap.size) → W.cell? ⟨gl, j, none⟩ = some u) := Lib.hid fun j u hj W hg => by
                have h1 := World.ownsRow.cells (World.ownsRow.kept HJ.out.ol hg (.inr fun e => by have := (World.ownsRow.lt HJ.out.ol _ e).1; omega)) rfl j u hj
                rw [Addr.add_lit, Nat.zero_add] at h1
                exact h1
              clear hZ9 HK4
              go_loopg [27] 2 (fun gk iv wx => ∃ (i : Nat) (ia : Option Addr) (ic : Nat), iv = .int .i64 (i : Int) ∧ gk = 2 - i ∧ i ≤ 2 ∧ Hid (IT w w1a w5.heap.size Z9 (.slice ia (3 * i) ic) (3 * i) wx))
              case atStart => exact ⟨0, none, 0, rfl, rfl, by decide, HI0⟩
              case round =>
                obtain ⟨i, ia, ic, rfl, rfl, hi, HIT⟩ := hrel
                clear HI0
                rcases Nat.lt_or_ge i 2 with hlt | hge
                · have HLT := Lib.hid hlt
                  have ilt : (i : Int) < 2 := Int.ofNat_lt.2 hlt
                  have ige : (0 : Int) ≤ (i : Int) := Int.natCast_nonneg i
                  clear hi hlt
                  go_wp2_with fail
                  go_loopg [28] 3 (fun gk kv wx => ∃ (k : Nat) (ia : Option Addr) (ic : Nat), kv = .int .i64 (k : Int) ∧ gk = 3 - k ∧ k ≤ 3 ∧ Hid (IT w w1a w5.heap.size Z9 (.slice ia (3 * i + k) ic) (3 * i + k) wx))
                  case atStart => exact ⟨0, ia, ic, rfl, rfl, by decide, HIT⟩
                  case round =>
                    obtain ⟨k, ia, ic, rfl, rfl, hk, HIT⟩ := hrel
                    have lc2 : wr.cell? ⟨gl, i * 5 + 1 + 1, none⟩ = some (.slice ca 3 cc) := HLC.out _ _ (soc_c2 ca ja xa cc jc xc i HLT.out) _ HIT.out.ck.g
                    rcases Nat.lt_or_ge k 3 with hk3 | hk3
                    · have klt : (k : Int) < 3 := Int.ofNat_lt.2 hk3
                      have kge : (0 : Int) ≤ (k : Int) := Int.natCast_nonneg k
                      have HK3 := Lib.hid hk3
                      clear hk hk3
                      go_wp2_with fail
                      obtain ⟨nm, cn, cl, hx, h1, h2, h3⟩ := star_at ca ja xa cc jc xc i k HLT.out HK3.out
                      have HXI := Lib.hid hx
                      have HL6 : Hid (wr.cell? ⟨gl, i * 5, none⟩ = some (.string nm)) := Lib.hid (HLC.out _ _ h1 _ HIT.out.ck.g)
                      have HL12 : Hid (wr.cell? ⟨gl, i * 5 + 1 + 1, none⟩ = some (.slice ca 3 cc)) := Lib.hid lc2
                      have HBN : Hid (Below w.heap.size w wr) := Lib.hid ⟨HIT.out.ck.g.os.trans HJ.out.hb.os, HIT.out.ck.g.tape.trans HJ.out.hb.tape, HIT.out.ck.g.output.trans HJ.out.hb.output, Nat.le_trans HJ.out.hb.size HIT.out.ck.g.size, fun q hq => (HIT.out.ck.g.block q (Nat.lt_of_lt_of_le hq HJ.out.hb.size) (fun e => by cases e; omega)).trans (HJ.out.hb.block q hq)⟩
                      obtain ⟨cb, co, hca, hc0⟩ : ∃ cb co, ca = some ⟨cb, co, none⟩ ∧ w.cell? ⟨cb, co + k * 3, none⟩ = some (.string cn) := by
                        obtain ⟨cv, kv, iv, e, hcv, _, _⟩ := HTR.out
                        simp only [List.cons.injEq, and_true, true_and] at e
                        obtain ⟨rfl, rfl, rfl⟩ := e
                        obtain ⟨cb, co, e, c0, _⟩ := col_at hcv h2
                        exact ⟨cb, co, e, by rw [← h3]; exact c0⟩
                      subst hca
                      have HL16 : Hid (wr.cell? ⟨cb, co + k * 3, none⟩ = some (.string cn)) := Lib.hid ((HBN.out.cell (cell_lt hc0)).trans hc0)
                      clear hx h1 h2 h3 hc0 lc2
                      refine wp_region_kipt 20 (StKn w.heap.size gl lc cb co cc i k (3 * i + k) ic ia nm cn) 395 rfl (by kernel_rfl) (by kernel_rfl) StKn.later ?_ ?_
                      · intro j hj A A2 hother hbW hd
                        match j, hj with
                        | 0, hj =>
                          have h0 := tmps_at (show A.eval (.tmp 3) = .pointer (some ⟨w.heap.size, 0, none⟩) from hother 3 (by kernel_rfl))
                          clear hother hd hj
                          exact kip_same rfl (wanted_none rfl) (.pointer (some ⟨w.heap.size, 9, none⟩)) (by simp only [execOp]; go_simp) rfl
                        | 1, hj =>
                          have h0 := tmps_at ((hd _ rfl ⟨0, .data⟩ (by simp) rfl).eq (.pointer (some ⟨w.heap.size, 9, none⟩)) (fun _ h => h) 264 (by kernel_rfl) (by decide))
                          have l1 := (HIT.out.ck.x.later hbW).cell (i := 9) (v := .slice ia (3 * i + k) ic) (by rw [HZ9.out]; rfl)
                          clear hother hd hj
                          exact kip_same rfl (wanted_none rfl) (.slice ia (3 * i + k) ic) (by simp only [execOp]; go_simp) rfl
                        | 2, hj =>
                          have h0 := tmps_at (show A.eval (.tmp 7) = .slice (some ⟨gl, 0, none⟩) 2 lc from hother 7 (by kernel_rfl))
                          clear hother hd hj
                          exact kip_same rfl (wanted_none rfl) (.slice (some ⟨gl, 0, none⟩) 2 lc) (by simp only [execOp]; go_simp) rfl
                        | 3, hj =>
                          have h0 := tmps_at (show A.eval (.tmp 27) = .int .i64 (i : Int) from hother 27 (by kernel_rfl))
                          clear hother hd hj
                          exact kip_same rfl (wanted_none rfl) (.int .i64 (i : Int)) (by simp only [execOp]; go_simp) rfl
                        | 4, hj =>
                          have h0 := tmps_at ((hd _ rfl ⟨2, .data⟩ (by simp) rfl).eq (.slice (some ⟨gl, 0, none⟩) 2 lc) (fun _ h => h) 266 (by kernel_rfl) (by decide))
                          have h1 := tmps_at ((hd _ rfl ⟨3, .data⟩ (by simp) rfl).eq (.int .i64 (i : Int)) (fun _ h => h) 267 (by kernel_rfl) (by decide))
                          clear hother hd hj
                          exact kip_same rfl (wanted_none rfl) (.pointer (some ⟨gl, i * 5, none⟩)) (by simp only [execOp]; go_simp) rfl
                        | 5, hj =>
                          have h0 := tmps_at ((hd _ rfl ⟨4, .data⟩ (by simp) rfl).eq (.pointer (some ⟨gl, i * 5, none⟩)) (fun _ h => h) 268 (by kernel_rfl) (by decide))
                          clear hother hd hj
                          exact kip_same rfl (wanted_none rfl) (.pointer (some ⟨gl, i * 5, none⟩)) (by simp only [execOp]; go_simp) rfl
                        | 6, hj =>
                          have h0 := tmps_at ((hd _ rfl ⟨5, .data⟩ (by simp) rfl).eq (.pointer (some ⟨gl, i * 5, none⟩)) (fun _ h => h) 269 (by kernel_rfl) (by decide))
                          have l6 := (hbW.cell (cell_lt HL6.out)).trans HL6.out
                          clear hother hd hj
                          exact kip_same rfl (wanted_none rfl) (.string nm) (by simp only [execOp]; go_simp) rfl
                        | 7, hj =>
                          have h0 := tmps_at (show A.eval (.tmp 7) = .slice (some ⟨gl, 0, none⟩) 2 lc from hother 7 (by kernel_rfl))
                          clear hother hd hj
                          exact kip_same rfl (wanted_none rfl) (.slice (some ⟨gl, 0, none⟩) 2 lc) (by simp only [execOp]; go_simp) rfl
                        | 8, hj =>
                          have h0 := tmps_at (show A.eval (.tmp 27) = .int .i64 (i : Int) from hother 27 (by kernel_rfl))
                          clear hother hd hj
                          exact kip_same rfl (wanted_none rfl) (.int .i64 (i : Int)) (by simp only [execOp]; go_simp) rfl
                        | 9, hj =>
                          have h0 := tmps_at ((hd _ rfl ⟨7, .data⟩ (by simp) rfl).eq (.slice (some ⟨gl, 0, none⟩) 2 lc) (fun _ h => h) 271 (by kernel_rfl) (by decide))
                          have h1 := tmps_at ((hd _ rfl ⟨8, .data⟩ (by simp) rfl).eq (.int .i64 (i : Int)) (fun _ h => h) 272 (by kernel_rfl) (by decide))
                          clear hother hd hj
                          exact kip_same rfl (wanted_none rfl) (.pointer (some ⟨gl, i * 5, none⟩)) (by simp only [execOp]; go_simp) rfl
                        | 10, hj =>
                          have h0 := tmps_at ((hd _ rfl ⟨9, .data⟩ (by simp) rfl).eq (.pointer (some ⟨gl, i * 5, none⟩)) (fun _ h => h) 273 (by kernel_rfl) (by decide))
                          clear hother hd hj
                          exact kip_same rfl (wanted_none rfl) (.pointer (some ⟨gl, i * 5 + 1, none⟩)) (by simp only [execOp]; go_simp) rfl
                        | 11, hj =>
                          have h0 := tmps_at ((hd _ rfl ⟨10, .data⟩ (by simp) rfl).eq (.pointer (some ⟨gl, i * 5 + 1, none⟩)) (fun _ h => h) 274 (by kernel_rfl) (by decide))
                          clear hother hd hj
                          exact kip_same rfl (wanted_none rfl) (.pointer (some ⟨gl, i * 5 + 1 + 1, none⟩)) (by simp only [execOp]; go_simp) rfl
                        | 12, hj =>
                          have h0 := tmps_at ((hd _ rfl ⟨11, .data⟩ (by simp) rfl).eq (.pointer (some ⟨gl, i * 5 + 1 + 1, none⟩)) (fun _ h => h) 275 (by kernel_rfl) (by decide))
                          have l12 := (hbW.cell (cell_lt HL12.out)).trans HL12.out
                          clear hother hd hj
                          exact kip_same rfl (wanted_none rfl) (.slice (some ⟨cb, co, none⟩) 3 cc) (by simp only [execOp]; go_simp) rfl
                        | 13, hj =>
                          have h0 := tmps_at (show A.eval (.tmp 28) = .int .i64 (k : Int) from hother 28 (by kernel_rfl))
                          clear hother hd hj
                          exact kip_same rfl (wanted_none rfl) (.int .i64 (k : Int)) (by simp only [execOp]; go_simp) rfl
                        | 14, hj =>
                          have h0 := tmps_at ((hd _ rfl ⟨12, .data⟩ (by simp) rfl).eq (.slice (some ⟨cb, co, none⟩) 3 cc) (fun _ h => h) 276 (by kernel_rfl) (by decide))
                          have h1 := tmps_at ((hd _ rfl ⟨13, .data⟩ (by simp) rfl).eq (.int .i64 (k : Int)) (fun _ h => h) 277 (by kernel_rfl) (by decide))
                          clear hother hd hj
                          exact kip_same rfl (wanted_none rfl) (.pointer (some ⟨cb, co + k * 3, none⟩)) (by simp only [execOp]; go_simp) rfl
                        | 15, hj =>
                          have h0 := tmps_at ((hd _ rfl ⟨14, .data⟩ (by simp) rfl).eq (.pointer (some ⟨cb, co + k * 3, none⟩)) (fun _ h => h) 278 (by kernel_rfl) (by decide))
                          clear hother hd hj
                          exact kip_same rfl (wanted_none rfl) (.pointer (some ⟨cb, co + k * 3, none⟩)) (by simp only [execOp]; go_simp) rfl
                        | 16, hj =>
                          have h0 := tmps_at ((hd _ rfl ⟨15, .data⟩ (by simp) rfl).eq (.pointer (some ⟨cb, co + k * 3, none⟩)) (fun _ h => h) 279 (by kernel_rfl) (by decide))
                          have l16 := (hbW.cell (cell_lt HL16.out)).trans HL16.out
                          clear hother hd hj
                          exact kip_same rfl (wanted_none rfl) (.string cn) (by simp only [execOp]; go_simp) rfl
                        | 17, hj =>
                          have h0 := tmps_at ((hd _ rfl ⟨6, .data⟩ (by simp) rfl).eq (.string nm) (fun _ h => h) 270 (by kernel_rfl) (by decide))
                          have h1 := tmps_at ((hd _ rfl ⟨16, .data⟩ (by simp) rfl).eq (.string cn) (fun _ h => h) 280 (by kernel_rfl) (by decide))
                          clear hother hd hj
                          exact kip_same rfl (wanted_none rfl) (.agg #[.int .u8 2, .int .u8 0, .int .i64 0, .string ⟨#[]⟩, .string nm, .string cn, .int .i64 0, .slice none 0 0]) (by simp only [execOp]; go_simp) rfl
                        | 18, hj =>
                          have h0 := tmps_at ((hd _ rfl ⟨17, .data⟩ (by simp) rfl).eq (.agg #[.int .u8 2, .int .u8 0, .int .i64 0, .string ⟨#[]⟩, .string nm, .string cn, .int .i64 0, .slice none 0 0]) (fun _ h => h) 281 (by kernel_rfl) (by decide))
                          clear hother hd hj
                          exact kip_same rfl (wanted_none rfl) (.agg #[.int .u8 2, .int .u8 0, .int .i64 0, .string ⟨#[]⟩, .string nm, .string cn, .int .i64 0, .slice none 0 0, .string ⟨#[]⟩]) (by simp only [execOp]; go_simp) rfl
                        | 19, hj =>
                          have h0 := tmps_at ((hd _ rfl ⟨18, .data⟩ (by simp) rfl).eq (.agg #[.int .u8 2, .int .u8 0, .int .i64 0, .string ⟨#[]⟩, .string nm, .string cn, .int .i64 0, .slice none 0 0, .string ⟨#[]⟩]) (fun _ h => h) 282 (by kernel_rfl) (by decide))
                          clear hother hd hj
                          exact kip_val rfl (wanted_none rfl) (.slice (some ⟨A2.heap.size, 0, none⟩) 1 1) (A2.alloc (.cells #[.int .u8 2, .int .u8 0, .int .i64 0, .string ⟨#[]⟩, .string nm, .string cn, .int .i64 0, .slice none 0 0, .string ⟨#[]⟩] 141)) (by simp only [execOp]; go_simp) ((Below.refl _ _).alloc (Nat.le_refl _) _) ⟨_, rfl, row_alloc _ _ _⟩
                        | j + 20, hj => exact absurd hj (by omega)
                      intro us w7 hb7 hk
                      have e1 : us 1 = .slice ia (3 * i + k) ic := hk 1 (by decide)
                      obtain ⟨g19, e19, hr19⟩ : ∃ g, us 19 = .slice (some ⟨g, 0, none⟩) 1 1 ∧ Row g 141 #[.int .u8 2, .int .u8 0, .int .i64 0, .string ⟨#[]⟩, .string nm, .string cn, .int .i64 0, .slice none 0 0, .string ⟨#[]⟩] w7 := hk 19 (by decide)
                      have HI7 := HIT.out.later hb7
                      obtain ⟨v8, w8, hrun, hown, hg8, hv8⟩ := pl_run_append (P := Tryz.prog) 30 30 141 9 120 elItem w5.heap.size (.slice ia (3 * i + k) ic) (3 * i + k) _ HI7.own (.slice (some ⟨g19, 0, none⟩) 1 1) 1 (#[.int .u8 2, .int .u8 0, .int .i64 0, .string ⟨#[]⟩, .string nm, .string cn, .int .i64 0, .slice none 0 0, .string ⟨#[]⟩] : Array Value).toList (prd_lit hr19 rfl) (by simp [Value.oneCell']) (by have h1 := HLT.out; have h2 := HK3.out; unfold maxLen; omega) (by have h1 := HLT.out; have h2 := HK3.out; omega) HI7.l2
                      obtain ⟨ia8, ic8, rfl⟩ := own_slR hown
                      obtain ⟨hrw, hi8⟩ := HI7.app (x := dotE nm cn 0) hown hg8 HXI.out (by rw [HZ9.out]; rfl)
                      have c9 := hrw.cell (i := 9) (v := .slice ia (3 * i + k) ic) (by rw [HZ9.out]; rfl)
                      have f9 := hrw.free 9
                      have HI8 := Lib.hid hi8
                      clear hk hb7 hr19 hown hg8 hv8 hrw hi8 HI7 HIT
                      simp only [putAll, dstOf, Act.put, List.getElem?_toArray, List.getElem?_cons_zero, List.getElem?_cons_succ, Option.bind_some, List.drop_succ_cons, List.drop_zero]
                      simp only [List.setIfInBounds_toArray, List.set_cons_zero, List.set_cons_succ]
                      rw [e1, e19]
                      refine pl_list_run rfl (.tmp 265) (.tmp 283) 30 rfl rfl rfl hrun ?_
                      clear hrun e1 e19
                      go_wp2_with fail
                      clear c9 f9
                      go_roundg (3 - (k + 1))
                      case measure => exact Nat.sub_lt_sub_left HK3.out (Nat.lt_succ_self _)
                      case rel => exact ⟨k + 1, ia8, ic8, congrArg (Value.int .i64) (Int.natCast_succ k).symm, rfl, HK3.out, HI8⟩
                    · obtain rfl : k = 3 := Nat.le_antisymm hk hk3
                      clear hk hk3
                      go_wp2_with fail
                      clear lc2
                      go_roundg (2 - (i + 1))
                      case measure => exact Nat.sub_lt_sub_left HLT.out (Nat.lt_succ_self _)
                      case rel => exact ⟨i + 1, ia, ic, congrArg (Value.int .i64) (Int.natCast_succ i).symm, rfl, HLT.out, HIT⟩
                · obtain rfl : i = 2 := Nat.le_antisymm hi hge
                  clear hi hge
                  have c9 := HIT.out.ck.x.cell (i := 9) (v := .slice ia (3 * 2) ic) (by rw [HZ9.out]; rfl)
                  go_wp2_with fail
                  clear c9
                  obtain ⟨w9a, rfl⟩ : ∃ z, z = wr := ⟨wr, rfl⟩
                  obtain ⟨gi, e⟩ : ∃ gi, ia = some ⟨gi, 0, none⟩ := by
                    rcases HIT.out.own.2 with ⟨_, h0⟩ | ⟨g, cap, cur, e, _⟩
                    · cases h0
                    · cases e; exact ⟨g, rfl⟩
                  subst e
                  have HOW0 : Hid (ItL 0 [] ∧ w9a.ownsRow w9a.heap.size 141 9 (.slice none 0 0) 0 [] ∧ Below w9a.heap.size w9a w9a) := Lib.hid ⟨⟨rfl, fun i c x h => by simp at h⟩, World.ownsRow_nil _ _ _ _, Below.refl _ _⟩
                  go_loopg [29, 30] 6 (fun gk ov iv wx => ∃ (j : Nat) (oa : Option Addr) (oc : Nat) (cs : List (List Value)), ov = .slice oa j oc ∧ iv = .int .i64 (j : Int) ∧ gk = 6 - j ∧ j ≤ 6 ∧ Hid (ItL j cs ∧ wx.ownsRow w9a.heap.size 141 9 (.slice oa j oc) j cs.flatten ∧ Below w9a.heap.size w9a wx))
                  case atStart => exact ⟨0, none, 0, [], rfl, rfl, rfl, by decide, HOW0⟩
                  case round =>
                    obtain ⟨j, oa, oc, ccs, rfl, rfl, rfl, hj, HOW⟩ := hrel
                    clear HOW0
                    have c9 := (HIT.out.ck.x.later HOW.out.2.2).cell (i := 9) (v := .slice (some ⟨gi, 0, none⟩) (3 * 2) ic) (by rw [HZ9.out]; rfl)
                    rcases Nat.lt_or_ge j 6 with hj6 | hj6
                    · have jlt : (j : Int) < 6 := Int.ofNat_lt.2 hj6
                      have jge : (0 : Int) ≤ (j : Int) := Int.natCast_nonneg j
                      have HJ6 := Lib.hid hj6
                      obtain ⟨nm, cn, p, hx, hy⟩ := itm_at j hj6
                      obtain ⟨q0, q1, q2, q3, q4, q5, q6, q7, q8⟩ := item_cells (World.ownsRow.kept HIT.out.own (pl_grown HOW.out.2.2) (.inr (by simp [Value.ownBlock]))) (show (raw6.take (3 * 2))[j]? = some (dotE nm cn 0) from hx)
                      have HIO := Lib.hid (itm6_ok j _ _ hx hy)
                      have HY := Lib.hid hy
                      have HQ8 := Lib.hid q8
                      have hsl : SosR wr (.slice (some ⟨gl, 0, none⟩) 2 lc) selS := sos_sel (World.ownsRow.kept (World.ownsRow.kept HJ.out.ol HIT.out.ck.g (.inr fun e => by have := (World.ownsRow.lt HJ.out.ol _ e).1; omega)) (pl_grown HOW.out.2.2) (.inr (by simp [Value.ownBlock]))) rfl
                        (tbR_below HTR.out ⟨(HOW.out.2.2.os.trans HIT.out.ck.g.os).trans HJ.out.hb.os, (HOW.out.2.2.tape.trans HIT.out.ck.g.tape).trans HJ.out.hb.tape, (HOW.out.2.2.output.trans HIT.out.ck.g.output).trans HJ.out.hb.output, Nat.le_trans (Nat.le_trans HJ.out.hb.size HIT.out.ck.g.size) HOW.out.2.2.size, fun z hz => (HOW.out.2.2.block z (Nat.lt_of_lt_of_le (Nat.lt_of_lt_of_le hz HJ.out.hb.size) HIT.out.ck.g.size)).trans ((HIT.out.ck.g.block z (Nat.lt_of_lt_of_le hz HJ.out.hb.size) (fun e => by cases e; exact absurd hz (Nat.lt_irrefl _))).trans (HJ.out.hb.block z hz))⟩)
                      have hc := askW selS (some ⟨gl, 0, none⟩) lc (.slice none 0 0) (dotE nm cn 0) (dotE nm cn p) (.slice none 0 0) wr (by decide) selS_cols HIO.out.1 HIO.out.2.1 hsl slR_zero
                      rw [show selS.length = 2 from rfl] at hc
                      unfold PE.val at hc
                      have HC := Lib.hid hc
                      clear hc hsl hx hy hj hj6 q8
                      go_wp2_with fail
                      refine HC.out.mono ?_
                      rintro e3 w3 ⟨c, rfl, hx3, hb3⟩
                      obtain ⟨kv, ec, hkv⟩ := ExD.cells hx3
                      obtain ⟨ka, kc, rfl, _⟩ := hkv.here.shape
                      obtain rfl : c = #[.int .u8 2, .int .u8 0, .int .i64 0, .string ⟨#[]⟩, .string nm, .string cn, .int .i64 p, .slice ka 0 kc] := ec
                      clear hx3 hkv HC
                      change Below wr.heap.size wr w3 at hb3
                      have hbX := (Below.refl _ w3).alloc (Nat.le_refl _) (.cells #[.int .u8 2, .int .u8 0, .int .i64 0, .string ⟨#[]⟩, .string nm, .string cn, .int .i64 p, .slice ka 0 kc] 44)
                      have HX3 := Lib.hid (row_alloc w3 44 #[.int .u8 2, .int .u8 0, .int .i64 0, .string ⟨#[]⟩, .string nm, .string cn, .int .i64 p, .slice ka 0 kc])
                      have HBX : Hid (Below wr.heap.size wr (w3.alloc (.cells #[.int .u8 2, .int .u8 0, .int .i64 0, .string ⟨#[]⟩, .string nm, .string cn, .int .i64 p, .slice ka 0 kc] 44))) := Lib.hid (next hb3 hbX)
                      have HR9 : Hid (Row w.heap.size 35 (Z9 (.slice (some ⟨gi, 0, none⟩) (3 * 2) ic)) (w3.alloc (.cells #[.int .u8 2, .int .u8 0, .int .i64 0, .string ⟨#[]⟩, .string nm, .string cn, .int .i64 p, .slice ka 0 kc] 44))) := Lib.hid (((HIT.out.ck.x.later HOW.out.2.2).later hb3).later hbX)
                      have HQX : Hid ((w3.alloc (.cells #[.int .u8 2, .int .u8 0, .int .i64 0, .string ⟨#[]⟩, .string nm, .string cn, .int .i64 p, .slice ka 0 kc] 44)).cell? ⟨gi, j * 9 + 8, none⟩ = some (.string ⟨#[]⟩)) := Lib.hid ((HBX.out.cell (cell_lt HQ8.out)).trans HQ8.out)
                      clear hb3 hbX HQ8 q0 q1 q2 q3 q4 q5 q6 q7 c9
                      go_upto_region 75 with fail
                      generalize w3.alloc (.cells #[.int .u8 2, .int .u8 0, .int .i64 0, .string ⟨#[]⟩, .string nm, .string cn, .int .i64 p, .slice ka 0 kc] 44) = wX at *
                      generalize w3.heap.size = gx at *
                      go_wp2_with fail
                      refine wp_region_kipt 10 (AkKn w.heap.size gi ic j oc oa ka kc nm cn p) 395 rfl (by kernel_rfl) (by kernel_rfl) AkKn.later ?_ ?_
                      · intro q hq A A2 hother hbW hd
                        match q, hq with
                        | 0, hq =>
                          have h0 := tmps_at (show A.eval (.tmp 29) = .slice oa j oc from hother 29 (by kernel_rfl))
                          clear hother hd hq
                          exact kip_same rfl (wanted_none rfl) (.slice oa j oc) (by simp only [execOp]; go_simp) rfl
                        | 1, hq =>
                          have h0 := tmps_at (show A.eval (.tmp 31) = .pointer (some ⟨gx, 0, none⟩) from hother 31 (by kernel_rfl))
                          have l0 := (HX3.out.later hbW).cell (i := 0) (v := .int .u8 2) rfl
                          have l1 := (HX3.out.later hbW).cell (i := 1) (v := .int .u8 0) rfl
                          have l2 := (HX3.out.later hbW).cell (i := 2) (v := .int .i64 0) rfl
                          have l3 := (HX3.out.later hbW).cell (i := 3) (v := .string ⟨#[]⟩) rfl
                          have l4 := (HX3.out.later hbW).cell (i := 4) (v := .string nm) rfl
                          have l5 := (HX3.out.later hbW).cell (i := 5) (v := .string cn) rfl
                          have l6 := (HX3.out.later hbW).cell (i := 6) (v := .int .i64 p) rfl
                          have l7 := (HX3.out.later hbW).cell (i := 7) (v := .slice ka 0 kc) rfl
                          clear hother hd hq
                          exact kip_same rfl (wanted_none rfl) (.agg #[.int .u8 2, .int .u8 0, .int .i64 0, .string ⟨#[]⟩, .string nm, .string cn, .int .i64 p, .slice ka 0 kc]) (by simp only [execOp]; go_simp) rfl
                        | 2, hq =>
                          have h0 := tmps_at (show A.eval (.tmp 3) = .pointer (some ⟨w.heap.size, 0, none⟩) from hother 3 (by kernel_rfl))
                          clear hother hd hq
                          exact kip_same rfl (wanted_none rfl) (.pointer (some ⟨w.heap.size, 9, none⟩)) (by simp only [execOp]; go_simp) rfl
                        | 3, hq =>
                          have h0 := tmps_at ((hd _ rfl ⟨2, .data⟩ (by simp) rfl).eq (.pointer (some ⟨w.heap.size, 9, none⟩)) (fun _ h => h) 317 (by kernel_rfl) (by decide))
                          have l3 := (HR9.out.later hbW).cell (i := 9) (v := .slice (some ⟨gi, 0, none⟩) 6 ic) (by rw [HZ9.out]; rfl)
                          clear hother hd hq
                          exact kip_same rfl (wanted_none rfl) (.slice (some ⟨gi, 0, none⟩) 6 ic) (by simp only [execOp]; go_simp) rfl
                        | 4, hq =>
                          have h0 := tmps_at (show A.eval (.tmp 30) = .int .i64 (j : Int) from hother 30 (by kernel_rfl))
                          clear hother hd hq
                          exact kip_same rfl (wanted_none rfl) (.int .i64 (j : Int)) (by simp only [execOp]; go_simp) rfl
                        | 5, hq =>
                          have h0 := tmps_at ((hd _ rfl ⟨3, .data⟩ (by simp) rfl).eq (.slice (some ⟨gi, 0, none⟩) 6 ic) (fun _ h => h) 318 (by kernel_rfl) (by decide))
                          have h1 := tmps_at ((hd _ rfl ⟨4, .data⟩ (by simp) rfl).eq (.int .i64 (j : Int)) (fun _ h => h) 319 (by kernel_rfl) (by decide))
                          clear hother hd hq
                          exact kip_same rfl (wanted_none rfl) (.pointer (some ⟨gi, j * 9, none⟩)) (by simp only [execOp]; go_simp) rfl
                        | 6, hq =>
                          have h0 := tmps_at ((hd _ rfl ⟨5, .data⟩ (by simp) rfl).eq (.pointer (some ⟨gi, j * 9, none⟩)) (fun _ h => h) 320 (by kernel_rfl) (by decide))
                          clear hother hd hq
                          exact kip_same rfl (wanted_none rfl) (.pointer (some ⟨gi, j * 9 + 8, none⟩)) (by simp only [execOp]; go_simp) rfl
                        | 7, hq =>
                          have h0 := tmps_at ((hd _ rfl ⟨6, .data⟩ (by simp) rfl).eq (.pointer (some ⟨gi, j * 9 + 8, none⟩)) (fun _ h => h) 321 (by kernel_rfl) (by decide))
                          have l7 := (hbW.cell (cell_lt HQX.out)).trans HQX.out
                          clear hother hd hq
                          exact kip_same rfl (wanted_none rfl) (.string ⟨#[]⟩) (by simp only [execOp]; go_simp) rfl
                        | 8, hq =>
                          have h0 := tmps_at ((hd _ rfl ⟨1, .data⟩ (by simp) rfl).eq (.agg #[.int .u8 2, .int .u8 0, .int .i64 0, .string ⟨#[]⟩, .string nm, .string cn, .int .i64 p, .slice ka 0 kc]) (fun _ h => h) 316 (by kernel_rfl) (by decide))
                          have h1 := tmps_at ((hd _ rfl ⟨7, .data⟩ (by simp) rfl).eq (.string ⟨#[]⟩) (fun _ h => h) 322 (by kernel_rfl) (by decide))
                          clear hother hd hq
                          exact kip_same rfl (wanted_none rfl) (.agg #[.int .u8 2, .int .u8 0, .int .i64 0, .string ⟨#[]⟩, .string nm, .string cn, .int .i64 p, .slice ka 0 kc, .string ⟨#[]⟩]) (by simp only [execOp]; go_simp) rfl
                        | 9, hq =>
                          have h0 := tmps_at ((hd _ rfl ⟨8, .data⟩ (by simp) rfl).eq (.agg #[.int .u8 2, .int .u8 0, .int .i64 0, .string ⟨#[]⟩, .string nm, .string cn, .int .i64 p, .slice ka 0 kc, .string ⟨#[]⟩]) (fun _ h => h) 323 (by kernel_rfl) (by decide))
                          clear hother hd hq
                          exact kip_val rfl (wanted_none rfl) (.slice (some ⟨A2.heap.size, 0, none⟩) 1 1) (A2.alloc (.cells #[.int .u8 2, .int .u8 0, .int .i64 0, .string ⟨#[]⟩, .string nm, .string cn, .int .i64 p, .slice ka 0 kc, .string ⟨#[]⟩] 141)) (by simp only [execOp]; go_simp) ((Below.refl _ _).alloc (Nat.le_refl _) _) ⟨_, rfl, row_alloc _ _ _⟩
                        | q + 10, hq => exact absurd hq (by omega)
                      intro us w7 hb7 hk
                      have e0 : us 0 = .slice oa j oc := hk 0 (by decide)
                      obtain ⟨g9, e9, hr9⟩ : ∃ g, us 9 = .slice (some ⟨g, 0, none⟩) 1 1 ∧ Row g 141 #[.int .u8 2, .int .u8 0, .int .i64 0, .string ⟨#[]⟩, .string nm, .string cn, .int .i64 p, .slice ka 0 kc, .string ⟨#[]⟩] w7 := hk 9 (by decide)
                      have hkp := World.ownsRow.kept (World.ownsRow.kept HOW.out.2.1 (pl_grown HBX.out) (by cases (Value.slice oa j oc).ownBlock <;> simp)) (pl_grown hb7) (by cases (Value.slice oa j oc).ownBlock <;> simp)
                      have hl7 : w9a.heap.size ≤ w7.heap.size := Nat.le_trans (Nat.le_trans HOW.out.2.2.size HBX.out.size) hb7.size
                      obtain ⟨v8, w8, hrun, hown, hg8, hv8⟩ := pl_run_append (P := Tryz.prog) 30 30 141 9 120 elItem w9a.heap.size (.slice oa j oc) j _ hkp (.slice (some ⟨g9, 0, none⟩) 1 1) 1 (#[.int .u8 2, .int .u8 0, .int .i64 0, .string ⟨#[]⟩, .string nm, .string cn, .int .i64 p, .slice ka 0 kc, .string ⟨#[]⟩] : Array Value).toList (prd_lit hr9 rfl) (by simp [Value.oneCell']) (by have h1 := HJ6.out; unfold maxLen; omega) (by have h1 := HJ6.out; omega) hl7
                      obtain ⟨oa8, oc8, rfl⟩ := own_slR hown
                      have HO8 : Hid (ItL (j + 1) (ccs ++ [([.int .u8 2, .int .u8 0, .int .i64 0, .string ⟨#[]⟩, .string nm, .string cn, .int .i64 p, .slice ka 0 kc, .string ⟨#[]⟩] : List Value)]) ∧ w8.ownsRow w9a.heap.size 141 9 (.slice oa8 (j + 1) oc8) (j + 1) (ccs ++ [([.int .u8 2, .int .u8 0, .int .i64 0, .string ⟨#[]⟩, .string nm, .string cn, .int .i64 p, .slice ka 0 kc, .string ⟨#[]⟩] : List Value)]).flatten ∧ Below w9a.heap.size w9a w8) := Lib.hid ⟨HOW.out.1.snoc HY.out, by rw [List.flatten_append]; simpa using hown, (HOW.out.2.2.trans ((HBX.out.trans (hb7.mono HBX.out.size)).mono HOW.out.2.2.size)).grown hg8 hl7 (fun z hz => (World.ownsRow.lt hkp z hz).1)⟩
                      clear hk hb7 hr9 hown hg8 hv8 hkp hl7 HOW
                      simp only [putAll, dstOf, Act.put, List.getElem?_toArray, List.getElem?_cons_zero, List.getElem?_cons_succ, Option.bind_some, List.drop_succ_cons, List.drop_zero]
                      simp only [List.setIfInBounds_toArray, List.set_cons_zero, List.set_cons_succ]
                      rw [e0, e9]
                      refine pl_list_run rfl (.tmp 315) (.tmp 324) 30 rfl rfl rfl hrun ?_
                      clear hrun e0 e9
                      go_wp2_with fail
                      go_roundg (6 - (j + 1))
                      case measure => exact Nat.sub_lt_sub_left HJ6.out (Nat.lt_succ_self _)
                      case rel => exact ⟨j + 1, oa8, oc8, _, rfl, congrArg (Value.int .i64) (Int.natCast_succ j).symm, rfl, HJ6.out, HO8⟩
                    · obtain rfl : j = 6 := Nat.le_antisymm hj hj6
                      clear hj hj6
                      have HK5 := Lib.hid (HIT.out.ck.later HOW.out.2.2)
                      have HS6 : Hid (w9a.heap.size ≤ wr.heap.size ∧ w.heap.size < w9a.heap.size) := Lib.hid ⟨HOW.out.2.2.size, HIT.out.ck.x.lt⟩
                      have f9 := HK5.out.x.free 9
                      go_upto_region 79 with fail
                      have hs9 := setCell_eq_setRow wr w.heap.size 9 _ _ _ (.slice oa 6 oc) HK5.out.x
                      have HK6 : Hid (CK w w1a #[.int .u8 8, .string ⟨#[]⟩, .string ⟨#[]⟩, .bool false, .slice a4 0 n4, .slice a5 0 n5, .slice a6 0 n6, .slice a7 0 n7, .slice a8 0 n8, .slice oa 6 oc, .slice fa 2 fc, .slice ha 0 hc, .slice none 0 0, .slice a13 0 n13, .slice a14 0 n14, .int .i64 (-1)] (wr.setCell ⟨w.heap.size, 9, none⟩ (.slice oa 6 oc))) := Lib.hid (HK5.out.put 9 (.slice oa 6 oc) _ (by rw [HZ9.out]; rfl))
                      have HOI : Hid (New w9a.heap.size (wr.setCell ⟨w.heap.size, 9, none⟩ (.slice oa 6 oc)) fun u => SlR 9 ItemR u (.slice oa 6 oc) (itm6.map fun x => (x, ⟨#[]⟩))) := Lib.hid (itl_done HOW.out.1 (World.ownsRow.kept HOW.out.2.1 (by rw [hs9]; exact grown_setRow _ _ _) (.inr fun e => by have := (World.ownsRow.lt HOW.out.2.1 _ e).1; have := HS6.out.2; omega)))
                      clear hs9 c9 f9 HK5
                      generalize wr.setCell ⟨w.heap.size, 9, none⟩ (.slice oa 6 oc) = w11 at *
                      go_wp2_with fail
                      go_loopg [33, 34] 1 (fun gk hv iv wx => hv = .slice none 0 0 ∧ iv = .int .i64 0 ∧ gk = 1 ∧ w11 = wx)
                      case atStart => exact ⟨rfl, rfl, rfl, rfl⟩
                      case round =>
                        obtain ⟨rfl, rfl, rfl, rfl⟩ := hrel
                        have c13 := HK6.out.x.cell (i := 13) (v := .slice a13 0 n13) rfl
                        have f13 := HK6.out.x.free 13
                        go_upto_region 88 with fail
                        clear c13 f13
                        have HK7 := Lib.hid (HK6.out.put 13 (.slice none 0 0) #[.int .u8 8, .string ⟨#[]⟩, .string ⟨#[]⟩, .bool false, .slice a4 0 n4, .slice a5 0 n5, .slice a6 0 n6, .slice a7 0 n7, .slice a8 0 n8, .slice oa 6 oc, .slice fa 2 fc, .slice ha 0 hc, .slice none 0 0, .slice none 0 0, .slice a14 0 n14, .int .i64 (-1)] rfl)
                        have hs13 := setCell_eq_setRow w11 w.heap.size 13 _ _ _ (.slice none 0 0) HK6.out.x
                        have HOI7 : Hid (New w9a.heap.size (w11.setCell ⟨w.heap.size, 13, none⟩ (.slice none 0 0)) fun u => SlR 9 ItemR u (.slice oa 6 oc) (itm6.map fun x => (x, ⟨#[]⟩))) := Lib.hid (by rw [hs13]; exact HOI.out.step (by simp) fun b hb _ => ⟨hb, setRow_other _ _ _ _ (by have := HS6.out.2; omega)⟩)
                        clear HK6 HOI hs13
                        generalize w11.setCell ⟨w.heap.size, 13, none⟩ (.slice none 0 0) = w12 at *
                        go_wp2_with fail
                        go_loopg [37, 38] 1 (fun gk hv iv wx => hv = .slice none 0 0 ∧ iv = .int .i64 0 ∧ gk = 1 ∧ w12 = wx)
                        case atStart => exact ⟨rfl, rfl, rfl, rfl⟩
                        case round =>
                          obtain ⟨rfl, rfl, rfl, rfl⟩ := hrel
                          have c14 := HK7.out.x.cell (i := 14) (v := .slice a14 0 n14) rfl
                          have f14 := HK7.out.x.free 14
                          go_upto_region 97 with fail
                          clear c14 f14
                          have HK8 := Lib.hid (HK7.out.put 14 (.slice none 0 0) #[.int .u8 8, .string ⟨#[]⟩, .string ⟨#[]⟩, .bool false, .slice a4 0 n4, .slice a5 0 n5, .slice a6 0 n6, .slice a7 0 n7, .slice a8 0 n8, .slice oa 6 oc, .slice fa 2 fc, .slice ha 0 hc, .slice none 0 0, .slice none 0 0, .slice none 0 0, .int .i64 (-1)] rfl)
                          have hs14 := setCell_eq_setRow w12 w.heap.size 14 _ _ _ (.slice none 0 0) HK7.out.x
                          have HOI8 : Hid (New w9a.heap.size (w12.setCell ⟨w.heap.size, 14, none⟩ (.slice none 0 0)) fun u => SlR 9 ItemR u (.slice oa 6 oc) (itm6.map fun x => (x, ⟨#[]⟩))) := Lib.hid (by rw [hs14]; exact HOI7.out.step (by simp) fun b hb _ => ⟨hb, setRow_other _ _ _ _ (by have := HS6.out.2; omega)⟩)
                          clear HK7 HOI7 hs14
                          generalize w12.setCell ⟨w.heap.size, 14, none⟩ (.slice none 0 0) = w13 at *
                          have HFN : Hid (w.heap.size + 3 ≤ w1a.heap.size ∧ w1a.heap.size ≤ w9a.heap.size) := Lib.hid ⟨HJ.out.sz, HIT.out.ck.g.size⟩
                          have HR4 : Hid (Row (w.heap.size + 1) 35 stZ w13) := Lib.hid ((HK8.out.g.block _ (by have := HFN.out.1; omega) (fun e => by have := Option.some.inj e; omega)).trans HJ.out.r4)
                          have HB13 : Hid (Below w.heap.size w w13) := Lib.hid ⟨HK8.out.g.os.trans HJ.out.hb.os, HK8.out.g.tape.trans HJ.out.hb.tape, HK8.out.g.output.trans HJ.out.hb.output, Nat.le_trans HJ.out.hb.size HK8.out.g.size, fun q hq => (HK8.out.g.block q (Nat.lt_of_lt_of_le hq HJ.out.hb.size) (fun e => by cases e; omega)).trans (HJ.out.hb.block q hq)⟩
                          have hb := HK8.out.x.b (n := 16) rfl
                          have ho := HK8.out.x.of
                          have hz := HR4.out.b (n := 16) rfl
                          go_wp2_with fail
                          refine bodyPost_ret (v := .tuple #[.agg #[.int .u8 8, .string ⟨#[]⟩, .string ⟨#[]⟩, .bool false, .slice a4 0 n4, .slice a5 0 n5, .slice a6 0 n6, .slice a7 0 n7, .slice a8 0 n8, .slice oa 6 oc, .slice fa 2 fc, .slice ha 0 hc, .slice none 0 0, .slice none 0 0, .slice none 0 0, .int .i64 (-1)], .int .i64 0]) (res_cs rfl _ _ (w.heap.size + 1) _ _ _ rfl rfl (HR4.out.set _) rfl) rfl ⟨_, rfl, ?_, below_setRow' HB13.out (by omega) _⟩
                          intro u hu
                          have hq : ∀ z, w.heap.size + 3 ≤ z → z < w13.heap.size → u.heap[z]? = w13.heap[z]? := fun z h1 h2 => (hu z (by omega) (by simpa using h2)).trans (setRow_other _ _ _ _ (by omega))
                          have hi := HOI8.out u fun z h1 h2 => hq z (by have := HFN.out; omega) h2
                          have hsr := HFR.out u fun z h1 h2 => (hq z h1 (Nat.lt_of_lt_of_le h2 HK8.out.g.size)).trans (HK8.out.g.block z h2 (fun e => by cases e; omega))
                          exact ⟨_, _, _, _, _, _, _, _, _, _, _, rfl, slR_zero, slR_zero, slR_zero, slR_zero, slR_zero, hi, hsr, slR_zero, slR_zero, slR_zero, slR_zero⟩
end Go.Proofs.YtjgkeillmelkoaaGreat.Dt
