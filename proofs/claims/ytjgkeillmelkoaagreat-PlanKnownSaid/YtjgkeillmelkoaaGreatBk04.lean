import Derived.Test.YtjgkeillmelkoaaGreatRows
import Derived.WalkKit
import Derived.ProofKit
import Derived.OpenShut
import Derived.SizedLaws
import Derived.Test.YtjgkeillmelkoaaGreatProg
import Derived.WalkLawsBesides
import Derived.Laws.BytesArg
import Derived.Laws.IdiomStrings
import Derived.Laws.Bits64
import Derived.Laws.AppendOwnNone
import Derived.ChangeArms
import Derived.Deep.Slices
import Derived.Handy
import Derived.Lib.Hide
import Derived.Lib.AppendIntMem
import Derived.Lib.AtoiErrMem
import Derived.Lib.LaidTab
import Derived.Stop.LaidErr
import Derived.LaidMore
import Derived.Lib.Replace
import Derived.StillTail
import Derived.Test.YtjgkeillmelkoaaGreatBk03
import Derived.Test.YtjgkeillmelkoaaGreatBk01
namespace Go.Proofs.YtjgkeillmelkoaaGreat.Lift
open Go.ChangeShapes Go.WideShapes Go.ChangeAt Go.RowKit

theorem trodAll_stays {H : Type} {enc : TypeId × Value → H} {P : Program} (hl : laidOutB P = true) {W W' : World} (hb : Below W.heap.size W W') :
    ∀ {ts : List TypeId} {vs : List Value} {ds : List (DataW H)} {ps : List MemPlace}, (∀ t ∈ ts, P.readableRec t = true ∧ t < P.types.size) →
      DataW.TrodAll enc P W 0 (fun _ => true) true ts vs ds ps → (∀ x ∈ ps, x.block < W.heap.size) →
      DataW.TrodAll enc P W' 0 (fun b => decide (b < W.heap.size)) true ts vs ds ps
  | [], _, _, _, _, h, _ => by
    obtain ⟨rfl, rfl, rfl⟩ := trodAll_nil h
    exact trodAll_mk0
  | t :: ts, _, _, _, hr, h, hlt => by
    obtain ⟨v, vs1, d, ds1, a, b, rfl, rfl, rfl, h1, h2⟩ := trodAll_cons h
    have h0 := hr t (by simp)
    exact ⟨a, b, Below.trod hl h0.1 h0.2 h1 hb (fun x hx => hlt x (by simp [hx])),
      trodAll_stays hl hb (fun t' ht' => hr t' (by simp [ht'])) h2 (fun x hx => hlt x (by simp [hx])), rfl⟩

theorem trodAll_ds_length {H : Type} {enc : TypeId × Value → H} {P : Program} {W : World} {base : Nat} {sp : Nat → Bool} {held : Bool} :
    ∀ {ts : List TypeId} {vs : List Value} {ds : List (DataW H)} {ps : List MemPlace}, DataW.TrodAll enc P W base sp held ts vs ds ps → ds.length = ts.length
  | [], _, _, _, h => by obtain ⟨rfl, rfl, rfl⟩ := trodAll_nil h; rfl
  | _ :: _, _, _, _, h => by
    obtain ⟨v, vs1, d, ds1, a, b, rfl, rfl, rfl, h1, h2⟩ := trodAll_cons h
    simp [trodAll_ds_length h2]

/-- What a law's walk owes, for arguments that read as data. -/
def Owes {H : Type} (enc : TypeId × Value → H) (P : Program) (f : FuncId) (ts : List TypeId) (W : World) (args : Array Value) (ds : List (DataW H)) (p : List MemPlace) : Prop :=
  DataW.TrodAll enc P W 0 (fun _ => true) true ts args.toList ds p →
  (∀ (j : Nat) t v, ts[j]? = some t → args[j]? = some v → ∃ base, Value.okWide P W .any base t v) →
  (DataW.weightsEach P ts ds).all (· ≤ reachBytes) = true →
  (∀ x ∈ p, x.block < W.heap.size) →
  Calls P f args W fun e W' => e = .returned (.bool true) ∧ Below W.heap.size W W'

theorem lifted {C : Checked} {os : Os} {f : FuncId} {fn : Func} {s : ChangeSpec} {apart : Bool} {H : Type} {enc : TypeId × Value → H}
    (own : ownKnob C.prog.godebug = none) (started : os.Started) (noInit : C.prog.inits.idxOf? f = none) (hfn : C.prog.funcs[f]? = some fn)
    (witness : ∃ (w : World) (tape : Tape) (i : Input), w.os = os ∧ (w.forCall tape i).Shaped C.prog ∧ i.vars = [] ∧ Input.okWide C.prog (w.forCall tape i) .any w.heap.size f i ∧
      s.pre6 enc C.prog fn [] apart (w.forCall tape i).memory i.args ∧ ({} : Assume).holds C.prog (lone (Frame.enter C.prog f i.args .normal) [] (w.forCall tape i)))
    (hl : laidOutB C.prog = true) (hr : ∀ t ∈ fn.params.toList, C.prog.readableRec t = true ∧ t < C.prog.types.size)
    (hvars : s.vars = []) (tb : TypeId) (hres : fn.resultTypes = #[tb]) (hb : C.prog.underlying tb = some .bool)
    (hs : ∀ ds : List (DataW H), ds.length = fn.params.toList.length → s.fn H ds = { results := [.lit (.bool true)], args := ds })
    (walk : ∀ (W : World) (args : Array Value) (ds : List (DataW H)) (p : List MemPlace), Owes enc C.prog f fn.params.toList W args ds p) :
    ReturnsInHanded {} C os f .any (s.pre6 enc C.prog fn [] apart) (s.post enc C.prog fn apart true false false) := by
  refine returnsInHanded_of_change_sized own started noInit hfn witness ?_
  intro W base args ds gs before hval hW _ hsz _
  have hW' := hW
  obtain ⟨p, q, hA, hV, rfl, _, _⟩ := hW
  rw [hvars] at hV
  obtain ⟨rfl, rfl⟩ := trodVars_none hV
  have hlen := trodAll_ds_length hA
  have hlt : ∀ x ∈ p, x.block < W.heap.size := fun x hx => by simpa using hW'.lt x (by simp [hx])
  have hvt : s.plain.varTypes C.prog = [] := by
    simp [ChangeSpec.plain, DataSpec.varTypes, hvars]
  rw [hvt] at hsz
  simp only [List.append_nil] at hsz
  refine (walk W args ds p hA (fun j t v ht hv => ⟨base, hval j t v (by simpa using ht) hv⟩) hsz hlt).mono fun e W' ⟨he, hbel⟩ => ?_
  subst he
  refine ⟨_, rfl, ds, [], p ++ [], [], p, [], hW', ?_, ?_, ?_, hbel.frame _, fun h => by cases h⟩
  · simp only [List.append_nil]
    rw [hs ds hlen, hres]
    exact trodAll_mk1 (shut_bool hb true)
  · simp only [List.append_nil]
    rw [hs ds hlen]
    exact trodAll_stays hl hbel hr hA hlt
  · simp only [List.append_nil]
    rw [hs ds hlen, hvars]
    exact rfl
end Go.Proofs.YtjgkeillmelkoaaGreat.Lift
namespace Go.Proofs.YtjgkeillmelkoaaGreat.Dt
open Go.RowKit Go.Proofs.YtjgkeillmelkoaaGreat.By

/-- Nothing is wanted of the machine's own bound here. -/
def MaxAt (_ : World) : Prop := True
theorem str_size (l : List UInt8) : (ByteArray.mk l.toArray).size = l.length := by
  show l.toArray.size = _
  exact List.size_toArray
end Go.Proofs.YtjgkeillmelkoaaGreat.Dt
namespace Go.Proofs.YtjgkeillmelkoaaGreat.By
open Go.RowKit

/-- A list of bytes as a string. -/
abbrev str (l : List UInt8) : Value := .string ⟨l.toArray⟩

/-- A byte as a cell. -/
abbrev byte (b : UInt8) : Value := .int .u8 (b.toNat : Int)

theorem strOfNums_bytes (l : List UInt8) : strOfNums (l.map fun b => (b.toNat : Int)) = ⟨l.toArray⟩ := by
  have h : ((fun n : Int => UInt8.ofNat n.toNat) ∘ fun b : UInt8 => (b.toNat : Int)) = id := by
    funext b; simp
  simp [strOfNums, h]

/-- Bytes in cells, converted to a string. -/
theorem conv_at {P : Program} (w : World) (src e dst : TypeId) (hs : P.underlying src = some (.slice e)) (he : P.underlying e = some (.int .u8)) (hd : P.underlying dst = some .string)
    (b off len cap : Nat) (l : List UInt8) (hlen : l.length = len) (hcell : ∀ i (h : i < l.length), w.cell? ⟨b, off + i, none⟩ = some (byte l[i])) :
    (convert src dst (.slice (some ⟨b, off, none⟩) len cap)).run P w = .ok (str l) w := by
  rw [run_convert_bytes_arg w src e hs he b off len cap (l.map fun b => (b.toNat : Int)) (by simp [hlen]) (fun i hi => by
    have hi' : i < l.length := by omega
    rw [hcell i hi']
    simp [hi']) dst hd, strOfNums_bytes]

/-- The same at a block that has just been laid. -/
theorem conv_new {P : Program} (w : World) (src e dst : TypeId) (hs : P.underlying src = some (.slice e)) (he : P.underlying e = some (.int .u8)) (hd : P.underlying dst = some .string)
    (cs : Array Value) (t : TypeId) (off len cap : Nat) (l : List UInt8) (hlen : l.length = len) (hcell : ∀ i (h : i < l.length), cs[off + i]? = some (byte l[i])) :
    (convert src dst (.slice (some ⟨w.heap.size, off, none⟩) len cap)).run P (w.alloc (.cells cs t)) = .ok (str l) (w.alloc (.cells cs t)) :=
  conv_at _ src e dst hs he hd _ off len cap l hlen (fun i h => by rw [World.cell?_alloc_at _ _ _ _ rfl]; exact hcell i h)

end Go.Proofs.YtjgkeillmelkoaaGreat.By
namespace Go.Proofs.YtjgkeillmelkoaaGreat.By
open Go.RowKit

/-- A slice value of m elements of so many cells reads as these cells. -/
def Reads (w : World) (size : Nat) (v : Value) (m : Nat) (xs : List Value) : Prop :=
  xs.length = m * size ∧ ((v = .slice none 0 0 ∧ m = 0) ∨ ∃ ad c, v = .slice (some ad) m c ∧ ∀ j u, xs[j]? = some u → w.cell? (ad.add j) = some u)

theorem reads_of_owns {w : World} {base : Nat} {e : TypeId} {size : Nat} {v : Value} {n : Nat} {xs : List Value} (h : w.ownsRow base e size v n xs) : Reads w size v n xs := by
  refine ⟨h.1, ?_⟩
  rcases h.2 with ⟨rfl, rfl⟩ | ⟨g, cap, cur, rfl, hg, hh, hn, hc, hs, ht⟩
  · exact Or.inl ⟨rfl, rfl⟩
  · exact Or.inr ⟨_, cap, rfl, h.cells rfl⟩

/-- What one element's type has in the program's table. -/
structure Elem (P : Program) (t e : TypeId) (size bytes : Nat) : Prop where
  slice : P.underlying t = some (.slice e)
  info : ∃ i z, P.info? e = some i ∧ i.zero = some z ∧ i.size = size ∧ i.bytes = bytes ∧ z.cells.size = size
  pos : 0 < size

theorem wpList_append_reads {P : Program} {w : World} {ops : Array Oper} {rest : List Oper} {o : Oper} {a : Act} {Q : Exit → Act → World → Prop} (hgd : o.guard = none) (s x : Operand) (t : TypeId)
    (ho : o.op = .call { callee := .builtin .append, args := #[s, x], argTypes := #[t, t] })
    (base : Nat) (e : TypeId) (size bytes : Nat) (E : Elem P t e size bytes)
    (v : Value) (n : Nat) (xs : List Value) (hs : a.eval s = v) (hown : w.ownsRow base e size v n xs)
    (sv : Value) (m : Nat) (news : List Value) (hx : a.eval x = sv) (hr : Reads w size sv m news) (h1 : ∀ u ∈ news, u.oneCell' = true)
    (h63 : n + m ≤ maxLen) (hbytes : (n + m) * bytes ≤ 140737488355328) (hbase : base ≤ w.heap.size)
    (h : ∀ v' w', w'.ownsRow base e size v' (n + m) (xs ++ news) → w.grownBy w' v.ownBlock → Below base w w' → wpList P ops Q rest (a.put o.dst v') w') : wpList P ops Q (o :: rest) a w := by
  obtain ⟨i, z, hi, hz, hsize, hby, hzs⟩ := E.info
  have hbel : ∀ w', w.grownBy w' v.ownBlock → Below base w w' := fun w' hg =>
    (Below.refl base w).grown hg hbase (fun k hk => (hown.lt k hk).1)
  rcases hr.2 with ⟨rfl, rfl⟩ | ⟨ad, c, rfl, hc⟩
  · have hn : news = [] := by simpa using hr.1
    subst hn
    refine wpList_append_own_none hgd s x t ho base e i size E.slice hi v n xs hs hown hx ?_
    refine h v w (by simpa using hown) ⟨rfl, rfl, rfl, Nat.le_refl _, fun _ _ _ => rfl⟩ (Below.refl _ _)
  · exact wpList_append_own w hgd s x t ho base e i z size bytes E.slice hi hz hsize hby hzs E.pos v n xs hs hown ad m c news hx hr.1 hc h1 h63 hbytes hbase fun v' w' h1 h2 _ => h v' w' h1 h2 (hbel w' h2)

/-- Owned bytes. -/
def OwnB (w : World) (base : Nat) (e : TypeId) (v : Value) (l : List UInt8) : Prop := w.ownsRow base e 1 v l.length (l.map byte)

theorem OwnB.nil (w : World) (base : Nat) (e : TypeId) : OwnB w base e (.slice none 0 0) [] := World.ownsRow_nil _ _ _ _

theorem OwnB.alloc {w : World} {base : Nat} {e : TypeId} {v : Value} {l : List UInt8} (h : OwnB w base e v l) (o : Obj) : OwnB (w.alloc o) base e v l := World.ownsRow.alloc h o
theorem ownB_of {w : World} {base : Nat} {e : TypeId} {v : Value} {l : List UInt8} {n : Nat} {xs : List Value} (h : w.ownsRow base e 1 v n xs) (hn : n = l.length) (hx : xs = l.map byte) : OwnB w base e v l := by
  subst hn hx; exact h
/-- A block of one byte that has just been laid. -/
theorem own_one (w : World) (base : Nat) (e : TypeId) (x : Value) (hb : base ≤ w.heap.size) : (w.alloc (.cells #[x] e)).ownsRow base e 1 (.slice (some ⟨w.heap.size, 0, none⟩) 1 1) 1 [x] :=
  World.ownsRow_lit w #[x] 1 hb (by unfold maxLen; omega) rfl

theorem oneCell_bytes (l : List UInt8) : ∀ u ∈ l.map byte, u.oneCell' = true := by
  intro u hu
  obtain ⟨b, _, rfl⟩ := List.mem_map.1 hu
  rfl

/-- Owned bytes, as a string. -/
theorem conv_own {P : Program} {w : World} (src e dst : TypeId) (hs : P.underlying src = some (.slice e)) (he : P.underlying e = some (.int .u8)) (hd : P.underlying dst = some .string)
    {base : Nat} {v : Value} {l : List UInt8} (h : OwnB w base e v l) : (convert src dst v).run P w = .ok (str l) w := by
  rcases h.2 with ⟨rfl, hn⟩ | ⟨g, cap, cur, rfl, hg, hh, hn, hc, hsz, ht⟩
  · obtain rfl : l = [] := List.eq_nil_of_length_eq_zero hn
    rw [run_convert_bytes_nil w src e hs he 0 0 dst hd]
    rfl
  · refine conv_at w src e dst hs he hd g 0 l.length cap l rfl fun i hi => ?_
    have := World.ownsRow.cellAt (w := w) (e := e) (size := 1) h i (by omega)
    rw [Nat.zero_add, this]
    simp [hi]

theorem OwnB.shape {w : World} {base : Nat} {e : TypeId} {v : Value} {l : List UInt8} (h : OwnB w base e v l) : ∃ a c, v = .slice a l.length c := by
  rcases h.2 with ⟨rfl, hn⟩ | ⟨g, cap, cur, rfl, _⟩
  · exact ⟨none, 0, by rw [hn]⟩
  · exact ⟨_, _, rfl⟩

end Go.Proofs.YtjgkeillmelkoaaGreat.By
namespace Go.Proofs.YtjgkeillmelkoaaGreat.Dt
open Go.ChangeShapes Go.WideShapes Go.RowKit Go.Proofs.YtjgkeillmelkoaaGreat.By

section
variable {H : Type} {enc : TypeId × Value → H} {P : Program} {w : World} {base : Nat} {spare : Nat → Bool} {held : Bool}

/-- A struct's field: its type and its place. -/
def fieldB (P : Program) (t : TypeId) (i : Nat) : Option (TypeId × Nat) :=
  match P.underlying t with
  | some (.struct fs) => (fs[i]?).map fun f => (f.type, f.offset)
  | _ => none

/-- The types of a value's struct. -/
structure VType (P : Program) (t : TypeId) : Prop where
  size : P.cellsOf t = 3
  bytes : P.bytesOf t = 32
  f0 : ∃ ty, fieldB P t 0 = some (ty, 0) ∧ P.cellsOf ty = 1 ∧ P.underlying ty = some (.int .u8)
  f1 : ∃ ty, fieldB P t 1 = some (ty, 1) ∧ P.cellsOf ty = 1 ∧ P.underlying ty = some (.int .i64)
  f2 : ∃ ty, fieldB P t 2 = some (ty, 2) ∧ P.cellsOf ty = 1 ∧ P.underlying ty = some .string

theorem list8 {α : Type} {l : List α} (h : l.length = 8) : ∃ a b c d e f g i, l = [a, b, c, d, e, f, g, i] := by
  match l, h with
  | [a, b, c, d, e, f, g, i], _ => exact ⟨a, b, c, d, e, f, g, i, rfl⟩

/-- The types of an expression's struct. -/
structure ExType (P : Program) (t : TypeId) : Prop where
  size : P.cellsOf t = 8
  bytes : P.bytesOf t = 104
  f0 : ∃ ty, fieldB P t 0 = some (ty, 0) ∧ P.cellsOf ty = 1 ∧ P.underlying ty = some (.int .u8)
  f1 : ∃ ty, fieldB P t 1 = some (ty, 1) ∧ VType P ty
  f2 : ∃ ty, fieldB P t 2 = some (ty, 4) ∧ P.cellsOf ty = 1 ∧ P.underlying ty = some .string
  f3 : ∃ ty, fieldB P t 3 = some (ty, 5) ∧ P.cellsOf ty = 1 ∧ P.underlying ty = some .string
  f4 : ∃ ty, fieldB P t 4 = some (ty, 6) ∧ P.cellsOf ty = 1 ∧ P.underlying ty = some (.int .i64)
  f5 : ∃ ty, fieldB P t 5 = some (ty, 7) ∧ P.cellsOf ty = 1 ∧ P.underlying ty = some (.slice t)

/-- A row of rows: each row's header and its values. -/
structure Rw where
  hd : Value
  l : List V
def Rw.cells (r : Rw) : List Value := [r.hd]
/-- Rows that lie in 'w'. -/
structure RowsAt (w : World) (v : Value) (rs : List Rw) : Prop where
  at_ : SlAt 1 Rw.cells w v rs
  rows : ∀ r ∈ rs, VsAt w r.hd r.l
/-- A slice of bytes. -/
def u8Cells (n : Nat) : List Value := [.int .u8 (n : Int)]
abbrev U8sAt (w : World) (v : Value) (l : List Nat) : Prop := SlAt 1 u8Cells w v l
end
end Go.Proofs.YtjgkeillmelkoaaGreat.Dt
namespace Go.Proofs.YtjgkeillmelkoaaGreat.Dt
open Go.RowKit Go.Proofs.YtjgkeillmelkoaaGreat.By
theorem set_same3 (w : World) (a : Addr) (v u : Value) (h : w.cell? a = some u) : (w.setCell a v).cell? a = some v := by
  apply World.cell?_setCell_same
  exact h
theorem set_else3 (w : World) (k i j : Nat) (v : Value) (h : i ≠ j) : (w.setCell ⟨k, i, none⟩ v).cell? ⟨k, j, none⟩ = w.cell? ⟨k, j, none⟩ := by
  apply World.cell?_setCell_other
  intro e; cases e; exact h rfl
theorem elU8 : By.Elem Tryz.prog 147 5 1 1 where
  slice := by kernel_rfl
  info := by
    have h : (Tryz.prog.info? 5).map (fun i => (i.zero, i.size, i.bytes)) = some (some (.int .u8 0), 1, 1) := by kernel_rfl
    obtain ⟨i, hi, h1, h2, h3⟩ := info_parts h
    exact ⟨i, _, hi, h1, h2, h3, rfl⟩
  pos := by decide

def uCells (l : List Nat) : List Value := l.map fun (k : Nat) => .int .u8 (k : Int)
/-- Owned kinds. -/
def OwnU (w : World) (base : Nat) (v : Value) (l : List Nat) : Prop := w.ownsRow base 5 1 v l.length (uCells l)
theorem OwnU.nil (w : World) (base : Nat) : OwnU w base (.slice none 0 0) [] := World.ownsRow_nil _ _ _ _
theorem OwnU.shape {w : World} {base : Nat} {v : Value} {l : List Nat} (h : OwnU w base v l) : ∃ a c, v = .slice a l.length c := by
  rcases h.2 with ⟨rfl, hn⟩ | ⟨g, cap, cur, rfl, _⟩
  · exact ⟨none, 0, by rw [hn]⟩
  · exact ⟨_, _, rfl⟩
theorem OwnU.at_ {w : World} {base : Nat} {v : Value} {l : List Nat} (h : OwnU w base v l) : U8sAt w v l := by
  rcases h.2 with ⟨rfl, hn⟩ | ⟨g, cap, cur, rfl, hg, hh, hn, hcap, hsz, ht⟩
  · obtain rfl : l = [] := List.eq_nil_of_length_eq_zero hn
    exact SlAt.nil _ _ _
  · refine ⟨_, cap, rfl, hn, fun i x hx => ⟨g, 0, rfl, fun j u hu => ?_⟩⟩
    obtain ⟨hi, rfl⟩ := List.getElem?_eq_some_iff.1 hx
    match j, hu with
    | 0, hu =>
      simp [u8Cells] at hu
      subst hu
      have := World.ownsRow.cellAt (w := w) (e := 5) (size := 1) h i (by omega)
      rw [Nat.zero_add, Nat.mul_one, Nat.add_zero, this]
      simp [uCells, hi]
    | j + 1, hu => simp [u8Cells] at hu
theorem OwnU.below {w w' : World} {base : Nat} {v : Value} {l : List Nat} (h : OwnU w base v l) (hb : Below w.heap.size w w') : OwnU w' base v l :=
  World.ownsRow.kept (row := none) h ⟨hb.os, hb.tape, hb.output, hb.size, fun i hi _ => hb.block i hi⟩ (by cases v.ownBlock <;> simp)
theorem OwnU.snoc {w : World} {base : Nat} {v : Value} {l : List Nat} {k : Nat} (h : w.ownsRow base 5 1 v (l.length + 1) (uCells l ++ [.int .u8 (k : Int)])) : OwnU w base v (l ++ [k]) := by
  unfold OwnU
  rw [List.length_append]
  simpa [uCells] using h
/-- A result's box: a value's, that nothing has been laid into. -/
structure ResBox (k : Nat) (w : World) : Prop where
  c0 : w.cell? ⟨k, 0, none⟩ = some (.int .u8 0)
  c1 : w.cell? ⟨k, 1, none⟩ = some (.int .i64 0)
  c2 : w.cell? ⟨k, 2, none⟩ = some (.string ⟨#[]⟩)
  f0 : w.frozen? ⟨k, 0, none⟩ = false
  f1 : w.frozen? ⟨k, 1, none⟩ = false
  f2 : w.frozen? ⟨k, 2, none⟩ = false
def vCells (l : List V) : List Value := l.flatMap V.cells
/-- Owned values. -/
def OwnV (w : World) (base : Nat) (v : Value) (l : List V) : Prop := w.ownsRow base 42 3 v l.length (vCells l)
theorem set_other (w : World) (k j i i' : Nat) (u : Value) (h : ¬ (j = k ∧ i = i')) : (w.setCell ⟨j, i, none⟩ u).cell? ⟨k, i', none⟩ = w.cell? ⟨k, i', none⟩ := by
  apply World.cell?_setCell_other
  intro e; cases e; exact h ⟨rfl, rfl⟩

/-- A box of these cells. -/
def Box (k : Nat) (cs : List Value) (w : World) : Prop := ∀ i u, cs[i]? = some u → w.cell? ⟨k, i, none⟩ = some u ∧ w.frozen? ⟨k, i, none⟩ = false
theorem Box.later {k : Nat} {cs : List Value} {w w' : World} (h : Box k cs w) (hb : Below w.heap.size w w') : Box k cs w' := fun i u hu =>
  ⟨(hb.cell (p := ⟨k, i, none⟩) (cell_lt (h i u hu).1)).trans (h i u hu).1, (hb.frozen (p := ⟨k, i, none⟩) (cell_lt (h i u hu).1)).trans (h i u hu).2⟩
theorem Box.else {k : Nat} {cs : List Value} {w : World} (h : Box k cs w) {j i : Nat} {u : Value} (hj : j ≠ k) : Box k cs (w.setCell ⟨j, i, none⟩ u) := fun i' u' hu => by
  refine ⟨?_, ?_⟩
  · rw [set_other _ _ _ _ _ _ (fun e => hj e.1)]; exact (h i' u' hu).1
  · rw [World.frozen?_setCell]; exact (h i' u' hu).2
section
variable {w W : World}
theorem below_set {B j i : Nat} {u : Value} (h : Below B w W) (hj : B ≤ j) : Below B w (W.setCell ⟨j, i, none⟩ u) := by
  have hsz := h.size
  go_grown
end
end Go.Proofs.YtjgkeillmelkoaaGreat.Dt
namespace Go.Proofs.YtjgkeillmelkoaaGreat.Dt
open Go.RowKit Go.Proofs.YtjgkeillmelkoaaGreat.By

/-- What the library's variables read as. -/
structure LW (w : World) : Prop where
  mx : MaxAt w
  tab : Lib.TabIs Tryz.prog w "internal/strconv.uint64pow10" .u64 Lib.pow10Tab
  syn : ∃ tp p, w.var? Tryz.prog "strconv.ErrSyntax" = some #[.iface tp p]
  rng : ∃ tp p, w.var? Tryz.prog "strconv.ErrRange" = some #[.iface tp p]
end Go.Proofs.YtjgkeillmelkoaaGreat.Dt
namespace Go.Proofs.YtjgkeillmelkoaaGreat.By
open Go.RowKit

section
variable {P : Program} {ops : Array Oper} {md : Region.Mode} {C : World → Prop} {n : Nat}

/-- The first 'n' operations, in whatever order, each quiet; then 'L'. -/
def wpHead (P : Program) (md : Region.Mode) (ops : Array Oper) (C : World → Prop) (n : Nat) (L : Array Bool → Act → Prop) : Nat → Array Bool → Act → Prop
  | 0, done, a => L done a
  | f + 1, done, a => Region.ready md ops done ≠ [] ∧ ∀ i ∈ Region.ready md ops done, i < n ∧ qOp P ops C i (wpHead P md ops C n L f (done.setIfInBounds i true)) a

theorem wpAny_of_wpHead {g : Nat} {L : Array Bool → Act → Prop} {Q' : Exit → Act → World → Prop} (hL : ∀ done a w, C w → L done a → wpAny P md ops Q' g done a w) :
    ∀ (f : Nat) (done : Array Bool) (a : Act) (w : World), C w → wpHead P md ops C n L f done a → wpAny P md ops Q' (f + g) done a w := by
  intro f
  induction f with
  | zero => intro done a w hw h; rw [Nat.zero_add]; exact hL _ _ _ hw h
  | succ f ih =>
    intro done a w hw h
    rw [show f + 1 + g = (f + g) + 1 by omega]
    exact ⟨fun e => absurd e h.1, fun i hi => wpOp_of_qOp hw (fun a' w' hw' k => ih _ a' w' hw' k) (h.2 i hi).2⟩

theorem getD_false {l : Array Bool} {i : Nat} (h : l.getD i true = false) : l.getD i false = false := getD_both h

/-- An operation among the first ones that may come up may be taken first. -/
theorem wpHead_first {i : Nat} {oi : Oper} {v : Value} {L : Array Bool → Act → Prop} (hi : ops[i]? = some oi) (hsel : ∀ (j : Nat) (o : Oper) cs b, ops[j]? = some o → o.op ≠ .select cs b)
    (hs : Region.sinkB md ops n = true) (hc : Region.chainB md ops n = true) (hn : n < ops.size) (hin : i < n) (hdone : ∀ done a, L done a → ∀ j ∈ Region.ready md ops done, n ≤ j) :
    ∀ (f : Nat) (done : Array Bool) (a : Act), HeadInv md ops n done →
      (∀ j oj, ops[j]? = some oj → j ≠ i → done.getD j true = false → (∀ e ∈ oj.after, Region.binds md e = true → e.on ≠ i) → oi.apart ops oj = true) →
      i ∈ Region.ready md ops done → YieldsIn P ops C oi v a → wpHead P md ops C n L f (done.setIfInBounds i true) (a.put oi.dst v) → wpHead P md ops C n L (f + 1) done a := by
  intro f
  induction f with
  | zero =>
    intro done a inv _ hr hy H
    refine ⟨fun e => (by rw [e] at hr; cases hr), fun j hj => ?_⟩
    have hjn : j < n := Nat.lt_of_not_le fun hle => tail_waits hs hc hn inv _ i rfl hin (mem_ready.1 hr).1 j hle hj
    by_cases e : j = i
    · subst e; exact ⟨hjn, hy.qOp hi H⟩
    · exact absurd (hdone _ _ H j (ready_mono hj e)) (by omega)
  | succ f ih =>
    intro done a inv hfree hr hy H
    refine ⟨fun e => (by rw [e] at hr; cases hr), fun j hj => ?_⟩
    have hjn : j < n := Nat.lt_of_not_le fun hle => tail_waits hs hc hn inv _ i rfl hin (mem_ready.1 hr).1 j hle hj
    refine ⟨hjn, ?_⟩
    by_cases e : j = i
    · subst e; exact hy.qOp hi H
    obtain ⟨hjun, oj, hoj, hall⟩ := mem_ready.1 hj
    have hno : ∀ x ∈ oj.after, Region.binds md x = true → x.on ≠ i := fun x hx hb heq => by
      have h1 := hall x hx hb
      rw [heq, getD_false (mem_ready.1 hr).1] at h1
      cases h1
    refine qOp_mono (fun a' h3 => ?_) (qOp_put hoj (hfree j oj hoj e hjun hno) (fun cs b => hsel i oi cs b hi) (fun cs b => hsel j oj cs b hoj) hy ((H.2 j (ready_mono hj e)).2))
    refine ih _ a' (inv.set hj hjn) (fun k ok hk hki hun hno' => ?_) (ready_mono hr (Ne.symm e)) h3.1 (by rw [Array.setIfInBounds_comm _ _ e]; exact h3.2)
    refine hfree k ok hk hki ?_ hno'
    by_cases hjk : j = k
    · subst hjk; exact hjun
    · rw [getD_set_ne true hjk] at hun; exact hun

theorem wpHead_lex {g : Nat} {Lq : Act → Prop} (hsel : Region.noSelect ops = true) (hs : Region.sinkB md ops n = true) (hc : Region.chainB md ops n = true) (hn : n < ops.size) :
    ∀ (l : List Oper) (k : Nat) (done : Array Bool) (a : Act), (∀ j, j < l.length → l[j]? = ops[k + j]?) → k + l.length = n → HeadInv md ops n done →
    Region.lexHead md ops g l.length k done = true → wpQuiet P ops C Lq l a → wpHead P md ops C n (fun done' a' => Region.seqB md ops g n done' = true ∧ Lq a') l.length done a := by
  intro l
  induction l with
  | nil =>
    intro k done a _ hk _ hB h
    obtain rfl : k = n := by simpa using hk
    exact ⟨by simpa [Region.lexHead] using hB, h⟩
  | cons o l ih =>
    intro k done a hl hk inv hB h
    have h0 : ops[k]? = some o := by simpa using (hl 0 (by simp)).symm
    simp only [List.length_cons, Region.lexHead, Bool.and_eq_true] at hB
    simp only [List.length_cons] at hk
    obtain ⟨⟨hr, hf⟩, hB'⟩ := hB
    have hr' : k ∈ Region.ready md ops done := by simpa using hr
    have hst : qOp P ops C k (wpQuiet P ops C Lq l) a := by unfold qOp; simp only [h0]; exact h
    obtain ⟨v, hy, hK⟩ := yieldsIn_of_qOp h0 hst
    exact wpHead_first h0 (Region.noSelect_spec hsel) hs hc hn (by omega) (fun done' a' hL => seqB_ready hL.1) l.length done a inv (Region.free_spec h0 hf) hr' hy
      (ih (k + 1) _ _ (fun j hj => by have := hl (j + 1) (by simp; omega); simpa [Nat.add_assoc, Nat.add_comm 1 j] using this) (by omega) (inv.set hr' (by omega)) hB' hK)
end

theorem wp_region_later_tail {P : Program} {id : Nat} {Q : Exit → Act → World → Prop} {a : Act} {w : World} {l : List Oper} (n : Nat) (hm : P.follows .mixedOrders = true) (hB : Region.lexTailB .any l.toArray n = true)
    (h : wpQuiet P l.toArray (fun w' => ∃ e : Later w, w' = lat w e) (fun a' => ∀ w', (∃ e : Later w, w' = lat w e) → wpList P l.toArray Q (l.drop n) a' w') (l.take n) a) : (Code.region id l.toArray true).wp P Q a w := by
  simp only [Region.lexTailB, Bool.and_eq_true, decide_eq_true_eq] at hB
  obtain ⟨⟨⟨⟨hsel, hn⟩, hs⟩, hc⟩, hlex⟩ := hB
  have hn' : n < l.length := by simpa using hn
  have htl : (l.take n).length = n := by simp; omega
  have hdl : (l.drop n).length = l.toArray.size - n := by simp
  have inv0 : HeadInv .any l.toArray n (Array.replicate l.toArray.size false) :=
    ⟨by simp, fun j oj _ hl => (by rw [getD_replicate_false] at hl; cases hl), fun t _ ht => getD_in (by simpa using ht) (getD_replicate_false _ _)⟩
  have H := wpHead_lex (md := .any) (g := l.toArray.size - n) hsel hs hc hn (l.take n) 0 _ a (fun j hj => by
    have hj' : j < n := by rw [htl] at hj; exact hj
    simp [hj']) (by simpa using htl) inv0 (by rw [htl]; exact hlex) h
  refine wp_region_any hm ?_
  have := wpAny_of_wpHead (Q' := Q) (g := l.toArray.size - n) (fun done' a' w' hw' hL => by
    have := wpAny_of_seq (md := .any) (Q' := Q) (l.drop n) n done' a' w' (fun j => by simp [List.getElem?_drop]) (by rw [hdl]; exact hL.1) (hL.2 w' hw')
    rwa [hdl] at this) _ _ _ { w with drawn := w.drawn + 1 } ⟨⟨_, Below.drew (Below.refl _ _)⟩, rfl⟩ H
  rw [htl, show n + (l.toArray.size - n) = l.toArray.size by omega] at this
  exact this
end Go.Proofs.YtjgkeillmelkoaaGreat.By
