import Derived.WalkKit
import Derived.ProofKit
import Derived.Deep.QuietTactic
import Derived.BigQuiet
import Derived.Test.YtjgkeillmelkoaaGreatBk02
import Derived.Test.YtjgkeillmelkoaaGreatBk01
namespace Go.Proofs.YtjgkeillmelkoaaGreat.Dt
open Go.Lib

/-- A token that ends what is read: none, a semicolon, a closing bracket. -/
def Dull (u : Tk) : Prop := u.k = 0 ∨ (u.k = 6 ∧ (u.s = BSEMI ∨ u.s = BCLOSE))
section
variable {L L' : List Tk} {en en' : Int} {d : Nat}
/-- Both rows are read alike by a step of the reading. -/
structure Sim (L : List Tk) (en : Int) (L' : List Tk) (en' : Int) (d : Nat) {α : Type} (p p' : Rd α) : Prop where
  mono : ∀ s, s.k ≤ (p s).2.k ∧ (s.e ≠ 0 → (p s).2.e ≠ 0)
  le : ∀ s, s.k ≤ L.length → (p s).2.k ≤ L.length
  go : ∀ s s' : PS, s.k + d = s'.k → s.e = 0 → s'.e = 0 → (p s).2.e = 0 → (∀ j, s.k ≤ j → j < (p s).2.k → sameT (tokP L en j) (tokP L' en' (j + d))) →
    (sameT (tokP L en (p s).2.k) (tokP L' en' ((p s).2.k + d)) ∨ (Dull (tokP L en (p s).2.k) ∧ Dull (tokP L' en' ((p s).2.k + d)))) →
    (p' s').1 = (p s).1 ∧ (p' s').2.k = (p s).2.k + d ∧ (p' s').2.e = 0
end
end Go.Proofs.YtjgkeillmelkoaaGreat.Dt
namespace Go.Proofs.YtjgkeillmelkoaaGreat.By
open Go.RowKit
/-- One step more of a call that leaves what was there as it was. -/
theorem next {a b c : World} (h : Below a.heap.size a b) (k : Below b.heap.size b c) : Below a.heap.size a c := h.trans (k.mono h.size)
end Go.Proofs.YtjgkeillmelkoaaGreat.By
namespace Go.Proofs.YtjgkeillmelkoaaGreat.By
open Go.RowKit

section
variable {P : Program} {ops : Array Oper} {md : Region.Mode} {Q : Exit → Act → World → Prop}

theorem ready_false {done : Array Bool} {i : Nat} (h : i ∈ Region.ready md ops done) : ∃ hi : i < done.size, done[i] = false := by
  have h1 := (mem_ready.1 h).1
  rcases Nat.lt_or_ge i done.size with hi | hi
  · refine ⟨hi, ?_⟩
    simpa [hi] using h1
  · simp [Array.getElem?_eq_none hi] at h1
theorem count_set_true {done : Array Bool} {i : Nat} (hi : i < done.size) (h : done[i] = false) : (done.setIfInBounds i true).toList.count false + 1 = done.toList.count false := by
  rw [Array.toList_setIfInBounds, List.count_set (by simpa using hi)]
  have hpos : 0 < done.toList.count false := List.count_pos_iff.2 (by
    rw [← h]
    simp)
  have e : (done.toList[i]'(by simpa using hi) == false) = true := by simp [h]
  rw [if_pos e, if_neg (by decide)]
  omega

theorem wpAny_inv {I : Array Bool → Act → World → Prop}
    (hstep : ∀ done a w i, done.size = ops.size → I done a w → i ∈ Region.ready md ops done → wpOp P ops Q i (I (done.setIfInBounds i true)) a w)
    (hend : ∀ done a w, done.size = ops.size → I done a w → Region.ready md ops done = [] → Q .normal a w) :
    ∀ (fuel : Nat) (done : Array Bool) (a : Act) (w : World), done.size = ops.size → done.toList.count false ≤ fuel → I done a w → wpAny P md ops Q fuel done a w := by
  intro fuel
  induction fuel with
  | zero =>
    intro done a w hs hc hI
    have hr : Region.ready md ops done = [] := by
      cases hq : Region.ready md ops done with
      | nil => rfl
      | cons i l =>
        exfalso
        obtain ⟨hi, h⟩ := ready_false (md := md) (ops := ops) (done := done) (i := i) (by rw [hq]; exact List.mem_cons_self)
        have := count_set_true hi h
        omega
    exact ⟨hr, hend done a w hs hI hr⟩
  | succ fuel ih =>
    intro done a w hs hc hI
    refine ⟨fun hr => hend done a w hs hI hr, fun i hi => ?_⟩
    obtain ⟨hlt, h⟩ := ready_false hi
    have hcnt := count_set_true hlt h
    exact wpOp_mono (fun a' w' hI' => ih _ a' w' (by simpa using hs) (by omega) hI') (hstep done a w i hs hI hi)
end

theorem wp_region_inv {P : Program} {id : Nat} {Q : Exit → Act → World → Prop} {a : Act} {w : World} {ops : Array Oper} (hm : P.follows .mixedOrders = true) (I : Array Bool → Act → World → Prop)
    (h0 : I (Array.replicate ops.size false) a w.drew)
    (hstep : ∀ done a w i, done.size = ops.size → I done a w → i ∈ Region.ready .any ops done → wpOp P ops Q i (I (done.setIfInBounds i true)) a w)
    (hend : ∀ done a w, done.size = ops.size → I done a w → Region.ready .any ops done = [] → Q .normal a w) : (Code.region id ops true).wp P Q a w :=
  wp_region_any hm (wpAny_inv hstep hend ops.size _ a _ (by simp) (by
    rw [Array.toList_replicate]
    exact Nat.le_trans (List.count_le_length) (by simp)) h0)
end Go.Proofs.YtjgkeillmelkoaaGreat.By
namespace Go.Proofs.YtjgkeillmelkoaaGreat.Dt
open Go.Lib
set_option linter.unusedVariables false

/-- A name that a text can say. -/
def NameOk (s : ByteArray) : Prop := okT ⟨2, s, 0, 0⟩
/-- A value that a text can say. -/
def ValOk (v : V) : Prop := (v.k = 0 ∧ v.n = 0 ∧ v.s = ⟨#[]⟩) ∨ (v.k = 1 ∧ -9223372036854775808 ≤ v.n ∧ v.n < 9223372036854775808 ∧ v.s = ⟨#[]⟩) ∨ ((v.k = 2 ∨ v.k = 3) ∧ v.n = 0 ∧ v.s.size ≤ 1000)
/-- An expression that a text can say. -/
inductive ExOk : PE → Prop where
  | val (v : V) : ValOk v → ExOk (.mk 1 v ⟨#[]⟩ ⟨#[]⟩ 0 [])
  | col (m : ByteArray) : NameOk m → ExOk (.mk 2 V00 ⟨#[]⟩ m 0 [])
  | tcol (t m : ByteArray) : NameOk t → NameOk m → ExOk (.mk 2 V00 t m 0 [])
  | one (op : Nat) (x : PE) : (op = 3 ∨ op = 4 ∨ op = 5 ∨ (20 ≤ op ∧ op ≤ 23)) → ExOk x → ExOk (.node op [x])
  | two (op : Nat) (x y : PE) : 6 ≤ op → op ≤ 19 → ExOk x → ExOk y → ExOk (.node op [x, y])
  | count : ExOk (.node 20 [])
section
variable {L : List Tk} {en : Int}
end
end Go.Proofs.YtjgkeillmelkoaaGreat.Dt
namespace Go.Proofs.YtjgkeillmelkoaaGreat.Dt
open Go.Lib
set_option linter.unusedVariables false

def NamesOk (l : List ByteArray) : Prop := ∀ n ∈ l, NameOk n
def ExsOk (l : List PE) : Prop := ∀ x ∈ l, ExOk x
def ColOk (c : PCol) : Prop := NameOk c.name ∧ 1 ≤ c.ty ∧ c.ty ≤ 3
def SrcOk (x : PSrc) : Prop := NameOk x.table ∧ (x.as = ⟨#[]⟩ ∨ NameOk x.as) ∧ ExsOk x.on
/-- A statement that a text can say. -/
inductive StOk : PSt → Prop where
  | create (t : ByteArray) (cols : List PCol) (key : List ByteArray) : NameOk t → (∀ c ∈ cols, ColOk c) → NamesOk key → StOk { kind := 1, table := t, cols := cols, key := key }
  | index (u : Bool) (n t : ByteArray) (key : List ByteArray) : NameOk n → NameOk t → NamesOk key → StOk { kind := 3, uniq := u, name := n, table := t, key := key }
  | drop (t : ByteArray) : NameOk t → StOk { kind := 2, table := t }
  | dropIndex (n : ByteArray) : NameOk n → StOk { kind := 4, name := n }
  | insert (t : ByteArray) (names : List ByteArray) (rows : List (List PE)) : NameOk t → NamesOk names → (∀ r ∈ rows, ExsOk r) → StOk { kind := 5, table := t, names := names, rows := rows }
  | update (t : ByteArray) (sets : List (ByteArray × PE)) (wh : List PE) : NameOk t → (∀ c ∈ sets, NameOk c.1 ∧ ExOk c.2) → ExsOk wh → StOk { kind := 6, table := t, sets := sets, wh := wh }
  | delete (t : ByteArray) (wh : List PE) : NameOk t → ExsOk wh → StOk { kind := 7, table := t, wh := wh }
  | select (items : List (PE × ByteArray)) (src : List PSrc) (wh group having : List PE) (order : List (PE × Bool)) (limit : Int) : (∀ i ∈ items, ExOk i.1 ∧ (i.2 = ⟨#[]⟩ ∨ NameOk i.2)) → (∀ x ∈ src, SrcOk x) → ExsOk wh → ExsOk group → ExsOk having →
      (∀ x ∈ order, ExOk x.1) → -1 ≤ limit → limit ≤ 1073741824 → StOk { kind := 8, items := items, src := src, wh := wh, group := group, having := having, order := order, limit := limit }
  | begin : StOk { kind := 9 }
  | commit : StOk { kind := 10 }
  | rollback : StOk { kind := 11 }
  | save (n : ByteArray) : NameOk n → StOk { kind := 12, name := n }
  | back (n : ByteArray) : NameOk n → StOk { kind := 13, name := n }
  | release (n : ByteArray) : NameOk n → StOk { kind := 14, name := n }
section
variable {L : List Tk} {en : Int}
end
end Go.Proofs.YtjgkeillmelkoaaGreat.Dt
namespace Go.Proofs.YtjgkeillmelkoaaGreat.Dt
open Go.Lib
set_option linter.unusedVariables false

abbrev W1 (b : ByteArray) : List UInt8 := b.data.toList
end Go.Proofs.YtjgkeillmelkoaaGreat.Dt
namespace Go.Proofs.YtjgkeillmelkoaaGreat.Dt
open Go.Lib
set_option linter.unusedVariables false

abbrev B0 : ByteArray := ⟨#[]⟩
abbrev B32 : ByteArray := ⟨#[32]⟩
def baL (l : List UInt8) : ByteArray := ⟨l.toArray⟩
def isNm (s : ByteArray) : Bool := decide ((writeL [⟨2, s, 0, 0⟩]).2 = 0)
/-- A value's words; false: it may not be. -/
def litR (v : V) : ByteArray × Bool :=
  if v.k = 0 then (WNULL, decide (v.n = 0 ∧ v.s = B0))
  else if v.k = 1 ∧ v.n < 0 then (baL (writeL [⟨6, BMINUS, 0, 0⟩, ⟨3, B0, (-v.n).toNat, 0⟩]).1, decide (v.s = B0))
  else if v.k = 1 then (baL (writeL [⟨3, v.s, v.n.toNat, 0⟩]).1, decide ((writeL [⟨3, v.s, v.n.toNat, 0⟩]).2 = 0))
  else if v.n ≠ 0 ∨ 3 < v.k then (B0, false)
  else (baL (writeL [⟨v.k + 2, v.s, 0, 0⟩]).1, decide ((writeL [⟨v.k + 2, v.s, 0, 0⟩]).2 = 0))
/-- Is an expression written bare within another one? -/
def bareR (op k : Nat) : Bool := !(decide (20 ≤ op) || !decide (k ≤ 2 ∨ 20 ≤ k) || (decide (op = 3) && decide (k = 1)))
def kidR (op k : Nat) (s : ByteArray) : ByteArray := if bareR op k then s else (⟨#[40, 32]⟩ ++ s) ++ ⟨#[32, 41]⟩
def catR (l : List ByteArray) : ByteArray := l.foldl (fun a s => (a ++ B32) ++ s) B0
def sgR : List ByteArray := [BPLUS, BMINUS, BSTAR, BDIV, BMOD, BJOIN, BEQ, BNE, BLT, BLE, BGT, BGE, WAND, WOR]
def gpR : List ByteArray := [WCOUNT, WSUM, WMIN, WMAX]
/-- An expression's words, where its kids' are told. -/
def topR (op : Nat) (v : V) (t m : ByteArray) (n : Int) (l : List ByteArray) (ok : Bool) : ByteArray × Bool :=
  if op = 1 ∧ l.length = 0 then ((litR v).1, (litR v).2 && decide (t = B0) && decide (m = B0) && decide (n = 0))
  else if ¬ (v.k = 0 ∧ v.n = 0 ∧ v.s = B0) ∨ n ≠ 0 ∨ (op ≠ 2 ∧ (t ≠ B0 ∨ m ≠ B0)) then (B0, false)
  else if op = 2 ∧ l.length = 0 then (if t = B0 then (m, isNm m) else ((t ++ ⟨#[32, 46, 32]⟩) ++ m, isNm t && isNm m))
  else if op = 3 ∧ l.length = 1 then (BMINUS ++ catR l, ok)
  else if op = 4 ∧ l.length = 1 then (WNOT ++ catR l, ok)
  else if op = 5 ∧ l.length = 1 then (l.getD 0 B0 ++ ⟨#[32, 73, 83, 32, 78, 85, 76, 76]⟩, ok)
  else if 6 ≤ op ∧ op ≤ 19 ∧ l.length = 2 then ((((l.getD 0 B0 ++ B32) ++ sgR.getD (op - 6) B0) ++ B32) ++ l.getD 1 B0, ok)
  else if op = 20 ∧ l.length = 0 then (⟨#[67, 79, 85, 78, 84, 32, 40, 32, 42, 32, 41]⟩, true)
  else if 20 ≤ op ∧ op ≤ 23 ∧ l.length = 1 then (gpR.getD (op - 20) B0 ++ catR l, ok)
  else (B0, false)
mutual
def putR : PE → ByteArray × Bool
  | .mk op v t m n kids => topR op v t m n (putKs op kids) (okKs kids)
def putKs (op : Nat) : List PE → List ByteArray
  | [] => []
  | k :: r => kidR op k.op (putR k).1 :: putKs op r
def okKs : List PE → Bool
  | [] => true
  | k :: r => (putR k).2 && okKs r
end
/-- What was put so far, and whether all was right. -/
structure OS where
  s : ByteArray
  ok : Bool
def oPut (w : ByteArray) (o : OS) : OS := ⟨(if o.s = B0 then o.s else o.s ++ B32) ++ w, o.ok⟩
def oAnd (b : Bool) (o : OS) : OS := ⟨o.s, o.ok && b⟩
def oName (n : ByteArray) (o : OS) : OS := oPut n (oAnd (isNm n) o)
def oExpr (x : PE) (o : OS) : OS := oPut (putR x).1 (oAnd (putR x).2 o)
def oAs (s : ByteArray) (o : OS) : OS := if s = B0 then o else oName s (oPut WAS o)
def oMaybe (w : ByteArray) (l : List PE) (o : OS) : OS :=
  let o := oAnd (decide (l.length ≤ 1)) o
  match l with
  | [x] => oExpr x (oPut w o)
  | _ => o
end Go.Proofs.YtjgkeillmelkoaaGreat.Dt
namespace Go.Proofs.YtjgkeillmelkoaaGreat.Dt

theorem kind_of {v : V} (h : checkV v = 0) : (v.k = 0 ∧ v.n = 0 ∧ v.s = ByteArray.empty) ∨ (v.k = 1 ∧ v.s = ByteArray.empty) ∨ ((v.k = 2 ∨ v.k = 3) ∧ v.n = 0 ∧ v.s.size ≤ 1000) := by
  unfold checkV at h
  split at h
  · cases h
  rename_i hb
  split at h
  · cases h
  rename_i hs
  unfold badV at hb
  simp only [not_or, not_and, Nat.not_lt, Decidable.not_not] at hb
  obtain ⟨h1, h2, h3⟩ := hb
  by_cases hk : v.k = 1
  · exact .inr (.inl ⟨hk, h3 (by omega)⟩)
  · have hn := h2 hk
    by_cases h0 : v.k = 0
    · exact .inl ⟨h0, hn, h3 (by omega)⟩
    · exact .inr (.inr ⟨by omega, hn, by omega⟩)
end Go.Proofs.YtjgkeillmelkoaaGreat.Dt
namespace Go.Proofs.YtjgkeillmelkoaaGreat.Et
open Go.Proofs.YtjgkeillmelkoaaGreat.Dt

def groupB (op : Nat) : Bool := decide (20 ≤ op ∧ op ≤ 23)
def kidsB (op n : Nat) : Bool :=
  if op = 1 then decide (n = 0) else if op = 2 then decide (n = 0) else if op = 20 then decide (n ≤ 1) else if 6 ≤ op ∧ op ≤ 19 then decide (n = 2) else decide (n = 1)
/-- May one node be, for so many columns? -/
def oneB (cols : Int) (x : Ex) : Bool :=
  decide (1 ≤ x.op ∧ x.op ≤ 23) && kidsB x.op x.kids.length && !(decide (x.op = 1) && decide (checkV x.v ≠ 0)) && !(decide (x.op = 2) && decide (x.n < 0 ∨ cols ≤ x.n))
theorem one_iff (cols : Int) (x : Ex) : oneB cols x = true ↔ (1 ≤ x.op ∧ x.op ≤ 23) ∧ kidsB x.op x.kids.length = true ∧ (x.op = 1 → checkV x.v = 0) ∧ (x.op = 2 → 0 ≤ x.n ∧ x.n < cols) := by
  have e : ∀ p q : Prop, [Decidable p] → [Decidable q] → ((!(decide p && decide q)) = true ↔ (p → ¬ q)) := by
    intro p q _ _
    by_cases hp : p <;> by_cases hq : q <;> simp [hp, hq]
  unfold oneB
  rw [Bool.and_eq_true, Bool.and_eq_true, Bool.and_eq_true, decide_eq_true_iff, e, e, and_assoc, and_assoc]
  refine and_congr_right fun _ => and_congr_right fun _ => and_congr ?_ ?_
  · exact imp_congr_right fun _ => by omega
  · exact imp_congr_right fun _ => by omega
mutual
def shapedB (cols : Int) : Ex → Bool
  | .mk op v t m n kv kids => oneB cols (.mk op v t m n kv kids) && shapedAll cols kids
def shapedAll (cols : Int) : List Ex → Bool
  | [] => true
  | x :: l => shapedB cols x && shapedAll cols l
end
mutual
/-- .. with groups' not within one another, or not at all. -/
def mayB (cols : Int) (g : Bool) : Ex → Bool
  | .mk op v t m n kv kids => shapedB cols (.mk op v t m n kv kids) && !(groupB op && !g) && mayAll cols (g && !groupB op) kids
def mayAll (cols : Int) (g : Bool) : List Ex → Bool
  | [] => true
  | x :: l => mayB cols g x && mayAll cols g l
end
theorem shapedAll_iff (cols : Int) : ∀ l : List Ex, shapedAll cols l = l.all (shapedB cols)
  | [] => by simp [shapedAll]
  | x :: l => by simp [shapedAll, shapedAll_iff cols l]
theorem mayAll_iff (cols : Int) (g : Bool) : ∀ l : List Ex, mayAll cols g l = l.all (mayB cols g)
  | [] => by simp [mayAll]
  | x :: l => by simp [mayAll, mayAll_iff cols g l]
theorem shaped_eq (cols : Int) (x : Ex) : shapedB cols x = (oneB cols x && x.kids.all (shapedB cols)) := by
  cases x; rw [shapedB, shapedAll_iff]; rfl
theorem may_eq (cols : Int) (g : Bool) (x : Ex) : mayB cols g x = (shapedB cols x && !(groupB x.op && !g) && x.kids.all (mayB cols (g && !groupB x.op))) := by
  cases x; rw [mayB, mayAll_iff]; rfl
theorem all_take {α : Type} {p : α → Bool} {l : List α} {k : Nat} {x : α} (h : (l.take k).all p = true) (hx : l[k]? = some x) (hp : p x = true) : (l.take (k + 1)).all p = true := by
  obtain ⟨hk, rfl⟩ := List.getElem?_eq_some_iff.1 hx
  rw [List.take_succ_eq_append_getElem hk, List.all_append, h]
  simp [hp]
theorem all_not {α : Type} {p : α → Bool} {l : List α} {k : Nat} {x : α} (hx : l[k]? = some x) (hp : p x = false) : l.all p = false := by
  rw [List.all_eq_false]
  exact ⟨x, List.mem_of_getElem? hx, by rw [hp]; simp⟩
end Go.Proofs.YtjgkeillmelkoaaGreat.Et
namespace Go.Proofs.YtjgkeillmelkoaaGreat.Et
open Go.Proofs.YtjgkeillmelkoaaGreat.Dt

def inR (n : Int) : Prop := -9223372036854775808 ≤ n ∧ n ≤ 9223372036854775807
instance (n : Int) : Decidable (inR n) := by unfold inR; exact inferInstance
def numV (n : Int) : V := ⟨1, n, ByteArray.empty⟩
def nullV : V := ⟨0, 0, ByteArray.empty⟩
/-- A number, or that there is none. -/
def overS (n : Int) : V × Nat := if inR n then (numV n, 0) else (nullV, 152)
def reckonS (op : Nat) (a b : Int) : V × Nat :=
  if op = 6 then overS (a + b) else if op = 7 then overS (a - b) else if op = 8 then overS (a * b)
  else if b = 0 then (nullV, 0) else if op = 9 then overS (a.tdiv b) else (numV (a.tmod b), 0)
/-- A value and an error's number, as a call hands them back. -/
abbrev resV (r : V × Nat) : Value := .tuple #[r.1.val, .int .i64 (r.2 : Int)]
def truthV (b : Bool) : V := if b then numV 1 else numV 0

end Go.Proofs.YtjgkeillmelkoaaGreat.Et
namespace Go.Proofs.YtjgkeillmelkoaaGreat.Et
open Go.Proofs.YtjgkeillmelkoaaGreat.Dt

def allB (kind : Nat) (l : List Nat) : Bool := l.all fun k => decide (k = 0 ∨ k = kind)
def togetherB (op : Nat) (l : List Nat) : Bool :=
  if op = 5 ∨ op = 20 ∨ 22 ≤ op then true
  else if op = 11 then allB 2 l
  else if 12 ≤ op ∧ op ≤ 17 then decide (l.getD 0 0 = l.getD 1 0 ∨ l.getD 0 0 = 0 ∨ l.getD 1 0 = 0)
  else allB 1 l
def trueB (v : V) : Bool := decide (v.k = 1) && decide (v.n ≠ 0)
def logicS (a b : V) (d : Bool) : V :=
  if a.k = 1 ∧ trueB a = d then truthV d else if b.k = 1 ∧ trueB b = d then truthV d
  else if a.k = 0 ∨ b.k = 0 then nullV else truthV (!d)
def holdsB (op : Nat) (c : Int) : Bool :=
  if op = 12 then decide (c = 0) else if op = 13 then decide (c ≠ 0) else if op = 14 then decide (c < 0) else if op = 15 then decide (c ≤ 0) else if op = 16 then decide (0 < c) else decide (0 ≤ c)
def nullB (l : List V) : Bool := l.any fun v => decide (v.k = 0)
/-- What an operation comes to, of two values (of one: the other counts for nothing). -/
def doS (op : Nat) (l : List V) : V × Nat :=
  let a := l.getD 0 nullV
  let b := l.getD 1 nullV
  if togetherB op (l.map V.k) = false then (nullV, 150)
  else if op = 5 then (truthV (nullB l), 0)
  else if op = 18 ∨ op = 19 then (logicS a b (decide (op = 19)), 0)
  else if nullB l then (nullV, 0)
  else if op = 4 then (truthV (!trueB a), 0)
  else if op = 3 then reckonS 7 0 a.n
  else if op = 11 then (if 1000 < a.s.size + b.s.size then (nullV, 3) else (⟨2, 0, a.s ++ b.s⟩, 0))
  else if 12 ≤ op then (truthV (holdsB op (cmpV a b)), 0)
  else reckonS op a.n b.n
section
variable {op : Nat} {l : List V}
end
end Go.Proofs.YtjgkeillmelkoaaGreat.Et
namespace Go.Proofs.YtjgkeillmelkoaaGreat.Et
open Go.Proofs.YtjgkeillmelkoaaGreat.Dt

section
variable (col : Int → V) (grp : Ex → V × Nat)
mutual
/-- What an expression comes to; columns' and groups' values are told. -/
def walkS : Ex → V × Nat
  | .mk op v t m n kv kids =>
    if op = 1 then (v, 0) else if op = 2 then (col n, 0) else if groupB op then grp (.mk op v t m n kv kids)
    else if (walkAll kids).2 = 0 then doS op (walkAll kids).1 else (nullV, (walkAll kids).2)
def walkAll : List Ex → List V × Nat
  | [] => ([], 0)
  | x :: l => if (walkS x).2 = 0 then ((walkS x).1 :: (walkAll l).1, (walkAll l).2) else ([], (walkS x).2)
end
/-- The first kids, without an error. -/
structure Sofar (ks : List Ex) (k : Nat) (vs : List V) : Prop where
  no : ∀ i, i < k → ∀ y, ks[i]? = some y → (walkS col grp y).2 = 0
  vs : vs = (ks.take k).map fun y => (walkS col grp y).1
variable {col grp}
end
end Go.Proofs.YtjgkeillmelkoaaGreat.Et
