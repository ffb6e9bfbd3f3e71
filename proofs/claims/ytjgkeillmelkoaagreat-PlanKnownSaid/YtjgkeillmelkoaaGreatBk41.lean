import Derived.Test.YtjgkeillmelkoaaGreatBk35
import Derived.Test.YtjgkeillmelkoaaGreatBk40
import Derived.Test.YtjgkeillmelkoaaGreatBk37
namespace Go.Proofs.YtjgkeillmelkoaaGreat.Dt
open Go.RowKit Go.Proofs.YtjgkeillmelkoaaGreat.By

/-- A row of the call's own, by a relation. -/
theorem slR_owns {α : Type} {R : World → List Value → α → Prop} {w : World} {base size : Nat} {e : TypeId} {v : Value} {cs : List (List Value)} {l : List α} (h : w.ownsRow base e size v cs.length cs.flatten) (hl : cs.length = l.length) (hs : ∀ c ∈ cs, c.length = size)
    (hR : ∀ (i : Nat) (c : List Value) (x : α), cs[i]? = some c → l[i]? = some x → R w c x) : SlR size R w v l := by
  refine ⟨cs, ?_, hl, fun i c x hc hx => ⟨hs c (List.mem_of_getElem? hc), hR i c x hc hx⟩⟩
  rcases h.2 with ⟨rfl, hn⟩ | ⟨g, cap, cur, rfl, hg, hh, hn, hcap, hsz, ht⟩
  · obtain rfl : cs = [] := List.eq_nil_of_length_eq_zero hn
    exact SlAt.nil _ _ _
  · refine ⟨_, cap, rfl, hn, fun i x hx => ⟨g, 0, rfl, fun j y hj => ?_⟩⟩
    have h1 := World.ownsRow.cells h rfl (i * size + j) y (flatten_get cs i x j y hs hx hj)
    rw [Addr.add_lit, ← Nat.add_assoc] at h1
    exact h1
theorem own_slR {W : World} {lo n size : Nat} {e : TypeId} {sv : Value} {xs : List Value} (h : W.ownsRow lo e size sv n xs) : ∃ a c, sv = .slice a n c := by
  rcases h.2 with ⟨rfl, rfl⟩ | ⟨g, cap, cur, rfl, _⟩
  · exact ⟨none, 0, rfl⟩
  · exact ⟨_, _, rfl⟩
theorem tbR_below {w W : World} {tc : List Value} {x : PTb} (h : TbR w tc x) (hb : Below w.heap.size w W) : TbR W tc x := by
  obtain ⟨cv, kv, iv, e, h1, h2, h3⟩ := h
  exact ⟨cv, kv, iv, e, colsR_below h1 hb, intsR_below h2 hb, ixsR_below h3 hb⟩
theorem elStrP : By.Elem Tryz.prog 27 9 1 16 where
  slice := by kernel_rfl
  info := by
    have h : (Tryz.prog.info? 9).map (fun i => (i.zero, i.size, i.bytes)) = some (some (.string ⟨#[]⟩), 1, 16) := by kernel_rfl
    obtain ⟨i, hi, h1, h2, h3⟩ := info_parts h
    exact ⟨i, _, hi, h1, h2, h3, rfl⟩
  pos := by decide
def st6 : PSt := { kind := 8, items := itm6.map fun x => (x, ⟨#[]⟩), src := [⟨⟨#[116]⟩, ⟨#[]⟩, []⟩, ⟨⟨#[116]⟩, ⟨#[117]⟩, [px6]⟩], limit := -1 }
end Go.Proofs.YtjgkeillmelkoaaGreat.Dt
namespace Go.Proofs.YtjgkeillmelkoaaGreat.Dt
open Go.RowKit Go.Proofs.YtjgkeillmelkoaaGreat.By

def GaV (gl b o : Nat) (tv fv cv : Value) (A : Int) (tc : Array Value) : Nat → Value
  | 0 => .pointer (some ⟨gl, 0, none⟩)
  | 1 => tv
  | 2 => cv
  | 3 => .int .i64 0
  | 4 => .pointer (some ⟨b, o, none⟩)
  | 5 => .agg tc
  | 8 => .pointer (some ⟨gl, 1, none⟩)
  | 9 => fv
  | 10 => .pointer (some ⟨gl, 2, none⟩)
  | 11 => .int .i64 A
  | 14 => .pointer (some ⟨gl, 0, none⟩)
  | _ => .pointer (some ⟨gl, 1, none⟩)
structure GaJ (w5 : World) (gl lo n : Nat) (tv fv : Value) (T F : List Value) (A : Int) (tc : Array Value) (V : Nat → Value) (dn : Nat → Bool) (us : Nat → Value) (w : World) : Prop where
  os : w.os = w5.os
  tape : w.tape = w5.tape
  out : w.output = w5.output
  size : w5.heap.size ≤ w.heap.size
  block : ∀ z, z < lo → z ≠ gl → w.heap[z]? = w5.heap[z]?
  lo5 : gl < lo ∧ lo ≤ w5.heap.size
  tb : ∀ z, tv.ownBlock = some z → z < w5.heap.size
  fb : ∀ z, fv.ownBlock = some z → z < w5.heap.size
  vs : ∀ j, (j ≠ 6 ∧ j ≠ 7 ∧ j ≠ 12 ∧ j ≠ 13 ∧ j ≠ 15 ∧ j ≠ 17) → dn j = true → us j = V j
  k6 : dn 6 = true → dn 7 = false → ∃ g, us 6 = .slice (some ⟨g, 0, none⟩) 1 1 ∧ Row g 59 tc w
  k12 : dn 12 = true → dn 13 = false → ∃ g, us 12 = .slice (some ⟨g, 0, none⟩) 1 1 ∧ w5.heap.size ≤ g ∧ Row g 3 #[.int .i64 A] w
  t7 : dn 7 = false → w.ownsRow lo 59 4 tv n T
  t7' : dn 7 = true → w.ownsRow lo 59 4 (us 7) (n + 1) (T ++ tc.toList)
  f13 : dn 13 = false → w.ownsRow lo 3 1 fv n F
  f13' : dn 13 = true → w.ownsRow lo 3 1 (us 13) (n + 1) (F ++ [.int .i64 A])
  dj : ∀ z, (if dn 7 = true then us 7 else tv).ownBlock = some z → (if dn 13 = true then us 13 else fv).ownBlock ≠ some z
  row : Row gl 51 #[if dn 15 = true then us 7 else tv, if dn 17 = true then us 13 else fv, .int .i64 A] w
section
variable {w5 w w' : World} {gl lo n : Nat} {tv fv : Value} {T F : List Value} {A : Int} {tc : Array Value} {V : Nat → Value} {dn : Nat → Bool} {us : Nat → Value}
theorem own_kept {W W' : World} {lo n size : Nat} {e : TypeId} {v r : Value} {xs : List Value} (h : W.ownsRow lo e size v n xs) (q : W.grownBy W' r.ownBlock) (hne : ∀ z, r.ownBlock = some z → v.ownBlock ≠ some z) : W'.ownsRow lo e size v n xs := by
  refine World.ownsRow.kept h q ?_
  cases hf : v.ownBlock with
  | none => exact .inl rfl
  | some k => exact .inr fun e => hne k e.symm hf
theorem GaJ.later (h : GaJ w5 gl lo n tv fv T F A tc V dn us w) (hb : Below w.heap.size w w') : GaJ w5 gl lo n tv fv T F A tc V dn us w' :=
  ⟨hb.os.trans h.os, hb.tape.trans h.tape, hb.output.trans h.out, Nat.le_trans h.size hb.size, fun z hz hne => (hb.block z (Nat.lt_of_lt_of_le hz (Nat.le_trans h.lo5.2 h.size))).trans (h.block z hz hne), h.lo5, h.tb, h.fb, h.vs,
    fun e1 e2 => by obtain ⟨g, a, r⟩ := h.k6 e1 e2; exact ⟨g, a, r.later hb⟩, fun e1 e2 => by obtain ⟨g, a, b, r⟩ := h.k12 e1 e2; exact ⟨g, a, b, r.later hb⟩,
    fun e => World.ownsRow.kept (h.t7 e) (pl_grown hb) (by cases tv.ownBlock <;> simp), fun e => World.ownsRow.kept (h.t7' e) (pl_grown hb) (by cases (us 7).ownBlock <;> simp),
    fun e => World.ownsRow.kept (h.f13 e) (pl_grown hb) (by cases fv.ownBlock <;> simp), fun e => World.ownsRow.kept (h.f13' e) (pl_grown hb) (by cases (us 13).ownBlock <;> simp), h.dj, h.row.later hb⟩
theorem GaJ.const (h : GaJ w5 gl lo n tv fv T F A tc V dn us w) (i : Nat) (hi : i ≠ 6 ∧ i ≠ 7 ∧ i ≠ 12 ∧ i ≠ 13 ∧ i ≠ 15 ∧ i ≠ 17) : GaJ w5 gl lo n tv fv T F A tc V (upd dn i) (fun j => if j = i then V i else us j) w := by
  obtain ⟨q6, q7, q12, q13, q15, q17⟩ := hi
  have q6 := Ne.symm q6
  have q7 := Ne.symm q7
  have q12 := Ne.symm q12
  have q13 := Ne.symm q13
  have q15 := Ne.symm q15
  have q17 := Ne.symm q17
  refine ⟨h.os, h.tape, h.out, h.size, h.block, h.lo5, h.tb, h.fb, fun j hj e => ?_, ?_, ?_, ?_, ?_, ?_, ?_, ?_, ?_⟩
  · by_cases hz : j = i
    · rw [if_pos hz, hz]
    · rw [if_neg hz]; rw [upd_ne hz] at e; exact h.vs j hj e
  · simp only [upd_ne q6, upd_ne q7, if_neg q6]; exact h.k6
  · simp only [upd_ne q12, upd_ne q13, if_neg q12]; exact h.k12
  · simp only [upd_ne q7]; exact h.t7
  · simp only [upd_ne q7, if_neg q7]; exact h.t7'
  · simp only [upd_ne q13]; exact h.f13
  · simp only [upd_ne q13, if_neg q13]; exact h.f13'
  · simp only [upd_ne q7, upd_ne q13, if_neg q7, if_neg q13]; exact h.dj
  · simp only [upd_ne q15, upd_ne q17, if_neg q7, if_neg q13]; exact h.row
theorem vs_ne {i : Nat} {v : Value} (h : ∀ j, (j ≠ 6 ∧ j ≠ 7 ∧ j ≠ 12 ∧ j ≠ 13 ∧ j ≠ 15 ∧ j ≠ 17) → dn j = true → us j = V j) (hi : i = 6 ∨ i = 7 ∨ i = 12 ∨ i = 13 ∨ i = 15 ∨ i = 17) :
    ∀ j, (j ≠ 6 ∧ j ≠ 7 ∧ j ≠ 12 ∧ j ≠ 13 ∧ j ≠ 15 ∧ j ≠ 17) → upd dn i j = true → (fun j => if j = i then v else us j) j = V j := fun j hj e => by
  have hz : j ≠ i := by omega
  show (if j = i then v else us j) = _
  rw [if_neg hz]; rw [upd_ne hz] at e; exact h j hj e
theorem GaJ.lit6 (h : GaJ w5 gl lo n tv fv T F A tc V dn us w) {g : Nat} (hr : Row g 59 tc w) : GaJ w5 gl lo n tv fv T F A tc V (upd dn 6) (fun j => if j = 6 then .slice (some ⟨g, 0, none⟩) 1 1 else us j) w := by
  refine ⟨h.os, h.tape, h.out, h.size, h.block, h.lo5, h.tb, h.fb, vs_ne h.vs (.inl rfl), fun _ _ => ⟨g, rfl, hr⟩, ?_, ?_, ?_, ?_, ?_, ?_, ?_⟩
  · exact h.k12
  · exact h.t7
  · exact h.t7'
  · exact h.f13
  · exact h.f13'
  · exact h.dj
  · exact h.row
theorem GaJ.lit12 (h : GaJ w5 gl lo n tv fv T F A tc V dn us w) {g : Nat} (hg : w5.heap.size ≤ g) (hr : Row g 3 #[.int .i64 A] w) : GaJ w5 gl lo n tv fv T F A tc V (upd dn 12) (fun j => if j = 12 then .slice (some ⟨g, 0, none⟩) 1 1 else us j) w := by
  refine ⟨h.os, h.tape, h.out, h.size, h.block, h.lo5, h.tb, h.fb, vs_ne h.vs (.inr (.inr (.inl rfl))), ?_, fun _ _ => ⟨g, rfl, hg, hr⟩, ?_, ?_, ?_, ?_, ?_, ?_⟩
  · exact h.k6
  · exact h.t7
  · exact h.t7'
  · exact h.f13
  · exact h.f13'
  · exact h.dj
  · exact h.row
theorem GaJ.app7 (h : GaJ w5 gl lo n tv fv T F A tc V dn us w) (h6 : dn 6 = true) (h7 : dn 7 = false) (h13 : dn 13 = false) (h15 : dn 15 = false) (hn : n ≤ 1000000) (htc : tc.size = 4) (h1 : ∀ u ∈ tc.toList, u.oneCell' = true) (ty : TypeId) :
    ∃ v' w', (Builtin.append_ #[37, 37] ty #[tv, us 6]).run Tryz.prog w = .ok v' w' ∧ GaJ w5 gl lo n tv fv T F A tc V (upd dn 7) (fun j => if j = 7 then v' else us j) w' := by
  have hown := h.t7 h7
  obtain ⟨g6, e6, hr6⟩ := h.k6 h6 h7
  have hrd : PRd w 4 (us 6) 1 tc.toList := by rw [e6]; exact prd_lit hr6 htc
  obtain ⟨v', w', r1, r2, r3, r4⟩ := pl_run_append (P := Tryz.prog) 37 ty 59 4 88 elTb lo tv n T hown (us 6) 1 tc.toList hrd h1 (by unfold maxLen; omega) (by omega) (Nat.le_trans h.lo5.2 h.size)
  have hlo : ∀ z, tv.ownBlock = some z → lo ≤ z := fun z hz => (World.ownsRow.lt hown z hz).1
  have hs := h.size
  have hl := h.lo5
  have hbk : ∀ z, z < lo → w'.heap[z]? = w.heap[z]? := fun z hz => r3.block z (by omega) (fun e => by have := hlo z e.symm; omega)
  have e13 : (upd dn 7) 13 = false := by rw [upd_ne (by decide)]; exact h13
  have hdj := h.dj
  simp only [h7, h13, if_neg (show ¬ (false = true) by decide)] at hdj
  refine ⟨v', w', r1, r3.os.trans h.os, r3.tape.trans h.tape, r3.output.trans h.out, Nat.le_trans h.size r3.size, fun z hz hne => (hbk z hz).trans (h.block z hz hne), h.lo5, h.tb, h.fb, vs_ne h.vs (.inr (.inl rfl)), fun _ e => ?_, fun e1 e2 => ?_, fun e => ?_, fun _ => r2, fun _ => ?_, fun e => ?_, ?_, ?_⟩
  · rw [upd_eq] at e; cases e
  · obtain ⟨g, a, b, r⟩ := h.k12 e1 e2
    exact ⟨g, a, b, (r3.block g r.lt (fun e => by have := h.tb g e.symm; omega)).trans r⟩
  · rw [upd_eq] at e; cases e
  · exact own_kept (h.f13 h13) r3 hdj
  · rw [e13] at e; cases e
  · intro z hz
    rw [upd_eq, if_pos rfl] at hz
    rw [e13, if_neg (by decide)]
    rcases r4 with e | e
    · exact hdj z (e ▸ hz)
    · rw [if_pos rfl, e] at hz
      cases hz
      intro e; have := h.fb _ e; omega
  · have hr := h.row
    simp only [upd_ne (show (15 : Nat) ≠ 7 by decide), upd_ne (show (17 : Nat) ≠ 7 by decide), h15, if_neg (show ¬ (false = true) by decide), if_neg (show ¬ ((13 : Nat) = 7) by decide)] at hr ⊢
    exact (hbk gl hl.1).trans hr
theorem GaJ.app13 (h : GaJ w5 gl lo n tv fv T F A tc V dn us w) (h7 : dn 7 = true) (h12 : dn 12 = true) (h13 : dn 13 = false) (h17 : dn 17 = false) (hn : n ≤ 1000000) (ty : TypeId) :
    ∃ v' w', (Builtin.append_ #[49, 49] ty #[fv, us 12]).run Tryz.prog w = .ok v' w' ∧ GaJ w5 gl lo n tv fv T F A tc V (upd dn 13) (fun j => if j = 13 then v' else us j) w' := by
  have hown := h.f13 h13
  obtain ⟨g6, e6, _, hr6⟩ := h.k12 h12 h13
  have hrd : PRd w 1 (us 12) 1 [.int .i64 A] := by rw [e6]; exact prd_lit hr6 rfl
  obtain ⟨v', w', r1, r2, r3, r4⟩ := pl_run_append (P := Tryz.prog) 49 ty 3 1 8 elInt lo fv n F hown (us 12) 1 [.int .i64 A] hrd (by simp [Value.oneCell']) (by unfold maxLen; omega) (by omega) (Nat.le_trans h.lo5.2 h.size)
  have hlo : ∀ z, fv.ownBlock = some z → lo ≤ z := fun z hz => (World.ownsRow.lt hown z hz).1
  have hs := h.size
  have hl := h.lo5
  have hbk : ∀ z, z < lo → w'.heap[z]? = w.heap[z]? := fun z hz => r3.block z (by omega) (fun e => by have := hlo z e.symm; omega)
  have e7 : (upd dn 13) 7 = true := by rw [upd_ne (by decide)]; exact h7
  have hdj := h.dj
  simp only [h7, h13, if_neg (show ¬ (false = true) by decide), if_pos] at hdj
  refine ⟨v', w', r1, r3.os.trans h.os, r3.tape.trans h.tape, r3.output.trans h.out, Nat.le_trans h.size r3.size, fun z hz hne => (hbk z hz).trans (h.block z hz hne), h.lo5, h.tb, h.fb, vs_ne h.vs (.inr (.inr (.inr (.inl rfl)))), fun _ e => ?_, fun _ e => ?_, fun e => ?_, fun _ => ?_, fun e => ?_, fun _ => r2, ?_, ?_⟩
  · rw [e7] at e; cases e
  · rw [upd_eq] at e; cases e
  · rw [e7] at e; cases e
  · exact own_kept (h.t7' h7) r3 (fun z hz e => hdj z e hz)
  · rw [upd_eq] at e; cases e
  · intro z hz
    rw [e7, if_pos rfl, if_neg (show ¬ ((7 : Nat) = 13) by decide)] at hz
    rw [upd_eq, if_pos rfl]
    show v'.ownBlock ≠ some z
    rcases r4 with e | e
    · rw [e]; exact hdj z hz
    · rw [e]; intro e; cases e
      have := (World.ownsRow.lt (h.t7' h7) _ hz).2
      omega
  · have hr := h.row
    simp only [upd_ne (show (15 : Nat) ≠ 13 by decide), upd_ne (show (17 : Nat) ≠ 13 by decide), h17, if_neg (show ¬ (false = true) by decide), if_neg (show ¬ ((7 : Nat) = 13) by decide)] at hr ⊢
    exact (hbk gl hl.1).trans hr
theorem GaJ.set (h : GaJ w5 gl lo n tv fv T F A tc V dn us w) (h7 : dn 7 = true) (h13 : dn 13 = true) {i : Nat} (hi : i = 15 ∨ i = 17) (q : w.grownBy w' (some gl)) (v : Value)
    (hr : Row gl 51 #[if (upd dn i) 15 = true then us 7 else tv, if (upd dn i) 17 = true then us 13 else fv, .int .i64 A] w') : GaJ w5 gl lo n tv fv T F A tc V (upd dn i) (fun j => if j = i then v else us j) w' := by
  have q6 : (6 : Nat) ≠ i := by omega
  have q7 : (7 : Nat) ≠ i := by omega
  have q12 : (12 : Nat) ≠ i := by omega
  have q13 : (13 : Nat) ≠ i := by omega
  have hl := h.lo5
  have e7 : (upd dn i) 7 = true := by rw [upd_ne q7]; exact h7
  have e13 : (upd dn i) 13 = true := by rw [upd_ne q13]; exact h13
  refine ⟨q.os.trans h.os, q.tape.trans h.tape, q.output.trans h.out, Nat.le_trans h.size q.size, fun z hz hne => (q.block z (Nat.lt_of_lt_of_le hz (Nat.le_trans hl.2 h.size)) (fun e => hne (Option.some.inj e))).trans (h.block z hz hne), hl, h.tb, h.fb, vs_ne h.vs (by omega), fun _ e => ?_, fun _ e => ?_, fun e => ?_, fun _ => ?_, fun e => ?_, fun _ => ?_, ?_, ?_⟩
  · rw [e7] at e; cases e
  · rw [e13] at e; cases e
  · rw [e7] at e; cases e
  · simp only [if_neg q7]
    exact World.ownsRow.kept (h.t7' h7) q (.inr fun e => by have := (World.ownsRow.lt (h.t7' h7) gl e).1; omega)
  · rw [e13] at e; cases e
  · simp only [if_neg q13]
    exact World.ownsRow.kept (h.f13' h13) q (.inr fun e => by have := (World.ownsRow.lt (h.f13' h13) gl e).1; omega)
  · simp only [upd_ne q7, upd_ne q13, if_neg q7, if_neg q13]; exact h.dj
  · simp only [if_neg q7, if_neg q13]; exact hr
theorem GaJ.st15 (h : GaJ w5 gl lo n tv fv T F A tc V dn us w) (h7 : dn 7 = true) (h13 : dn 13 = true) (h15 : dn 15 = false) (v : Value) : GaJ w5 gl lo n tv fv T F A tc V (upd dn 15) (fun j => if j = 15 then v else us j) (w.setCell ⟨gl, 0, none⟩ (us 7)) := by
  have hr := h.row
  rw [h15, if_neg (show ¬ (false = true) by decide)] at hr
  have es := setCell_eq_setRow w gl 0 _ _ _ (us 7) hr
  rw [es]
  refine h.set h7 h13 (.inl rfl) (grown_setRow _ _ _) v ?_
  rw [upd_eq, if_pos rfl, upd_ne (show (17 : Nat) ≠ 15 by decide)]
  exact Row.set hr _
theorem GaJ.st17 (h : GaJ w5 gl lo n tv fv T F A tc V dn us w) (h7 : dn 7 = true) (h13 : dn 13 = true) (h17 : dn 17 = false) (v : Value) : GaJ w5 gl lo n tv fv T F A tc V (upd dn 17) (fun j => if j = 17 then v else us j) (w.setCell ⟨gl, 1, none⟩ (us 13)) := by
  have hr := h.row
  rw [h17, if_neg (show ¬ (false = true) by decide)] at hr
  have es := setCell_eq_setRow w gl 1 _ _ _ (us 13) hr
  rw [es]
  refine h.set h7 h13 (.inr rfl) (grown_setRow _ _ _) v ?_
  rw [upd_eq, if_pos rfl, upd_ne (show (15 : Nat) ≠ 17 by decide)]
  exact Row.set hr _
end
end Go.Proofs.YtjgkeillmelkoaaGreat.Dt
