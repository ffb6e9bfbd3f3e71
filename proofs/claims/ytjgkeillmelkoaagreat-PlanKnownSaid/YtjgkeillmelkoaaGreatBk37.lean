import Derived.Test.YtjgkeillmelkoaaGreatBk36
namespace Go.Proofs.YtjgkeillmelkoaaGreat.Dt
open Go.RowKit Go.Proofs.YtjgkeillmelkoaaGreat.By

theorem TB.grown {w0 w w' : World} {gl gp gi i r : Nat} {S : Array Value} {pv : Value} (h : TB w0 gl gp gi S pv i w) (g : w.grownBy w' (some r)) (h0 : w0.heap.size ≤ r) (hl : gl ≠ r) (hp : gp ≠ r) (hi : gi ≠ r) : TB w0 gl gp gi S pv i w' :=
  ⟨h.h0.grown g h.h0.size (fun k hk => by cases hk; exact h0), h.rl.grown g hl, h.rp.grown g hp, h.ri.grown g hi⟩
/-- Append as one operation, of whatever region. -/
theorem pl_op_run {P : Program} {ops : Array Oper} {i : Nat} {o : Oper} {a : Act} {w : World} {Q : Exit → Act → World → Prop} {K : Act → World → Prop} (ho : ops[i]? = some o) (hg : o.guard = none) (s x : Operand) (t : TypeId)
    (hop : o.op = .call { callee := .builtin .append, args := #[s, x], argTypes := #[t, t] }) {v sv : Value} (hs : a.eval s = v) (hx : a.eval x = sv) {v' : Value} {w' : World} (hr : (Builtin.append_ #[t, t] o.type #[v, sv]).run P w = .ok v' w')
    (h : K (a.put (dstOf ops i) v') w') : wpOp P ops Q i K a w := by
  have hd : dstOf ops i = o.dst := by unfold dstOf; rw [ho]; rfl
  unfold wpOp
  simp only [ho]
  rw [if_pos (by unfold Region.wanted; rw [hg])]
  refine .inl ?_
  unfold Oper.wp execOp
  simp only [hop, resolve, invoke, builtin, Sem.run_bind, Sem.run_pure, Result.andThen_ok, List.map_toArray, List.map_cons, List.map_nil, hs, hx, hr]
  rw [hd] at h
  exact h
/-- The step's simple parts so far: a row of the call's own, whatever it holds. -/
structure SimS (w9 : World) (gs : Nat) (sv : Value) (n : Nat) (xs : List Value) (W : World) : Prop where
  own : W.ownsRow w9.heap.size 44 8 sv n xs
  row : Row gs 61 #[.string ⟨#[]⟩, .slice none 0 0, sv] W
  hg : w9.grownBy W (some gs)
theorem SimS.later {w9 W W' : World} {gs n : Nat} {sv : Value} {xs : List Value} (h : SimS w9 gs sv n xs W) (hb : Below W.heap.size W W') : SimS w9 gs sv n xs W' :=
  ⟨World.ownsRow.kept h.own (pl_grown hb) (by cases sv.ownBlock <;> simp), h.row.later hb, grown_trans h.hg (below_grown hb)⟩
theorem own_sl {W : World} {lo n : Nat} {sv : Value} {xs : List Value} (h : W.ownsRow lo 44 8 sv n xs) : ∃ a c, sv = .slice a n c := by
  rcases h.2 with ⟨rfl, rfl⟩ | ⟨g, cap, cur, rfl, _⟩
  · exact ⟨none, 0, rfl⟩
  · exact ⟨_, _, rfl⟩
def SpV (gs : Nat) (sv : Value) (XC : Array Value) (n : Nat) : Nat → Value
  | 0 => .pointer (some ⟨gs, 2, none⟩)
  | 1 => sv
  | 2 => .agg XC
  | 3 => .int .i64 (n : Int)
  | _ => .pointer (some ⟨gs, 2, none⟩)
structure SpJ (w9 : World) (gs gx : Nat) (sv : Value) (XC : Array Value) (n : Nat) (dn : Nat → Bool) (us : Nat → Value) (w : World) : Prop where
  hg : w9.grownBy w (some gs)
  vs : ∀ j, j < 4 ∨ j = 8 → dn j = true → us j = SpV gs sv XC n j
  own : dn 5 = false → (∃ xs, w.ownsRow w9.heap.size 44 8 sv n xs) ∧ Row gx 44 XC w
  k4 : dn 4 = true → ∃ g, us 4 = .slice (some ⟨g, 0, none⟩) 1 1 ∧ (dn 5 = false → Row g 44 exZ w)
  k5 : dn 5 = true → ∃ g cap, us 5 = .slice (some ⟨g, 0, none⟩) (n + 1) cap ∧ (∃ xs, w.ownsRow w9.heap.size 44 8 (us 5) (n + 1) xs) ∧ (dn 6 = true → us 6 = .pointer (some ⟨g, n * 8, none⟩))
  step : Row gs 61 #[.string ⟨#[]⟩, .slice none 0 0, if dn 9 = true then us 5 else sv] w
theorem grown_row2 {w w' : World} {r g : Nat} {cs : Array Value} (h : w.grownBy w' (some r)) (hg : w.heap.size ≤ g) : w.grownBy (w'.setRow g cs) (some r) := grown_fill h hg cs
section
variable {w9 w w' : World} {gs gx n : Nat} {sv : Value} {XC : Array Value} {dn : Nat → Bool} {us : Nat → Value}
theorem SpJ.const (h : SpJ w9 gs gx sv XC n dn us w) (i : Nat) (hi : i < 4 ∨ i = 8) : SpJ w9 gs gx sv XC n (upd dn i) (fun j => if j = i then SpV gs sv XC n i else us j) w := by
  have q4 : (4 : Nat) ≠ i := by omega
  have q5 : (5 : Nat) ≠ i := by omega
  have q6 : (6 : Nat) ≠ i := by omega
  have q9 : (9 : Nat) ≠ i := by omega
  refine ⟨h.hg, fun j hj e => ?_, fun e => ?_, fun e => ?_, fun e => ?_, ?_⟩
  · by_cases hz : j = i
    · rw [if_pos hz, hz]
    · rw [if_neg hz]; rw [upd_ne hz] at e; exact h.vs j hj e
  · rw [upd_ne q5] at e; exact h.own e
  · rw [upd_ne q4] at e; rw [if_neg q4, upd_ne q5]; exact h.k4 e
  · rw [upd_ne q5] at e; rw [if_neg q5, if_neg q6, upd_ne q6]; exact h.k5 e
  · rw [upd_ne q9, if_neg q5]; exact h.step
/-- The zero element's literal. -/
theorem SpJ.lit (h : SpJ w9 gs gx sv XC n dn us w) (h5 : dn 5 = false) (h9 : dn 9 = false) : SpJ w9 gs gx sv XC n (upd dn 4) (fun j => if j = 4 then .slice (some ⟨w.heap.size, 0, none⟩) 1 1 else us j) (w.alloc (.cells exZ 44)) := by
  have hb : Below w.heap.size w (w.alloc (.cells exZ 44)) := (Below.refl _ _).alloc (Nat.le_refl _) _
  refine ⟨grown_trans h.hg (below_grown hb), fun j hj e => ?_, fun _ => ?_, fun _ => ⟨_, rfl, fun _ => row_alloc _ _ _⟩, fun e => ?_, ?_⟩
  · have hz : j ≠ 4 := by omega
    show (if j = 4 then _ else us j) = _
    rw [if_neg hz]; rw [upd_ne hz] at e; exact h.vs j hj e
  · obtain ⟨⟨xs, a⟩, b⟩ := h.own h5
    exact ⟨⟨xs, World.ownsRow.kept a (pl_grown hb) (by cases sv.ownBlock <;> simp)⟩, b.later hb⟩
  · rw [upd_ne (by decide), h5] at e; cases e
  · rw [upd_ne (by decide), h9, if_neg (by decide)]
    have := h.step
    rw [h9, if_neg (by decide)] at this
    exact this.later hb
/-- Append. -/
theorem SpJ.app (h : SpJ w9 gs gx sv XC n dn us w) (h4 : dn 4 = true) (h5 : dn 5 = false) (h6 : dn 6 = false) (h9 : dn 9 = false) (hn : n ≤ 1000000) (hgs : gs < w9.heap.size) (ty : TypeId) :
    ∃ v' w', (Builtin.append_ #[32, 32] ty #[sv, us 4]).run Tryz.prog w = .ok v' w' ∧ SpJ w9 gs gx sv XC n (upd dn 5) (fun j => if j = 5 then v' else us j) w' := by
  obtain ⟨⟨xs, hown⟩, _⟩ := h.own h5
  obtain ⟨g4, e4, hr4⟩ := h.k4 h4
  have hrd : PRd w 8 (us 4) 1 exZ.toList := by rw [e4]; exact prd_lit (hr4 h5) rfl
  have hz9 : w9.heap.size ≤ w.heap.size := h.hg.size
  obtain ⟨v', w', r1, r2, r3, r4⟩ := pl_run_append (P := Tryz.prog) 32 ty 44 8 104 elEx w9.heap.size sv n xs hown (us 4) 1 exZ.toList hrd (by simp [Value.oneCell']) (by unfold maxLen; omega) (by omega) hz9
  have hsl := own_sl r2
  have hnb : ∀ k, k < w9.heap.size → w'.heap[k]? = w.heap[k]? := fun k hk => r3.block k (Nat.lt_of_lt_of_le hk hz9) (fun e => by have := (World.ownsRow.lt hown k e.symm).1; omega)
  have hgr : w9.grownBy w' (some gs) := ⟨r3.os.trans h.hg.os, r3.tape.trans h.hg.tape, r3.output.trans h.hg.output, Nat.le_trans hz9 r3.size, fun k hk hne => (hnb k hk).trans (h.hg.block k hk hne)⟩
  refine ⟨v', w', r1, hgr, fun j hj e => ?_, fun e => ?_, fun _ => ⟨g4, ?_, fun e => ?_⟩, fun _ => ?_, ?_⟩
  · have hz : j ≠ 5 := by omega
    show (if j = 5 then _ else us j) = _
    rw [if_neg hz]; rw [upd_ne hz] at e; exact h.vs j hj e
  · rw [upd_eq] at e; cases e
  · exact e4
  · rw [upd_eq] at e; cases e
  · rcases r2.2 with ⟨_, h0⟩ | ⟨g, cap, cur, e, _⟩
    · omega
    · exact ⟨g, cap, e, ⟨_, r2⟩, fun e6 => by rw [upd_ne (by decide), h6] at e6; cases e6⟩
  · rw [upd_ne (by decide), h9, if_neg (by decide)]
    have := h.step
    rw [h9, if_neg (by decide)] at this
    exact (hnb gs hgs).trans this
/-- The new element's address. -/
theorem SpJ.addr (h : SpJ w9 gs gx sv XC n dn us w) (h5 : dn 5 = true) {g cap : Nat} (e5 : us 5 = .slice (some ⟨g, 0, none⟩) (n + 1) cap) : SpJ w9 gs gx sv XC n (upd dn 6) (fun j => if j = 6 then .pointer (some ⟨g, n * 8, none⟩) else us j) w := by
  refine ⟨h.hg, fun j hj e => ?_, fun e => ?_, fun e => ?_, fun e => ?_, ?_⟩
  · have hz : j ≠ 6 := by omega
    show (if j = 6 then _ else us j) = _
    rw [if_neg hz]; rw [upd_ne hz] at e; exact h.vs j hj e
  · rw [upd_ne (by decide), h5] at e; cases e
  · rw [upd_ne (by decide)] at e; rw [upd_ne (by decide)]; exact h.k4 e
  · rw [upd_ne (by decide)] at e
    obtain ⟨g', cap', a1, a2, _⟩ := h.k5 e
    exact ⟨g, cap, e5, a2, fun _ => rfl⟩
  · rw [upd_ne (by decide)]; exact h.step
/-- The new element is filled. -/
theorem SpJ.fill (h : SpJ w9 gs gx sv XC n dn us w) (h5 : dn 5 = true) (h6 : dn 6 = true) (hgs : gs < w9.heap.size) (hX : XC.size = 8) (h1 : XC.all (·.oneCell') = true) :
    ∃ g w', us 6 = .pointer (some ⟨g, n * 8, none⟩) ∧ (veilSt 44 ⟨g, n * 8, none⟩ (.agg XC)).run Tryz.prog w = .ok () w' ∧ ∀ v, SpJ w9 gs gx sv XC n (upd dn 7) (fun j => if j = 7 then v else us j) w' := by
  obtain ⟨g, cap, e5, ⟨xs, hown⟩, a6⟩ := h.k5 h5
  rcases hown.2 with ⟨_, h0⟩ | ⟨g', cap', cur, e, hlo, hrow, hnc, hcm, hsz, htk⟩
  · omega
  · rw [e5] at e
    cases e
    have hrun := run_exStAt w g (n * 8) cur XC hrow hX h1 (by rw [hsz]; omega)
    have hgne : g ≠ gs := by omega
    refine ⟨g, _, a6 h6, hrun, fun v => ⟨grown_row2 h.hg hlo, fun j hj e => ?_, fun e => ?_, fun e => ?_, fun _ => ?_, ?_⟩⟩
    · have hz : j ≠ 7 := by omega
      show (if j = 7 then _ else us j) = _
      rw [if_neg hz]; rw [upd_ne hz] at e; exact h.vs j hj e
    · rw [upd_ne (by decide), h5] at e; cases e
    · rw [upd_ne (by decide)] at e
      obtain ⟨g4, e4, _⟩ := h.k4 e
      exact ⟨g4, e4, fun e => by rw [upd_ne (by decide), h5] at e; cases e⟩
    · refine ⟨g, cap, e5, ⟨_, ?_, .inr ⟨g, cap, _, e5, hlo, Row.set hrow _, hnc, hcm, ?_, rfl⟩⟩, fun e => a6 h6⟩
      · simp; omega
      · simp; omega
    · rw [upd_ne (by decide)]; exact (setRow_other _ _ _ _ (Ne.symm hgne)).trans h.step
/-- The step's field. -/
theorem SpJ.fld (h : SpJ w9 gs gx sv XC n dn us w) (h5 : dn 5 = true) (hgs : gs < w9.heap.size) : ∀ v, SpJ w9 gs gx sv XC n (upd dn 9) (fun j => if j = 9 then v else us j) (w.setCell ⟨gs, 2, none⟩ (us 5)) := fun v => by
  obtain ⟨g, cap, e5, ⟨xs, hown⟩, a6⟩ := h.k5 h5
  have es := setCell_eq_setRow w gs 2 _ _ _ (us 5) h.step
  have hg : w.grownBy (w.setCell ⟨gs, 2, none⟩ (us 5)) (some gs) := by rw [es]; exact grown_setRow _ _ _
  refine ⟨grown_trans h.hg hg, fun j hj e => ?_, fun e => ?_, fun e => ?_, fun _ => ⟨g, cap, e5, ⟨xs, World.ownsRow.kept hown hg (.inr fun e => by have := (World.ownsRow.lt hown gs e).1; omega)⟩, fun e => ?_⟩, ?_⟩
  · have hz : j ≠ 9 := by omega
    show (if j = 9 then _ else us j) = _
    rw [if_neg hz]; rw [upd_ne hz] at e; exact h.vs j hj e
  · rw [upd_ne (by decide), h5] at e; cases e
  · rw [upd_ne (by decide)] at e
    obtain ⟨g4, e4, _⟩ := h.k4 e
    exact ⟨g4, e4, fun e => by rw [upd_ne (by decide), h5] at e; cases e⟩
  · rw [upd_ne (by decide)] at e; exact a6 e
  · rw [upd_eq, if_pos rfl, es]
    exact Row.set h.step _
end
/-- What a key or an index makes of the step so far. -/
def stepOne (f : Int) (parts : List PE) (c : ByteArray × List PE) (nm : ByteArray) (key : List Int) : ByteArray × List PE := if c.2.length < (tryL f parts key).length then (nm, tryL f parts key) else c
def stepL (f : Int) (parts : List PE) (t : PTb) : ByteArray × List PE := t.ixs.foldl (fun c x => stepOne f parts c x.name x.cols) (stepOne f parts (⟨#[]⟩, []) ⟨#[]⟩ t.key)
/-- The step so far, in its box. -/
structure StS (w6 w9 : World) (gs : Nat) (sv : Value) (cur : ByteArray × List PE) (qa : Option Addr) (qc : Nat) (W : World) : Prop where
  row : Row gs 61 #[.string cur.1, .slice qa cur.2.length qc, sv] W
  pr : PRow w6 w9.heap.size W (.slice qa cur.2.length qc) cur.2
  hg : w9.grownBy W (some gs)
theorem StS.later {w6 w9 W W' : World} {gs qc : Nat} {sv : Value} {cur : ByteArray × List PE} {qa : Option Addr} (h : StS w6 w9 gs sv cur qa qc W) (hb : Below W.heap.size W W') : StS w6 w9 gs sv cur qa qc W' :=
  ⟨h.row.later hb, h.pr.later hb, grown_trans h.hg (below_grown hb)⟩
theorem StS.next {w6 w9 W W' : World} {gs qc : Nat} {sv : Value} {cur : ByteArray × List PE} {qa : Option Addr} {f : Int} {parts : List PE} {nm : ByteArray} {key : List Int} (h : StS w6 w9 gs sv cur qa qc W) (hgs : gs < w9.heap.size) (hg : W.grownBy W' (some gs))
    (hr : if cur.2.length < (tryL f parts key).length then ∃ v, Row gs 61 #[.string nm, v, sv] W' ∧ PRow w6 W.heap.size W' v (tryL f parts key) else Row gs 61 #[.string cur.1, .slice qa cur.2.length qc, sv] W') : ∃ qa' qc', StS w6 w9 gs sv (stepOne f parts cur nm key) qa' qc' W' := by
  unfold stepOne
  by_cases hc : cur.2.length < (tryL f parts key).length
  · rw [if_pos hc] at hr
    obtain ⟨v, h1, h2⟩ := hr
    obtain ⟨a, c, rfl⟩ := h2.shape
    rw [if_pos hc]
    exact ⟨a, c, h1, h2.down h.hg.size, grown_trans h.hg hg⟩
  · rw [if_neg hc] at hr
    rw [if_neg hc]
    exact ⟨qa, qc, hr, h.pr.other hg (fun k hk => by have := (h.pr.lt k hk).1; omega), grown_trans h.hg hg⟩
theorem elStep : By.Elem Tryz.prog 22 61 3 64 where
  slice := by kernel_rfl
  info := by
    have h : (Tryz.prog.info? 61).map (fun i => (i.zero, i.size, i.bytes)) = some (some (.agg #[.string ⟨#[]⟩, .slice none 0 0, .slice none 0 0]), 3, 64) := by kernel_rfl
    obtain ⟨i, hi, h1, h2, h3⟩ := info_parts h
    exact ⟨i, _, hi, h1, h2, h3, rfl⟩
  pos := by decide
end Go.Proofs.YtjgkeillmelkoaaGreat.Dt
namespace Go.Proofs.YtjgkeillmelkoaaGreat.Dt
open Go.RowKit Go.Proofs.YtjgkeillmelkoaaGreat.By

theorem tb_size : (Tryz.prog.info? 59).map (·.size) = some 4 := by kernel_rfl
theorem veilSt_tb (a : Addr) (v : Value) : storeVar 59 a v = veilSt 59 a v := rfl
theorem run_tbSt (W : World) (g : Nat) (cells : Array Value) (hg : rowB 4 W g = true) (h1 : okRow 4 cells = true) : (veilSt 59 ⟨g, 0, none⟩ (.agg cells)).run Tryz.prog W = .ok () (W.setRow g cells) := by
  obtain ⟨t, old, hr, ho, _⟩ := rowB_row hg
  obtain ⟨hc, h1⟩ := okRow_iff.1 h1
  exact run_veilSt tb_size W g old cells t hr ho hc h1
mutual
theorem parts_sub : ∀ x : PE, ∀ y ∈ partsE x, cntE y ≤ cntE x
  | .mk op v t m n kids, y, hy => by
    rw [partsE] at hy
    split at hy
    · rw [cntE]; exact Nat.le_succ_of_le (parts_subL kids y hy)
    · rw [List.mem_singleton.1 hy]; exact Nat.le_refl _
theorem parts_subL : ∀ l : List PE, ∀ y ∈ partsL l, cntE y ≤ cntL l
  | [], y, hy => by rw [partsL] at hy; cases hy
  | x :: l, y, hy => by
    rw [partsL] at hy
    rw [cntL]
    rcases List.mem_append.1 hy with hy | hy
    · exact Nat.le_trans (parts_sub x y hy) (Nat.le_add_right _ _)
    · exact Nat.le_trans (parts_subL l y hy) (Nat.le_add_left _ _)
end
/-- A simple part has two kids. -/
theorem simple_two {l : List PE} {x : PE} (h : x ∈ (partsL l).filter simpleB) (hl : cntL l ≤ 1000000) : (∃ a b, x.kids = [a, b]) ∧ cntE x ≤ 1000000 := by
  obtain ⟨h1, h2⟩ := List.mem_filter.1 h
  refine ⟨?_, Nat.le_trans (parts_subL l x h1) hl⟩
  unfold simpleB at h2
  rw [Bool.and_eq_true] at h2
  have h3 := h2.2
  split at h3
  · rename_i a b e; exact ⟨a, b, e⟩
  · cases h3
attribute [local go_sem ↓] veilSt_ex veilLd_ex veilBs_ex veilSt_sr veilSt_tb veilLd_sm
attribute [local go_sem] run_exSt run_exNew run_exLd run_srSt run_tbSt run_smLd okRow8 okRow3' okRow4 Value.oneCell'
end Go.Proofs.YtjgkeillmelkoaaGreat.Dt
