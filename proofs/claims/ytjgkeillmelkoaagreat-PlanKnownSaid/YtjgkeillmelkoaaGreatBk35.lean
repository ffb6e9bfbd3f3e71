import Derived.Test.YtjgkeillmelkoaaGreatBk33
import Derived.Test.YtjgkeillmelkoaaGreatBk34
import Derived.Test.YtjgkeillmelkoaaGreatBk05
namespace Go.Proofs.YtjgkeillmelkoaaGreat.Dt
open Go.RowKit Go.Proofs.YtjgkeillmelkoaaGreat.By

theorem elTb : By.Elem Tryz.prog 37 59 4 88 where
  slice := by kernel_rfl
  info := by
    have h : (Tryz.prog.info? 59).map (fun i => (i.zero, i.size, i.bytes)) = some (some (.agg #[.string ⟨#[]⟩, .slice none 0 0, .slice none 0 0, .slice none 0 0]), 4, 88) := by kernel_rfl
    obtain ⟨i, hi, h1, h2, h3⟩ := info_parts h
    exact ⟨i, _, hi, h1, h2, h3, rfl⟩
  pos := by decide
/-- Append to nil, as one operation of a region that draws its order. -/
theorem kip_append {P : Program} {ops : Array Oper} {Q : Exit → Act → World → Prop} {kn : Nat → Value → World → Prop} {i : Nat} {a : Act} {w : World} {o : Oper} (ho : ops[i]? = some o) (hg : o.guard = none) (s x : Operand) (t : TypeId)
    (hop : o.op = .call { callee := .builtin .append, args := #[s, x], argTypes := #[t, t] }) (e : TypeId) (size bytes : Nat) (E : Elem P t e size bytes) (hs : a.eval s = .slice none 0 0) (sv : Value) (m : Nat) (news : List Value) (hx : a.eval x = sv) (hr : PRd w size sv m news)
    (h1 : ∀ u ∈ news, u.oneCell' = true) (h63 : m ≤ maxLen) (hbytes : m * bytes ≤ 140737488355328) (h : ∀ v w', w'.ownsRow w.heap.size e size v m news → Below w.heap.size w w' → kn i v w') : Kip P ops Q kn i a w := by
  have hd : dstOf ops i = o.dst := by unfold dstOf; rw [ho]; rfl
  obtain ⟨v', w', r1, r2, r3, _⟩ := pl_run_append (P := P) (w := w) t o.type e size bytes E w.heap.size (.slice none 0 0) 0 [] (World.ownsRow_nil _ _ _ _) sv m news hr h1 (by omega) (by rw [Nat.zero_add]; exact hbytes) (Nat.le_refl _)
  rw [Nat.zero_add, List.nil_append] at r2
  have hb : Below w.heap.size w w' := ⟨r3.os, r3.tape, r3.output, r3.size, fun k hk => r3.block k hk (by simp [Value.ownBlock])⟩
  unfold Kip wpOp
  simp only [ho]
  rw [if_pos (by unfold Region.wanted; rw [hg])]
  refine .inl ?_
  unfold Oper.wp execOp
  simp only [hop, resolve, invoke, builtin, Sem.run_bind, Sem.run_pure, Result.andThen_ok, List.map_toArray, List.map_cons, List.map_nil, hs, hx, r1]
  exact ⟨v', by rw [hd], hb, h v' w' r2 hb⟩
/-- A row literal of one, read. -/
theorem prd_lit {w : World} {g size : Nat} {t : TypeId} {cs : Array Value} (hr : Row g t cs w) (hs : cs.size = size) : PRd w size (.slice (some ⟨g, 0, none⟩) 1 1) 1 cs.toList :=
  ⟨by simp [hs], .inr ⟨⟨g, 0, none⟩, 1, rfl, fun j u hu => by
    have := hr.cell (i := j) (v := u) (by simpa using hu)
    rw [Addr.add_lit, Nat.zero_add]; exact this⟩⟩
/-- A row of the call's own, of one element, by a relation. -/
theorem slR_own {α : Type} {R : World → List Value → α → Prop} {w : World} {base size : Nat} {e : TypeId} {v : Value} {c : List Value} {x : α} (h : w.ownsRow base e size v 1 c) (hc : c.length = size) (hR : R w c x) : SlR size R w v [x] := by
  rcases h.2 with ⟨_, h0⟩ | ⟨g, cap, cur, rfl, hg, hh, hn, hcap, hsz, ht⟩
  · cases h0
  · refine ⟨[c], ⟨_, cap, rfl, hn, fun i y hi => ⟨g, 0, rfl, fun j u hj => ?_⟩⟩, rfl, fun i d y hd hy => ?_⟩
    · rcases i with _ | i
      · simp at hi; subst hi
        have := World.ownsRow.cells h rfl j u hj
        rw [Addr.add_lit] at this
        simpa using this
      · simp at hi
    · rcases i with _ | i
      · simp at hd hy; subst hd hy; exact ⟨hc, hR⟩
      · simp at hd
/-- A catalog's table, loaded whole. -/
theorem tb_ld {w W : World} {a : Option Addr} {n c k : Nat} {l : List PTb} {x : PTb} (h : CatR w (.slice a n c) l) (hk : l[k]? = some x) (hb : Below w.heap.size w W) : ∃ b o ca cc ja jc xa xc, a = some ⟨b, o, none⟩ ∧ TbR w [.string x.name, .slice ca x.cols.length cc, .slice ja x.key.length jc, .slice xa x.ixs.length xc] x ∧
    W.cell? ⟨b, o + k * 4, none⟩ = some (.string x.name) ∧ W.cell? ⟨b, o + k * 4 + 1, none⟩ = some (.slice ca x.cols.length cc) ∧ W.cell? ⟨b, o + k * 4 + 2, none⟩ = some (.slice ja x.key.length jc) ∧ W.cell? ⟨b, o + k * 4 + 3, none⟩ = some (.slice xa x.ixs.length xc) := by
  obtain ⟨b, o, cv, kv, iv, rfl, hcv, hkv, hiv, c0, c1, c2, c3⟩ := tb_at h hk
  obtain ⟨ca, cc, rfl, _⟩ := hcv.shape
  obtain ⟨ja, jc, rfl, _⟩ := hkv.shape
  obtain ⟨xa, xc, rfl, _⟩ := hiv.shape
  exact ⟨b, o, ca, cc, ja, jc, xa, xc, rfl, ⟨_, _, _, rfl, hcv, hkv, hiv⟩, (hb.cell (cell_lt c0)).trans c0, (hb.cell (cell_lt c1)).trans c1, (hb.cell (cell_lt c2)).trans c2, (hb.cell (cell_lt c3)).trans c3⟩
/-- What is known while a source is put down. -/
def GaKn (gl m : Nat) (cv : Value) (p b o : Nat) (tc : Array Value) (j : Nat) (v : Value) (w : World) : Prop := match j with
  | 0 => v = .pointer (some ⟨gl, 0, none⟩)
  | 1 => v = .slice none 0 0
  | 2 => v = cv
  | 3 => v = .int .i64 (p : Int)
  | 4 => v = .pointer (some ⟨b, o + p * 4, none⟩)
  | 5 => v = .agg tc
  | 6 => ∃ g, v = .slice (some ⟨g, 0, none⟩) 1 1 ∧ Row g 59 tc w
  | 7 => ∃ base, m ≤ base ∧ w.ownsRow base 59 4 v 1 tc.toList
  | 8 => v = .pointer (some ⟨gl, 1, none⟩)
  | 9 => v = .slice none 0 0
  | 10 => v = .pointer (some ⟨gl, 2, none⟩)
  | 11 => v = .int .i64 0
  | 12 => ∃ g, v = .slice (some ⟨g, 0, none⟩) 1 1 ∧ Row g 3 #[.int .i64 0] w
  | 13 => ∃ base, m ≤ base ∧ w.ownsRow base 3 1 v 1 [.int .i64 0]
  | _ => v = .pointer (some ⟨gl, 0, none⟩)
theorem GaKn.later {gl m : Nat} {cv : Value} {p b o : Nat} {tc : Array Value} (j : Nat) (v : Value) (w1 w2 : World) (h : GaKn gl m cv p b o tc j v w1) (hb : Below w1.heap.size w1 w2) : GaKn gl m cv p b o tc j v w2 :=
  match j, h with
  | 0, h => h
  | 1, h => h
  | 2, h => h
  | 3, h => h
  | 4, h => h
  | 5, h => h
  | 6, ⟨g, e, h⟩ => ⟨g, e, h.later hb⟩
  | 7, ⟨base, hm, h⟩ => ⟨base, hm, World.ownsRow.kept h (pl_grown hb) (by cases v.ownBlock <;> simp)⟩
  | 8, h => h
  | 9, h => h
  | 10, h => h
  | 11, h => h
  | 12, ⟨g, e, h⟩ => ⟨g, e, h.later hb⟩
  | 13, ⟨base, hm, h⟩ => ⟨base, hm, World.ownsRow.kept h (pl_grown hb) (by cases v.ownBlock <;> simp)⟩
  | _ + 14, h => h
theorem op_valg {P : Program} {ops : Array Oper} {Q : Exit → Act → World → Prop} {i : Nat} {a : Act} {w : World} {o : Oper} {K : Act → World → Prop} (ho : ops[i]? = some o) (hw : Region.wanted o (yielded ops a.tmps) = true) (v : Value) (w' : World) (hrun : (execOp a.eval o).run P w = .ok (.value v) w') (h : K (a.put (dstOf ops i) v) w') : wpOp P ops Q i K a w := by
  unfold wpOp
  simp only [ho]
  rw [if_pos hw]
  refine .inl ?_
  unfold Oper.wp
  rw [hrun, Oper.upon_value]
  unfold dstOf at h
  rw [ho] at h
  exact h
theorem op_unw {P : Program} {ops : Array Oper} {Q : Exit → Act → World → Prop} {i : Nat} {a : Act} {w : World} {o : Oper} {K : Act → World → Prop} (ho : ops[i]? = some o) (hw : Region.wanted o (yielded ops a.tmps) = false) (h : K (a.put (dstOf ops i) undef) w) : wpOp P ops Q i K a w := by
  unfold wpOp
  simp only [ho]
  rw [if_neg (by rw [hw]; decide)]
  unfold dstOf at h
  rw [ho] at h
  exact h
/-- The values of the operations that put down gather's results. -/
def GrV (ge : Bool) (S : Array Value) (g : Nat) (k : Int) (L : Bool) : Nat → Value
  | 0 => .agg S
  | 1 => .pointer (some ⟨g, 0, none⟩)
  | 2 => .int .u8 k
  | 3 => .bool ge
  | 4 => .bool ge
  | 5 => if ge then .pointer (some ⟨g, 0, none⟩) else undef
  | 6 => if ge then .int .u8 k else undef
  | 7 => if ge then .bool L else undef
  | 8 => .bool L
  | 9 => undef
  | _ => .bool L
/-- What is known while gather's results are put down. -/
structure GrJ (w5 : World) (q : Nat) (S Z : Array Value) (V : Nat → Value) (dn : Nat → Bool) (us : Nat → Value) (w : World) : Prop where
  vs : ∀ j, j < 11 → dn j = true → us j = V j
  row : Row q 51 (if dn 9 = true then S else Z) w
  hg : w5.grownBy w (some q)
theorem GrJ.put {w5 w : World} {q : Nat} {S Z : Array Value} {V : Nat → Value} {dn : Nat → Bool} {us : Nat → Value} (h : GrJ w5 q S Z V dn us w) (i : Nat) (hi : i ≠ 9) : GrJ w5 q S Z V (upd dn i) (fun j => if j = i then V i else us j) w := by
  refine ⟨fun j hj e => ?_, by rw [upd_ne (Ne.symm hi)]; exact h.row, h.hg⟩
  by_cases hz : j = i
  · rw [if_pos hz, hz]
  · rw [if_neg hz]; rw [upd_ne hz] at e; exact h.vs j hj e
theorem sr_size : (Tryz.prog.info? 51).map (·.size) = some 3 := by kernel_rfl
theorem sr_struct : ∃ fs, Tryz.prog.underlying 51 = some (.struct fs) := st_of (by kernel_rfl)
theorem veilSt_sr (a : Addr) (v : Value) : storeVar 51 a v = veilSt 51 a v := rfl
theorem okRow3' (a b c : Value) : okRow 3 #[a, b, c] = (a.oneCell' && (b.oneCell' && c.oneCell')) := by simp [okRow]
theorem run_srSt (W : World) (g : Nat) (cells : Array Value) (hg : rowB 3 W g = true) (h1 : okRow 3 cells = true) : (veilSt 51 ⟨g, 0, none⟩ (.agg cells)).run Tryz.prog W = .ok () (W.setRow g cells) := by
  obtain ⟨t, old, hr, ho, _⟩ := rowB_row hg
  obtain ⟨hc, h1⟩ := okRow_iff.1 h1
  exact run_veilSt sr_size W g old cells t hr ho hc h1
theorem res_sr {fn : Func} {p q : Tmp} (h : fn.results = #[.cell p 51, .tmp q]) (tmps : Array Value) (w : World) (k : Nat) (u : TypeId) (v : Value) (ds : Array Value)
    (hp : tmps.getD p undef = .pointer (some ⟨k, 0, none⟩)) (hq : tmps.getD q undef = v) (hk : Row k u ds w) (hd : ds.size = 3) : (results fn tmps).run Tryz.prog w = .ok (.tuple #[.agg ds, v]) w := by
  obtain ⟨gs, hv⟩ := sr_struct
  have hi := sr_size
  have hp' : tmps[p]?.getD undef = .pointer (some ⟨k, 0, none⟩) := by simpa using hp
  have hq' : tmps[q]?.getD undef = v := by simpa using hq
  simp [results, h, hp', hq', asAddr, run_loadVar_row w k u 51 ds (0, 0) _ hk hv rfl (by rw [hi, hd])]
attribute [local go_sem ↓] veilSt_sr
attribute [local go_sem] run_srSt okRow3' Value.oneCell'
set_option maxRecDepth 100000 in
set_option maxHeartbeats 32000000 in
theorem gather1W {cat : List PTb} {va : Option Addr} {vc p : Nat} {s : PSt} {cs : List Value} {t : PTb} {w : World} (hcat : CatR w (.slice va cat.length vc) cat) (hcl : cat.length ≤ 1000000) (h : StR w cs s) (hk8 : ¬ s.kind = 8) (hf : idxL (fiB s.table) cat 0 = (p : Int)) (ht : cat[p]? = some t) (htl : t.cols.length ≤ 1000000) :
    Calls Tryz.prog 14 #[.slice va cat.length vc, .agg cs.toArray] w fun e w' => ∃ ta tc fa fc, e = .returned (.tuple #[.agg #[.slice ta 1 tc, .slice fa 1 fc, .int .i64 (t.cols.length : Int)], .bool (decide (6 ≤ s.kind ∧ s.kind ≤ 8))]) ∧
      CatR w' (.slice ta 1 tc) [t] ∧ IntsR w' (.slice fa 1 fc) [0] ∧ Below w.heap.size w w' := by
  obtain ⟨c4, c5, c6, c7, c8, c9, ga, gc, wa, wc, c12, c13, c14, rfl, _, _, _⟩ := st_read h
  have h1 := row_alloc w 35 #[.int .u8 (s.kind : Int), .string s.table, .string s.name, .bool s.uniq, c4, c5, c6, c7, c8, c9, .slice ga s.src.length gc, .slice wa s.wh.length wc, c12, c13, c14, .int .i64 s.limit]
  have b1 := (Below.refl _ w).alloc (Nat.le_refl _) (.cells #[.int .u8 (s.kind : Int), .string s.table, .string s.name, .bool s.uniq, c4, c5, c6, c7, c8, c9, .slice ga s.src.length gc, .slice wa s.wh.length wc, c12, c13, c14, .int .i64 s.limit] 35)
  have b2 := (Below.refl _ (w.alloc (.cells #[.int .u8 (s.kind : Int), .string s.table, .string s.name, .bool s.uniq, c4, c5, c6, c7, c8, c9, .slice ga s.src.length gc, .slice wa s.wh.length wc, c12, c13, c14, .int .i64 s.limit] 35))).alloc (Nat.le_refl _) (.cells #[.slice none 0 0, .slice none 0 0, .int .i64 0] 51)
  have hz := row_alloc (w.alloc (.cells #[.int .u8 (s.kind : Int), .string s.table, .string s.name, .bool s.uniq, c4, c5, c6, c7, c8, c9, .slice ga s.src.length gc, .slice wa s.wh.length wc, c12, c13, c14, .int .i64 s.limit] 35)) 51 #[.slice none 0 0, .slice none 0 0, .int .i64 0]
  have z1 : (w.alloc (.cells #[.int .u8 (s.kind : Int), .string s.table, .string s.name, .bool s.uniq, c4, c5, c6, c7, c8, c9, .slice ga s.src.length gc, .slice wa s.wh.length wc, c12, c13, c14, .int .i64 s.limit] 35)).heap.size = w.heap.size + 1 := by simp
  rw [z1] at hz
  have HS := Lib.hid (h1.later b2)
  have HZ := Lib.hid hz
  have HB := Lib.hid (next b1 b2)
  have HCAT := Lib.hid hcat
  have HCL := Lib.hid hcl
  have HF : Hid (findV cat s.table = .tuple #[.int .i64 (p : Int), .bool true]) := Lib.hid (by unfold findV; rw [hf, if_neg (by omega)])
  have HT := Lib.hid ht
  have HTL := Lib.hid htl
  have HK8 := Lib.hid hk8
  obtain ⟨KB, hKB⟩ : ∃ KB, KB = decide (6 ≤ s.kind ∧ s.kind ≤ 8) := ⟨_, rfl⟩
  have HKB := Lib.hid hKB
  rw [← hKB]
  clear hKB
  clear h1 b1 b2 hz z1 hcat hcl h hf ht htl hk8
  go_enter Tryz.func14, Tryz.ntmps14
  go_upto_region 1 with fail
  generalize (w.alloc (.cells #[.int .u8 (s.kind : Int), .string s.table, .string s.name, .bool s.uniq, c4, c5, c6, c7, c8, c9, .slice ga s.src.length gc, .slice wa s.wh.length wc, c12, c13, c14, .int .i64 s.limit] 35)).alloc (.cells #[.slice none 0 0, .slice none 0 0, .int .i64 0] 51) = w1 at *
  have c1 := HS.out.cell (i := 1) (v := .string s.table) rfl
  go_upto_region 2 with fail
  clear c1
  have hb2 : Below w1.heap.size w1 (w1.alloc (.cells #[.string s.table] 9)) := (Below.refl _ _).alloc (Nat.le_refl _) _
  have HS2 := Lib.hid (HS.out.later hb2)
  have HZ2 := Lib.hid (HZ.out.later hb2)
  have HB2 := Lib.hid (next HB.out hb2)
  have HN2 := Lib.hid (row_alloc w1 9 #[.string s.table])
  clear hb2 HS HZ HB
  generalize w1.alloc (.cells #[.string s.table] 9) = w2 at *
  generalize w1.heap.size = gn at *
  have c0 := HS2.out.cell (i := 0) (v := .int .u8 (s.kind : Int)) rfl
  have i8 : ((s.kind : Int) == 8) = false := by have := HK8.out; simp; omega
  go_upto_region 10 with fail
  clear c0 i8
  have hb3 : Below w2.heap.size w2 (w2.alloc (.cells #[.slice none 0 0, .slice none 0 0, .int .i64 0] 51)) := (Below.refl _ _).alloc (Nat.le_refl _) _
  have HS3 := Lib.hid (HS2.out.later hb3)
  have HZ3 := Lib.hid (HZ2.out.later hb3)
  have HB3 := Lib.hid (next HB2.out hb3)
  have HN3 := Lib.hid (HN2.out.later hb3)
  have HL3 := Lib.hid (row_alloc w2 51 #[.slice none 0 0, .slice none 0 0, .int .i64 0])
  have HLN : Hid (w.heap.size + 1 < w2.heap.size ∧ gn < w2.heap.size) := Lib.hid ⟨HZ2.out.lt, HN2.out.lt⟩
  clear hb3 HS2 HZ2 HB2 HN2
  generalize w2.alloc (.cells #[.slice none 0 0, .slice none 0 0, .int .i64 0] 51) = w3 at *
  generalize w2.heap.size = gl at *
  go_wp2_with fail
  obtain ⟨b, o, ca, cc, ja, jc, xa, xc, rfl, htb, q0, q1, q2, q3⟩ := tb_ld HCAT.out HT.out HB3.out
  have HTB := Lib.hid htb
  have Q0 := Lib.hid q0
  have Q1 := Lib.hid q1
  have Q2 := Lib.hid q2
  have Q3 := Lib.hid q3
  clear htb q0 q1 q2 q3
  go_loopg [35] 1 (fun gk iv wr => ∃ k : Nat, iv = .int .i64 (k : Int) ∧ gk = 1 - k ∧ ((k = 0 ∧ w3 = wr) ∨ (k = 1 ∧ ∃ tv fv base, gl < base ∧ Row gl 51 #[tv, fv, .int .i64 (t.cols.length : Int)] wr ∧ wr.ownsRow base 59 4 tv 1 (#[.string t.name, .slice ca t.cols.length cc, .slice ja t.key.length jc, .slice xa t.ixs.length xc] : Array Value).toList ∧ wr.ownsRow base 3 1 fv 1 [.int .i64 0] ∧
    Row (w.heap.size + 1) 51 #[.slice none 0 0, .slice none 0 0, .int .i64 0] wr ∧ Row w.heap.size 35 #[.int .u8 (s.kind : Int), .string s.table, .string s.name, .bool s.uniq, c4, c5, c6, c7, c8, c9, .slice ga s.src.length gc, .slice wa s.wh.length wc, c12, c13, c14, .int .i64 s.limit] wr ∧ Below w.heap.size w wr)))
  case atStart => exact ⟨0, rfl, rfl, .inl ⟨rfl, rfl⟩⟩
  case round =>
    obtain ⟨k, rfl, rfl, hk⟩ := hrel
    rcases hk with ⟨rfl, rfl⟩ | ⟨rfl, tv, fv, base, hgb, hsrc, hto, hfo, hzz, hbox, hbl⟩
    · have n0 := HN3.out.cell (i := 0) (v := .string s.table) rfl
      have hfw := findSW cat (some ⟨b, o, none⟩) vc s.table w3 HCL.out (catR_below HCAT.out HB3.out)
      rw [HF.out] at hfw
      go_wp2_with fail
      refine hfw.mono ?_
      rintro e4 w4 ⟨rfl, hb4⟩
      have HS4 := Lib.hid (HS3.out.later hb4)
      have HZ4 := Lib.hid (HZ3.out.later hb4)
      have HL4 := Lib.hid (HL3.out.later hb4)
      have HB4 := Lib.hid (next HB3.out hb4)
      have T0 := Lib.hid ((hb4.cell (cell_lt Q0.out)).trans Q0.out)
      have T1 := Lib.hid ((hb4.cell (cell_lt Q1.out)).trans Q1.out)
      have T2 := Lib.hid ((hb4.cell (cell_lt Q2.out)).trans Q2.out)
      have T3 := Lib.hid ((hb4.cell (cell_lt Q3.out)).trans Q3.out)
      clear n0 hfw hb4 HS3 HZ3 HL3 HB3 HN3 Q0 Q1 Q2 Q3
      have hpl := (List.getElem?_eq_some_iff.1 HT.out).1
      have iplt : (p : Int) < (cat.length : Int) := by omega
      have ipge : (0 : Int) ≤ (p : Int) := by omega
      have HPL := Lib.hid hpl
      clear hpl
      go_upto_region 16 with fail
      refine wp_region_kipt 15 (GaKn gl w4.heap.size (.slice (some ⟨b, o, none⟩) cat.length vc) p b o #[.string t.name, .slice ca t.cols.length cc, .slice ja t.key.length jc, .slice xa t.ixs.length xc]) 84 rfl (by kernel_rfl) (by kernel_rfl) GaKn.later ?_ ?_
      · intro i hi A A2 hother hbW hd
        match i, hi with
          | 0, hi =>
            have h0 := tmps_at (show A.eval (.tmp 9) = .pointer (some ⟨gl, 0, none⟩) from hother 9 (by kernel_rfl))
            clear hother hd hi
            exact kip_same rfl (wanted_none rfl) (.pointer (some ⟨gl, 0, none⟩)) (by simp only [execOp]; go_simp) rfl
          | 1, hi =>
            have h0 := tmps_at ((hd _ rfl ⟨0, .data⟩ (by simp) rfl).eq (.pointer (some ⟨gl, 0, none⟩)) (fun _ h => h) 48 (by kernel_rfl) (by decide))
            have l0 := (HL4.out.later hbW).cell (i := 0) (v := .slice none 0 0) rfl
            clear hother hd hi
            exact kip_same rfl (wanted_none rfl) (.slice none 0 0) (by simp only [execOp]; go_simp) rfl
          | 2, hi =>
            have h0 := tmps_at (show A.eval (.tmp 0) = .slice (some ⟨b, o, none⟩) cat.length vc from hother 0 (by kernel_rfl))
            clear hother hd hi
            exact kip_same rfl (wanted_none rfl) (.slice (some ⟨b, o, none⟩) cat.length vc) (by simp only [execOp]; go_simp) rfl
          | 3, hi =>
            have h0 := tmps_at (show A.eval (.tmp 12) = .int .i64 (p : Int) from hother 12 (by kernel_rfl))
            clear hother hd hi
            exact kip_same rfl (wanted_none rfl) (.int .i64 (p : Int)) (by simp only [execOp]; go_simp) rfl
          | 4, hi =>
            have h0 := tmps_at ((hd _ rfl ⟨2, .data⟩ (by simp) rfl).eq (.slice (some ⟨b, o, none⟩) cat.length vc) (fun _ h => h) 50 (by kernel_rfl) (by decide))
            have h1 := tmps_at ((hd _ rfl ⟨3, .data⟩ (by simp) rfl).eq (.int .i64 (p : Int)) (fun _ h => h) 51 (by kernel_rfl) (by decide))
            clear hother hd hi
            exact kip_same rfl (wanted_none rfl) (.pointer (some ⟨b, o + p * 4, none⟩)) (by simp only [execOp]; go_simp) rfl
          | 5, hi =>
            have h0 := tmps_at ((hd _ rfl ⟨4, .data⟩ (by simp) rfl).eq (.pointer (some ⟨b, o + p * 4, none⟩)) (fun _ h => h) 52 (by kernel_rfl) (by decide))
            have q0 := (hbW.cell (cell_lt T0.out)).trans T0.out
            have q1 := (hbW.cell (cell_lt T1.out)).trans T1.out
            have q2 := (hbW.cell (cell_lt T2.out)).trans T2.out
            have q3 := (hbW.cell (cell_lt T3.out)).trans T3.out
            clear hother hd hi
            exact kip_same rfl (wanted_none rfl) (.agg #[.string t.name, .slice ca t.cols.length cc, .slice ja t.key.length jc, .slice xa t.ixs.length xc]) (by simp only [execOp]; go_simp) rfl
          | 6, hi =>
            have h0 := tmps_at ((hd _ rfl ⟨5, .data⟩ (by simp) rfl).eq (.agg #[.string t.name, .slice ca t.cols.length cc, .slice ja t.key.length jc, .slice xa t.ixs.length xc]) (fun _ h => h) 53 (by kernel_rfl) (by decide))
            clear hother hd hi
            exact kip_val rfl (wanted_none rfl) (.slice (some ⟨A2.heap.size, 0, none⟩) 1 1) (A2.alloc (.cells #[.string t.name, .slice ca t.cols.length cc, .slice ja t.key.length jc, .slice xa t.ixs.length xc] 59)) (by simp only [execOp]; go_simp) ((Below.refl _ _).alloc (Nat.le_refl _) _) ⟨_, rfl, row_alloc _ _ _⟩
          | 7, hi =>
            have h0 := (hd _ rfl ⟨1, .data⟩ (by simp) rfl).eq (.slice none 0 0) (fun _ h => h) 49 (by kernel_rfl) (by decide)
            obtain ⟨v6, ⟨g6, e6, hr6⟩, h6⟩ := (hd _ rfl ⟨6, .data⟩ (by simp) rfl).get 54 (by kernel_rfl) (by decide)
            rw [e6] at h6
            clear hother hd hi
            exact kip_append rfl rfl (.tmp 49) (.tmp 54) 37 rfl 59 4 88 elTb h0 _ 1 _ h6 (prd_lit hr6 rfl) (by simp [Value.oneCell']) (by decide) (by decide) (fun v w' ho hb => ⟨A2.heap.size, hbW.size, ho⟩)
          | 8, hi =>
            have h0 := tmps_at (show A.eval (.tmp 9) = .pointer (some ⟨gl, 0, none⟩) from hother 9 (by kernel_rfl))
            clear hother hd hi
            exact kip_same rfl (wanted_none rfl) (.pointer (some ⟨gl, 1, none⟩)) (by simp only [execOp]; go_simp) rfl
          | 9, hi =>
            have h0 := tmps_at ((hd _ rfl ⟨8, .data⟩ (by simp) rfl).eq (.pointer (some ⟨gl, 1, none⟩)) (fun _ h => h) 56 (by kernel_rfl) (by decide))
            have l0 := (HL4.out.later hbW).cell (i := 1) (v := .slice none 0 0) rfl
            clear hother hd hi
            exact kip_same rfl (wanted_none rfl) (.slice none 0 0) (by simp only [execOp]; go_simp) rfl
          | 10, hi =>
            have h0 := tmps_at (show A.eval (.tmp 9) = .pointer (some ⟨gl, 0, none⟩) from hother 9 (by kernel_rfl))
            clear hother hd hi
            exact kip_same rfl (wanted_none rfl) (.pointer (some ⟨gl, 2, none⟩)) (by simp only [execOp]; go_simp) rfl
          | 11, hi =>
            have h0 := tmps_at ((hd _ rfl ⟨10, .data⟩ (by simp) rfl).eq (.pointer (some ⟨gl, 2, none⟩)) (fun _ h => h) 58 (by kernel_rfl) (by decide))
            have l0 := (HL4.out.later hbW).cell (i := 2) (v := .int .i64 0) rfl
            clear hother hd hi
            exact kip_same rfl (wanted_none rfl) (.int .i64 0) (by simp only [execOp]; go_simp) rfl
          | 12, hi =>
            have h0 := tmps_at ((hd _ rfl ⟨11, .data⟩ (by simp) rfl).eq (.int .i64 0) (fun _ h => h) 59 (by kernel_rfl) (by decide))
            clear hother hd hi
            exact kip_val rfl (wanted_none rfl) (.slice (some ⟨A2.heap.size, 0, none⟩) 1 1) (A2.alloc (.cells #[.int .i64 0] 3)) (by simp only [execOp]; go_simp) ((Below.refl _ _).alloc (Nat.le_refl _) _) ⟨_, rfl, row_alloc _ _ _⟩
          | 13, hi =>
            have h0 := (hd _ rfl ⟨9, .data⟩ (by simp) rfl).eq (.slice none 0 0) (fun _ h => h) 57 (by kernel_rfl) (by decide)
            obtain ⟨v6, ⟨g6, e6, hr6⟩, h6⟩ := (hd _ rfl ⟨12, .data⟩ (by simp) rfl).get 60 (by kernel_rfl) (by decide)
            rw [e6] at h6
            clear hother hd hi
            exact kip_append rfl rfl (.tmp 57) (.tmp 60) 49 rfl 3 1 8 elInt h0 _ 1 _ h6 (prd_lit hr6 rfl) (by simp [Value.oneCell']) (by decide) (by decide) (fun v w' ho hb => ⟨A2.heap.size, hbW.size, ho⟩)
          | 14, hi =>
            have h0 := tmps_at (show A.eval (.tmp 9) = .pointer (some ⟨gl, 0, none⟩) from hother 9 (by kernel_rfl))
            clear hother hd hi
            exact kip_same rfl (wanted_none rfl) (.pointer (some ⟨gl, 0, none⟩)) (by simp only [execOp]; go_simp) rfl
          | i + 15, hi => exact absurd hi (by omega)
      intro us w5 hb5 hk
      have e14 : us 14 = .pointer (some ⟨gl, 0, none⟩) := hk 14 (by decide)
      obtain ⟨m7, hm7, ho7⟩ := hk 7 (by decide)
      obtain ⟨m13, hm13, ho13⟩ := hk 13 (by decide)
      have HS5 := Lib.hid (HS4.out.later hb5)
      have HZ5 := Lib.hid (HZ4.out.later hb5)
      have HL5 := Lib.hid (HL4.out.later hb5)
      have HB5 := Lib.hid (next HB4.out hb5)
      have R0 := Lib.hid ((hb5.cell (cell_lt T0.out)).trans T0.out)
      have R1 := Lib.hid ((hb5.cell (cell_lt T1.out)).trans T1.out)
      have HGL4 : Hid (gl < w4.heap.size) := Lib.hid HL4.out.lt
      clear hk hb5 HS4 HZ4 HL4 HB4 T0 T1 T2 T3
      simp only [putAll, dstOf, Act.put, List.getElem?_toArray, List.getElem?_cons_zero, List.getElem?_cons_succ, Option.bind_some, List.drop_succ_cons, List.drop_zero]
      simp only [List.setIfInBounds_toArray, List.set_cons_zero, List.set_cons_succ]
      rw [e14]
      generalize us 7 = tv at *
      generalize us 13 = fv at *
      have hf1 : ∃ x y z, tv = .slice x y z := by
        rcases ho7.2 with ⟨rfl, _⟩ | ⟨_, _, _, rfl, _⟩
        · exact ⟨_, _, _, rfl⟩
        · exact ⟨_, _, _, rfl⟩
      have hf2 : ∃ x y z, fv = .slice x y z := by
        rcases ho13.2 with ⟨rfl, _⟩ | ⟨_, _, _, rfl, _⟩
        · exact ⟨_, _, _, rfl⟩
        · exact ⟨_, _, _, rfl⟩
      obtain ⟨x1, y1, z1, rfl⟩ := hf1
      obtain ⟨x2, y2, z2, rfl⟩ := hf2
      have g0 := HL5.out.cell (i := 0) (v := .slice none 0 0) rfl
      have g1 := HL5.out.cell (i := 1) (v := .slice none 0 0) rfl
      have g2 := HL5.out.cell (i := 2) (v := .int .i64 0) rfl
      have k0 := HL5.out.free 0
      have k1 := HL5.out.free 1
      go_upto_region 17 with fail
      clear g0 g1 g2 k0 k1
      have e1 := setCell_eq_setRow w5 gl 0 _ _ _ (.slice x1 y1 z1) HL5.out
      have hr1 : Row gl 51 #[.slice x1 y1 z1, .slice none 0 0, .int .i64 0] (w5.setCell ⟨gl, 0, none⟩ (.slice x1 y1 z1)) := by rw [e1]; exact HL5.out.set _
      have e2 := setCell_eq_setRow _ gl 1 _ _ _ (.slice x2 y2 z2) hr1
      have HL6 : Hid (Row gl 51 #[.slice x1 y1 z1, .slice x2 y2 z2, .int .i64 0] ((w5.setCell ⟨gl, 0, none⟩ (.slice x1 y1 z1)).setCell ⟨gl, 1, none⟩ (.slice x2 y2 z2))) := Lib.hid (by rw [e2]; exact hr1.set _)
      have hg6 : w5.grownBy ((w5.setCell ⟨gl, 0, none⟩ (.slice x1 y1 z1)).setCell ⟨gl, 1, none⟩ (.slice x2 y2 z2)) (some gl) := by
        rw [e2, e1]
        exact grown_trans (grown_setRow _ _ _) (grown_setRow _ _ _)
      have HT6 := Lib.hid (World.ownsRow.kept ho7 hg6 (.inr (fun e => by have := (World.ownsRow.lt ho7 gl e).1; have := HGL4.out; omega)))
      have HF6 := Lib.hid (World.ownsRow.kept ho13 hg6 (.inr (fun e => by have := (World.ownsRow.lt ho13 gl e).1; have := HGL4.out; omega)))
      have HS6 := Lib.hid (HS5.out.grown hg6 (by have := HLN.out; omega))
      have HZ6 := Lib.hid (HZ5.out.grown hg6 (by have := HLN.out; omega))
      have HB6 : Hid (Below w.heap.size w ((w5.setCell ⟨gl, 0, none⟩ (.slice x1 y1 z1)).setCell ⟨gl, 1, none⟩ (.slice x2 y2 z2))) := Lib.hid (below_set (below_set HB5.out (by have := HLN.out; omega)) (by have := HLN.out; omega))
      have hbg : w.heap.size ≤ gl := by have := HLN.out; omega
      have HBL : Hid (b < w.heap.size) := Lib.hid (by
        obtain ⟨b', o', _, _, _, e, _, _, _, d0, _⟩ := tb_at HCAT.out HT.out
        cases e
        exact cell_lt d0)
      have R16 : Hid (((w5.setCell ⟨gl, 0, none⟩ (.slice x1 y1 z1)).setCell ⟨gl, 1, none⟩ (.slice x2 y2 z2)).cell? ⟨b, o + p * 4 + 1, none⟩ = some (.slice ca t.cols.length cc)) := Lib.hid ((World.cell?_of_block (w := w5) (hg6.block b (cell_lt R0.out) (fun e => by cases e; have := HBL.out; omega))).trans R1.out)
      have HBASE : Hid (∃ base, gl < base ∧ base ≤ m7 ∧ base ≤ m13) := Lib.hid ⟨gl + 1, by omega, by have := HGL4.out; omega, by have := HGL4.out; omega⟩
      clear e1 hr1 e2 hg6 hbg ho7 ho13 HS5 HZ5 HL5 HB5 R0 R1
      generalize (w5.setCell ⟨gl, 0, none⟩ (.slice x1 y1 z1)).setCell ⟨gl, 1, none⟩ (.slice x2 y2 z2) = w6 at *
      have l2 := lat_cell (HL6.out.cell (i := 2) (v := .int .i64 0) rfl)
      have lr := lat_cell R16.out
      have iplt : (p : Int) < (cat.length : Int) := by have := HPL.out; omega
      refine wp_region_later_tail 10 (by kernel_rfl) (by kernel_rfl) ?_
      simp only [List.take_succ_cons, List.take_zero, List.drop_succ_cons, List.drop_zero]
      repeat (go_big_quiet_step (fail))
      refine wpQuiet_nil ?_
      refine later_out (fun w7 hb7 => ?_)
      have HL7 := Lib.hid (HL6.out.later hb7)
      have HS7 := Lib.hid (HS6.out.later hb7)
      have HZ7 := Lib.hid (HZ6.out.later hb7)
      have HB7 := Lib.hid (next HB6.out hb7)
      have HT7 := Lib.hid (World.ownsRow.kept HT6.out (pl_grown hb7) (by cases (Value.slice x1 y1 z1).ownBlock <;> simp))
      have HF7 := Lib.hid (World.ownsRow.kept HF6.out (pl_grown hb7) (by cases (Value.slice x2 y2 z2).ownBlock <;> simp))
      clear l2 lr hb7 HL6 HS6 HZ6 HB6 HT6 HF6 R16
      have g2 := HL7.out.cell (i := 2) (v := .int .i64 0) rfl
      have k2 := HL7.out.free 2
      have hw : wrap64 (t.cols.length : Int) = (t.cols.length : Int) := by have := HTL.out; unfold wrap64; omega
      go_wp2_with fail
      have e3 := setCell_eq_setRow w7 gl 2 _ _ _ (.int .i64 (t.cols.length : Int)) HL7.out
      have HL8 : Hid (Row gl 51 #[.slice x1 y1 z1, .slice x2 y2 z2, .int .i64 (t.cols.length : Int)] (w7.setCell ⟨gl, 2, none⟩ (.int .i64 (t.cols.length : Int)))) := Lib.hid (by rw [e3]; exact HL7.out.set _)
      have hg8 : w7.grownBy (w7.setCell ⟨gl, 2, none⟩ (.int .i64 (t.cols.length : Int))) (some gl) := by rw [e3]; exact grown_setRow _ _ _
      obtain ⟨base, hb1, hb2, hb3⟩ := HBASE.out
      have own_down : ∀ {m e size v n xs} {W : World}, base ≤ m → W.ownsRow m e size v n xs → W.ownsRow base e size v n xs := fun hm ⟨h0, h1⟩ => ⟨h0, by
        rcases h1 with h | ⟨g, cap, cur, a, b, c⟩
        · exact .inl h
        · exact .inr ⟨g, cap, cur, a, Nat.le_trans hm b, c⟩⟩
      have HT8 := Lib.hid (own_down hb2 (World.ownsRow.kept HT7.out hg8 (.inr (fun e => by have := (World.ownsRow.lt HT7.out gl e).1; omega))))
      have HF8 := Lib.hid (own_down hb3 (World.ownsRow.kept HF7.out hg8 (.inr (fun e => by have := (World.ownsRow.lt HF7.out gl e).1; omega))))
      have HZ8 := Lib.hid (HZ7.out.grown hg8 (by have := HLN.out; omega))
      have HS8 := Lib.hid (HS7.out.grown hg8 (by have := HLN.out; omega))
      have HB8 : Hid (Below w.heap.size w (w7.setCell ⟨gl, 2, none⟩ (.int .i64 (t.cols.length : Int)))) := Lib.hid (below_set HB7.out (by have := HLN.out; omega))
      go_roundg 0
      case measure => exact Nat.zero_lt_one
      case rel => exact ⟨1, rfl, rfl, .inr ⟨rfl, _, _, base, hb1, HL8.out, HT8.out, HF8.out, HZ8.out, HS8.out, HB8.out⟩⟩
    · clear HN3 HL3 HZ3 HS3 HB3 Q0 Q1 Q2 Q3
      have HSR := Lib.hid hsrc
      have HTO := Lib.hid hto
      have HFO := Lib.hid hfo
      have HZZ := Lib.hid hzz
      have HBO := Lib.hid hbox
      have HBL := Lib.hid hbl
      have HGB := Lib.hid hgb
      clear hsrc hto hfo hzz hbox hbl hgb
      go_upto_region 19 with fail
      have ot : tv.oneCell' = true := by
        rcases HTO.out.2 with ⟨rfl, _⟩ | ⟨_, _, _, rfl, _⟩
        · rfl
        · rfl
      have ofv : fv.oneCell' = true := by
        rcases HFO.out.2 with ⟨rfl, _⟩ | ⟨_, _, _, rfl, _⟩
        · rfl
        · rfl
      have HEND : Hid (∀ (w6 : World) (B : Bool), wr.grownBy w6 (some (w.heap.size + 1)) → B = KB → ∃ ta tc fa fc, Ending.returned (.tuple #[.agg #[tv, fv, .int .i64 (t.cols.length : Int)], .bool B]) = .returned (.tuple #[.agg #[.slice ta 1 tc, .slice fa 1 fc, .int .i64 (t.cols.length : Int)], .bool KB]) ∧
          CatR w6 (.slice ta 1 tc) [t] ∧ IntsR w6 (.slice fa 1 fc) [0] ∧ Below w.heap.size w w6) := Lib.hid fun w6 B hg hB => by
        have hb6 : Below w.heap.size w w6 := ⟨hg.os.trans HBL.out.os, hg.tape.trans HBL.out.tape, hg.output.trans HBL.out.output, Nat.le_trans HBL.out.size hg.size, fun k hk => (hg.block k (Nat.lt_of_lt_of_le hk HBL.out.size) (fun e => by cases e; omega)).trans (HBL.out.block k hk)⟩
        have h1 := World.ownsRow.kept HTO.out hg (.inr (fun e => by have := (World.ownsRow.lt HTO.out _ e).1; have := HGB.out; have := HLN.out; omega))
        have h2 := World.ownsRow.kept HFO.out hg (.inr (fun e => by have := (World.ownsRow.lt HFO.out _ e).1; have := HGB.out; have := HLN.out; omega))
        have h3 : CatR w6 tv [t] := slR_own h1 rfl (by
          obtain ⟨cv, kv, iv, e, a1, a2, a3⟩ := HTB.out
          exact ⟨cv, kv, iv, e, colsR_below a1 hb6, intsR_below a2 hb6, ixsR_below a3 hb6⟩)
        have h4 : IntsR w6 fv [0] := slR_own h2 rfl rfl
        obtain ⟨ta, tc, rfl, _⟩ := h3.shape
        obtain ⟨fa, fc, rfl, _⟩ := h4.shape
        exact ⟨ta, tc, fa, fc, by rw [hB]; rfl, h3, h4, hb6⟩
      by_cases hge : 6 ≤ s.kind
      · have ig : decide ((6 : Int) ≤ (s.kind : Int)) = true := decide_eq_true (by omega)
        obtain ⟨L8, hL8⟩ : ∃ L, decide ((s.kind : Int) ≤ 8) = L := ⟨_, rfl⟩
        have HLB : Hid (L8 = KB) := Lib.hid (by rw [← hL8, HKB.out]; exact decide_eq_decide.2 ⟨fun h => ⟨hge, by omega⟩, fun h => by omega⟩)
        refine wp_region_all' (GrJ wr (w.heap.size + 1) #[tv, fv, .int .i64 (t.cols.length : Int)] #[.slice none 0 0, .slice none 0 0, .int .i64 0] (GrV true #[tv, fv, .int .i64 (t.cols.length : Int)] w.heap.size (s.kind : Int) L8)) 84 rfl (by kernel_rfl) (by kernel_rfl) ?_ ?_ ?_
        · intro us _
          exact ⟨(fun j _ h => by cases h), HZZ.out, below_grown (Below.refl _ _).drew⟩
        · intro i hi dn us A A2 hother hat hJ hi0 hcl hd
          match i, hi with
            | 0, hi =>
              have h0 := tmps_at (show A.eval (.tmp 9) = .pointer (some ⟨gl, 0, none⟩) from hother 9 (by kernel_rfl))
              have s0 := (HSR.out.grown hJ.hg (by have := HLN.out; omega)).cell (i := 0) (v := tv) rfl
              have s1 := (HSR.out.grown hJ.hg (by have := HLN.out; omega)).cell (i := 1) (v := fv) rfl
              have s2 := (HSR.out.grown hJ.hg (by have := HLN.out; omega)).cell (i := 2) (v := .int .i64 (t.cols.length : Int)) rfl
              refine op_val rfl rfl (.agg #[tv, fv, .int .i64 (t.cols.length : Int)]) A2 (by simp only [execOp]; go_simp) ?_
              exact ⟨_, rfl, hJ.put 0 (by decide)⟩
            | 1, hi =>
              have h0 := tmps_at (show A.eval (.tmp 3) = .pointer (some ⟨w.heap.size, 0, none⟩) from hother 3 (by kernel_rfl))
              refine op_val rfl rfl (.pointer (some ⟨w.heap.size, 0, none⟩)) A2 (by simp only [execOp]; go_simp) ?_
              exact ⟨_, rfl, hJ.put 1 (by decide)⟩
            | 2, hi =>
              have h0 := tmps_at ((hat 1 76 (by decide) (by kernel_rfl) (by decide)).trans (hJ.vs 1 (by decide) (hd _ rfl ⟨1, .data⟩ (by simp) rfl)))
              simp only [GrV] at h0
              have qk := (HBO.out.grown hJ.hg (by omega)).cell (i := 0) (v := .int .u8 (s.kind : Int)) rfl
              refine op_val rfl rfl (.int .u8 (s.kind : Int)) A2 (by simp only [execOp]; go_simp) ?_
              exact ⟨_, rfl, hJ.put 2 (by decide)⟩
            | 3, hi =>
              have h0 := tmps_at ((hat 2 77 (by decide) (by kernel_rfl) (by decide)).trans (hJ.vs 2 (by decide) (hd _ rfl ⟨2, .data⟩ (by simp) rfl)))
              simp only [GrV] at h0
              refine op_val rfl rfl (.bool true) A2 (by simp only [execOp]; go_simp) ?_
              exact ⟨_, rfl, hJ.put 3 (by decide)⟩
            | 4, hi =>
              have h0 := tmps_at ((hat 3 78 (by decide) (by kernel_rfl) (by decide)).trans (hJ.vs 3 (by decide) (hd _ rfl ⟨3, .data⟩ (by simp) rfl)))
              simp only [GrV] at h0
              refine op_val rfl rfl (.bool true) A2 (by simp only [execOp]; go_simp) ?_
              exact ⟨_, rfl, hJ.put 4 (by decide)⟩
            | 5, hi =>
              have h0 := tmps_at (show A.eval (.tmp 3) = .pointer (some ⟨w.heap.size, 0, none⟩) from hother 3 (by kernel_rfl))
              have hw4 := (hat 4 79 (by decide) (by kernel_rfl) (by decide)).trans (hJ.vs 4 (by decide) (hd _ rfl ⟨4, .guard⟩ (by simp) rfl))
              simp only [GrV] at hw4
              refine op_valg rfl (wanted_some (t := 79) rfl (by kernel_rfl) hw4) (.pointer (some ⟨w.heap.size, 0, none⟩)) A2 (by simp only [execOp]; go_simp) ?_
              exact ⟨_, rfl, hJ.put 5 (by decide)⟩
            | 6, hi =>
              have h0 := tmps_at ((hat 5 80 (by decide) (by kernel_rfl) (by decide)).trans (hJ.vs 5 (by decide) (hd _ rfl ⟨5, .data⟩ (by simp) rfl)))
              simp only [GrV] at h0
              have qk := (HBO.out.grown hJ.hg (by omega)).cell (i := 0) (v := .int .u8 (s.kind : Int)) rfl
              have hw4 := (hat 4 79 (by decide) (by kernel_rfl) (by decide)).trans (hJ.vs 4 (by decide) (hd _ rfl ⟨4, .guard⟩ (by simp) rfl))
              simp only [GrV] at hw4
              refine op_valg rfl (wanted_some (t := 79) rfl (by kernel_rfl) hw4) (.int .u8 (s.kind : Int)) A2 (by simp only [execOp]; go_simp) ?_
              exact ⟨_, rfl, hJ.put 6 (by decide)⟩
            | 7, hi =>
              have h0 := tmps_at ((hat 6 81 (by decide) (by kernel_rfl) (by decide)).trans (hJ.vs 6 (by decide) (hd _ rfl ⟨6, .data⟩ (by simp) rfl)))
              simp only [GrV] at h0
              have hw4 := (hat 4 79 (by decide) (by kernel_rfl) (by decide)).trans (hJ.vs 4 (by decide) (hd _ rfl ⟨4, .guard⟩ (by simp) rfl))
              simp only [GrV] at hw4
              refine op_valg rfl (wanted_some (t := 79) rfl (by kernel_rfl) hw4) (.bool L8) A2 (by simp only [execOp]; go_simp) ?_
              exact ⟨_, rfl, hJ.put 7 (by decide)⟩
            | 8, hi =>
              have h0 := tmps_at ((hat 4 79 (by decide) (by kernel_rfl) (by decide)).trans (hJ.vs 4 (by decide) (hd _ rfl ⟨4, .data⟩ (by simp) rfl)))
              simp only [GrV] at h0
              have h1 := tmps_at ((hat 7 82 (by decide) (by kernel_rfl) (by decide)).trans (hJ.vs 7 (by decide) (hd _ rfl ⟨7, .data⟩ (by simp) rfl)))
              simp only [GrV] at h1
              refine op_val rfl rfl (.bool L8) A2 (by simp only [execOp]; go_simp) ?_
              exact ⟨_, rfl, hJ.put 8 (by decide)⟩
            | 9, hi =>
              have h0 := tmps_at (show A.eval (.tmp 4) = .pointer (some ⟨w.heap.size + 1, 0, none⟩) from hother 4 (by kernel_rfl))
              have h1 := tmps_at ((hat 0 75 (by decide) (by kernel_rfl) (by decide)).trans (hJ.vs 0 (by decide) (hd _ rfl ⟨0, .data⟩ (by simp) rfl)))
              simp only [GrV] at h1
              have hrow := hJ.row
              rw [hi0, if_neg (by decide)] at hrow
              have hrb := hrow.b (n := 3) rfl
              have hst := run_srSt A2 (w.heap.size + 1) #[tv, fv, .int .i64 (t.cols.length : Int)] hrb (by rw [okRow3', ot, ofv]; rfl)
              refine op_skip rfl rfl (A2.setRow (w.heap.size + 1) #[tv, fv, .int .i64 (t.cols.length : Int)]) (by simp only [execOp]; go_simp) ?_
              refine ⟨_, rfl, fun j hj e => ?_, by rw [upd_eq, if_pos rfl]; exact hrow.set _, grown_trans hJ.hg (grown_setRow _ _ _)⟩
              by_cases hz : j = 9
              · subst hz; rfl
              · show (if j = 9 then _ else us j) = _
                rw [if_neg hz]; rw [upd_ne hz] at e; exact hJ.vs j hj e
            | 10, hi =>
              have h0 := tmps_at ((hat 8 83 (by decide) (by kernel_rfl) (by decide)).trans (hJ.vs 8 (by decide) (hd _ rfl ⟨8, .data⟩ (by simp) rfl)))
              simp only [GrV] at h0
              refine op_val rfl rfl (.bool L8) A2 (by simp only [execOp]; go_simp) ?_
              exact ⟨_, rfl, hJ.put 10 (by decide)⟩
            | i + 11, hi => exact absurd hi (by simp)
        intro dn us w6 hall hJ
        have e10 : us 10 = .bool L8 := hJ.vs 10 (by decide) (hall 10 (by decide))
        have hrow := hJ.row
        rw [hall 9 (by decide), if_pos rfl] at hrow
        have HRW := Lib.hid hrow
        have HGR := Lib.hid hJ.hg
        clear hall hJ hrow
        simp only [putAll, dstOf, Act.put, List.getElem?_toArray, List.getElem?_cons_zero, List.getElem?_cons_succ, Option.bind_some, List.length_cons, List.length_nil]
        simp only [List.setIfInBounds_toArray, List.set_cons_zero, List.set_cons_succ]
        rw [e10]
        go_wp2_with fail
        exact bodyPost_ret (v := .tuple #[.agg #[tv, fv, .int .i64 (t.cols.length : Int)], .bool L8]) (res_sr rfl _ _ (w.heap.size + 1) _ _ _ rfl rfl HRW.out rfl) rfl (HEND.out w6 L8 HGR.out HLB.out)
      · have ig : decide ((6 : Int) ≤ (s.kind : Int)) = false := decide_eq_false (by omega)
        have HLB : Hid (false = KB) := Lib.hid (by rw [HKB.out]; exact (decide_eq_false fun h => hge h.1).symm)
        refine wp_region_all' (GrJ wr (w.heap.size + 1) #[tv, fv, .int .i64 (t.cols.length : Int)] #[.slice none 0 0, .slice none 0 0, .int .i64 0] (GrV false #[tv, fv, .int .i64 (t.cols.length : Int)] w.heap.size (s.kind : Int) false)) 84 rfl (by kernel_rfl) (by kernel_rfl) ?_ ?_ ?_
        · intro us _
          exact ⟨(fun j _ h => by cases h), HZZ.out, below_grown (Below.refl _ _).drew⟩
        · intro i hi dn us A A2 hother hat hJ hi0 hcl hd
          match i, hi with
            | 0, hi =>
              have h0 := tmps_at (show A.eval (.tmp 9) = .pointer (some ⟨gl, 0, none⟩) from hother 9 (by kernel_rfl))
              have s0 := (HSR.out.grown hJ.hg (by have := HLN.out; omega)).cell (i := 0) (v := tv) rfl
              have s1 := (HSR.out.grown hJ.hg (by have := HLN.out; omega)).cell (i := 1) (v := fv) rfl
              have s2 := (HSR.out.grown hJ.hg (by have := HLN.out; omega)).cell (i := 2) (v := .int .i64 (t.cols.length : Int)) rfl
              refine op_val rfl rfl (.agg #[tv, fv, .int .i64 (t.cols.length : Int)]) A2 (by simp only [execOp]; go_simp) ?_
              exact ⟨_, rfl, hJ.put 0 (by decide)⟩
            | 1, hi =>
              have h0 := tmps_at (show A.eval (.tmp 3) = .pointer (some ⟨w.heap.size, 0, none⟩) from hother 3 (by kernel_rfl))
              refine op_val rfl rfl (.pointer (some ⟨w.heap.size, 0, none⟩)) A2 (by simp only [execOp]; go_simp) ?_
              exact ⟨_, rfl, hJ.put 1 (by decide)⟩
            | 2, hi =>
              have h0 := tmps_at ((hat 1 76 (by decide) (by kernel_rfl) (by decide)).trans (hJ.vs 1 (by decide) (hd _ rfl ⟨1, .data⟩ (by simp) rfl)))
              simp only [GrV] at h0
              have qk := (HBO.out.grown hJ.hg (by omega)).cell (i := 0) (v := .int .u8 (s.kind : Int)) rfl
              refine op_val rfl rfl (.int .u8 (s.kind : Int)) A2 (by simp only [execOp]; go_simp) ?_
              exact ⟨_, rfl, hJ.put 2 (by decide)⟩
            | 3, hi =>
              have h0 := tmps_at ((hat 2 77 (by decide) (by kernel_rfl) (by decide)).trans (hJ.vs 2 (by decide) (hd _ rfl ⟨2, .data⟩ (by simp) rfl)))
              simp only [GrV] at h0
              refine op_val rfl rfl (.bool false) A2 (by simp only [execOp]; go_simp) ?_
              exact ⟨_, rfl, hJ.put 3 (by decide)⟩
            | 4, hi =>
              have h0 := tmps_at ((hat 3 78 (by decide) (by kernel_rfl) (by decide)).trans (hJ.vs 3 (by decide) (hd _ rfl ⟨3, .data⟩ (by simp) rfl)))
              simp only [GrV] at h0
              refine op_val rfl rfl (.bool false) A2 (by simp only [execOp]; go_simp) ?_
              exact ⟨_, rfl, hJ.put 4 (by decide)⟩
            | 5, hi =>
              have hw4 := (hat 4 79 (by decide) (by kernel_rfl) (by decide)).trans (hJ.vs 4 (by decide) (hd _ rfl ⟨4, .guard⟩ (by simp) rfl))
              simp only [GrV] at hw4
              refine op_unw rfl (unwanted_some (t := 79) (b := true) rfl (by kernel_rfl) hw4) ?_
              exact ⟨_, rfl, hJ.put 5 (by decide)⟩
            | 6, hi =>
              have hw4 := (hat 4 79 (by decide) (by kernel_rfl) (by decide)).trans (hJ.vs 4 (by decide) (hd _ rfl ⟨4, .guard⟩ (by simp) rfl))
              simp only [GrV] at hw4
              refine op_unw rfl (unwanted_some (t := 79) (b := true) rfl (by kernel_rfl) hw4) ?_
              exact ⟨_, rfl, hJ.put 6 (by decide)⟩
            | 7, hi =>
              have hw4 := (hat 4 79 (by decide) (by kernel_rfl) (by decide)).trans (hJ.vs 4 (by decide) (hd _ rfl ⟨4, .guard⟩ (by simp) rfl))
              simp only [GrV] at hw4
              refine op_unw rfl (unwanted_some (t := 79) (b := true) rfl (by kernel_rfl) hw4) ?_
              exact ⟨_, rfl, hJ.put 7 (by decide)⟩
            | 8, hi =>
              have h0 := tmps_at ((hat 4 79 (by decide) (by kernel_rfl) (by decide)).trans (hJ.vs 4 (by decide) (hd _ rfl ⟨4, .data⟩ (by simp) rfl)))
              simp only [GrV] at h0
              refine op_val rfl rfl (.bool false) A2 (by simp only [execOp]; go_simp) ?_
              exact ⟨_, rfl, hJ.put 8 (by decide)⟩
            | 9, hi =>
              have h0 := tmps_at (show A.eval (.tmp 4) = .pointer (some ⟨w.heap.size + 1, 0, none⟩) from hother 4 (by kernel_rfl))
              have h1 := tmps_at ((hat 0 75 (by decide) (by kernel_rfl) (by decide)).trans (hJ.vs 0 (by decide) (hd _ rfl ⟨0, .data⟩ (by simp) rfl)))
              simp only [GrV] at h1
              have hrow := hJ.row
              rw [hi0, if_neg (by decide)] at hrow
              have hrb := hrow.b (n := 3) rfl
              have hst := run_srSt A2 (w.heap.size + 1) #[tv, fv, .int .i64 (t.cols.length : Int)] hrb (by rw [okRow3', ot, ofv]; rfl)
              refine op_skip rfl rfl (A2.setRow (w.heap.size + 1) #[tv, fv, .int .i64 (t.cols.length : Int)]) (by simp only [execOp]; go_simp) ?_
              refine ⟨_, rfl, fun j hj e => ?_, by rw [upd_eq, if_pos rfl]; exact hrow.set _, grown_trans hJ.hg (grown_setRow _ _ _)⟩
              by_cases hz : j = 9
              · subst hz; rfl
              · show (if j = 9 then _ else us j) = _
                rw [if_neg hz]; rw [upd_ne hz] at e; exact hJ.vs j hj e
            | 10, hi =>
              have h0 := tmps_at ((hat 8 83 (by decide) (by kernel_rfl) (by decide)).trans (hJ.vs 8 (by decide) (hd _ rfl ⟨8, .data⟩ (by simp) rfl)))
              simp only [GrV] at h0
              refine op_val rfl rfl (.bool false) A2 (by simp only [execOp]; go_simp) ?_
              exact ⟨_, rfl, hJ.put 10 (by decide)⟩
            | i + 11, hi => exact absurd hi (by simp)
        intro dn us w6 hall hJ
        have e10 : us 10 = .bool false := hJ.vs 10 (by decide) (hall 10 (by decide))
        have hrow := hJ.row
        rw [hall 9 (by decide), if_pos rfl] at hrow
        have HRW := Lib.hid hrow
        have HGR := Lib.hid hJ.hg
        clear hall hJ hrow
        simp only [putAll, dstOf, Act.put, List.getElem?_toArray, List.getElem?_cons_zero, List.getElem?_cons_succ, Option.bind_some, List.length_cons, List.length_nil]
        simp only [List.setIfInBounds_toArray, List.set_cons_zero, List.set_cons_succ]
        rw [e10]
        go_wp2_with fail
        exact bodyPost_ret (v := .tuple #[.agg #[tv, fv, .int .i64 (t.cols.length : Int)], .bool false]) (res_sr rfl _ _ (w.heap.size + 1) _ _ _ rfl rfl HRW.out rfl) rfl (HEND.out w6 false HGR.out HLB.out)
end Go.Proofs.YtjgkeillmelkoaaGreat.Dt
