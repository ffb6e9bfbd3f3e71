import Derived.Deep.DeepCutAuto
import Derived.WalkMore
import Derived.Deep.LoopGhost
import Derived.Test.YtjgkeillmelkoaaGreatBk21
import Derived.Test.YtjgkeillmelkoaaGreatBk06
import Derived.Test.YtjgkeillmelkoaaGreatBk03
import Derived.Test.YtjgkeillmelkoaaGreatBk04
import Derived.Test.YtjgkeillmelkoaaGreatBk08
import Derived.Test.YtjgkeillmelkoaaGreatBk07
namespace Go.Proofs.YtjgkeillmelkoaaGreat.Dt
open Go.RowKit Go.Proofs.YtjgkeillmelkoaaGreat.By

/-- The kinds of all columns of sources. -/
def kindsL : List PSo → List Nat
  | [] => []
  | x :: l => x.2.cols.map PCol.ty ++ kindsL l
/-- What lies there while kinds are gathered. -/
structure KN (w : World) (v : Value) (done : List Nat) (W : World) : Prop where
  hb : Below w.heap.size w W
  own : OwnU W w.heap.size v done
set_option maxRecDepth 100000 in
set_option maxHeartbeats 16000000 in
theorem kindsW (l : List PSo) (la : Option Addr) (lc : Nat) (w : World) (hl : l.length ≤ 1000) (hcl : ∀ y ∈ l, y.2.cols.length ≤ 1000) (h : SosR w (.slice la l.length lc) l) :
    Calls Tryz.prog 75 #[.slice la l.length lc] w fun e w' => ∃ v, e = .returned v ∧ U8sAt w' v (kindsL l) ∧ Below w.heap.size w w' := by
  have H0 := Lib.hid h
  have HL := Lib.hid hl
  have HCL := Lib.hid hcl
  obtain ⟨R, hR⟩ : ∃ R, R = kindsL l := ⟨_, rfl⟩
  rw [← hR]
  have HR := Lib.hid hR
  clear h hl hcl hR
  go_enter Tryz.func75, Tryz.ntmps75
  go_wp2_with fail
  go_loopg [3, 4] l.length (fun gk ov iv wr => ∃ (i : Nat) (done : List Nat), iv = .int .i64 (i : Int) ∧ gk = l.length - i ∧ i ≤ l.length ∧ Hid (done.length ≤ 1000 * i) ∧ Hid (R = done ++ kindsL (l.drop i)) ∧ Hid (KN w ov done wr))
  case atStart => exact ⟨0, [], rfl, rfl, Nat.zero_le _, Lib.hid (Nat.le_refl _), HR, Lib.hid ⟨Below.refl _ _, OwnU.nil _ _⟩⟩
  case round =>
    obtain ⟨i, done, rfl, rfl, hi, HD, HI, HK⟩ := hrel
    obtain ⟨oa, oc, rfl⟩ := HK.out.own.shape
    by_cases hlt : i < l.length
    · obtain ⟨y, hy⟩ : ∃ y, l[i]? = some y := ⟨l[i], by simp⟩
      have ilt : (i : Int) < (l.length : Int) := by omega
      have ige : (0 : Int) ≤ (i : Int) := by omega
      have HYC := Lib.hid (HCL.out y (List.mem_of_getElem? hy))
      have HY := Lib.hid hy
      have HLT := Lib.hid hlt
      have HI2 : Hid (R = done ++ (y.2.cols.map PCol.ty ++ kindsL (l.drop (i + 1)))) := Lib.hid (by rw [HI.out, dropC hy, kindsL])
      clear hy hlt hi HI
      go_wp2_with fail
      go_loopg [3, 5] y.2.cols.length (fun gj ov jv wr => ∃ (j : Nat) (cur : List Nat), jv = .int .i64 (j : Int) ∧ gj = y.2.cols.length - j ∧ j ≤ y.2.cols.length ∧ Hid (cur.length ≤ 1000 * i + j) ∧ Hid (R = cur ++ ((y.2.cols.drop j).map PCol.ty ++ kindsL (l.drop (i + 1)))) ∧ Hid (KN w ov cur wr))
      case atStart => exact ⟨0, done, rfl, rfl, Nat.zero_le _, HD, HI2, HK⟩
      case round =>
        obtain ⟨j, cur, rfl, rfl, hj, HD2, HJ, HK2⟩ := hrel
        obtain ⟨ua, uc, rfl⟩ := HK2.out.own.shape
        obtain ⟨b, o, cv, kv, iv, rfl, hcols, _, _, _, _, d2, _, _⟩ := so_at (sosR_below H0.out HK2.out.hb) HY.out
        obtain ⟨ca, cc, rfl, _⟩ := hcols.shape
        by_cases hjt : j < y.2.cols.length
        · obtain ⟨z, hz⟩ : ∃ z, y.2.cols[j]? = some z := ⟨y.2.cols[j], by simp⟩
          obtain ⟨b2, o2, rfl, _, e1, _⟩ := col_at hcols hz
          have jlt : (j : Int) < (y.2.cols.length : Int) := by omega
          have jge : (0 : Int) ≤ (j : Int) := by omega
          have HJT := Lib.hid hjt
          have HJ2 : Hid (R = (cur ++ [z.ty]) ++ ((y.2.cols.drop (j + 1)).map PCol.ty ++ kindsL (l.drop (i + 1)))) := Lib.hid (by rw [HJ.out, dropC hz]; simp)
          rename World => w3
          have hal := (Below.refl w3.heap.size w3).alloc (Nat.le_refl _) (.cells #[.int .u8 (z.ty : Int)] 5)
          have HBA := Lib.hid (next HK2.out.hb hal)
          have HOA := Lib.hid (HK2.out.own.below hal)
          have HNA := Lib.hid (row_alloc w3 5 #[.int .u8 (z.ty : Int)])
          have HLO : Hid (∀ k, (Value.slice ua cur.length uc).ownBlock = some k → w.heap.size ≤ k) := Lib.hid (fun k hk => (World.ownsRow.lt HK2.out.own k hk).1)
          have HCC : Hid (cur.length ≤ 1001000) := Lib.hid (by have h1 := HD2.out; have h2 := HLT.out; have h3 := HL.out; have h4 := HYC.out; omega)
          have HBS : Hid (w.heap.size ≤ (w3.alloc (.cells #[.int .u8 (z.ty : Int)] 5)).heap.size) := Lib.hid HBA.out.size
          have HD3 : Hid ((cur ++ [z.ty]).length ≤ 1000 * i + (j + 1)) := Lib.hid (by rw [List.length_append, List.length_singleton]; have := HD2.out; omega)
          have j3 := ar_s (Nat.le_trans (Nat.le_of_lt HJT.out) HYC.out)
          clear hal hcols hz hjt hj
          go_upto_region 7 with (at_builtin; refine wpList_append_one rfl (.tmp 23) (.tmp 34) 147 rfl w.heap.size 5 1 1 elU8 (.slice ua cur.length uc) cur.length (uCells cur) rfl HOA.out w3.heap.size 1 [.int .u8 (z.ty : Int)] rfl rfl (fun j u hj => HNA.out.cell (by simpa using hj)) (by simp [Value.oneCell']) (by have := HCC.out; unfold maxLen; omega) (by have := HCC.out; omega) HBS.out ?_; intro v' w9 hown9 hg9 hv9; have HKZ : Hid (KN w v' (cur ++ [z.ty]) w9) := Lib.hid ⟨HBA.out.trans ⟨hg9.os, hg9.tape, hg9.output, hg9.size, fun k hk => hg9.block k (by have h1 := HBS.out; omega) (fun e => by have := HLO.out _ e.symm; omega)⟩, OwnU.snoc hown9⟩; clear hown9 hg9 hv9; obtain ⟨va', vc', hv'⟩ := HKZ.out.own.shape; rw [List.length_append, List.length_singleton] at hv'; subst hv')
          clear d2 e1
          go_wp2_with fail
          go_roundg (y.2.cols.length - (j + 1))
          case measure => exact Nat.sub_lt_sub_left HJT.out (Nat.lt_succ_self _)
          case rel => exact ⟨j + 1, cur ++ [z.ty], by go_num, rfl, HJT.out, HD3, HJ2, HKZ⟩
        · obtain rfl : j = y.2.cols.length := by omega
          have HJE : Hid (R = cur ++ kindsL (l.drop (i + 1))) := Lib.hid (by rw [HJ.out, List.drop_length]; rfl)
          have i3 := ar_s (Nat.le_trans (Nat.le_of_lt HLT.out) HL.out)
          have HDE : Hid (cur.length ≤ 1000 * (i + 1)) := Lib.hid (Nat.le_trans HD2.out (by have := HYC.out; omega))
          clear hcols hjt hj
          go_wp2_with fail
          go_roundg (l.length - (i + 1))
          case measure => exact Nat.sub_lt_sub_left HLT.out (Nat.lt_succ_self _)
          case rel => exact ⟨i + 1, cur, by go_num, rfl, HLT.out, HDE, HJE, HK2⟩
    · obtain rfl : i = l.length := by omega
      have HF : Hid (R = done) := Lib.hid (by rw [HI.out, List.drop_length]; simp [kindsL])
      clear hlt hi
      go_wp2_with fail
      go_ret
      exact ⟨_, rfl, by rw [HF.out]; exact HK.out.own.at_, HK.out.hb⟩
end Go.Proofs.YtjgkeillmelkoaaGreat.Dt
namespace Go.Proofs.YtjgkeillmelkoaaGreat.Dt
open Go.RowKit Go.Proofs.YtjgkeillmelkoaaGreat.By

/-- The reader's box: the tokens, how far they were read, no error, the text's length; in a world above the one in which the tokens were made. -/
structure NB (w0 : World) (r : Nat) (tv : Value) (L : List Tk) (en : Int) (k : Nat) (w : World) : Prop where
  row : Row r 89 #[tv, .int .i64 (k : Int), .int .i64 0, .int .i64 en] w
  tk : TksAt w0 tv L
  hb : Below w0.heap.size w0 w
  hr : w0.heap.size ≤ r
  hl : L.length ≤ 4096
theorem row_free {g : Nat} {t : TypeId} {cs : Array Value} {w : World} (h : Row g t cs w) (i : Nat) : w.frozen? ⟨g, i, none⟩ = false := by
  unfold World.frozen?
  rw [h]
  simp
variable {w0 w w' : World} {r : Nat} {tv : Value} {L : List Tk} {en : Int} {k : Nat}
theorem NB.lt (h : NB w0 r tv L en k w) : r < w.heap.size := h.row.lt
theorem NB.tks (h : NB w0 r tv L en k w) : TksAt w tv L := h.tk.below h.hb
theorem NB.later (h : NB w0 r tv L en k w) (hb : Below w.heap.size w w') : NB w0 r tv L en k w' := ⟨h.row.later hb, h.tk, next h.hb hb, h.hr, h.hl⟩
theorem NB.set (h : NB w0 r tv L en k w) (k' : Nat) : NB w0 r tv L en k' (w.setCell ⟨r, 1, none⟩ (.int .i64 (k' : Int))) :=
  ⟨by rw [setCell_eq_setRow w r 1 _ _ _ _ h.row]; exact h.row.set _, h.tk, below_set h.hb h.hr, h.hr, h.hl⟩
theorem NB.next (h : NB w0 r tv L en k w) : NB w0 r tv L en (k + 1) (w.setCell ⟨r, 1, none⟩ (.int .i64 ((k : Int) + 1))) := h.set (k + 1)
theorem NB.tok (h : NB w0 r tv L en k w) (hk : k < L.length) : ∃ b o c, tv = .slice (some ⟨b, o, none⟩) L.length c ∧ w.cell? ⟨b, o + k * 4, none⟩ = some (.int .u8 ((tokP L en k).k : Int)) ∧ w.cell? ⟨b, o + k * 4 + 1, none⟩ = some (.string (tokP L en k).s) ∧
    w.cell? ⟨b, o + k * 4 + 2, none⟩ = some (.int .u64 ((tokP L en k).n : Int)) ∧ w.cell? ⟨b, o + k * 4 + 3, none⟩ = some (.int .i64 (tokP L en k).a) := by
  have ht := h.tks
  obtain ⟨a, c, rfl⟩ := ht.shape
  have e : L[k]? = some (tokP L en k) := by unfold tokP; rw [List.getElem?_eq_getElem hk]; rfl
  obtain ⟨b, o, rfl, _, h0, h1, h2, h3⟩ := at4 ht e
  exact ⟨b, o, c, rfl, h0, h1, h2, h3⟩
/-- Does this word or sign come? -/
def cB (L : List Tk) (en : Int) (k : Nat) (t : ByteArray) : Bool := decide (((tokP L en k).k = 1 ∨ (tokP L en k).k = 6) ∧ (tokP L en k).s = t)

set_option maxRecDepth 100000 in
set_option maxHeartbeats 4000000 in
theorem comesW (t : ByteArray) (w : World) (h : NB w0 r tv L en k w) : Calls Tryz.prog 85 #[.pointer (some ⟨r, 0, none⟩), .string t] w fun e w' =>
    e = .returned (.bool (cB L en k t)) ∧ Below w.heap.size w w' := by
  obtain ⟨ta, tc, rfl⟩ := h.tks.shape
  have hl := h.hl
  have c0 := h.row.cell (i := 0) (v := .slice ta L.length tc) rfl
  have c1 := h.row.cell (i := 1) (v := .int .i64 (k : Int)) rfl
  have c2 := h.row.cell (i := 2) (v := .int .i64 0) rfl
  have i0 : (0 : Int) ≤ (k : Int) := by omega
  by_cases hlt : k < L.length
  · obtain ⟨b, o, c, e, q0, q1, q2, q3⟩ := h.tok hlt
    cases e
    have i1 : (k : Int) < (L.length : Int) := by omega
    obtain ⟨B, hB⟩ : ∃ B, B = cB L en k t := ⟨_, rfl⟩
    rw [← hB]
    unfold cB at hB
    generalize tokP L en k = T at *
    clear hlt hl h q2 q3
    have l0 := lat_cell c0
    have l1 := lat_cell c1
    have l2 := lat_cell c2
    have l3 := lat_cell q0
    have l4 := lat_cell q1
    have es : (T.s.toList == t.toList) = decide (T.s = t) := str_eq _ _
    by_cases h1 : T.k = 1
    · have e1 : ((T.k : Int) == 1) = true := by simp [h1]
      have hB2 : B = decide (T.s = t) := by rw [hB]; exact decide_eq_decide.2 ⟨fun h => h.2, fun h => ⟨.inl h1, h⟩⟩
      generalize decide (T.s = t) = D at *
      clear hB h1
      go_enter Tryz.func85, Tryz.ntmps85
      go_upto_region 1 with fail
      refine wp_region_later (by kernel_rfl) (by kernel_rfl) ?_
      repeat (go_big_quiet_step (fail))
      refine wpQuiet_nil ?_
      refine later_out (fun w2 hb2 => ?_)
      go_wp2_with fail
      go_ret
      exact ⟨by rw [hB2]; rfl, hb2⟩
    · have e1 : ((T.k : Int) == 1) = false := by simp; omega
      by_cases h6 : T.k = 6
      · have e6 : ((T.k : Int) == 6) = true := by simp [h6]
        have hB2 : B = decide (T.s = t) := by rw [hB]; exact decide_eq_decide.2 ⟨fun h => h.2, fun h => ⟨.inr h6, h⟩⟩
        generalize decide (T.s = t) = D at *
        clear hB h1 h6
        go_enter Tryz.func85, Tryz.ntmps85
        go_upto_region 1 with fail
        refine wp_region_later (by kernel_rfl) (by kernel_rfl) ?_
        repeat (go_big_quiet_step (fail))
        refine wpQuiet_nil ?_
        refine later_out (fun w2 hb2 => ?_)
        go_wp2_with fail
        go_ret
        exact ⟨by rw [hB2]; rfl, hb2⟩
      · have e6 : ((T.k : Int) == 6) = false := by simp; omega
        have hB2 : B = false := by rw [hB]; exact decide_eq_false fun h => h.1.elim h1 h6
        clear hB h1 h6 es
        go_enter Tryz.func85, Tryz.ntmps85
        go_upto_region 1 with fail
        refine wp_region_later (by kernel_rfl) (by kernel_rfl) ?_
        repeat (go_big_quiet_step (fail))
        refine wpQuiet_nil ?_
        refine later_out (fun w2 hb2 => ?_)
        go_wp2_with fail
        go_ret
        exact ⟨by rw [hB2]; rfl, hb2⟩
  · have i1 : ¬ (k : Int) < (L.length : Int) := by omega
    have hB : cB L en k t = false := by
      unfold cB tokP
      rw [List.getElem?_eq_none (by omega)]
      exact decide_eq_false fun h => by rcases h.1 with h | h <;> cases h
    rw [hB]
    have l0 := lat_cell c0
    have l1 := lat_cell c1
    have l2 := lat_cell c2
    clear h hl hlt hB
    go_enter Tryz.func85, Tryz.ntmps85
    go_upto_region 1 with fail
    refine wp_region_later (by kernel_rfl) (by kernel_rfl) ?_
    repeat (go_big_quiet_step (fail))
    refine wpQuiet_nil ?_
    refine later_out (fun w2 hb2 => ?_)
    go_wp2_with fail
    go_ret
    exact ⟨rfl, hb2⟩
theorem cB_lt {t : ByteArray} (h : cB L en k t = true) : k < L.length := by
  unfold cB at h
  have h := of_decide_eq_true h
  rcases Nat.lt_or_ge k L.length with hk | hk
  · exact hk
  · have e : tokP L en k = ⟨0, ⟨#[]⟩, 0, en⟩ := by unfold tokP; rw [List.getElem?_eq_none hk]; rfl
    rw [e] at h
    rcases h.1 with h | h <;> cases h
set_option maxRecDepth 100000 in
set_option maxHeartbeats 4000000 in
theorem takesW (t : ByteArray) (w : World) (h : NB w0 r tv L en k w) : Calls Tryz.prog 49 #[.pointer (some ⟨r, 0, none⟩), .string t] w fun e w' =>
    e = .returned (.bool (cB L en k t)) ∧ NB w0 r tv L en (if cB L en k t then k + 1 else k) w' ∧ w.grownBy w' (some r) := by
  have HC := Lib.hid (comesW t w h)
  have HN : Hid (cB L en k t = true → k < L.length ∧ L.length ≤ 4096) := Lib.hid fun e => ⟨cB_lt e, h.hl⟩
  have H := Lib.hid h
  generalize cB L en k t = B at *
  clear h
  go_enter Tryz.func49, Tryz.ntmps49
  go_wp2_with fail
  refine HC.out.mono ?_
  rintro e2 w2 ⟨rfl, hb2⟩
  have H2 := H.out.later hb2
  have HG2 := Lib.hid (below_grown (r := r) hb2)
  cases B with
  | false =>
    have H3 := Lib.hid H2
    clear H2 hb2 HN HC
    go_wp2_with fail
    go_ret
    exact ⟨rfl, H3.out, HG2.out⟩
  | true =>
    obtain ⟨j1, j2⟩ := HN.out rfl
    have j3 : (k : Int) ≤ 4096 := by omega
    have j4 : (0 : Int) ≤ (k : Int) := by omega
    have c1 := H2.row.cell (i := 1) (v := .int .i64 (k : Int)) rfl
    have f1 := row_free H2.row 1
    have H3 := Lib.hid (H2.set (k + 1))
    have HG3 := Lib.hid (grown_trans HG2.out (grown_set w2 r 1 (.int .i64 ((k + 1 : Nat) : Int))))
    clear H2 hb2 HN HC j1 j2
    go_wp2_with fail
    go_ret
    exact ⟨rfl, H3.out, HG3.out⟩
set_option maxRecDepth 100000 in
set_option maxHeartbeats 4000000 in
theorem needsW (t : ByteArray) (w : World) (h : NB w0 r tv L en k w) (hc : cB L en k t = true) : Calls Tryz.prog 32 #[.pointer (some ⟨r, 0, none⟩), .string t] w fun e w' =>
    e = .returned (.tuple #[]) ∧ NB w0 r tv L en (k + 1) w' ∧ w.grownBy w' (some r) := by
  have ht := takesW t w h
  rw [hc, if_pos rfl] at ht
  have HT := Lib.hid ht
  clear ht h hc
  go_enter Tryz.func32, Tryz.ntmps32
  go_wp2_with fail
  refine HT.out.mono ?_
  rintro e2 w2 ⟨rfl, h2, g2⟩
  have H2 := Lib.hid h2
  have G2 := Lib.hid g2
  clear h2 g2 HT
  go_wp2_with fail
  go_end0
  exact ⟨rfl, H2.out, G2.out⟩
/-- The kind of the token that comes. -/
def kP (L : List Tk) (k : Nat) : Nat := (tokP L 0 k).k
theorem kP_eq : (tokP L en k).k = kP L k := by
  unfold kP tokP
  cases L[k]? <;> rfl
set_option maxRecDepth 100000 in
set_option maxHeartbeats 4000000 in
theorem kindW (w : World) (h : NB w0 r tv L en k w) : Calls Tryz.prog 86 #[.pointer (some ⟨r, 0, none⟩)] w fun e w' =>
    e = .returned (.int .u8 (kP L k : Int)) ∧ Below w.heap.size w w' := by
  obtain ⟨ta, tc, rfl⟩ := h.tks.shape
  have c0 := h.row.cell (i := 0) (v := .slice ta L.length tc) rfl
  have c1 := h.row.cell (i := 1) (v := .int .i64 (k : Int)) rfl
  have c2 := h.row.cell (i := 2) (v := .int .i64 0) rfl
  have i0 : (0 : Int) ≤ (k : Int) := by omega
  by_cases hlt : k < L.length
  · obtain ⟨b, o, c, e, q0, _, _, _⟩ := h.tok hlt
    cases e
    rw [kP_eq] at q0
    have i1 : (k : Int) < (L.length : Int) := by omega
    generalize kP L k = T at *
    have Q0 := Lib.hid q0
    have C0 := Lib.hid c0
    have C1 := Lib.hid c1
    have l0 := lat_cell c0
    have l1 := lat_cell c1
    have l2 := lat_cell c2
    clear hlt h c0 c1 c2 q0
    go_enter Tryz.func86, Tryz.ntmps86
    go_upto_region 1 with fail
    refine wp_region_later (by kernel_rfl) (by kernel_rfl) ?_
    repeat (go_big_quiet_step (fail))
    refine wpQuiet_nil ?_
    refine later_out (fun w2 hb2 => ?_)
    clear l0 l1 l2
    have HB2 := Lib.hid hb2
    have d0 := (hb2.cell (cell_lt C0.out)).trans C0.out
    have d1 := (hb2.cell (cell_lt C1.out)).trans C1.out
    have d2 := (hb2.cell (cell_lt Q0.out)).trans Q0.out
    clear hb2
    have l0 := lat_cell d0
    have l1 := lat_cell d1
    have l2 := lat_cell d2
    go_upto_region 3 with fail
    refine wp_region_later (by kernel_rfl) (by kernel_rfl) ?_
    repeat (go_big_quiet_step (fail))
    refine wpQuiet_nil ?_
    refine later_out (fun w3 hb3 => ?_)
    go_wp2_with fail
    go_ret
    exact ⟨rfl, next HB2.out hb3⟩
  · have i1 : ¬ (k : Int) < (L.length : Int) := by omega
    have e0 : kP L k = 0 := by unfold kP tokP; rw [List.getElem?_eq_none (by omega)]; rfl
    rw [e0]
    have l0 := lat_cell c0
    have l1 := lat_cell c1
    have l2 := lat_cell c2
    clear h hlt e0
    go_enter Tryz.func86, Tryz.ntmps86
    go_upto_region 1 with fail
    refine wp_region_later (by kernel_rfl) (by kernel_rfl) ?_
    repeat (go_big_quiet_step (fail))
    refine wpQuiet_nil ?_
    refine later_out (fun w2 hb2 => ?_)
    go_wp2_with fail
    go_ret
    exact ⟨rfl, hb2⟩
set_option maxRecDepth 100000 in
set_option maxHeartbeats 4000000 in
theorem nameW (w : World) (h : NB w0 r tv L en k w) (hk : kP L k = 2) : Calls Tryz.prog 51 #[.pointer (some ⟨r, 0, none⟩)] w fun e w' =>
    e = .returned (.string (tokP L en k).s) ∧ NB w0 r tv L en (k + 1) w' ∧ w.grownBy w' (some r) := by
  have hlt : k < L.length := by
    rcases Nat.lt_or_ge k L.length with h' | h'
    · exact h'
    · unfold kP tokP at hk
      rw [List.getElem?_eq_none h'] at hk
      cases hk
  have hc := kindW w h
  rw [hk] at hc
  have HC := Lib.hid hc
  have H := Lib.hid h
  have HL := Lib.hid hlt
  have HK := Lib.hid h.hl
  clear h hc hk hlt
  go_enter Tryz.func51, Tryz.ntmps51
  go_wp2_with fail
  refine HC.out.mono ?_
  rintro e2 w2 ⟨rfl, hb2⟩
  have H2 := H.out.later hb2
  have j3 : (k : Int) ≤ 4096 := by have := HL.out; have := HK.out; omega
  have j4 : (0 : Int) ≤ (k : Int) := by omega
  have c1 := H2.row.cell (i := 1) (v := .int .i64 (k : Int)) rfl
  have f1 := row_free H2.row 1
  have h3 := H2.next
  have H3 := Lib.hid h3
  have HG3 := Lib.hid (grown_trans (below_grown (r := r) hb2) (grown_set w2 r 1 (.int .i64 ((k : Int) + 1))))
  clear H2 hb2 HC h3
  go_upto_region 5 with fail
  generalize w2.setCell ⟨r, 1, none⟩ (.int .i64 ((k : Int) + 1)) = w4 at *
  have h4 := H3.out
  obtain ⟨ta, tc, rfl⟩ := h4.tks.shape
  have d0 := h4.row.cell (i := 0) (v := .slice ta L.length tc) rfl
  have d1 := h4.row.cell (i := 1) (v := .int .i64 ((k + 1 : Nat) : Int)) rfl
  have ht : ∃ b o, ta = some ⟨b, o, none⟩ ∧ w4.cell? ⟨b, o + k * 4 + 1, none⟩ = some (.string (tokP L en k).s) := by
    have e : L[k]? = some (tokP L en k) := by unfold tokP; rw [List.getElem?_eq_getElem HL.out]; rfl
    obtain ⟨b, o, rfl, _, h0, h1, h2, h3⟩ := at4 h4.tks e
    exact ⟨b, o, rfl, h1⟩
  obtain ⟨b, o, rfl, q1⟩ := ht
  have i1 : (k : Int) < (L.length : Int) := by have := HL.out; omega
  have i3 : wrap64 ((k : Int) + 1) = (k : Int) + 1 := by unfold wrap64; omega
  have i4 : wrap64 ((k : Int) + 1 - 1) = (k : Int) := by unfold wrap64; omega
  have i5 : ((k + 1 : Nat) : Int) = (k : Int) + 1 := by omega
  rw [i5] at d1
  have l0 := lat_cell d0
  have l1 := lat_cell d1
  have l2 := lat_cell q1
  clear h4 c1 f1
  refine wp_region_later (by kernel_rfl) (by kernel_rfl) ?_
  repeat (go_big_quiet_step (fail))
  refine wpQuiet_nil ?_
  refine later_out (fun w3 hb3 => ?_)
  have H5 := Lib.hid (H3.out.later hb3)
  have HG5 := Lib.hid (grown_trans HG3.out (below_grown (r := r) hb3))
  go_wp2_with fail
  go_ret
  exact ⟨rfl, H5.out, HG5.out⟩
end Go.Proofs.YtjgkeillmelkoaaGreat.Dt
namespace Go.Proofs.YtjgkeillmelkoaaGreat.Dt
open Go.RowKit Go.Proofs.YtjgkeillmelkoaaGreat.By

theorem exD_op {S : Nat → Prop} {w : World} {kv : Value} {op : Nat} {kids : List PE} (h : Dep S w fun u => ExsR u kv kids) : ExD S w #[.int .u8 (op : Int), .int .u8 0, .int .i64 0, .string ⟨#[]⟩, .string ⟨#[]⟩, .string ⟨#[]⟩, .int .i64 0, kv] (.node op kids) := by
  obtain ⟨a, c, rfl, _⟩ := h.here.shape
  exact ⟨rfl, by simp [Value.oneCell'], h.imp fun u hu => exR_iff.2 ⟨_, rfl, hu⟩⟩
/-- An expression's cells, as a block holds them. -/
abbrev exA (x : PE) (kv : Value) : Array Value := #[.int .u8 (x.op : Int), .int .u8 (x.v.k : Int), .int .i64 x.v.n, .string x.v.s, .string x.t, .string x.m, .int .i64 x.n, kv]
theorem ExD.cells {S : Nat → Prop} {w : World} {cs : Array Value} {x : PE} (h : ExD S w cs x) : ∃ kv, cs = exA x kv ∧ Dep S w fun u => ExsR u kv x.kids := by
  obtain ⟨kv, e, _⟩ := exR_iff.1 h.new.here
  refine ⟨kv, Array.toList_inj.1 e, h.new.imp fun u hu => ?_⟩
  obtain ⟨kv', e', h'⟩ := exR_iff.1 hu
  rw [e] at e'
  simp only [PE.cells, List.cons.injEq, and_true, true_and] at e'
  subst e'
  exact h'
theorem exD_mk {S : Nat → Prop} {w : World} {kv : Value} {x : PE} (h : Dep S w fun u => ExsR u kv x.kids) : ExD S w (exA x kv) x := by
  obtain ⟨a, c, rfl, _⟩ := h.here.shape
  exact ⟨rfl, by simp [Value.oneCell'], h.imp fun u hu => exR_iff.2 ⟨_, rfl, hu⟩⟩

theorem veilBs_rx (n : Nat) (ps : Array (Nat × Value)) : Instr.buildSlice 32 n ps = veilBs 32 n ps := rfl
attribute [local go_sem ↓] veilSt_ex veilLd_ex veilBs_rx
attribute [local go_sem] run_exSt run_exNew run_exLd okRow8 Value.oneCell'
set_option maxRecDepth 100000 in
set_option maxHeartbeats 4000000 in
theorem valueV (k n : Int) (s : ByteArray) (w : World) : Calls Tryz.prog 113 #[.agg #[.int .u8 k, .int .i64 n, .string s]] w fun e w' =>
    e = .returned (.agg #[.int .u8 1, .int .u8 k, .int .i64 n, .string s, .string ⟨#[]⟩, .string ⟨#[]⟩, .int .i64 0, .slice none 0 0]) ∧ Below w.heap.size w w' := by
  have hb1 : Below w.heap.size w (w.alloc (.cells #[.int .u8 k, .int .i64 n, .string s] 42)) := (Below.refl _ _).alloc (Nat.le_refl _) _
  have hR := row_alloc w 42 #[.int .u8 k, .int .i64 n, .string s]
  have hZ := row_alloc (w.alloc (.cells #[.int .u8 k, .int .i64 n, .string s] 42)) 44 exZ
  have hb2 := hb1.alloc (by simp) (.cells exZ 44)
  have hR2 := hR.later ((Below.refl _ _).alloc (Nat.le_refl _) (.cells exZ 44))
  have hsz : (w.alloc (.cells #[.int .u8 k, .int .i64 n, .string s] 42)).heap.size = w.heap.size + 1 := by simp
  rw [hsz] at hZ
  have HB := Lib.hid hb2
  have HZ := Lib.hid hZ
  clear hb1 hR hsz hb2
  go_enter Tryz.func113, Tryz.ntmps113
  go_upto_region 1 with fail
  generalize (w.alloc (.cells #[.int .u8 k, .int .i64 n, .string s] 42)).alloc (.cells exZ 44) = w1 at *
  have c0 := hR2.cell (i := 0) (v := .int .u8 k) rfl
  have c1 := hR2.cell (i := 1) (v := .int .i64 n) rfl
  have c2 := hR2.cell (i := 2) (v := .string s) rfl
  have hz := HZ.out.b (n := 8) rfl
  clear hR2 hZ
  go_wp2_with fail
  exact bodyPost_ret (v := .agg #[.int .u8 1, .int .u8 k, .int .i64 n, .string s, .string ⟨#[]⟩, .string ⟨#[]⟩, .int .i64 0, .slice none 0 0]) (res_row Tryz.results113 ex_struct ex_size _ _ (w.heap.size + 1) _ _ rfl (HZ.out.set _) rfl) rfl ⟨rfl, below_setRow' HB.out (by omega) _⟩
set_option maxRecDepth 100000 in
set_option maxHeartbeats 4000000 in
theorem twoW (op : Nat) (S : Nat → Prop) (c d : Array Value) (x y : PE) (w : World) (hx : ExD S w c x) (hy : ExD S w d y) : Calls Tryz.prog 88 #[.int .u8 (op : Int), .agg c, .agg d] w fun e w' =>
    ∃ cs, e = .returned (.agg cs) ∧ ExD (fun b => S b ∨ w.heap.size ≤ b) w' cs (.node op [x, y]) ∧ Below w.heap.size w w' := by
  obtain ⟨kx, rfl, hkx⟩ := hx.cells
  obtain ⟨ky, rfl, hky⟩ := hy.cells
  obtain ⟨ka, kc, rfl, _⟩ := hkx.here.shape
  obtain ⟨la, lc, rfl, _⟩ := hky.here.shape
  have HX : Hid (ExD S w #[.int .u8 (x.op : Int), .int .u8 (x.v.k : Int), .int .i64 x.v.n, .string x.v.s, .string x.t, .string x.m, .int .i64 x.n, .slice ka x.kids.length kc] x) := Lib.hid hx
  have HY : Hid (ExD S w #[.int .u8 (y.op : Int), .int .u8 (y.v.k : Int), .int .i64 y.v.n, .string y.v.s, .string y.t, .string y.m, .int .i64 y.n, .slice la y.kids.length lc] y) := Lib.hid hy
  have hb1 : Below w.heap.size w (w.alloc (.cells #[.int .u8 (x.op : Int), .int .u8 (x.v.k : Int), .int .i64 x.v.n, .string x.v.s, .string x.t, .string x.m, .int .i64 x.n, .slice ka x.kids.length kc] 44)) := (Below.refl _ _).alloc (Nat.le_refl _) _
  have hb2 := hb1.alloc (by simp) (.cells #[.int .u8 (y.op : Int), .int .u8 (y.v.k : Int), .int .i64 y.v.n, .string y.v.s, .string y.t, .string y.m, .int .i64 y.n, .slice la y.kids.length lc] 44)
  have hb3 := hb2.alloc (by simp; omega) (.cells exZ 44)
  have h1 := row_alloc w 44 #[.int .u8 (x.op : Int), .int .u8 (x.v.k : Int), .int .i64 x.v.n, .string x.v.s, .string x.t, .string x.m, .int .i64 x.n, .slice ka x.kids.length kc]
  have h2 := row_alloc (w.alloc (.cells #[.int .u8 (x.op : Int), .int .u8 (x.v.k : Int), .int .i64 x.v.n, .string x.v.s, .string x.t, .string x.m, .int .i64 x.n, .slice ka x.kids.length kc] 44)) 44 #[.int .u8 (y.op : Int), .int .u8 (y.v.k : Int), .int .i64 y.v.n, .string y.v.s, .string y.t, .string y.m, .int .i64 y.n, .slice la y.kids.length lc]
  have h3 := row_alloc ((w.alloc (.cells #[.int .u8 (x.op : Int), .int .u8 (x.v.k : Int), .int .i64 x.v.n, .string x.v.s, .string x.t, .string x.m, .int .i64 x.n, .slice ka x.kids.length kc] 44)).alloc (.cells #[.int .u8 (y.op : Int), .int .u8 (y.v.k : Int), .int .i64 y.v.n, .string y.v.s, .string y.t, .string y.m, .int .i64 y.n, .slice la y.kids.length lc] 44)) 44 exZ
  have h1b := h1.later ((Below.refl _ _).alloc (Nat.le_refl _) (.cells #[.int .u8 (y.op : Int), .int .u8 (y.v.k : Int), .int .i64 y.v.n, .string y.v.s, .string y.t, .string y.m, .int .i64 y.n, .slice la y.kids.length lc] 44))
  have h1c := h1b.later ((Below.refl _ _).alloc (Nat.le_refl _) (.cells exZ 44))
  have h2c := h2.later ((Below.refl _ _).alloc (Nat.le_refl _) (.cells exZ 44))
  have s1 : (w.alloc (.cells #[.int .u8 (x.op : Int), .int .u8 (x.v.k : Int), .int .i64 x.v.n, .string x.v.s, .string x.t, .string x.m, .int .i64 x.n, .slice ka x.kids.length kc] 44)).heap.size = w.heap.size + 1 := by simp
  have s2 : ((w.alloc (.cells #[.int .u8 (x.op : Int), .int .u8 (x.v.k : Int), .int .i64 x.v.n, .string x.v.s, .string x.t, .string x.m, .int .i64 x.n, .slice ka x.kids.length kc] 44)).alloc (.cells #[.int .u8 (y.op : Int), .int .u8 (y.v.k : Int), .int .i64 y.v.n, .string y.v.s, .string y.t, .string y.m, .int .i64 y.n, .slice la y.kids.length lc] 44)).heap.size = w.heap.size + 2 := by simp
  have s3 : (((w.alloc (.cells #[.int .u8 (x.op : Int), .int .u8 (x.v.k : Int), .int .i64 x.v.n, .string x.v.s, .string x.t, .string x.m, .int .i64 x.n, .slice ka x.kids.length kc] 44)).alloc (.cells #[.int .u8 (y.op : Int), .int .u8 (y.v.k : Int), .int .i64 y.v.n, .string y.v.s, .string y.t, .string y.m, .int .i64 y.n, .slice la y.kids.length lc] 44)).alloc (.cells exZ 44)).heap.size = w.heap.size + 3 := by simp
  rw [s1] at h2c
  rw [s2] at h3
  have H1 := Lib.hid h1c
  have H2 := Lib.hid h2c
  have H3 := Lib.hid h3
  have HB := Lib.hid hb3
  have HS := Lib.hid s3
  clear h1 h2 h3 h1b h1c h2c hb1 hb2 hb3 s1 s2 s3 hkx hky hx hy
  go_enter Tryz.func88, Tryz.ntmps88
  go_upto_region 1 with fail
  generalize ((w.alloc (.cells #[.int .u8 (x.op : Int), .int .u8 (x.v.k : Int), .int .i64 x.v.n, .string x.v.s, .string x.t, .string x.m, .int .i64 x.n, .slice ka x.kids.length kc] 44)).alloc (.cells #[.int .u8 (y.op : Int), .int .u8 (y.v.k : Int), .int .i64 y.v.n, .string y.v.s, .string y.t, .string y.m, .int .i64 y.n, .slice la y.kids.length lc] 44)).alloc (.cells exZ 44) = w3 at *
  have p1 := H1.out.b (n := 8) rfl
  have p2 := H2.out.b (n := 8) rfl
  have q1 := H1.out.of
  have q2 := H2.out.of
  have HX3 := Lib.hid (HX.out.later HB.out)
  have HY3 := Lib.hid (HY.out.later HB.out)
  generalize (#[.int .u8 (x.op : Int), .int .u8 (x.v.k : Int), .int .i64 x.v.n, .string x.v.s, .string x.t, .string x.m, .int .i64 x.n, .slice ka x.kids.length kc] : Array Value) = c at *
  generalize (#[.int .u8 (y.op : Int), .int .u8 (y.v.k : Int), .int .i64 y.v.n, .string y.v.s, .string y.t, .string y.m, .int .i64 y.n, .slice la y.kids.length lc] : Array Value) = d at *
  have hbs : (veilBs 32 2 #[(0, .agg c), (1, .agg d)]).run Tryz.prog w3 = .ok (.slice (some ⟨w3.heap.size, 0, none⟩) 2 2) (w3.alloc (.cells (c ++ d) 44)) := run_bs2 w3 c d HX3.out.size HY3.out.size
  have hb4 := (Below.refl _ w3).alloc (Nat.le_refl _) (.cells (c ++ d) 44)
  have p3 := (H3.out.later hb4).b (n := 8) rfl
  have HR3 := Lib.hid (H3.out.later hb4)
  have HB4 := Lib.hid (next HB.out hb4)
  have HB34 := HB.out.trans (hb4.mono HB.out.size)
  have HK := Lib.hid (exs_row2 (S := fun b => S b ∧ b < w.heap.size ∨ b = w3.heap.size) (row_alloc w3 44 (c ++ d)) (Or.inr rfl) (HX.out.step HB34.size fun b hb hlt => ⟨Or.inl ⟨hb, hlt⟩, HB34.block b hlt⟩) (HY.out.step HB34.size fun b hb hlt => ⟨Or.inl ⟨hb, hlt⟩, HB34.block b hlt⟩))
  clear HB34
  clear hb4
  have hok := (exD_op (op := op) HK.out).ok
  simp only [okRow8] at hok
  have HE := Lib.hid (exD_op (op := op) HK.out)
  go_wp2_with fail
  refine bodyPost_ret (v := .agg #[.int .u8 (op : Int), .int .u8 0, .int .i64 0, .string ⟨#[]⟩, .string ⟨#[]⟩, .string ⟨#[]⟩, .int .i64 0, .slice (some ⟨w3.heap.size, 0, none⟩) 2 2]) (res_row Tryz.results88 ex_struct ex_size _ _ (w.heap.size + 2) _ _ rfl (HR3.out.set _) rfl) rfl ⟨_, rfl, ?_, below_setRow' HB4.out (by omega) _⟩
  have hs := HS.out
  exact (ExD.set HE.out (g := w.heap.size + 2) (by omega)).step (Nat.le_refl _) fun b hb _ => ⟨hb.elim (fun h => Or.inl h.1) (fun h => Or.inr (by omega)), rfl⟩
end Go.Proofs.YtjgkeillmelkoaaGreat.Dt
