import Derived.Test.YtjgkeillmelkoaaGreatBk09
import Derived.Test.YtjgkeillmelkoaaGreatBk18
namespace Go.Proofs.YtjgkeillmelkoaaGreat.Dt
open Go.RowKit Go.Proofs.YtjgkeillmelkoaaGreat.By

/-- A statement's conditions. -/
def condsL (s : PSt) : List PE := if s.kind = 8 then s.src.flatMap (·.on) ++ s.wh else if s.kind = 6 ∨ s.kind = 7 then s.wh else []
/-- A row told by a relation may be appended. -/
theorem PRow.runS {w0 w : World} {lo : Nat} {v sv : Value} {E X : List PE} (h : PRow w0 lo w v E) (hX : ExsR w0 sv X) (hb : Below w0.heap.size w0 w) (ty : TypeId) (hsz : E.length + X.length ≤ 1000000000) (hlo : lo ≤ w.heap.size) :
    ∃ v' w', (Builtin.append_ #[32, 32] ty #[v, sv]).run Tryz.prog w = .ok v' w' ∧ PRow w0 lo w' v' (E ++ X) ∧ Below lo w w' := by
  obtain ⟨cs, h1, h2, h3⟩ := h
  obtain ⟨ds, hr0, hd, hel⟩ := prd_of hX
  have hr : PRd w 8 sv X.length ds.flatten := by
    refine ⟨hr0.1, ?_⟩
    rcases hr0.2 with h | ⟨ad, c, e, hc⟩
    · exact .inl h
    · exact .inr ⟨ad, c, e, fun j u hu => (hb.cell (cell_lt (hc j u hu))).trans (hc j u hu)⟩
  obtain ⟨v', w', r1, r2, r3, r4⟩ := pl_run_append (P := Tryz.prog) 32 ty 44 8 104 elEx lo v E.length cs.flatten h1 sv X.length ds.flatten hr (pl_cells_ok hd hel) (by unfold maxLen; omega) (by omega) hlo
  refine ⟨v', w', r1, ⟨cs ++ ds, by simpa using r2, by simp [h2, hd], fun i c x hc hx => ?_⟩, (Below.refl lo w).grown r3 hlo (fun k hk => (World.ownsRow.lt h1 k hk).1)⟩
  rcases Nat.lt_or_ge i cs.length with hi | hi
  · rw [List.getElem?_append_left hi] at hc
    rw [List.getElem?_append_left (by rw [← h2]; exact hi)] at hx
    exact h3 i c x hc hx
  · rw [List.getElem?_append_right hi] at hc
    rw [List.getElem?_append_right (by rw [← h2]; exact hi), ← h2] at hx
    exact hel _ c x hc hx
/-- A statement's cells: those that are read here. -/
theorem st_read {w : World} {cs : List Value} {s : PSt} (h : StR w cs s) : ∃ c4 c5 c6 c7 c8 c9 ga gc wa wc c12 c13 c14, cs = [.int .u8 (s.kind : Int), .string s.table, .string s.name, .bool s.uniq, c4, c5, c6, c7, c8, c9, .slice ga s.src.length gc, .slice wa s.wh.length wc, c12, c13, c14, .int .i64 s.limit] ∧
    SlR 3 SrcR w (.slice ga s.src.length gc) s.src ∧ ExsR w (.slice wa s.wh.length wc) s.wh ∧ (∀ v ∈ [c4, c5, c6, c7, c8, c9, c12, c13, c14], v.oneCell' = true) := by
  obtain ⟨c4, c5, c6, c7, c8, c9, c10, c11, c12, c13, c14, rfl, h4, h5, h6, h7, h8, h9, h10, h11, h12, h13, h14⟩ := h
  obtain ⟨ga, gc, rfl, _⟩ := h10.shape
  obtain ⟨wa, wc, rfl, _⟩ := h11.shape
  exact ⟨c4, c5, c6, c7, c8, c9, ga, gc, wa, wc, c12, c13, c14, rfl, h10, h11, fun v hv => by
    simp only [List.mem_cons, List.not_mem_nil, or_false] at hv
    rcases hv with rfl | rfl | rfl | rfl | rfl | rfl | rfl | rfl | rfl
    · exact slOne h4
    · exact slOne h5
    · exact slOne h6
    · exact slOne h7
    · exact slOne h8
    · exact slOne h9
    · exact slOne h12
    · exact slOne h13
    · exact slOne h14⟩
/-- A source's cells. -/
theorem src_at0 {w : World} {a : Option Addr} {n c k : Nat} {l : List PSrc} {x : PSrc} (h : SlR 3 SrcR w (.slice a n c) l) (hk : l[k]? = some x) : ∃ b o v, a = some ⟨b, o, none⟩ ∧ w.cell? ⟨b, o + k * 3, none⟩ = some (.string x.table) ∧ w.cell? ⟨b, o + k * 3 + 1, none⟩ = some (.string x.as) ∧ w.cell? ⟨b, o + k * 3 + 2, none⟩ = some v ∧ ExsR w v x.on := by
  obtain ⟨b, o, cs, rfl, _, ⟨v, rfl, hx⟩, hc⟩ := h.get hk
  exact ⟨b, o, v, rfl, hc 0 _ rfl, hc 1 _ rfl, hc 2 _ rfl, hx⟩
theorem conds_8 {s : PSt} (h : s.kind = 8) : condsL s = s.src.flatMap (·.on) ++ s.wh := if_pos h
theorem conds_67 {s : PSt} (h : s.kind = 6 ∨ s.kind = 7) : condsL s = s.wh := by unfold condsL; rw [if_neg (by omega), if_pos h]
theorem conds_no {s : PSt} (h : ¬ s.kind = 8) (h2 : ¬ (s.kind = 6 ∨ s.kind = 7)) : condsL s = [] := by unfold condsL; rw [if_neg h, if_neg h2]
theorem on_next {l : List PSrc} {i : Nat} {x : PSrc} (h : l[i]? = some x) : (l.take (i + 1)).flatMap (·.on) = (l.take i).flatMap (·.on) ++ x.on := by
  rw [List.take_add_one, h, Option.toList_some, List.flatMap_append]; simp
theorem on_len {l : List PSrc} {i : Nat} {x : PSrc} (h : l[i]? = some x) : ((l.take i).flatMap (·.on)).length + x.on.length ≤ (l.flatMap (·.on)).length := by
  rw [← List.length_append, ← on_next h]
  conv => rhs; rw [← List.take_append_drop (i + 1) l, List.flatMap_append, List.length_append]
  omega
set_option maxRecDepth 100000 in
set_option maxHeartbeats 16000000 in
theorem condsW {s : PSt} {cs : List Value} {w0 w : World} (hb0 : Below w0.heap.size w0 w) (h : StR w0 cs s) (hc : (s.src.flatMap (·.on)).length + s.wh.length ≤ 1000000) (hl : s.src.length ≤ 1000000) :
    Calls Tryz.prog 15 #[.agg cs.toArray] w fun e w' => ∃ v, e = .returned v ∧ PRow w0 w.heap.size w' v (condsL s) ∧ Below w.heap.size w w' := by
  obtain ⟨c4, c5, c6, c7, c8, c9, ga, gc, wa, wc, c12, c13, c14, rfl, hsrc, hwh, _⟩ := st_read h
  have hbx : Below w.heap.size w (w.alloc (.cells #[.int .u8 (s.kind : Int), .string s.table, .string s.name, .bool s.uniq, c4, c5, c6, c7, c8, c9, .slice ga s.src.length gc, .slice wa s.wh.length wc, c12, c13, c14, .int .i64 s.limit] 35)) := (Below.refl _ _).alloc (Nat.le_refl _) _
  have HR := Lib.hid (row_alloc w 35 #[.int .u8 (s.kind : Int), .string s.table, .string s.name, .bool s.uniq, c4, c5, c6, c7, c8, c9, .slice ga s.src.length gc, .slice wa s.wh.length wc, c12, c13, c14, .int .i64 s.limit])
  have HB := Lib.hid hbx
  have HB0 := Lib.hid (hb0.trans (hbx.mono hb0.size))
  have HS := Lib.hid hsrc
  have HW := Lib.hid hwh
  have HC := Lib.hid hc
  have HL := Lib.hid hl
  have HLT : Hid (w.heap.size ≤ (w.alloc (.cells #[.int .u8 (s.kind : Int), .string s.table, .string s.name, .bool s.uniq, c4, c5, c6, c7, c8, c9, .slice ga s.src.length gc, .slice wa s.wh.length wc, c12, c13, c14, .int .i64 s.limit] 35)).heap.size) := Lib.hid hbx.size
  clear h hb0 hsrc hwh hbx hc hl
  go_enter Tryz.func15, Tryz.ntmps15
  go_upto_region 1 with fail
  generalize w.alloc (.cells #[.int .u8 (s.kind : Int), .string s.table, .string s.name, .bool s.uniq, c4, c5, c6, c7, c8, c9, .slice ga s.src.length gc, .slice wa s.wh.length wc, c12, c13, c14, .int .i64 s.limit] 35) = w1 at *
  have c0 := HR.out.cell (i := 0) (v := .int .u8 (s.kind : Int)) rfl
  by_cases h8 : s.kind = 8
  · have HE := Lib.hid (conds_8 h8)
    rw [show (s.kind : Int) = 8 by omega] at c0
    have c10 := HR.out.cell (i := 10) (v := .slice ga s.src.length gc) rfl
    clear h8
    go_wp2_with fail
    clear c0 c10
    go_loopg [3, 25] s.src.length (fun gk ov iv wr => ∃ i : Nat, iv = .int .i64 (i : Int) ∧ gk = s.src.length - i ∧ i ≤ s.src.length ∧ Hid (PRow w0 w1.heap.size wr ov ((s.src.take i).flatMap (·.on))) ∧ Hid (Below w1.heap.size w1 wr))
    case atStart => exact ⟨0, rfl, rfl, Nat.zero_le _, Lib.hid (prow_nil _ _ _), Lib.hid (Below.refl _ _)⟩
    case round =>
      obtain ⟨i, rfl, rfl, hi, HP, HBL⟩ := hrel
      obtain ⟨oa, oc, rfl⟩ := HP.out.shape
      by_cases hlt : i < s.src.length
      · obtain ⟨x, hx⟩ : ∃ z, s.src[i]? = some z := ⟨s.src[i], by simp⟩
        obtain ⟨b1, o1, k1, rfl, p0, p1, p2, hon⟩ := src_at0 HS.out hx
        obtain ⟨na, nc, rfl, _⟩ := hon.shape
        have hbw : Below w0.heap.size w0 wr := HB0.out.trans (HBL.out.mono HB0.out.size)
        have p0 := (hbw.cell (cell_lt p0)).trans p0
        have p1 := (hbw.cell (cell_lt p1)).trans p1
        have p2 := (hbw.cell (cell_lt p2)).trans p2
        have hbx : Below wr.heap.size wr (wr.alloc (.cells #[.string x.table, .string x.as, .slice na x.on.length nc] 80)) := (Below.refl _ _).alloc (Nat.le_refl _) _
        have HPX := Lib.hid (HP.out.later hbx)
        have HBX := Lib.hid (next HBL.out hbx)
        have HBW := Lib.hid (next hbw hbx)
        have HRY := Lib.hid (row_alloc wr 80 #[.string x.table, .string x.as, .slice na x.on.length nc])
        have HON := Lib.hid hon
        have HNX := Lib.hid (on_next hx)
        have HRM : Hid (((s.src.take i).flatMap (·.on)).length + x.on.length ≤ 1000000000) := Lib.hid (by have := on_len hx; have := HC.out; omega)
        have ilt : (i : Int) < (s.src.length : Int) := by omega
        have ige : (0 : Int) ≤ (i : Int) := by omega
        have HLT2 := Lib.hid hlt
        clear hbx hon hx hlt HP HBL hbw
        go_upto_region 8 with fail
        clear p0 p1 p2
        generalize wr.alloc (.cells #[.string x.table, .string x.as, .slice na x.on.length nc] 80) = wx at *
        generalize wr.heap.size = g at *
        have l2 := HRY.out.cell (i := 2) (v := .slice na x.on.length nc) rfl
        obtain ⟨v4, w4, hrun, hp4, hb4⟩ := HPX.out.runS HON.out HBW.out 32 HRM.out HBX.out.size
        have HP4 : Hid (PRow w0 w1.heap.size w4 v4 ((s.src.take (i + 1)).flatMap (·.on))) := Lib.hid (by rw [HNX.out]; exact hp4)
        have HB4 := Lib.hid (HBX.out.trans hb4)
        clear hp4 hb4
        go_wp2_with (at_builtin; refine pl_list_run rfl (.tmp 29) (.tmp 31) 32 rfl rfl rfl hrun ?_)
        clear hrun l2
        go_wp2_with fail
        go_roundg (s.src.length - (i + 1))
        case measure => exact Nat.sub_lt_sub_left HLT2.out (Nat.lt_succ_self _)
        case rel => exact ⟨i + 1, congrArg (Value.int .i64) (by have h1 := HL.out; have h2 := HLT2.out; unfold wrap64; omega), rfl, HLT2.out, HP4, HB4⟩
      · obtain rfl : i = s.src.length := by omega
        have HP' : Hid (PRow w0 w1.heap.size wr (.slice oa ((s.src.take s.src.length).flatMap (·.on)).length oc) (s.src.flatMap (·.on))) := Lib.hid (by have h := HP.out; rw [List.take_length] at h ⊢; exact h)
        have l11 := (HR.out.later HBL.out).cell (i := 11) (v := .slice wa s.wh.length wc) rfl
        have HBW : Hid (Below w.heap.size w wr) := Lib.hid (HB.out.trans (HBL.out.mono HB.out.size))
        have HBW0 : Hid (Below w0.heap.size w0 wr) := Lib.hid (HB0.out.trans (HBL.out.mono HB0.out.size))
        obtain ⟨v4, w4, hrun, hp4, hb4⟩ := HP'.out.runS HW.out HBW0.out 32 (by have := HC.out; omega) HBL.out.size
        have HP4 : Hid (PRow w0 w.heap.size w4 v4 (condsL s)) := Lib.hid (by rw [HE.out]; exact hp4.down HB.out.size)
        have HB4 := Lib.hid (HBW.out.trans (hb4.mono HB.out.size))
        clear hp4 hb4 hlt hi HP
        go_wp2_with (at_builtin; refine pl_list_run rfl (.tmp 34) (.tmp 36) 32 rfl rfl rfl hrun ?_)
        clear hrun l11
        go_wp2_with fail
        go_ret
        exact ⟨_, rfl, HP4.out, HB4.out⟩
  · by_cases h67 : s.kind = 6 ∨ s.kind = 7
    · have HE := Lib.hid (conds_67 h67)
      have l11 := HR.out.cell (i := 11) (v := .slice wa s.wh.length wc) rfl
      obtain ⟨v4, w4, hrun, hp4, hb4⟩ := (prow_nil w0 w1.heap.size w1).runS HW.out HB0.out 32 (by have := HC.out; simp only [List.length_nil]; omega) (Nat.le_refl _)
      have HP4 : Hid (PRow w0 w.heap.size w4 v4 (condsL s)) := Lib.hid (by rw [HE.out]; exact hp4.down HB.out.size)
      have HB4 := Lib.hid (HB.out.trans (hb4.mono HB.out.size))
      clear hp4 hb4
      rcases h67 with hk | hk
      · rw [show (s.kind : Int) = 6 by omega] at c0
        clear hk h8
        go_wp2_with (at_builtin; refine pl_list_run rfl (.tmp 34) (.tmp 36) 32 rfl rfl rfl hrun ?_)
        clear hrun l11 c0
        go_wp2_with fail
        go_ret
        exact ⟨_, rfl, HP4.out, HB4.out⟩
      · rw [show (s.kind : Int) = 7 by omega] at c0
        clear hk h8
        go_wp2_with (at_builtin; refine pl_list_run rfl (.tmp 34) (.tmp 36) 32 rfl rfl rfl hrun ?_)
        clear hrun l11 c0
        go_wp2_with fail
        go_ret
        exact ⟨_, rfl, HP4.out, HB4.out⟩
    · have HE := Lib.hid (conds_no h8 h67)
      have i8 : ((s.kind : Int) != 8) = true := by simp; omega
      have i6 : ((s.kind : Int) != 6) = true := by simp; omega
      have i7 : ((s.kind : Int) != 7) = true := by simp; omega
      clear h8 h67
      go_wp2_with fail
      go_ret
      exact ⟨_, rfl, by rw [HE.out]; exact prow_nil _ _ _, HB.out⟩
end Go.Proofs.YtjgkeillmelkoaaGreat.Dt
