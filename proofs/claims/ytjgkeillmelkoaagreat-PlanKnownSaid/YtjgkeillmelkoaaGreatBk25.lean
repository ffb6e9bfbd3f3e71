import Derived.Laws.Bits64
import Derived.Test.YtjgkeillmelkoaaGreatBk23
import Derived.Test.YtjgkeillmelkoaaGreatBk24
import Derived.Test.YtjgkeillmelkoaaGreatBk18
namespace Go.Proofs.YtjgkeillmelkoaaGreat.Dt
open Go.RowKit Go.Proofs.YtjgkeillmelkoaaGreat.By

variable {w0 : World} {r : Nat} {tv : Value} {L : List Tk} {en : Int}
attribute [local go_sem ↓] veilSt_ex veilLd_ex veilSt_tk
attribute [local go_sem] run_exSt run_exNew run_exLd run_tkSt run_tkNew okRow8 okRow4 Value.oneCell'
theorem kP_lt {k n : Nat} (h : kP L k = n) (hn : n ≠ 0) : k < L.length := by
  rcases Nat.lt_or_ge k L.length with h' | h'
  · exact h'
  · unfold kP tokP at h
    rw [List.getElem?_eq_none h'] at h
    exact absurd h.symm hn
/-- What is known of the operations of 't := x.L[x.At]'. -/
def BsKn (m r k b o n c : Nat) (T : Tk) (j : Nat) (v : Value) (W : World) : Prop := match j with
  | 0 => v = .pointer (some ⟨r, 0, none⟩)
  | 1 => v = .pointer (some ⟨r, 0, none⟩)
  | 2 => v = .pointer (some ⟨r, 0, none⟩)
  | 3 => v = .slice (some ⟨b, o, none⟩) n c
  | 4 => v = .pointer (some ⟨r, 0, none⟩)
  | 5 => v = .pointer (some ⟨r, 0, none⟩)
  | 6 => v = .pointer (some ⟨r, 1, none⟩)
  | 7 => v = .int .i64 (k : Int)
  | 8 => v = .pointer (some ⟨b, o + k * 4, none⟩)
  | 9 => v = .agg (tkC T)
  | _ => ∃ g, v = .pointer (some ⟨g, 0, none⟩) ∧ Row g 114 tkZ W ∧ r < g ∧ m ≤ g
theorem BsKn.later {m r k b o n c : Nat} {T : Tk} (w0 : World) (j : Nat) (v : Value) (w1 w2 : World) (h : BsKn m r k b o n c T j v w1) (_ : w0.grownBy w1 (some r)) (g : w1.grownBy w2 (some r)) : BsKn m r k b o n c T j v w2 :=
  match j, h with
  | 0, h => h
  | 1, h => h
  | 2, h => h
  | 3, h => h
  | 4, h => h
  | 5, h => h
  | 6, h => h
  | 7, h => h
  | 8, h => h
  | 9, h => h
  | _ + 10, ⟨q, e, h, hq⟩ => ⟨q, e, h.grown g (Nat.ne_of_gt hq.1), hq⟩
set_option maxRecDepth 100000 in
set_option maxHeartbeats 8000000 in
theorem ibaseInt (k : Nat) (h3 : kP L k = 3) (hn : (tokP L en k).n < 9223372036854775808) : NRun w0 r tv L en 112 k (k + 1) (.val1 ⟨1, ((tokP L en k).n : Int), ⟨#[]⟩⟩) := by
  intro w h
  obtain ⟨T, hT⟩ : ∃ T, tokP L en k = T := ⟨_, rfl⟩
  have HT := Lib.hid hT
  rw [hT] at hn ⊢
  clear hT
  have hlt := kP_lt h3 (by decide)
  have HLT : Hid (r < w.heap.size) := Lib.hid h.lt
  have hb1 := (Below.refl _ w).alloc (Nat.le_refl _) (.cells exZ 44)
  have HR1 := Lib.hid (row_alloc w 44 exZ)
  have HG1 := Lib.hid (below_grown (r := r) hb1)
  have H1 := Lib.hid (h.later hb1)
  have hk := kindW _ (h.later hb1)
  rw [h3] at hk
  have HK := Lib.hid hk
  have HL := Lib.hid hlt
  have HW0 : Hid (w0.heap.size ≤ w.heap.size) := Lib.hid h.hb.size
  have HN := Lib.hid hn
  clear h hb1 hk hn hlt
  go_enter Tryz.func112, Tryz.ntmps112
  go_upto_region 1 with fail
  generalize w.alloc (.cells exZ 44) = w1 at *
  go_wp2_with fail
  refine HK.out.mono ?_
  rintro e2 w2 ⟨rfl, hb2⟩
  have H2 := Lib.hid (H1.out.later hb2)
  have HG2 := Lib.hid (grown_trans HG1.out (below_grown (r := r) hb2))
  have HR2 := Lib.hid (HR1.out.later hb2)
  obtain ⟨b, o, c, rfl, q0, q1, q2, q3⟩ := H2.out.tok HL.out
  have c0 := H2.out.row.cell (i := 0) (v := .slice (some ⟨b, o, none⟩) L.length c) rfl
  have c1 := H2.out.row.cell (i := 1) (v := .int .i64 (k : Int)) rfl
  clear hb2 HK H1 HG1 HR1
  have hn := HN.out
  rw [kP_eq, h3] at q0
  rw [HT.out] at q1 q2 q3
  have i1 : (k : Int) < (L.length : Int) := by have := HL.out; omega
  have i0 : (0 : Int) ≤ (k : Int) := by omega
  have hn' : decide ((9223372036854775808 : Int) ≤ (T.n : Int)) = false := decide_eq_false (by omega)
  have hwr : IntKind.i64.wrap (T.n : Int) = (T.n : Int) := by rw [IntKind.wrap_i64]; omega
  have l0 := lat_cell c0
  have l1 := lat_cell c1
  have l2 := lat_cell q2
  clear hn
  go_upto_region 2 with fail
  refine wp_region_later (by kernel_rfl) (by kernel_rfl) ?_
  repeat (go_big_quiet_step (fail))
  refine wpQuiet_nil ?_
  refine later_out (fun w3 hb3 => ?_)
  have H3 := Lib.hid (H2.out.later hb3)
  have HG3 := Lib.hid (grown_trans HG2.out (below_grown (r := r) hb3))
  have HR3 := Lib.hid (HR2.out.later hb3)
  have d0 := (hb3.cell (cell_lt c0)).trans c0
  have d1 := (hb3.cell (cell_lt c1)).trans c1
  have r0 := (hb3.cell (cell_lt q0)).trans q0
  have r1 := (hb3.cell (cell_lt q1)).trans q1
  have r2 := (hb3.cell (cell_lt q2)).trans q2
  have r3 := (hb3.cell (cell_lt q3)).trans q3
  clear l0 l1 l2 hb3 c0 c1 q0 q1 q2 q3 H2 HG2 HR2
  go_upto_region 6 with fail
  clear d0 d1 r0 r1 r2 r3 i1 i0
  refine wp_region_kig 11 r (BsKn w3.heap.size r k b o L.length c T) (fun _ W => NB w0 r (.slice (some ⟨b, o, none⟩) L.length c) L en k W) 173 rfl (by kernel_rfl) (by kernel_rfl) (BsKn.later w3) (fun _ _ _ _ h => h) (H3.out.later (Below.drew (Below.refl _ _))) ?_ ?_
  · intro j hj dn A A2 hother hgW hst hdj hd
    have i1 : (k : Int) < (L.length : Int) := by have := HL.out; omega
    have i0 : (0 : Int) ≤ (k : Int) := by omega
    match j, hj with
    | 0, hj =>
      have h0 := tmps_at (show A.eval (.tmp 0) = .pointer (some ⟨r, 0, none⟩) from hother 0 (by kernel_rfl))
      clear hother hd hj
      exact kig_same rfl rfl (.pointer (some ⟨r, 0, none⟩)) (by simp only [execOp]; go_simp) rfl hst
    | 1, hj =>
      have h0 := tmps_at ((hd _ rfl ⟨0, .data⟩ (by simp) rfl).2.eq (.pointer (some ⟨r, 0, none⟩)) (fun _ h => h) 35 (by kernel_rfl) (by decide))
      clear hother hd hj
      exact kig_same rfl rfl (.pointer (some ⟨r, 0, none⟩)) (by simp only [execOp]; go_simp) rfl hst
    | 2, hj =>
      have h0 := tmps_at ((hd _ rfl ⟨1, .data⟩ (by simp) rfl).2.eq (.pointer (some ⟨r, 0, none⟩)) (fun _ h => h) 36 (by kernel_rfl) (by decide))
      clear hother hd hj
      exact kig_same rfl rfl (.pointer (some ⟨r, 0, none⟩)) (by simp only [execOp]; go_simp) rfl hst
    | 3, hj =>
      have h0 := tmps_at ((hd _ rfl ⟨2, .data⟩ (by simp) rfl).2.eq (.pointer (some ⟨r, 0, none⟩)) (fun _ h => h) 37 (by kernel_rfl) (by decide))
      have hc := hst.row.cell (i := 0) (v := .slice (some ⟨b, o, none⟩) L.length c) rfl
      clear hother hd hj
      exact kig_same rfl rfl (.slice (some ⟨b, o, none⟩) L.length c) (by simp only [execOp]; go_simp) rfl hst
    | 4, hj =>
      have h0 := tmps_at (show A.eval (.tmp 0) = .pointer (some ⟨r, 0, none⟩) from hother 0 (by kernel_rfl))
      clear hother hd hj
      exact kig_same rfl rfl (.pointer (some ⟨r, 0, none⟩)) (by simp only [execOp]; go_simp) rfl hst
    | 5, hj =>
      have h0 := tmps_at ((hd _ rfl ⟨4, .data⟩ (by simp) rfl).2.eq (.pointer (some ⟨r, 0, none⟩)) (fun _ h => h) 39 (by kernel_rfl) (by decide))
      clear hother hd hj
      exact kig_same rfl rfl (.pointer (some ⟨r, 0, none⟩)) (by simp only [execOp]; go_simp) rfl hst
    | 6, hj =>
      have h0 := tmps_at ((hd _ rfl ⟨5, .data⟩ (by simp) rfl).2.eq (.pointer (some ⟨r, 0, none⟩)) (fun _ h => h) 40 (by kernel_rfl) (by decide))
      clear hother hd hj
      exact kig_same rfl rfl (.pointer (some ⟨r, 1, none⟩)) (by simp only [execOp]; go_simp) rfl hst
    | 7, hj =>
      have h0 := tmps_at ((hd _ rfl ⟨6, .data⟩ (by simp) rfl).2.eq (.pointer (some ⟨r, 1, none⟩)) (fun _ h => h) 41 (by kernel_rfl) (by decide))
      have hc := hst.row.cell (i := 1) (v := .int .i64 (k : Int)) rfl
      clear hother hd hj
      exact kig_same rfl rfl (.int .i64 (k : Int)) (by simp only [execOp]; go_simp) rfl hst
    | 8, hj =>
      have h0 := tmps_at ((hd _ rfl ⟨3, .data⟩ (by simp) rfl).2.eq (.slice (some ⟨b, o, none⟩) L.length c) (fun _ h => h) 38 (by kernel_rfl) (by decide))
      have h1 := tmps_at ((hd _ rfl ⟨7, .data⟩ (by simp) rfl).2.eq (.int .i64 (k : Int)) (fun _ h => h) 42 (by kernel_rfl) (by decide))
      clear hother hd hj
      exact kig_same rfl rfl (.pointer (some ⟨b, o + k * 4, none⟩)) (by simp only [execOp]; go_simp) rfl hst
    | 9, hj =>
      have h0 := tmps_at ((hd _ rfl ⟨8, .data⟩ (by simp) rfl).2.eq (.pointer (some ⟨b, o + k * 4, none⟩)) (fun _ h => h) 43 (by kernel_rfl) (by decide))
      obtain ⟨b2, o2, c2, e2, t0, t1, t2, t3⟩ := hst.tok HL.out
      cases e2
      rw [HT.out] at t0 t1 t2 t3
      clear hother hd hj
      exact kig_same rfl rfl (.agg (tkC T)) (by simp only [execOp]; go_simp) rfl hst
    | 10, hj =>
      have hbw := (Below.refl _ A2).alloc (Nat.le_refl _) (.cells tkZ 114)
      clear hother hd hj
      exact kig_val rfl rfl (.pointer (some ⟨A2.heap.size, 0, none⟩)) (A2.alloc (.cells tkZ 114)) (by simp only [execOp]; go_simp) (below_grown hbw) ⟨_, rfl, row_alloc _ _ _, hst.lt, hgW.size⟩ (hst.later hbw)
    | q + 11, hj => omega
  intro us W hgW hst hk
  obtain ⟨g, e10, hr10, hg10, hm10⟩ := hk 10 (by decide)
  have e9 : us 9 = .agg (tkC T) := hk 9 (by decide)
  have hb10 := hr10.b (n := 4) rfl
  have HR10 := Lib.hid hr10
  have HGN := Lib.hid hg10
  have HRB := Lib.hid (HR3.out.grown hgW (Nat.ne_of_gt HLT.out))
  have HGW := Lib.hid (grown_trans HG3.out hgW)
  have HP := Lib.hid hst
  simp only [List.drop_succ_cons, List.drop_zero, putAll, dstOf, Act.put, List.getElem?_toArray, List.getElem?_cons_zero, List.getElem?_cons_succ, Option.bind_some]
  simp only [List.setIfInBounds_toArray, List.set_cons_zero, List.set_cons_succ]
  rw [e9, e10]
  have H7 : Hid (NB w0 r (.slice (some ⟨b, o, none⟩) L.length c) L en k (W.setRow g (tkC T))) := Lib.hid (HP.out.other g (by have h1 := HGN.out; have h2 := HP.out.hr; omega) (Nat.ne_of_lt HGN.out) _)
  have HR7 := Lib.hid (HR10.out.set (tkC T))
  have HGE : Hid (w.heap.size < g) := Lib.hid (Nat.lt_of_lt_of_le HR3.out.lt hm10)
  have HRB7 : Hid (Row w.heap.size 44 exZ (W.setRow g (tkC T))) := Lib.hid ((setRow_other W g w.heap.size (tkC T) (by have := HGE.out; omega)).trans HRB.out)
  have HG7 := Lib.hid (grown_fill HGW.out (Nat.le_of_lt HGE.out) (tkC T))
  clear hk hst hgW hr10 hg10 hm10 H3 HG3 HR3
  go_upto_region 7 with fail
  generalize W.setRow g (tkC T) = w7 at *
  have c1 := H7.out.row.cell (i := 1) (v := .int .i64 (k : Int)) rfl
  have f1 := row_free H7.out.row 1
  have j3 : (k : Int) ≤ 4096 := by have := HL.out; have := H7.out.hl; omega
  have j4 : (0 : Int) ≤ (k : Int) := by omega
  have H8 := Lib.hid H7.out.next
  have HG8 := Lib.hid (grown_trans HG7.out (grown_set w7 r 1 (.int .i64 ((k : Int) + 1))))
  have HR8 := Lib.hid (HRB7.out.grown (grown_set w7 r 1 (.int .i64 ((k : Int) + 1))) (Nat.ne_of_gt HLT.out))
  have HT8 := Lib.hid (HR7.out.grown (grown_set w7 r 1 (.int .i64 ((k : Int) + 1))) (Nat.ne_of_gt HGN.out))
  clear hb10
  go_upto_region 8 with fail
  generalize w7.setCell ⟨r, 1, none⟩ (.int .i64 ((k : Int) + 1)) = w8 at *
  clear c1 f1
  have t2 := HT8.out.cell (i := 2) (v := .int .u64 (T.n : Int)) rfl
  have HV := Lib.hid (valueV 1 (T.n : Int) ⟨#[]⟩ w8)
  go_wp2_with fail
  refine HV.out.mono ?_
  rintro e9 w9 ⟨rfl, hb9⟩
  have HR9 := Lib.hid (HR8.out.later hb9)
  have hrb := HR9.out.b (n := 8) rfl
  have H9 := Lib.hid (H8.out.later hb9)
  have HG9 := Lib.hid (grown_trans HG8.out (below_grown (r := r) hb9))
  clear hb9 t2 HV
  go_wp2_with fail
  exact bodyPost_ret (v := .agg #[.int .u8 1, .int .u8 1, .int .i64 (T.n : Int), .string ⟨#[]⟩, .string ⟨#[]⟩, .string ⟨#[]⟩, .int .i64 0, .slice none 0 0]) (res_row Tryz.results112 ex_struct ex_size _ _ w.heap.size _ _ rfl (HR9.out.set _) rfl) rfl
    ⟨_, rfl, exD_mk (x := .val1 ⟨1, (T.n : Int), ⟨#[]⟩⟩) (fun _ _ => SlR.nil _ _ _), H9.out.other _ HW0.out (by have := HLT.out; omega) _, grown_fill HG9.out (Nat.le_refl _) _⟩
set_option maxRecDepth 100000 in
set_option maxHeartbeats 8000000 in
theorem ibaseName (k : Nat) (h2 : kP L k = 2) (hd : cB L en (k + 1) ⟨#[46]⟩ = false) : NRun w0 r tv L en 112 k (k + 1) (.mk 2 V00 ⟨#[]⟩ (tokP L en k).s 0 []) := by
  intro w h
  have HLT : Hid (r < w.heap.size) := Lib.hid h.lt
  have hb1 := (Below.refl _ w).alloc (Nat.le_refl _) (.cells exZ 44)
  have HR1 := Lib.hid (row_alloc w 44 exZ)
  have HG1 := Lib.hid (below_grown (r := r) hb1)
  have H1 := Lib.hid (h.later hb1)
  have hk := kindW _ (h.later hb1)
  rw [h2] at hk
  have HK := Lib.hid hk
  have H2 := Lib.hid h2
  have HW0 : Hid (w0.heap.size ≤ w.heap.size) := Lib.hid h.hb.size
  have HD := Lib.hid hd
  clear h hb1 hk h2 hd
  go_enter Tryz.func112, Tryz.ntmps112
  go_upto_region 1 with fail
  generalize w.alloc (.cells exZ 44) = w1 at *
  go_wp2_with fail
  refine HK.out.mono ?_
  rintro e2 w2 ⟨rfl, hb2⟩
  have HP2 := Lib.hid (H1.out.later hb2)
  have HG2 := Lib.hid (grown_trans HG1.out (below_grown (r := r) hb2))
  have HR2 := Lib.hid (HR1.out.later hb2)
  clear hb2 HK H1 HG1 HR1
  go_upto_region 2 with fail
  refine wp_region_later (by kernel_rfl) (by kernel_rfl) ?_
  repeat (go_big_quiet_step (fail))
  refine wpQuiet_nil ?_
  refine later_out (fun w3 hb3 => ?_)
  have HNM := Lib.hid (nameW w3 (HP2.out.later hb3) H2.out)
  have HG3 := Lib.hid (grown_trans HG2.out (below_grown (r := r) hb3))
  have HR3 := Lib.hid (HR2.out.later hb3)
  obtain ⟨nm, hnm⟩ : ∃ nm, (tokP L en k).s = nm := ⟨_, rfl⟩
  rw [hnm] at HNM
  have HNMS := Lib.hid hnm
  clear hb3 HP2 HG2 HR2 hnm
  go_wp2_with fail
  refine HNM.out.mono ?_
  rintro e4 w4 ⟨rfl, hp4, hg4⟩
  have hb5 := (Below.refl _ w4).alloc (Nat.le_refl _) (.cells #[.int .u8 2, .int .u8 0, .int .i64 0, .string ⟨#[]⟩, .string ⟨#[]⟩, .string nm, .int .i64 0, .slice none 0 0] 44)
  have HP5 := Lib.hid (hp4.later hb5)
  have HG5 := Lib.hid (grown_trans (grown_trans HG3.out hg4) (below_grown (r := r) hb5))
  have HR4 := HR3.out.grown hg4 (Nat.ne_of_gt HLT.out)
  have HR5 := Lib.hid (HR4.later hb5)
  have HA5 := Lib.hid (row_alloc w4 44 #[.int .u8 2, .int .u8 0, .int .i64 0, .string ⟨#[]⟩, .string ⟨#[]⟩, .string nm, .int .i64 0, .slice none 0 0])
  have HSA : Hid (w.heap.size < w4.heap.size) := Lib.hid HR4.lt
  have ht := takesW ⟨#[46]⟩ _ HP5.out
  rw [HD.out] at ht
  have HT := Lib.hid ht
  clear hp4 hg4 hb5 HR4 HR3 HG3 HNM ht
  go_upto_region 13 with fail
  generalize w4.alloc (.cells #[.int .u8 2, .int .u8 0, .int .i64 0, .string ⟨#[]⟩, .string ⟨#[]⟩, .string nm, .int .i64 0, .slice none 0 0] 44) = w5 at *
  generalize w4.heap.size = g at *
  go_wp2_with fail
  refine HT.out.mono ?_
  rintro e6 w6 ⟨rfl, hp6, hg6⟩
  have HP6 : Hid (NB w0 r tv L en (k + 1) w6) := Lib.hid hp6
  have HG6 := Lib.hid (grown_trans HG5.out hg6)
  have HRZ := Lib.hid (HR5.out.grown hg6 (Nat.ne_of_gt HLT.out))
  have HAZ := Lib.hid (HA5.out.grown hg6 (by have := HSA.out; have := HLT.out; omega))
  clear hp6 hg6 HT HP5 HG5 HR5 HA5
  have hrr := HRZ.out
  have hrb := hrr.b (n := 8) rfl
  have hra := HAZ.out.b (n := 8) rfl
  have hro := HAZ.out.of
  clear hrr
  go_wp2_with fail
  exact bodyPost_ret (v := .agg #[.int .u8 2, .int .u8 0, .int .i64 0, .string ⟨#[]⟩, .string ⟨#[]⟩, .string nm, .int .i64 0, .slice none 0 0]) (res_row Tryz.results112 ex_struct ex_size _ _ w.heap.size _ _ rfl (HRZ.out.set _) rfl) rfl
    ⟨_, rfl, by rw [HNMS.out]; exact exD_mk (x := .mk 2 V00 ⟨#[]⟩ nm 0 []) (fun _ _ => SlR.nil _ _ _), HP6.out.other _ HW0.out (by have := HLT.out; omega) _, grown_fill HG6.out (Nat.le_refl _) _⟩
set_option maxRecDepth 100000 in
set_option maxHeartbeats 8000000 in
theorem ibaseDot (k : Nat) (h2 : kP L k = 2) (hd : cB L en (k + 1) ⟨#[46]⟩ = true) (h4 : kP L (k + 2) = 2) : NRun w0 r tv L en 112 k (k + 3) (.mk 2 V00 (tokP L en k).s (tokP L en (k + 2)).s 0 []) := by
  intro w h
  have HLT : Hid (r < w.heap.size) := Lib.hid h.lt
  have hb1 := (Below.refl _ w).alloc (Nat.le_refl _) (.cells exZ 44)
  have HR1 := Lib.hid (row_alloc w 44 exZ)
  have HG1 := Lib.hid (below_grown (r := r) hb1)
  have H1 := Lib.hid (h.later hb1)
  have hk := kindW _ (h.later hb1)
  rw [h2] at hk
  have HK := Lib.hid hk
  have H2 := Lib.hid h2
  have HW0 : Hid (w0.heap.size ≤ w.heap.size) := Lib.hid h.hb.size
  have HD := Lib.hid hd
  have H4 := Lib.hid h4
  clear h4
  clear h hb1 hk h2 hd
  go_enter Tryz.func112, Tryz.ntmps112
  go_upto_region 1 with fail
  generalize w.alloc (.cells exZ 44) = w1 at *
  go_wp2_with fail
  refine HK.out.mono ?_
  rintro e2 w2 ⟨rfl, hb2⟩
  have HP2 := Lib.hid (H1.out.later hb2)
  have HG2 := Lib.hid (grown_trans HG1.out (below_grown (r := r) hb2))
  have HR2 := Lib.hid (HR1.out.later hb2)
  clear hb2 HK H1 HG1 HR1
  go_upto_region 2 with fail
  refine wp_region_later (by kernel_rfl) (by kernel_rfl) ?_
  repeat (go_big_quiet_step (fail))
  refine wpQuiet_nil ?_
  refine later_out (fun w3 hb3 => ?_)
  have HNM := Lib.hid (nameW w3 (HP2.out.later hb3) H2.out)
  have HG3 := Lib.hid (grown_trans HG2.out (below_grown (r := r) hb3))
  have HR3 := Lib.hid (HR2.out.later hb3)
  obtain ⟨nm, hnm⟩ : ∃ nm, (tokP L en k).s = nm := ⟨_, rfl⟩
  rw [hnm] at HNM
  have HNMS := Lib.hid hnm
  clear hb3 HP2 HG2 HR2 hnm
  go_wp2_with fail
  refine HNM.out.mono ?_
  rintro e4 w4 ⟨rfl, hp4, hg4⟩
  have hb5 := (Below.refl _ w4).alloc (Nat.le_refl _) (.cells #[.int .u8 2, .int .u8 0, .int .i64 0, .string ⟨#[]⟩, .string ⟨#[]⟩, .string nm, .int .i64 0, .slice none 0 0] 44)
  have HP5 := Lib.hid (hp4.later hb5)
  have HG5 := Lib.hid (grown_trans (grown_trans HG3.out hg4) (below_grown (r := r) hb5))
  have HR4 := HR3.out.grown hg4 (Nat.ne_of_gt HLT.out)
  have HR5 := Lib.hid (HR4.later hb5)
  have HA5 := Lib.hid (row_alloc w4 44 #[.int .u8 2, .int .u8 0, .int .i64 0, .string ⟨#[]⟩, .string ⟨#[]⟩, .string nm, .int .i64 0, .slice none 0 0])
  have HSA : Hid (w.heap.size < w4.heap.size) := Lib.hid HR4.lt
  have ht := takesW ⟨#[46]⟩ _ HP5.out
  rw [HD.out] at ht
  have HT := Lib.hid ht
  clear hp4 hg4 hb5 HR4 HR3 HG3 HNM ht
  go_upto_region 13 with fail
  generalize w4.alloc (.cells #[.int .u8 2, .int .u8 0, .int .i64 0, .string ⟨#[]⟩, .string ⟨#[]⟩, .string nm, .int .i64 0, .slice none 0 0] 44) = w5 at *
  generalize w4.heap.size = g at *
  go_wp2_with fail
  refine HT.out.mono ?_
  rintro e6 w6 ⟨rfl, hp6, hg6⟩
  have HP6 : Hid (NB w0 r tv L en (k + 2) w6) := Lib.hid hp6
  have HG6 := Lib.hid (grown_trans HG5.out hg6)
  have HR6 := Lib.hid (HR5.out.grown hg6 (Nat.ne_of_gt HLT.out))
  have hgr : g ≠ r := by have := HSA.out; have := HLT.out; omega
  have hA6 := HA5.out.grown hg6 hgr
  have c5 := hA6.cell (i := 5) (v := .string nm) rfl
  have c4 := hA6.cell (i := 4) (v := .string ⟨#[]⟩) rfl
  have f4 := row_free hA6 4
  have hA7 : Row g 44 #[.int .u8 2, .int .u8 0, .int .i64 0, .string ⟨#[]⟩, .string nm, .string nm, .int .i64 0, .slice none 0 0] (w6.setCell ⟨g, 4, none⟩ (.string nm)) := by rw [setCell_eq_setRow w6 g 4 _ _ _ (.string nm) hA6]; exact hA6.set _
  have hs7 : w6.setCell ⟨g, 4, none⟩ (.string nm) = w6.setRow g #[.int .u8 2, .int .u8 0, .int .i64 0, .string ⟨#[]⟩, .string nm, .string nm, .int .i64 0, .slice none 0 0] := setCell_eq_setRow w6 g 4 _ _ _ (.string nm) hA6
  have HP7 : Hid (NB w0 r tv L en (k + 2) (w6.setCell ⟨g, 4, none⟩ (.string nm))) := Lib.hid (by rw [hs7]; exact HP6.out.other g (by have := HSA.out; have := HW0.out; omega) (Ne.symm hgr) _)
  have HG7 : Hid (w.grownBy (w6.setCell ⟨g, 4, none⟩ (.string nm)) (some r)) := Lib.hid (by rw [hs7]; exact grown_fill HG6.out (Nat.le_of_lt HSA.out) _)
  have HR7 : Hid (Row w.heap.size 44 exZ (w6.setCell ⟨g, 4, none⟩ (.string nm))) := Lib.hid (by rw [hs7]; exact (setRow_other w6 g w.heap.size _ (by have := HSA.out; omega)).trans HR6.out)
  have HA7 := Lib.hid hA7
  have HN2 := Lib.hid (nameW _ HP7.out H4.out)
  clear hp6 hg6 HT HP5 HG5 HR5 HA5 hA6 hA7 hs7 hgr
  go_upto_region 15 with fail
  generalize w6.setCell ⟨g, 4, none⟩ (.string nm) = w7 at *
  clear c4 c5 f4 HP6 HG6 HR6
  obtain ⟨n2, hn2⟩ : ∃ n2, (tokP L en (k + 2)).s = n2 := ⟨_, rfl⟩
  rw [hn2] at HN2
  have HN2S := Lib.hid hn2
  clear hn2
  go_wp2_with fail
  refine HN2.out.mono ?_
  rintro e8 w8 ⟨rfl, hp8, hg8⟩
  have hgr : g ≠ r := by have := HSA.out; have := HLT.out; omega
  have hA8 := HA7.out.grown hg8 hgr
  have d5 := hA8.cell (i := 5) (v := .string nm) rfl
  have f5 := row_free hA8 5
  have hs9 : w8.setCell ⟨g, 5, none⟩ (.string n2) = w8.setRow g #[.int .u8 2, .int .u8 0, .int .i64 0, .string ⟨#[]⟩, .string nm, .string n2, .int .i64 0, .slice none 0 0] := setCell_eq_setRow w8 g 5 _ _ _ (.string n2) hA8
  have hG8 := grown_trans HG7.out hg8
  have hR8 := HR7.out.grown hg8 (Nat.ne_of_gt HLT.out)
  have HP6 : Hid (NB w0 r tv L en (k + 3) (w8.setCell ⟨g, 5, none⟩ (.string n2))) := Lib.hid (by rw [hs9]; exact hp8.other g (by have := HSA.out; have := HW0.out; omega) (Ne.symm hgr) _)
  have HG6 : Hid (w.grownBy (w8.setCell ⟨g, 5, none⟩ (.string n2)) (some r)) := Lib.hid (by rw [hs9]; exact grown_fill hG8 (Nat.le_of_lt HSA.out) _)
  have HRZ : Hid (Row w.heap.size 44 exZ (w8.setCell ⟨g, 5, none⟩ (.string n2))) := Lib.hid (by rw [hs9]; exact (setRow_other w8 g w.heap.size _ (by have := HSA.out; omega)).trans hR8)
  have HAZ : Hid (Row g 44 #[.int .u8 2, .int .u8 0, .int .i64 0, .string ⟨#[]⟩, .string nm, .string n2, .int .i64 0, .slice none 0 0] (w8.setCell ⟨g, 5, none⟩ (.string n2))) := Lib.hid (by rw [hs9]; exact hA8.set _)
  clear hp8 hg8 hA8 hs9 hG8 hR8 hgr HA7 HG7 HR7 HP7 HN2
  go_upto_region 16 with fail
  generalize w8.setCell ⟨g, 5, none⟩ (.string n2) = w9 at *
  clear f5 d5
  have hrr := HRZ.out
  have hrb := hrr.b (n := 8) rfl
  have hra := HAZ.out.b (n := 8) rfl
  have hro := HAZ.out.of
  clear hrr
  go_wp2_with fail
  exact bodyPost_ret (v := .agg #[.int .u8 2, .int .u8 0, .int .i64 0, .string ⟨#[]⟩, .string nm, .string n2, .int .i64 0, .slice none 0 0]) (res_row Tryz.results112 ex_struct ex_size _ _ w.heap.size _ _ rfl (HRZ.out.set _) rfl) rfl
    ⟨_, rfl, by rw [HNMS.out, HN2S.out]; exact exD_mk (x := .mk 2 V00 nm n2 0 []) (fun _ _ => SlR.nil _ _ _), HP6.out.other _ HW0.out (by have := HLT.out; omega) _, grown_fill HG6.out (Nat.le_refl _) _⟩
end Go.Proofs.YtjgkeillmelkoaaGreat.Dt
namespace Go.Proofs.YtjgkeillmelkoaaGreat.Dt
open Go.RowKit Go.Proofs.YtjgkeillmelkoaaGreat.By

variable {w0 : World} {r : Nat} {tv : Value} {L : List Tk} {en : Int}
/-- What a call for perhaps an expression gives. -/
def NPer (w0 : World) (r : Nat) (tv : Value) (L : List Tk) (en : Int) (t : ByteArray) (k k' : Nat) (l : List PE) : Prop := ∀ w, NB w0 r tv L en k w → Calls Tryz.prog 55 #[.pointer (some ⟨r, 0, none⟩), .string t] w fun e w' =>
  ∃ v, e = .returned v ∧ New w.heap.size w' (fun u => ExsR u v l) ∧ NB w0 r tv L en k' w' ∧ w.grownBy w' (some r)
/-- What a call for a statement gives. -/
def NStm (w0 : World) (r : Nat) (tv : Value) (L : List Tk) (en : Int) (k k' : Nat) (x : PSt) : Prop := ∀ w, NB w0 r tv L en k w → Calls Tryz.prog 31 #[.pointer (some ⟨r, 0, none⟩)] w fun e w' =>
  ∃ cs, e = .returned (.agg cs) ∧ New w.heap.size w' (fun u => StR u cs.toList x) ∧ NB w0 r tv L en k' w' ∧ w.grownBy w' (some r)
theorem veilBs_px (n : Nat) (ps : Array (Nat × Value)) : Instr.buildSlice 32 n ps = veilBs 32 n ps := rfl
attribute [local go_sem ↓] veilBs_px
set_option maxRecDepth 100000 in
set_option maxHeartbeats 4000000 in
theorem perhapsNo (t : ByteArray) (k : Nat) (ht : cB L en k t = false) : NPer w0 r tv L en t k k [] := by
  intro w h
  have hi := takesW t w h
  rw [ht] at hi
  have HI := Lib.hid hi
  clear h hi ht
  go_enter Tryz.func55, Tryz.ntmps55
  go_wp2_with fail
  refine HI.out.mono ?_
  rintro e2 w2 ⟨rfl, hp2, hg2⟩
  have HP2 : Hid (NB w0 r tv L en k w2) := Lib.hid hp2
  have HG2 := Lib.hid hg2
  clear hp2 hg2 HI
  go_wp2_with fail
  go_ret
  exact ⟨_, rfl, fun _ _ => SlR.nil _ _ _, HP2.out, HG2.out⟩
set_option maxRecDepth 100000 in
set_option maxHeartbeats 4000000 in
theorem perhapsYes (t : ByteArray) (k k' : Nat) (x : PE) (ht : cB L en k t = true) (hx : NRun w0 r tv L en 54 (k + 1) k' x) : NPer w0 r tv L en t k k' [x] := by
  intro w h
  have HLT : Hid (r < w.heap.size) := Lib.hid h.lt
  have hi := takesW t w h
  rw [ht] at hi
  have HI := Lib.hid hi
  have HX := Lib.hid hx
  clear h hi ht hx
  go_enter Tryz.func55, Tryz.ntmps55
  go_wp2_with fail
  refine HI.out.mono ?_
  rintro e2 w2 ⟨rfl, hp2, hg2⟩
  have HC := Lib.hid (HX.out w2 hp2)
  have HG2 := Lib.hid hg2
  clear hp2 hg2 HI
  go_wp2_with fail
  refine HC.out.mono ?_
  rintro e3 w3 ⟨c, rfl, hx3, hp3, hg3⟩
  have hbs : (veilBs 32 1 #[(0, .agg c)]).run Tryz.prog w3 = .ok (.slice (some ⟨w3.heap.size, 0, none⟩) 1 1) (w3.alloc (.cells c 44)) := run_bs1 w3 c hx3.size
  have hb4 := (Below.refl _ w3).alloc (Nat.le_refl _) (.cells c 44)
  have HP4 := Lib.hid (hp3.later hb4)
  have HG4 := Lib.hid (grown_trans (grown_trans HG2.out hg3) (below_grown (r := r) hb4))
  have HK := Lib.hid (exs_row1 (S := fun b => w.heap.size ≤ b) (row_alloc w3 44 c) (by have h1 := HG2.out.size; have h2 := hg3.size; omega) ((hx3.later hb4).step (Nat.le_refl _) fun b hb _ => ⟨by have h1 := HG2.out.size; omega, rfl⟩))
  clear hx3 hp3 hg3 hb4 HC
  go_wp2_with fail
  go_ret
  exact ⟨_, rfl, HK.out, HP4.out, HG4.out⟩
/-- What lies there while a statement is read: the reader, the result's box. -/
structure RP (w0 : World) (r : Nat) (tv : Value) (L : List Tk) (en : Int) (w : World) (k : Nat) (W : World) : Prop where
  nb : NB w0 r tv L en k W
  gr : w.grownBy W (some r)
  rs : Row w.heap.size 35 stZ W
  hr : r < w.heap.size
theorem RP.grown {w W W' : World} {k k' : Nat} (h : RP w0 r tv L en w k W) (g : W.grownBy W' (some r)) (hp : NB w0 r tv L en k' W') : RP w0 r tv L en w k' W' := ⟨hp, grown_trans h.gr g, h.rs.grown g (Nat.ne_of_gt h.hr), h.hr⟩
attribute [local go_sem ↓] veilSt_sm veilLd_sm
attribute [local go_sem] run_smSt run_smNew run_smLd okRow16 Value.oneCell'
set_option maxRecDepth 100000 in
set_option maxHeartbeats 8000000 in
theorem deleteW (k k' : Nat) (l : List PE) (h1 : cB L en k ⟨#[67, 82, 69, 65, 84, 69]⟩ = false) (h2 : cB L en k ⟨#[68, 82, 79, 80]⟩ = false) (h3 : cB L en k ⟨#[73, 78, 83, 69, 82, 84]⟩ = false) (h4 : cB L en k ⟨#[85, 80, 68, 65, 84, 69]⟩ = false) (h5 : cB L en k ⟨#[68, 69, 76, 69, 84, 69]⟩ = true) (h6 : cB L en (k + 1) ⟨#[70, 82, 79, 77]⟩ = true)
    (h7 : kP L (k + 2) = 2) (h8 : NPer w0 r tv L en ⟨#[87, 72, 69, 82, 69]⟩ (k + 3) k' l) : NStm w0 r tv L en k k' { kind := 7, table := (tokP L en (k + 2)).s, wh := l } := by
  intro w h
  have HW0 : Hid (w0.heap.size ≤ w.heap.size) := Lib.hid h.hb.size
  have hb1 := (Below.refl _ w).alloc (Nat.le_refl _) (.cells stZ 35)
  have HP1 : Hid (RP w0 r tv L en w k (w.alloc (.cells stZ 35))) := Lib.hid ⟨h.later hb1, below_grown hb1, row_alloc _ _ _, h.lt⟩
  have H1 := Lib.hid h1
  have H2 := Lib.hid h2
  have H3 := Lib.hid h3
  have H4 := Lib.hid h4
  have H5 := Lib.hid h5
  have H6 := Lib.hid h6
  have H7 := Lib.hid h7
  have H8 := Lib.hid h8
  obtain ⟨nm, hnm⟩ : ∃ nm, (tokP L en (k + 2)).s = nm := ⟨_, rfl⟩
  rw [hnm]
  have HNM := Lib.hid hnm
  clear h hb1 h1 h2 h3 h4 h5 h6 h7 h8 hnm
  go_enter Tryz.func31, Tryz.ntmps31
  go_upto_region 1 with fail
  generalize w.alloc (.cells stZ 35) = w1 at *
  have ht := takesW ⟨#[67, 82, 69, 65, 84, 69]⟩ _ HP1.out.nb
  rw [H1.out] at ht
  have HT := Lib.hid ht
  clear ht
  go_wp2_with fail
  refine HT.out.mono ?_
  rintro e2 w2 ⟨rfl, hp, hg⟩
  have HP2 : Hid (RP w0 r tv L en w k w2) := Lib.hid (HP1.out.grown hg hp)
  clear hp hg HT HP1
  have ht := takesW ⟨#[68, 82, 79, 80]⟩ _ HP2.out.nb
  rw [H2.out] at ht
  have HT := Lib.hid ht
  clear ht
  go_wp2_with fail
  refine HT.out.mono ?_
  rintro e3 w3 ⟨rfl, hp, hg⟩
  have HP3 : Hid (RP w0 r tv L en w k w3) := Lib.hid (HP2.out.grown hg hp)
  clear hp hg HT HP2
  have ht := takesW ⟨#[73, 78, 83, 69, 82, 84]⟩ _ HP3.out.nb
  rw [H3.out] at ht
  have HT := Lib.hid ht
  clear ht
  go_wp2_with fail
  refine HT.out.mono ?_
  rintro e4 w4 ⟨rfl, hp, hg⟩
  have HP4 : Hid (RP w0 r tv L en w k w4) := Lib.hid (HP3.out.grown hg hp)
  clear hp hg HT HP3
  have ht := takesW ⟨#[85, 80, 68, 65, 84, 69]⟩ _ HP4.out.nb
  rw [H4.out] at ht
  have HT := Lib.hid ht
  clear ht
  go_wp2_with fail
  refine HT.out.mono ?_
  rintro e5 w5 ⟨rfl, hp, hg⟩
  have HP5 : Hid (RP w0 r tv L en w k w5) := Lib.hid (HP4.out.grown hg hp)
  clear hp hg HT HP4
  have ht := takesW ⟨#[68, 69, 76, 69, 84, 69]⟩ _ HP5.out.nb
  rw [H5.out] at ht
  have HT := Lib.hid ht
  clear ht
  go_wp2_with fail
  refine HT.out.mono ?_
  rintro e6 w6 ⟨rfl, hp, hg⟩
  have HP6 : Hid (RP w0 r tv L en w (k + 1) w6) := Lib.hid (HP5.out.grown hg hp)
  clear hp hg HT HP5
  have HT := Lib.hid (needsW ⟨#[70, 82, 79, 77]⟩ _ HP6.out.nb H6.out)
  go_wp2_with fail
  refine HT.out.mono ?_
  rintro e7 w7 ⟨rfl, hp, hg⟩
  have HP7 : Hid (RP w0 r tv L en w (k + 2) w7) := Lib.hid (HP6.out.grown hg hp)
  clear hp hg HT HP6
  have hn := nameW _ HP7.out.nb H7.out
  rw [HNM.out] at hn
  have HT := Lib.hid hn
  clear hn
  go_wp2_with fail
  refine HT.out.mono ?_
  rintro e8 w8 ⟨rfl, hp, hg⟩
  have HP8 : Hid (RP w0 r tv L en w (k + 3) w8) := Lib.hid (HP7.out.grown hg hp)
  clear hp hg HT HP7
  have hb9 := (Below.refl _ w8).alloc (Nat.le_refl _) (.cells #[.int .u8 7, .string nm, .string ⟨#[]⟩, .bool false, .slice none 0 0, .slice none 0 0, .slice none 0 0, .slice none 0 0, .slice none 0 0, .slice none 0 0, .slice none 0 0, .slice none 0 0, .slice none 0 0, .slice none 0 0, .slice none 0 0, .int .i64 0] 35)
  have HP9 := Lib.hid (HP8.out.grown (below_grown (r := r) hb9) (HP8.out.nb.later hb9))
  have HLT8 : Hid (w.heap.size < w8.heap.size) := Lib.hid HP8.out.rs.lt
  have HS9 : Hid (SG (fun b => w.heap.size < b ∧ b ≠ w8.heap.size) w8.heap.size #[.int .u8 7, .string nm, .string ⟨#[]⟩, .bool false, .slice none 0 0, .slice none 0 0, .slice none 0 0, .slice none 0 0, .slice none 0 0, .slice none 0 0, .slice none 0 0, .slice none 0 0, .slice none 0 0, .slice none 0 0, .slice none 0 0, .int .i64 0] { kind := 7, table := nm } (w8.alloc (.cells #[.int .u8 7, .string nm, .string ⟨#[]⟩, .bool false, .slice none 0 0, .slice none 0 0, .slice none 0 0, .slice none 0 0, .slice none 0 0, .slice none 0 0, .slice none 0 0, .slice none 0 0, .slice none 0 0, .slice none 0 0, .slice none 0 0, .int .i64 0] 35))) := Lib.hid (sg_new w8 7 nm ⟨#[]⟩ false 0 (by simp))
  clear hb9 HP8
  go_upto_region 38 with fail
  generalize w8.alloc (.cells #[.int .u8 7, .string nm, .string ⟨#[]⟩, .bool false, .slice none 0 0, .slice none 0 0, .slice none 0 0, .slice none 0 0, .slice none 0 0, .slice none 0 0, .slice none 0 0, .slice none 0 0, .slice none 0 0, .slice none 0 0, .slice none 0 0, .int .i64 0] 35) = w9 at *
  generalize w8.heap.size = g at *
  have HT := Lib.hid (H8.out w9 HP9.out.nb)
  go_wp2_with fail
  refine HT.out.mono ?_
  rintro e10 w10 ⟨v, rfl, hv, hp, hg⟩
  have HP10 : Hid (RP w0 r tv L en w k' w10) := Lib.hid (HP9.out.grown hg hp)
  have hs10 := HS9.out.grown hg (by have := HLT8.out; have := HP9.out.hr; omega) (by have := HP9.out.hr; omega)
  have hv2 : Dep (fun b => w.heap.size < b ∧ b ≠ g) w10 fun u => ExsR u v l := hv.step (Nat.le_refl _) fun b hb _ => ⟨⟨by have := HS9.out.row.lt; have := HLT8.out; omega, by have := HS9.out.row.lt; omega⟩, rfl⟩
  have hs11 := hs10.put_wh v l hv2
  obtain ⟨va, vc, rfl, _⟩ := hv.here.shape
  obtain ⟨d, hd⟩ := hs10.cell 11 (by decide)
  have fd := row_free hs10.row 11
  have hE := setCell_eq_setRow w10 g 11 _ _ _ (.slice va l.length vc) hs10.row
  have HP11 : Hid (RP w0 r tv L en w k' (w10.setCell ⟨g, 11, none⟩ (.slice va l.length vc))) := Lib.hid (by
    have h3 := HLT8.out
    have h4 := HP10.out.hr
    have h5 := HW0.out
    rw [hE]
    exact ⟨HP10.out.nb.other g (by omega) (by omega) _, grown_fill HP10.out.gr (by omega) _, (setRow_other _ _ _ _ (by omega)).trans HP10.out.rs, h4⟩)
  have HS11 := Lib.hid hs11
  clear hv hv2 hp hg hs10 hs11 hE HT HP10 HP9 HS9
  go_upto_region 39 with fail
  generalize w10.setCell ⟨g, 11, none⟩ (.slice va l.length vc) = w11 at *
  clear hd fd
  have hrb := HS11.out.rb
  have hro := HS11.out.row.of
  have hrq := HP11.out.rs.b (n := 16) rfl
  have hok := HS11.out.ok
  have HZ := Lib.hid HS11.out.size
  obtain ⟨D, hD⟩ : ∃ D, D = (#[.int .u8 7, .string nm, .string ⟨#[]⟩, .bool false, .slice none 0 0, .slice none 0 0, .slice none 0 0, .slice none 0 0, .slice none 0 0, .slice none 0 0, .slice none 0 0, .slice none 0 0, .slice none 0 0, .slice none 0 0, .slice none 0 0, .int .i64 0].setIfInBounds 11 (.slice va l.length vc) : Array Value) := ⟨_, rfl⟩
  rw [← hD] at HS11 hro hok HZ
  clear hD
  go_wp2_with fail
  refine bodyPost_ret (v := .agg D) (res_row Tryz.results31 sm_struct sm_size _ _ w.heap.size _ D rfl (HP11.out.rs.set D) HZ.out) rfl ⟨_, rfl, ?_, ?_, ?_⟩
  · exact HS11.out.st.step (by simp) fun b hb _ => ⟨by omega, setRow_other _ _ b D (by omega)⟩
  · exact HP11.out.nb.other _ HW0.out (by have := HP11.out.hr; omega) D
  · exact grown_fill HP11.out.gr (Nat.le_refl _) D
end Go.Proofs.YtjgkeillmelkoaaGreat.Dt
namespace Go.Proofs.YtjgkeillmelkoaaGreat.Dt
open Go.RowKit Go.Proofs.YtjgkeillmelkoaaGreat.By

theorem arr16 {c : Array Value} (h : c.size = 16) : ∃ a0 a1 a2 a3 a4 a5 a6 a7 a8 a9 a10 a11 a12 a13 a14 a15, c = #[a0, a1, a2, a3, a4, a5, a6, a7, a8, a9, a10, a11, a12, a13, a14, a15] := by
  have hl : c.toList.length = 16 := by simpa using h
  match hc : c.toList, hl with
  | [a0, a1, a2, a3, a4, a5, a6, a7, a8, a9, a10, a11, a12, a13, a14, a15], _ => exact ⟨a0, a1, a2, a3, a4, a5, a6, a7, a8, a9, a10, a11, a12, a13, a14, a15, Array.toList_inj.1 hc⟩
theorem veilBs_st (n : Nat) (ps : Array (Nat × Value)) : Instr.buildSlice 68 n ps = veilBs 68 n ps := rfl
theorem run_bsSt (W : World) (c : Array Value) (h : okRow 16 c = true) : (veilBs 68 1 #[(0, .agg c)]).run Tryz.prog W = .ok (.slice (some ⟨W.heap.size, 0, none⟩) 1 1) (W.alloc (.cells c 35)) := by
  obtain ⟨a0, a1, a2, a3, a4, a5, a6, a7, a8, a9, a10, a11, a12, a13, a14, a15, rfl⟩ := arr16 (okRow_iff.1 h).1
  unfold veilBs
  go_simp
theorem elSt : By.Elem Tryz.prog 68 35 16 320 where
  slice := by kernel_rfl
  info := by
    have h : (Tryz.prog.info? 35).map (fun i => (i.zero, i.size, i.bytes)) = some (some (.agg stZ), 16, 320) := by kernel_rfl
    obtain ⟨i, hi, h1, h2, h3⟩ := info_parts h
    exact ⟨i, _, hi, h1, h2, h3, rfl⟩
  pos := by decide
theorem res_tc {fn : Func} {p q : Tmp} (h : fn.results = #[.tmp p, .cell q 70]) (tmps : Array Value) (w : World) (k : Nat) (u : TypeId) (v : Value) (ds : Array Value)
    (hp : tmps.getD p undef = v) (hq : tmps.getD q undef = .pointer (some ⟨k, 0, none⟩)) (hk : Row k u ds w) (hd : ds.size = 2) : (results fn tmps).run Tryz.prog w = .ok (.tuple #[v, .agg ds]) w := by
  have hs : ∃ fs, Tryz.prog.underlying 70 = some (.struct fs) := st_of (by kernel_rfl)
  obtain ⟨gs, hv⟩ := hs
  have hi : (Tryz.prog.info? 70).map (·.size) = some 2 := by kernel_rfl
  have hp' : tmps[p]?.getD undef = v := by simpa using hp
  have hq' : tmps[q]?.getD undef = .pointer (some ⟨k, 0, none⟩) := by simpa using hq
  simp [results, h, hp', hq', asAddr, run_loadVar_row w k u 70 ds (0, 0) _ hk hv rfl (by rw [hi, hd])]
/-- The place's box is filled. -/
structure Fin1 (q : Nat) (ds : Array Value) (W W' : World) : Prop where
  r1 : Row q 70 ds W'
  ot : ∀ b, b ≠ q → W'.heap[b]? = W.heap[b]?
  sz : W.heap.size ≤ W'.heap.size
  bl : ∀ n, n ≤ q → Below n W W'
theorem fin_1 {q : Nat} {x y a b : Value} {W : World} (h1 : Row q 70 #[x, y] W) : Fin1 q #[a, b] W ((W.setCell ⟨q, 0, none⟩ a).setCell ⟨q, 1, none⟩ b) := by
  have e1 := setCell_eq_setRow _ q 0 _ _ _ a h1
  have h2 : Row q 70 #[a, y] (W.setCell ⟨q, 0, none⟩ a) := by rw [e1]; exact h1.set _
  have e2 := setCell_eq_setRow _ q 1 _ _ _ b h2
  refine ⟨by rw [e2]; exact h2.set _, fun k hk => ?_, by simp, fun n hn => below_set (below_set (Below.refl _ _) hn) hn⟩
  rw [e2, e1]
  exact (setRow_other _ q k _ hk).trans (setRow_other _ q k _ hk)
end Go.Proofs.YtjgkeillmelkoaaGreat.Dt
