import Derived.Test.YtjgkeillmelkoaaGreatBk23
namespace Go.Proofs.YtjgkeillmelkoaaGreat.Dt
open Go.RowKit Go.Proofs.YtjgkeillmelkoaaGreat.By

variable {w0 : World} {r : Nat} {tv : Value} {L : List Tk} {en : Int}
attribute [local go_sem ↓] veilSt_ex veilLd_ex
attribute [local go_sem] run_exSt run_exNew run_exLd okRow8 Value.oneCell'
set_option maxRecDepth 100000 in
set_option maxHeartbeats 8000000 in
theorem iminusW (k k' : Nat) (x : PE) (h1 : NRun w0 r tv L en 112 k k' x) (hc : cB L en k ⟨#[45]⟩ = false) : NRun w0 r tv L en 111 k k' x := by
  intro w h
  have HLT : Hid (r < w.heap.size) := Lib.hid h.lt
  have hb1 := (Below.refl _ w).alloc (Nat.le_refl _) (.cells exZ 44)
  have HR1 := Lib.hid (row_alloc w 44 exZ)
  have HG1 := Lib.hid (below_grown (r := r) hb1)
  have hi := takesW ⟨#[45]⟩ _ (h.later hb1)
  rw [hc] at hi
  have HI := Lib.hid hi
  have H1 := Lib.hid h1
  have HW0 : Hid (w0.heap.size ≤ w.heap.size) := Lib.hid h.hb.size
  clear h h1 hb1 hc hi
  go_enter Tryz.func111, Tryz.ntmps111
  go_upto_region 1 with fail
  generalize w.alloc (.cells exZ 44) = w1 at *
  go_wp2_with fail
  refine HI.out.mono ?_
  rintro e2 w2 ⟨rfl, hp2, hg2⟩
  have HC := Lib.hid (H1.out w2 hp2)
  have HG2 := Lib.hid (grown_trans HG1.out hg2)
  have HR2 := Lib.hid (HR1.out.grown hg2 (Nat.ne_of_gt HLT.out))
  clear hp2 hg2 HI H1 HG1 HR1
  go_wp2_with fail
  refine HC.out.mono ?_
  rintro e3 w3 ⟨cs, rfl, hx3, hp3, hg3⟩
  have HG3 := Lib.hid (grown_trans HG2.out hg3)
  have HR3 := Lib.hid (HR2.out.grown hg3 (Nat.ne_of_gt HLT.out))
  have HS2 : Hid (w.heap.size < w2.heap.size) := Lib.hid HR2.out.lt
  have hok := hx3.ok
  have HX3 := Lib.hid hx3
  have HP3 := Lib.hid hp3
  have hbr := HR3.out.b (n := 8) rfl
  clear hp3 hg3 hx3 HC
  go_wp2_with fail
  exact bodyPost_ret (v := .agg cs) (res_row Tryz.results111 ex_struct ex_size _ _ w.heap.size _ cs rfl (HR3.out.set cs) HX3.out.size) rfl ⟨cs, rfl, (ExD.set HX3.out (g := w.heap.size) (by have := HS2.out; omega)).step (Nat.le_refl _) fun b hb _ => ⟨by have := HS2.out; omega, rfl⟩, HP3.out.other _ HW0.out (by have := HLT.out; omega) cs, grown_fill HG3.out (Nat.le_refl _) cs⟩
set_option maxRecDepth 100000 in
set_option maxHeartbeats 8000000 in
theorem itimesW (k k' : Nat) (x : PE) (h1 : NRun w0 r tv L en 111 k k' x) (hm : cB L en k' ⟨#[42]⟩ = false) (hs : cB L en k' ⟨#[47]⟩ = false) (hp : cB L en k' ⟨#[37]⟩ = false) : NRun w0 r tv L en 110 k k' x := by
  intro w h
  have HLT : Hid (r < w.heap.size) := Lib.hid h.lt
  have hb1 := (Below.refl _ w).alloc (Nat.le_refl _) (.cells exZ 44)
  have HR1 := Lib.hid (row_alloc w 44 exZ)
  have HG1 := Lib.hid (below_grown (r := r) hb1)
  have HS1 : Hid ((w.alloc (.cells exZ 44)).heap.size = w.heap.size + 1) := Lib.hid (by simp)
  have HC1 := Lib.hid (h1 _ (h.later hb1))
  have HW0 : Hid (w0.heap.size ≤ w.heap.size) := Lib.hid h.hb.size
  have Hm := Lib.hid hm
  clear hm
  have Hs := Lib.hid hs
  clear hs
  have Hp := Lib.hid hp
  clear hp
  clear h h1 hb1
  go_enter Tryz.func110, Tryz.ntmps110
  go_upto_region 1 with fail
  generalize w.alloc (.cells exZ 44) = w1 at *
  go_wp2_with fail
  refine HC1.out.mono ?_
  rintro e2 w2 ⟨c0, rfl, hx2, hp2, hg2⟩
  have hok := hx2.ok
  have hb3 := (Below.refl _ w2).alloc (Nat.le_refl _) (.cells c0 44)
  have HC3 : Hid (CX w0 r tv L en w w2.heap.size k' x c0 (w2.alloc (.cells c0 44))) := Lib.hid (by
    have hz := HS1.out
    have hz2 := hg2.size
    refine ⟨hp2.later hb3, row_alloc _ _ _, (hx2.step (Nat.le_refl _) (fun b hb hlt => ⟨⟨by omega, by omega⟩, rfl⟩)).later hb3, grown_trans (grown_trans HG1.out hg2) (below_grown hb3), (HR1.out.grown hg2 (Nat.ne_of_gt HLT.out)).later hb3, by omega, HLT.out⟩)
  clear hp2 hg2 hx2 hb3 HG1 HR1 HC1
  go_wp2_with fail
  generalize w2.alloc (.cells c0 44) = w3 at *
  generalize w2.heap.size = g at *
  clear hok
  go_loopg [] 0 (fun gk wr => Hid (CX w0 r tv L en w g k' x c0 wr))
  case atStart => exact HC3
  case round =>
    have HC4 := hrel
    clear hrel
    have hi := comesW ⟨#[42]⟩ _ HC4.out.nb
    rw [Hm.out] at hi
    have HI4 := Lib.hid hi
    clear hi
    go_wp2_with fail
    refine HI4.out.mono ?_
    rintro e5 w5 ⟨rfl, hb5⟩
    have HC5 := Lib.hid (HC4.out.grown (below_grown (r := r) hb5) (HC4.out.nb.later hb5))
    clear hb5
    have hi := comesW ⟨#[47]⟩ _ HC5.out.nb
    rw [Hs.out] at hi
    have HI5 := Lib.hid hi
    clear hi
    go_wp2_with fail
    refine HI5.out.mono ?_
    rintro e6 w6 ⟨rfl, hb6⟩
    have HC6 := Lib.hid (HC5.out.grown (below_grown (r := r) hb6) (HC5.out.nb.later hb6))
    clear hb6
    have hi := comesW ⟨#[37]⟩ _ HC6.out.nb
    rw [Hp.out] at hi
    have HI6 := Lib.hid hi
    clear hi
    go_wp2_with fail
    refine HI6.out.mono ?_
    rintro e7 w7 ⟨rfl, hb7⟩
    have HC7 := Lib.hid (HC6.out.grown (below_grown (r := r) hb7) (HC6.out.nb.later hb7))
    clear hb7
    have hr := HC7.out.row
    have hb := hr.b (n := 8) HC7.out.ex.size
    have ho := hr.of
    have hbr := HC7.out.rs.b (n := 8) rfl
    have hok := HC7.out.ex.ok
    clear hr
    go_wp2_with fail
    refine bodyPost_ret (v := .agg c0) (res_row Tryz.results110 ex_struct ex_size _ _ w.heap.size _ c0 rfl (HC7.out.rs.set c0) HC7.out.ex.size) rfl ⟨_, rfl, ?_, ?_, ?_⟩
    · exact HC7.out.ex.step (S' := fun b => w.heap.size ≤ b) (by simp) fun b hb _ => ⟨by omega, setRow_other _ _ b c0 (by have := HC7.out.hg; omega)⟩
    · exact HC7.out.nb.other _ HW0.out (by have := HC7.out.hr; omega) c0
    · exact grown_fill HC7.out.gr (Nat.le_refl _) c0
set_option maxRecDepth 100000 in
set_option maxHeartbeats 8000000 in
theorem iplusW (k k' : Nat) (x : PE) (h1 : NRun w0 r tv L en 110 k k' x) (hp : cB L en k' ⟨#[43]⟩ = false) (hm : cB L en k' ⟨#[45]⟩ = false) : NRun w0 r tv L en 108 k k' x := by
  intro w h
  have HLT : Hid (r < w.heap.size) := Lib.hid h.lt
  have hb1 := (Below.refl _ w).alloc (Nat.le_refl _) (.cells exZ 44)
  have HR1 := Lib.hid (row_alloc w 44 exZ)
  have HG1 := Lib.hid (below_grown (r := r) hb1)
  have HS1 : Hid ((w.alloc (.cells exZ 44)).heap.size = w.heap.size + 1) := Lib.hid (by simp)
  have HC1 := Lib.hid (h1 _ (h.later hb1))
  have HW0 : Hid (w0.heap.size ≤ w.heap.size) := Lib.hid h.hb.size
  have Hp := Lib.hid hp
  clear hp
  have Hm := Lib.hid hm
  clear hm
  clear h h1 hb1
  go_enter Tryz.func108, Tryz.ntmps108
  go_upto_region 1 with fail
  generalize w.alloc (.cells exZ 44) = w1 at *
  go_wp2_with fail
  refine HC1.out.mono ?_
  rintro e2 w2 ⟨c0, rfl, hx2, hp2, hg2⟩
  have hok := hx2.ok
  have hb3 := (Below.refl _ w2).alloc (Nat.le_refl _) (.cells c0 44)
  have HC3 : Hid (CX w0 r tv L en w w2.heap.size k' x c0 (w2.alloc (.cells c0 44))) := Lib.hid (by
    have hz := HS1.out
    have hz2 := hg2.size
    refine ⟨hp2.later hb3, row_alloc _ _ _, (hx2.step (Nat.le_refl _) (fun b hb hlt => ⟨⟨by omega, by omega⟩, rfl⟩)).later hb3, grown_trans (grown_trans HG1.out hg2) (below_grown hb3), (HR1.out.grown hg2 (Nat.ne_of_gt HLT.out)).later hb3, by omega, HLT.out⟩)
  clear hp2 hg2 hx2 hb3 HG1 HR1 HC1
  go_wp2_with fail
  generalize w2.alloc (.cells c0 44) = w3 at *
  generalize w2.heap.size = g at *
  clear hok
  go_loopg [] 0 (fun gk wr => Hid (CX w0 r tv L en w g k' x c0 wr))
  case atStart => exact HC3
  case round =>
    have HC4 := hrel
    clear hrel
    have hi := comesW ⟨#[43]⟩ _ HC4.out.nb
    rw [Hp.out] at hi
    have HI4 := Lib.hid hi
    clear hi
    go_wp2_with fail
    refine HI4.out.mono ?_
    rintro e5 w5 ⟨rfl, hb5⟩
    have HC5 := Lib.hid (HC4.out.grown (below_grown (r := r) hb5) (HC4.out.nb.later hb5))
    clear hb5
    have hi := comesW ⟨#[45]⟩ _ HC5.out.nb
    rw [Hm.out] at hi
    have HI5 := Lib.hid hi
    clear hi
    go_wp2_with fail
    refine HI5.out.mono ?_
    rintro e6 w6 ⟨rfl, hb6⟩
    have HC6 := Lib.hid (HC5.out.grown (below_grown (r := r) hb6) (HC5.out.nb.later hb6))
    clear hb6
    have hr := HC6.out.row
    have hb := hr.b (n := 8) HC6.out.ex.size
    have ho := hr.of
    have hbr := HC6.out.rs.b (n := 8) rfl
    have hok := HC6.out.ex.ok
    clear hr
    go_wp2_with fail
    refine bodyPost_ret (v := .agg c0) (res_row Tryz.results108 ex_struct ex_size _ _ w.heap.size _ c0 rfl (HC6.out.rs.set c0) HC6.out.ex.size) rfl ⟨_, rfl, ?_, ?_, ?_⟩
    · exact HC6.out.ex.step (S' := fun b => w.heap.size ≤ b) (by simp) fun b hb _ => ⟨by omega, setRow_other _ _ b c0 (by have := HC6.out.hg; omega)⟩
    · exact HC6.out.nb.other _ HW0.out (by have := HC6.out.hr; omega) c0
    · exact grown_fill HC6.out.gr (Nat.le_refl _) c0
/-- The signs that compare. -/
def cmpS : List ByteArray := [⟨#[61]⟩, ⟨#[60, 62]⟩, ⟨#[60]⟩, ⟨#[60, 61]⟩, ⟨#[62]⟩, ⟨#[62, 61]⟩]
abbrev cmpC : Array Value := #[.string ⟨#[61]⟩, .string ⟨#[60, 62]⟩, .string ⟨#[60]⟩, .string ⟨#[60, 61]⟩, .string ⟨#[62]⟩, .string ⟨#[62, 61]⟩]
theorem cmp_cell {g j : Nat} {t : TypeId} {W : World} {sg : ByteArray} (h : Row g t cmpC W) (hj : cmpS[j]? = some sg) : W.cell? ⟨g, j, none⟩ = some (.string sg) := by
  refine h.cell ?_
  match j, hj with
  | 0, hj => cases hj; rfl
  | 1, hj => cases hj; rfl
  | 2, hj => cases hj; rfl
  | 3, hj => cases hj; rfl
  | 4, hj => cases hj; rfl
  | 5, hj => cases hj; rfl
  | n + 6, hj => cases hj
/-- What is known of the operations of 'return two(uint8(12+i), a, x.join())'. -/
def NtKn (r i : Nat) (c : Array Value) (S : Nat → Prop) (x y : PE) (j : Nat) (v : Value) (W : World) : Prop := match j with
  | 0 => v = .int .i64 (i : Int)
  | 1 => v = .int .i64 ((12 + i : Nat) : Int)
  | 2 => v = .int .u8 ((12 + i : Nat) : Int)
  | 3 => v = .agg c
  | 4 => v = .pointer (some ⟨r, 0, none⟩)
  | 5 => ∃ d, v = .agg d ∧ ExD S W d y
  | _ => ∃ d, v = .agg d ∧ ExD S W d (.node (12 + i) [x, y])
theorem NtKn.later {i : Nat} {c : Array Value} {S : Nat → Prop} {x y : PE} (hS : ¬ S r) (w0 : World) (j : Nat) (v : Value) (w1 w2 : World) (h : NtKn r i c S x y j v w1) (_ : w0.grownBy w1 (some r)) (g : w1.grownBy w2 (some r)) : NtKn r i c S x y j v w2 :=
  match j, h with
  | 0, h => h
  | 1, h => h
  | 2, h => h
  | 3, h => h
  | 4, h => h
  | 5, ⟨d, e, h⟩ => ⟨d, e, h.grown g hS⟩
  | _ + 6, ⟨d, e, h⟩ => ⟨d, e, h.grown g hS⟩
set_option maxRecDepth 100000 in
set_option maxHeartbeats 16000000 in
theorem inotW (i k k1 k' : Nat) (x y : PE) (sg : ByteArray) (hi : i < 6) (hsg : cmpS[i]? = some sg) (h1 : NRun w0 r tv L en 105 k k1 x) (hn : cB L en k ⟨#[78, 79, 84]⟩ = false) (his : cB L en k1 ⟨#[73, 83]⟩ = false)
    (hno : ∀ j, j < i → ∀ t, cmpS[j]? = some t → cB L en k1 t = false) (hyes : cB L en k1 sg = true) (h2 : NRun w0 r tv L en 105 (k1 + 1) k' y) :
    NRun w0 r tv L en 101 k k' (.node (12 + i) [x, y]) := by
  intro w h
  have HLT : Hid (r < w.heap.size) := Lib.hid h.lt
  have hb1 := (Below.refl _ w).alloc (Nat.le_refl _) (.cells exZ 44)
  have HR1 := Lib.hid (row_alloc w 44 exZ)
  have HG1 := Lib.hid (below_grown (r := r) hb1)
  have HS1 : Hid ((w.alloc (.cells exZ 44)).heap.size = w.heap.size + 1) := Lib.hid (by simp)
  have ht := takesW ⟨#[78, 79, 84]⟩ _ (h.later hb1)
  rw [hn] at ht
  have HT := Lib.hid ht
  have H1 := Lib.hid h1
  have H2 := Lib.hid h2
  have HIS := Lib.hid his
  have HNO := Lib.hid hno
  have HYES := Lib.hid hyes
  have HSG := Lib.hid hsg
  have HI6 := Lib.hid hi
  have HW0 : Hid (w0.heap.size ≤ w.heap.size) := Lib.hid h.hb.size
  clear h h1 hb1 hn his hno hyes hsg h2 ht hi
  go_enter Tryz.func101, Tryz.ntmps101
  go_upto_region 1 with fail
  generalize w.alloc (.cells exZ 44) = w1 at *
  go_wp2_with fail
  refine HT.out.mono ?_
  rintro e2 w2 ⟨rfl, hp2, hg2⟩
  have HC2 := Lib.hid (H1.out w2 hp2)
  have HG2 := Lib.hid (grown_trans HG1.out hg2)
  have HR2 := Lib.hid (HR1.out.grown hg2 (Nat.ne_of_gt HLT.out))
  have HS2 : Hid (w.heap.size + 1 ≤ w2.heap.size) := Lib.hid (by have := hg2.size; have := HS1.out; omega)
  clear hp2 hg2 HT H1 HG1 HR1
  go_wp2_with fail
  refine HC2.out.mono ?_
  rintro e3 w3 ⟨c0, rfl, hx2, hp2, hg2⟩
  have hok := hx2.ok
  have hb3 := (Below.refl _ w3).alloc (Nat.le_refl _) (.cells c0 44)
  have HC3 : Hid (CX w0 r tv L en w w3.heap.size k1 x c0 (w3.alloc (.cells c0 44))) := Lib.hid (by
    have hz := HS2.out
    have hz2 := hg2.size
    refine ⟨hp2.later hb3, row_alloc _ _ _, (hx2.step (Nat.le_refl _) (fun b hb hlt => ⟨⟨by omega, by omega⟩, rfl⟩)).later hb3, grown_trans (grown_trans HG2.out hg2) (below_grown hb3), (HR2.out.grown hg2 (Nat.ne_of_gt HLT.out)).later hb3, by omega, HLT.out⟩)
  clear hp2 hg2 hx2 hb3 HG2 HR2 HC2
  go_wp2_with fail
  generalize w3.alloc (.cells c0 44) = w4 at *
  generalize w3.heap.size = g at *
  clear hok
  have ht := takesW ⟨#[73, 83]⟩ w4 HC3.out.nb
  rw [HIS.out] at ht
  have HT := Lib.hid ht
  clear ht
  go_wp2_with fail
  refine HT.out.mono ?_
  rintro e5 w5 ⟨rfl, hp5, hg5⟩
  have HC5 := Lib.hid (HC3.out.grown hg5 hp5)
  clear hp5 hg5 HC3 HT
  go_upto_region 12 with fail
  have hb6 := (Below.refl _ w5).alloc (Nat.le_refl _) (.cells cmpC 9)
  have HQ6 := Lib.hid (row_alloc w5 9 cmpC)
  have HC6 := Lib.hid (HC5.out.grown (below_grown (r := r) hb6) (HC5.out.nb.later hb6))
  have HQR : Hid (r < w5.heap.size ∧ g < w5.heap.size) := Lib.hid ⟨HC5.out.nb.lt, HC5.out.row.lt⟩
  clear hb6 HC5
  generalize w5.alloc (.cells cmpC 9) = w6 at *
  generalize w5.heap.size = q at *
  go_wp2_with fail
  go_loopg [6] i (fun gk iv wr => ∃ j : Nat, iv = .int .i64 (j : Int) ∧ gk = i - j ∧ j ≤ i ∧ Hid (CX w0 r tv L en w g k1 x c0 wr) ∧ Hid (Row q 9 cmpC wr))
  case atStart => exact ⟨0, rfl, rfl, Nat.zero_le _, HC6, HQ6⟩
  case round =>
    obtain ⟨j, rfl, rfl, hj, HC, HQ⟩ := hrel
    have hi6 := HI6.out
    have ilt : (j : Int) < 6 := by omega
    have ige : (0 : Int) ≤ (j : Int) := by omega
    by_cases hlt : j < i
    · obtain ⟨t, ht⟩ : ∃ t, cmpS[j]? = some t := ⟨cmpS[j]'(by show j < 6; omega), by simp⟩
      have hc := cmp_cell HQ.out ht
      have hi := takesW t wr HC.out.nb
      rw [HNO.out j hlt t ht] at hi
      have HI := Lib.hid hi
      have HJL := Lib.hid hlt
      clear hi ht hi6 hlt
      go_wp2_with fail
      refine HI.out.mono ?_
      rintro e7 w7 ⟨rfl, hp7, hg7⟩
      have HC7 := Lib.hid (HC.out.grown hg7 hp7)
      have HQ7 := Lib.hid (HQ.out.grown hg7 (Nat.ne_of_gt HQR.out.1))
      clear hp7 hg7 HI
      go_wp2_with fail
      go_roundg (i - (j + 1))
      case measure => exact Nat.sub_lt_sub_left HJL.out (Nat.lt_succ_self _)
      case rel => exact ⟨j + 1, by go_num, rfl, HJL.out, HC7, HQ7⟩
    · obtain rfl : j = i := by omega
      have hc := cmp_cell HQ.out HSG.out
      have hi := takesW sg wr HC.out.nb
      rw [HYES.out] at hi
      have HI := Lib.hid hi
      clear hi hlt hj
      go_wp2_with fail
      refine HI.out.mono ?_
      rintro e7 w7 ⟨rfl, hp7, hg7⟩
      have HC7 := Lib.hid (HC.out.grown hg7 hp7)
      clear hp7 hg7 HI hc
      go_upto_region 16 with fail
      have hgw := HC7.out.gr
      have hSr : ¬ (w.heap.size + 1 ≤ r ∧ r ≠ g) := by have := HLT.out; omega
      refine wp_region_kig 7 r (NtKn r j c0 (fun b => w.heap.size + 1 ≤ b ∧ b ≠ g) x y) (fun dn W => NB w0 r tv L en (if dn 5 then k' else k1 + 1) W) 47 rfl (by kernel_rfl) (by kernel_rfl) (NtKn.later hSr w7) ?_ ?_ ?_ ?_
      · intro dn dn' W hdd hst
        rw [← hdd 5 (by decide)]
        exact hst
      · exact HC7.out.nb.later (Below.drew (Below.refl _ _))
      · intro m hm dn A W hother hgW hst hdj hd
        match m, hm with
        | 0, hm =>
          have h0 := tmps_at (show A.eval (.tmp 6) = .int .i64 (j : Int) from hother 6 (by kernel_rfl))
          clear hother hd hm
          exact kig_same rfl rfl (.int .i64 (j : Int)) (by simp only [execOp]; go_simp) rfl hst
        | 1, hm =>
          have h0 := tmps_at ((hd _ rfl ⟨0, .data⟩ (by simp) rfl).2.eq (.int .i64 (j : Int)) (fun _ h => h) 39 (by kernel_rfl) (by decide))
          have hw : IntKind.i64.wrap (12 + (j : Int)) = 12 + (j : Int) := by rw [IntKind.wrap_i64]; omega
          clear hother hd hm
          exact kig_same rfl rfl (.int .i64 ((12 + j : Nat) : Int)) (by simp only [execOp]; go_simp) rfl hst
        | 2, hm =>
          have h0 := tmps_at ((hd _ rfl ⟨1, .data⟩ (by simp) rfl).2.eq (.int .i64 ((12 + j : Nat) : Int)) (fun _ h => h) 40 (by kernel_rfl) (by decide))
          have hw : IntKind.u8.wrap (12 + (j : Int)) = 12 + (j : Int) := by rw [IntKind.wrap_u8]; omega
          clear hother hd hm
          exact kig_same rfl rfl (.int .u8 ((12 + j : Nat) : Int)) (by simp only [execOp]; go_simp) rfl hst
        | 3, hm =>
          have h0 := tmps_at (show A.eval (.tmp 3) = .pointer (some ⟨g, 0, none⟩) from hother 3 (by kernel_rfl))
          have hr5 := HC7.out.row.grown hgW (by have := HC7.out.hg; have := HLT.out; omega)
          have hb5 := hr5.b (n := 8) HC7.out.ex.size
          have ho5 := hr5.of
          clear hother hd hm hr5
          exact kig_same rfl rfl (.agg c0) (by simp only [execOp]; go_simp) rfl hst
        | 4, hm =>
          have h0 := tmps_at (show A.eval (.tmp 0) = .pointer (some ⟨r, 0, none⟩) from hother 0 (by kernel_rfl))
          clear hother hd hm
          exact kig_same rfl rfl (.pointer (some ⟨r, 0, none⟩)) (by simp only [execOp]; go_simp) rfl hst
        | 5, hm =>
          have h0 := tmps_at ((hd _ rfl ⟨4, .data⟩ (by simp) rfl).2.eq (.pointer (some ⟨r, 0, none⟩)) (fun _ h => h) 43 (by kernel_rfl) (by decide))
          have hst7 : NB w0 r tv L en (k1 + 1) W := by have h := hst; simp only [hdj] at h; exact h
          have hcall := H2.out W hst7
          clear hother hd hm
          refine kig_call rfl rfl 105 #[.pointer (some ⟨r, 0, none⟩)] (by simp only [execOp]; go_simp) (hcall.mono ?_)
          rintro e8 w8 ⟨d, rfl, hx8, hp8, hg8⟩
          refine ⟨_, rfl, hg8, ⟨d, rfl, hx8.step (Nat.le_refl _) (fun b hb hlt => ⟨⟨?_, ?_⟩, rfl⟩)⟩, hp8⟩
          · have h1 := (grown_trans hgw hgW).size; have h2 := HC7.out.hg; have h3 := HC7.out.row.lt; have h4 := hgW.size; omega
          · have h3 := HC7.out.row.lt; have h4 := hgW.size; omega
        | 6, hm =>
          obtain ⟨v7, ⟨d, e7, hx7⟩, h7⟩ := (hd _ rfl ⟨5, .data⟩ (by simp) rfl).2.get 44 (by kernel_rfl) (by decide)
          rw [e7] at h7
          have h0 := tmps_at h7
          have h1 := tmps_at ((hd _ rfl ⟨3, .data⟩ (by simp) rfl).2.eq (.agg c0) (fun _ h => h) 42 (by kernel_rfl) (by decide))
          have h2 := tmps_at ((hd _ rfl ⟨2, .data⟩ (by simp) rfl).2.eq (.int .u8 ((12 + j : Nat) : Int)) (fun _ h => h) 41 (by kernel_rfl) (by decide))
          have hcall := twoW (12 + j) (fun b => w.heap.size + 1 ≤ b ∧ b ≠ g) c0 d x y W (HC7.out.ex.grown hgW hSr) hx7
          have hW : g < W.heap.size := by have h3 := HC7.out.row.lt; have h4 := hgW.size; omega
          have hg5 := HC7.out.hg
          clear hother hd hm hx7
          refine kig_call rfl rfl 88 #[.int .u8 ((12 + j : Nat) : Int), .agg c0, .agg d] (by simp only [execOp]; go_simp) (hcall.mono ?_)
          rintro e9 w9 ⟨d9, rfl, hx9, hb9⟩
          exact ⟨_, rfl, below_grown hb9, ⟨_, rfl, hx9.step (Nat.le_refl _) fun b hb _ => ⟨by omega, rfl⟩⟩, hst.later hb9⟩
        | q + 7, hm => omega
      · intro us W hgW hst hk
        obtain ⟨d, e9, hx9⟩ := hk 6 (by decide)
        have HRS := Lib.hid (HC7.out.rs.grown hgW (Nat.ne_of_gt HLT.out))
        have hb9 := HRS.out.b (n := 8) rfl
        have hok9 := hx9.ok
        have HX9 := Lib.hid hx9
        have HPW : Hid (NB w0 r tv L en k' W) := Lib.hid hst
        have HGW := Lib.hid (grown_trans hgw hgW)
        clear hk hst hgW hx9 hgw
        simp only [List.drop_succ_cons, List.drop_zero, putAll, dstOf, Act.put, List.getElem?_toArray, List.getElem?_cons_zero, List.getElem?_cons_succ, Option.bind_some]
        simp only [List.setIfInBounds_toArray, List.set_cons_zero, List.set_cons_succ]
        rw [e9]
        go_wp2_with fail
        refine bodyPost_ret (v := .agg d) (res_row Tryz.results101 ex_struct ex_size _ _ w.heap.size _ d rfl (HRS.out.set d) HX9.out.size) rfl ⟨_, rfl, ?_, ?_, ?_⟩
        · exact HX9.out.step (S' := fun b => w.heap.size ≤ b) (by simp) fun b hb _ => ⟨by omega, setRow_other _ _ b d (by omega)⟩
        · exact HPW.out.other _ HW0.out (by have := HLT.out; omega) d
        · exact grown_fill HGW.out (Nat.le_refl _) d
end Go.Proofs.YtjgkeillmelkoaaGreat.Dt
