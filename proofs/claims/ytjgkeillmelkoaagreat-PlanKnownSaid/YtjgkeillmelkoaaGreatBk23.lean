import Derived.Test.YtjgkeillmelkoaaGreatBk22
namespace Go.Proofs.YtjgkeillmelkoaaGreat.Dt
open Go.RowKit Go.Proofs.YtjgkeillmelkoaaGreat.By

/-- What a call of the reader's gives: an expression, and how far it has read then. -/
def NRun (w0 : World) (r : Nat) (tv : Value) (L : List Tk) (en : Int) (f : FuncId) (k k' : Nat) (x : PE) : Prop := ∀ w, NB w0 r tv L en k w → Calls Tryz.prog f #[.pointer (some ⟨r, 0, none⟩)] w fun e w' =>
  ∃ cs, e = .returned (.agg cs) ∧ ExN w.heap.size w' cs x ∧ NB w0 r tv L en k' w' ∧ w.grownBy w' (some r)
/-- So many rounds of a chain, from a place and what is read so far to their end. -/
def ChainR (w0 : World) (r : Nat) (tv : Value) (L : List Tk) (en : Int) (sub : FuncId) (sg : ByteArray) (op : Nat) : Nat → Nat → PE → Nat → PE → Prop
  | 0, k, x, k', x' => cB L en k sg = false ∧ k' = k ∧ x' = x
  | n + 1, k, x, k', x' => cB L en k sg = true ∧ ∃ k1 y, NRun w0 r tv L en sub (k + 1) k1 y ∧ ChainR w0 r tv L en sub sg op n k1 (.node op [x, y]) k' x'
/-- What lies there between two rounds: the reader, what was read so far in block 'g', the result's box. -/
structure CX (w0 : World) (r : Nat) (tv : Value) (L : List Tk) (en : Int) (w : World) (g k : Nat) (x : PE) (c : Array Value) (W : World) : Prop where
  nb : NB w0 r tv L en k W
  row : Row g 44 c W
  ex : ExD (fun b => w.heap.size + 1 ≤ b ∧ b ≠ g) W c x
  gr : w.grownBy W (some r)
  rs : Row w.heap.size 44 exZ W
  hg : w.heap.size + 1 ≤ g
  hr : r < w.heap.size
variable {w0 : World} {r : Nat} {tv : Value} {L : List Tk} {en : Int}
theorem CX.grown {w W W' : World} {g k k' : Nat} {x : PE} {c : Array Value} (h : CX w0 r tv L en w g k x c W) (q : W.grownBy W' (some r)) (hp : NB w0 r tv L en k' W') : CX w0 r tv L en w g k' x c W' := by
  have h2 := h.hg
  have h3 := h.hr
  exact ⟨hp, h.row.grown q (by omega), h.ex.grown q (by omega), grown_trans h.gr q, h.rs.grown q (by omega), h2, h3⟩
theorem NB.other {k : Nat} {W : World} (h : NB w0 r tv L en k W) (g : Nat) (hg : w0.heap.size ≤ g) (hr : r ≠ g) (d : Array Value) : NB w0 r tv L en k (W.setRow g d) :=
  ⟨(setRow_other W g r d hr).trans h.row, h.tk, below_setRow' h.hb hg d, h.hr, h.hl⟩
/-- What is known of the operations of 'a = two(op, a, x.sub())'. -/
def CxKn (r : Nat) (c : Array Value) (S : Nat → Prop) (op : Nat) (x y : PE) (j : Nat) (v : Value) (W : World) : Prop := match j with
  | 0 => v = .agg c
  | 1 => v = .pointer (some ⟨r, 0, none⟩)
  | 2 => ∃ d, v = .agg d ∧ ExD S W d y
  | _ => ∃ d, v = .agg d ∧ ExD S W d (.node op [x, y])
theorem CxKn.later {c : Array Value} {S : Nat → Prop} {op : Nat} {x y : PE} (hS : ¬ S r) (w0 : World) (j : Nat) (v : Value) (w1 w2 : World) (h : CxKn r c S op x y j v w1) (_ : w0.grownBy w1 (some r)) (g : w1.grownBy w2 (some r)) : CxKn r c S op x y j v w2 :=
  match j, h with
  | 0, h => h
  | 1, h => h
  | 2, ⟨d, e, h⟩ => ⟨d, e, h.grown g hS⟩
  | _ + 3, ⟨d, e, h⟩ => ⟨d, e, h.grown g hS⟩
attribute [local go_sem ↓] veilSt_ex veilLd_ex
attribute [local go_sem] run_exSt run_exNew run_exLd okRow8 Value.oneCell'
set_option maxRecDepth 100000 in
set_option maxHeartbeats 8000000 in
theorem ijoinW (n k k1 k' : Nat) (x x' : PE) (h1 : NRun w0 r tv L en 108 k k1 x) (hch : ChainR w0 r tv L en 108 ⟨#[124, 124]⟩ 11 n k1 x k' x') :
    NRun w0 r tv L en 105 k k' x' := by
  intro w h
  have HLT : Hid (r < w.heap.size) := Lib.hid h.lt
  have hb1 := (Below.refl _ w).alloc (Nat.le_refl _) (.cells exZ 44)
  have HR1 := Lib.hid (row_alloc w 44 exZ)
  have HG1 := Lib.hid (below_grown (r := r) hb1)
  have HS1 : Hid ((w.alloc (.cells exZ 44)).heap.size = w.heap.size + 1) := Lib.hid (by simp)
  have HC1 := Lib.hid (h1 _ (h.later hb1))
  have HCH := Lib.hid hch
  have HW0 : Hid (w0.heap.size ≤ w.heap.size) := Lib.hid h.hb.size
  clear h h1 hb1 hch
  go_enter Tryz.func105, Tryz.ntmps105
  go_upto_region 1 with fail
  generalize w.alloc (.cells exZ 44) = w1 at *
  go_wp2_with fail
  refine HC1.out.mono ?_
  rintro e2 w2 ⟨c0, rfl, hx2, hp2, hg2⟩
  have hok := hx2.ok
  have hb3 := (Below.refl _ w2).alloc (Nat.le_refl _) (.cells c0 44)
  have HC3 : Hid (CX w0 r tv L en w w2.heap.size k1 x c0 (w2.alloc (.cells c0 44))) := Lib.hid (by
    have hz := HS1.out
    have hz2 := hg2.size
    refine ⟨hp2.later hb3, row_alloc _ _ _, (hx2.step (Nat.le_refl _) (fun b hb hlt => ⟨⟨by omega, by omega⟩, rfl⟩)).later hb3, grown_trans (grown_trans HG1.out hg2) (below_grown hb3), (HR1.out.grown hg2 (Nat.ne_of_gt HLT.out)).later hb3, by omega, HLT.out⟩)
  clear hp2 hg2 hx2 hb3 HG1 HR1 HC1
  go_wp2_with fail
  generalize w2.alloc (.cells c0 44) = w3 at *
  generalize w2.heap.size = g at *
  clear hok
  go_loopg [] n (fun gk wr => ∃ (m k : Nat) (x : PE) (c : Array Value), gk = m ∧ Hid (CX w0 r tv L en w g k x c wr) ∧ Hid (ChainR w0 r tv L en 108 ⟨#[124, 124]⟩ 11 m k x k' x'))
  case atStart => exact ⟨n, k1, x, c0, rfl, HC3, HCH⟩
  case round =>
    obtain ⟨m, k, x, c, rfl, HC, HR⟩ := hrel
    match gk, HR with
    | 0, HR =>
      obtain ⟨hB, hk', hx'⟩ := HR.out
      have hi := takesW ⟨#[124, 124]⟩ wr HC.out.nb
      rw [hB] at hi
      have HI := Lib.hid hi
      have HK := Lib.hid hk'
      have HX := Lib.hid hx'
      clear hB hk' hx' hi HR
      go_wp2_with fail
      refine HI.out.mono ?_
      rintro e5 w5 ⟨rfl, hp5, hg5⟩
      have HC5 := Lib.hid (HC.out.grown hg5 hp5)
      clear hp5 hg5 HC
      have hr := HC5.out.row
      have hb := hr.b (n := 8) HC5.out.ex.size
      have ho := hr.of
      have hbr := HC5.out.rs.b (n := 8) rfl
      have hok := HC5.out.ex.ok
      clear hr
      go_wp2_with fail
      refine bodyPost_ret (v := .agg c) (res_row Tryz.results105 ex_struct ex_size _ _ w.heap.size _ c rfl (HC5.out.rs.set c) HC5.out.ex.size) rfl ⟨_, rfl, ?_, ?_, ?_⟩
      · rw [HX.out]
        exact HC5.out.ex.step (S' := fun b => w.heap.size ≤ b) (by simp) fun b hb _ => ⟨by omega, setRow_other _ _ b c (by have := HC5.out.hg; omega)⟩
      · rw [HK.out]
        exact HC5.out.nb.other _ HW0.out (by have := HC5.out.hr; omega) c
      · exact grown_fill HC5.out.gr (Nat.le_refl _) c
    | m + 1, HR =>
      obtain ⟨hB, k2, y, hy, hrest⟩ := HR.out
      have hi := takesW ⟨#[124, 124]⟩ wr HC.out.nb
      rw [hB] at hi
      have HI := Lib.hid hi
      have HY := Lib.hid hy
      have HREST := Lib.hid hrest
      clear hB hi hy hrest HR
      go_wp2_with fail
      refine HI.out.mono ?_
      rintro e5 w5 ⟨rfl, hp5, hg5⟩
      have HC5 := Lib.hid (HC.out.grown hg5 hp5)
      clear hp5 hg5 HC
      go_upto_region 3 with fail
      have hgw := HC5.out.gr
      have hSr : ¬ (w.heap.size + 1 ≤ r ∧ r ≠ g) := by have := HLT.out; omega
      refine wp_region_kig 4 r (CxKn r c (fun b => w.heap.size + 1 ≤ b ∧ b ≠ g) 11 x y) (fun dn W => NB w0 r tv L en (if dn 2 then k2 else k + 1) W) 13 rfl (by kernel_rfl) (by kernel_rfl) (CxKn.later hSr w5) ?_ ?_ ?_ ?_
      · intro dn dn' W hdd hst
        rw [← hdd 2 (by decide)]
        exact hst
      · exact HC5.out.nb.later (Below.drew (Below.refl _ _))
      · intro j hj dn A W hother hgW hst hdj hd
        match j, hj with
        | 0, hj =>
          have h0 := tmps_at (show A.eval (.tmp 3) = .pointer (some ⟨g, 0, none⟩) from hother 3 (by kernel_rfl))
          have hr5 := HC5.out.row.grown hgW (by have := HC5.out.hg; have := HLT.out; omega)
          have hb5 := hr5.b (n := 8) HC5.out.ex.size
          have ho5 := hr5.of
          clear hother hd hj hr5
          exact kig_same rfl rfl (.agg c) (by simp only [execOp]; go_simp) rfl hst
        | 1, hj =>
          have h0 := tmps_at (show A.eval (.tmp 0) = .pointer (some ⟨r, 0, none⟩) from hother 0 (by kernel_rfl))
          clear hother hd hj
          exact kig_same rfl rfl (.pointer (some ⟨r, 0, none⟩)) (by simp only [execOp]; go_simp) rfl hst
        | 2, hj =>
          have h0 := tmps_at ((hd _ rfl ⟨1, .data⟩ (by simp) rfl).2.eq (.pointer (some ⟨r, 0, none⟩)) (fun _ h => h) 9 (by kernel_rfl) (by decide))
          have hst7 : NB w0 r tv L en (k + 1) W := by have h := hst; simp only [hdj] at h; exact h
          have hcall := HY.out W hst7
          clear hother hd hj
          refine kig_call rfl rfl 108 #[.pointer (some ⟨r, 0, none⟩)] (by simp only [execOp]; go_simp) (hcall.mono ?_)
          rintro e7 w7 ⟨d, rfl, hx7, hp7, hg7⟩
          refine ⟨_, rfl, hg7, ⟨d, rfl, hx7.step (Nat.le_refl _) (fun b hb hlt => ⟨⟨?_, ?_⟩, rfl⟩)⟩, hp7⟩
          · have h1 := (grown_trans hgw hgW).size; have h2 := HC5.out.hg; have h3 := HC5.out.row.lt; have h4 := hgW.size; omega
          · have h3 := HC5.out.row.lt; have h4 := hgW.size; omega
        | 3, hj =>
          obtain ⟨v7, ⟨d, e7, hx7⟩, h7⟩ := (hd _ rfl ⟨2, .data⟩ (by simp) rfl).2.get 10 (by kernel_rfl) (by decide)
          rw [e7] at h7
          have h0 := tmps_at h7
          have h1 := tmps_at ((hd _ rfl ⟨0, .data⟩ (by simp) rfl).2.eq (.agg c) (fun _ h => h) 8 (by kernel_rfl) (by decide))
          have hcall := twoW 11 (fun b => w.heap.size + 1 ≤ b ∧ b ≠ g) c d x y W (HC5.out.ex.grown hgW hSr) hx7
          have hW : g < W.heap.size := by have h3 := HC5.out.row.lt; have h4 := hgW.size; omega
          have hg5 := HC5.out.hg
          clear hother hd hj hx7
          refine kig_call rfl rfl 88 #[.int .u8 (11 : Int), .agg c, .agg d] (by simp only [execOp]; go_simp) (hcall.mono ?_)
          rintro e9 w9 ⟨d9, rfl, hx9, hb9⟩
          exact ⟨_, rfl, below_grown hb9, ⟨_, rfl, hx9.step (Nat.le_refl _) fun b hb _ => ⟨by omega, rfl⟩⟩, hst.later hb9⟩
        | q + 4, hj => omega
      · intro us W hgW hst hk
        obtain ⟨d, e9, hx9⟩ := hk 3 (by decide)
        have hr9 := HC5.out.row.grown hgW (by have := HC5.out.hg; have := HLT.out; omega)
        have hb9 := hr9.b (n := 8) HC5.out.ex.size
        have hok9 := hx9.ok
        have HX9 := Lib.hid hx9
        have HPW : Hid (NB w0 r tv L en k2 W) := Lib.hid hst
        have HC9 : Hid (CX w0 r tv L en w g k2 (.node 11 [x, y]) d (W.setRow g d)) := Lib.hid (by
          have hC := HC5.out.grown hgW HPW.out
          have h2 := hC.hg
          have h3 := hC.hr
          have h4 := HW0.out
          exact ⟨hC.nb.other g (by omega) (by omega) d, hC.row.set d, HX9.out.set (fun h => h.2 rfl), grown_fill hC.gr (by omega) d, (setRow_other W g _ d (by omega)).trans hC.rs, h2, h3⟩)
        clear hk hst hgW hr9 hx9 hgw
        simp only [List.drop_succ_cons, List.drop_zero, putAll, dstOf, Act.put, List.getElem?_toArray, List.getElem?_cons_zero, List.getElem?_cons_succ, Option.bind_some]
        simp only [List.setIfInBounds_toArray, List.set_cons_zero, List.set_cons_succ]
        rw [e9]
        go_wp2_with fail
        go_roundg m
        case measure => exact Nat.lt_succ_self _
        case rel => exact ⟨m, k2, .node 11 [x, y], d, rfl, HC9, HREST⟩
set_option maxRecDepth 100000 in
set_option maxHeartbeats 8000000 in
theorem iandW (n k k1 k' : Nat) (x x' : PE) (h1 : NRun w0 r tv L en 101 k k1 x) (hch : ChainR w0 r tv L en 101 ⟨#[65, 78, 68]⟩ 18 n k1 x k' x') :
    NRun w0 r tv L en 87 k k' x' := by
  intro w h
  have HLT : Hid (r < w.heap.size) := Lib.hid h.lt
  have hb1 := (Below.refl _ w).alloc (Nat.le_refl _) (.cells exZ 44)
  have HR1 := Lib.hid (row_alloc w 44 exZ)
  have HG1 := Lib.hid (below_grown (r := r) hb1)
  have HS1 : Hid ((w.alloc (.cells exZ 44)).heap.size = w.heap.size + 1) := Lib.hid (by simp)
  have HC1 := Lib.hid (h1 _ (h.later hb1))
  have HCH := Lib.hid hch
  have HW0 : Hid (w0.heap.size ≤ w.heap.size) := Lib.hid h.hb.size
  clear h h1 hb1 hch
  go_enter Tryz.func87, Tryz.ntmps87
  go_upto_region 1 with fail
  generalize w.alloc (.cells exZ 44) = w1 at *
  go_wp2_with fail
  refine HC1.out.mono ?_
  rintro e2 w2 ⟨c0, rfl, hx2, hp2, hg2⟩
  have hok := hx2.ok
  have hb3 := (Below.refl _ w2).alloc (Nat.le_refl _) (.cells c0 44)
  have HC3 : Hid (CX w0 r tv L en w w2.heap.size k1 x c0 (w2.alloc (.cells c0 44))) := Lib.hid (by
    have hz := HS1.out
    have hz2 := hg2.size
    refine ⟨hp2.later hb3, row_alloc _ _ _, (hx2.step (Nat.le_refl _) (fun b hb hlt => ⟨⟨by omega, by omega⟩, rfl⟩)).later hb3, grown_trans (grown_trans HG1.out hg2) (below_grown hb3), (HR1.out.grown hg2 (Nat.ne_of_gt HLT.out)).later hb3, by omega, HLT.out⟩)
  clear hp2 hg2 hx2 hb3 HG1 HR1 HC1
  go_wp2_with fail
  generalize w2.alloc (.cells c0 44) = w3 at *
  generalize w2.heap.size = g at *
  clear hok
  go_loopg [] n (fun gk wr => ∃ (m k : Nat) (x : PE) (c : Array Value), gk = m ∧ Hid (CX w0 r tv L en w g k x c wr) ∧ Hid (ChainR w0 r tv L en 101 ⟨#[65, 78, 68]⟩ 18 m k x k' x'))
  case atStart => exact ⟨n, k1, x, c0, rfl, HC3, HCH⟩
  case round =>
    obtain ⟨m, k, x, c, rfl, HC, HR⟩ := hrel
    match gk, HR with
    | 0, HR =>
      obtain ⟨hB, hk', hx'⟩ := HR.out
      have hi := takesW ⟨#[65, 78, 68]⟩ wr HC.out.nb
      rw [hB] at hi
      have HI := Lib.hid hi
      have HK := Lib.hid hk'
      have HX := Lib.hid hx'
      clear hB hk' hx' hi HR
      go_wp2_with fail
      refine HI.out.mono ?_
      rintro e5 w5 ⟨rfl, hp5, hg5⟩
      have HC5 := Lib.hid (HC.out.grown hg5 hp5)
      clear hp5 hg5 HC
      have hr := HC5.out.row
      have hb := hr.b (n := 8) HC5.out.ex.size
      have ho := hr.of
      have hbr := HC5.out.rs.b (n := 8) rfl
      have hok := HC5.out.ex.ok
      clear hr
      go_wp2_with fail
      refine bodyPost_ret (v := .agg c) (res_row Tryz.results87 ex_struct ex_size _ _ w.heap.size _ c rfl (HC5.out.rs.set c) HC5.out.ex.size) rfl ⟨_, rfl, ?_, ?_, ?_⟩
      · rw [HX.out]
        exact HC5.out.ex.step (S' := fun b => w.heap.size ≤ b) (by simp) fun b hb _ => ⟨by omega, setRow_other _ _ b c (by have := HC5.out.hg; omega)⟩
      · rw [HK.out]
        exact HC5.out.nb.other _ HW0.out (by have := HC5.out.hr; omega) c
      · exact grown_fill HC5.out.gr (Nat.le_refl _) c
    | m + 1, HR =>
      obtain ⟨hB, k2, y, hy, hrest⟩ := HR.out
      have hi := takesW ⟨#[65, 78, 68]⟩ wr HC.out.nb
      rw [hB] at hi
      have HI := Lib.hid hi
      have HY := Lib.hid hy
      have HREST := Lib.hid hrest
      clear hB hi hy hrest HR
      go_wp2_with fail
      refine HI.out.mono ?_
      rintro e5 w5 ⟨rfl, hp5, hg5⟩
      have HC5 := Lib.hid (HC.out.grown hg5 hp5)
      clear hp5 hg5 HC
      go_upto_region 3 with fail
      have hgw := HC5.out.gr
      have hSr : ¬ (w.heap.size + 1 ≤ r ∧ r ≠ g) := by have := HLT.out; omega
      refine wp_region_kig 4 r (CxKn r c (fun b => w.heap.size + 1 ≤ b ∧ b ≠ g) 18 x y) (fun dn W => NB w0 r tv L en (if dn 2 then k2 else k + 1) W) 13 rfl (by kernel_rfl) (by kernel_rfl) (CxKn.later hSr w5) ?_ ?_ ?_ ?_
      · intro dn dn' W hdd hst
        rw [← hdd 2 (by decide)]
        exact hst
      · exact HC5.out.nb.later (Below.drew (Below.refl _ _))
      · intro j hj dn A W hother hgW hst hdj hd
        match j, hj with
        | 0, hj =>
          have h0 := tmps_at (show A.eval (.tmp 3) = .pointer (some ⟨g, 0, none⟩) from hother 3 (by kernel_rfl))
          have hr5 := HC5.out.row.grown hgW (by have := HC5.out.hg; have := HLT.out; omega)
          have hb5 := hr5.b (n := 8) HC5.out.ex.size
          have ho5 := hr5.of
          clear hother hd hj hr5
          exact kig_same rfl rfl (.agg c) (by simp only [execOp]; go_simp) rfl hst
        | 1, hj =>
          have h0 := tmps_at (show A.eval (.tmp 0) = .pointer (some ⟨r, 0, none⟩) from hother 0 (by kernel_rfl))
          clear hother hd hj
          exact kig_same rfl rfl (.pointer (some ⟨r, 0, none⟩)) (by simp only [execOp]; go_simp) rfl hst
        | 2, hj =>
          have h0 := tmps_at ((hd _ rfl ⟨1, .data⟩ (by simp) rfl).2.eq (.pointer (some ⟨r, 0, none⟩)) (fun _ h => h) 9 (by kernel_rfl) (by decide))
          have hst7 : NB w0 r tv L en (k + 1) W := by have h := hst; simp only [hdj] at h; exact h
          have hcall := HY.out W hst7
          clear hother hd hj
          refine kig_call rfl rfl 101 #[.pointer (some ⟨r, 0, none⟩)] (by simp only [execOp]; go_simp) (hcall.mono ?_)
          rintro e7 w7 ⟨d, rfl, hx7, hp7, hg7⟩
          refine ⟨_, rfl, hg7, ⟨d, rfl, hx7.step (Nat.le_refl _) (fun b hb hlt => ⟨⟨?_, ?_⟩, rfl⟩)⟩, hp7⟩
          · have h1 := (grown_trans hgw hgW).size; have h2 := HC5.out.hg; have h3 := HC5.out.row.lt; have h4 := hgW.size; omega
          · have h3 := HC5.out.row.lt; have h4 := hgW.size; omega
        | 3, hj =>
          obtain ⟨v7, ⟨d, e7, hx7⟩, h7⟩ := (hd _ rfl ⟨2, .data⟩ (by simp) rfl).2.get 10 (by kernel_rfl) (by decide)
          rw [e7] at h7
          have h0 := tmps_at h7
          have h1 := tmps_at ((hd _ rfl ⟨0, .data⟩ (by simp) rfl).2.eq (.agg c) (fun _ h => h) 8 (by kernel_rfl) (by decide))
          have hcall := twoW 18 (fun b => w.heap.size + 1 ≤ b ∧ b ≠ g) c d x y W (HC5.out.ex.grown hgW hSr) hx7
          have hW : g < W.heap.size := by have h3 := HC5.out.row.lt; have h4 := hgW.size; omega
          have hg5 := HC5.out.hg
          clear hother hd hj hx7
          refine kig_call rfl rfl 88 #[.int .u8 (18 : Int), .agg c, .agg d] (by simp only [execOp]; go_simp) (hcall.mono ?_)
          rintro e9 w9 ⟨d9, rfl, hx9, hb9⟩
          exact ⟨_, rfl, below_grown hb9, ⟨_, rfl, hx9.step (Nat.le_refl _) fun b hb _ => ⟨by omega, rfl⟩⟩, hst.later hb9⟩
        | q + 4, hj => omega
      · intro us W hgW hst hk
        obtain ⟨d, e9, hx9⟩ := hk 3 (by decide)
        have hr9 := HC5.out.row.grown hgW (by have := HC5.out.hg; have := HLT.out; omega)
        have hb9 := hr9.b (n := 8) HC5.out.ex.size
        have hok9 := hx9.ok
        have HX9 := Lib.hid hx9
        have HPW : Hid (NB w0 r tv L en k2 W) := Lib.hid hst
        have HC9 : Hid (CX w0 r tv L en w g k2 (.node 18 [x, y]) d (W.setRow g d)) := Lib.hid (by
          have hC := HC5.out.grown hgW HPW.out
          have h2 := hC.hg
          have h3 := hC.hr
          have h4 := HW0.out
          exact ⟨hC.nb.other g (by omega) (by omega) d, hC.row.set d, HX9.out.set (fun h => h.2 rfl), grown_fill hC.gr (by omega) d, (setRow_other W g _ d (by omega)).trans hC.rs, h2, h3⟩)
        clear hk hst hgW hr9 hx9 hgw
        simp only [List.drop_succ_cons, List.drop_zero, putAll, dstOf, Act.put, List.getElem?_toArray, List.getElem?_cons_zero, List.getElem?_cons_succ, Option.bind_some]
        simp only [List.setIfInBounds_toArray, List.set_cons_zero, List.set_cons_succ]
        rw [e9]
        go_wp2_with fail
        go_roundg m
        case measure => exact Nat.lt_succ_self _
        case rel => exact ⟨m, k2, .node 18 [x, y], d, rfl, HC9, HREST⟩
set_option maxRecDepth 100000 in
set_option maxHeartbeats 8000000 in
theorem iorW (n k k1 k' : Nat) (x x' : PE) (h1 : NRun w0 r tv L en 87 k k1 x) (hch : ChainR w0 r tv L en 87 ⟨#[79, 82]⟩ 19 n k1 x k' x') :
    NRun w0 r tv L en 54 k k' x' := by
  intro w h
  have HLT : Hid (r < w.heap.size) := Lib.hid h.lt
  have hb1 := (Below.refl _ w).alloc (Nat.le_refl _) (.cells exZ 44)
  have HR1 := Lib.hid (row_alloc w 44 exZ)
  have HG1 := Lib.hid (below_grown (r := r) hb1)
  have HS1 : Hid ((w.alloc (.cells exZ 44)).heap.size = w.heap.size + 1) := Lib.hid (by simp)
  have HC1 := Lib.hid (h1 _ (h.later hb1))
  have HCH := Lib.hid hch
  have HW0 : Hid (w0.heap.size ≤ w.heap.size) := Lib.hid h.hb.size
  clear h h1 hb1 hch
  go_enter Tryz.func54, Tryz.ntmps54
  go_upto_region 1 with fail
  generalize w.alloc (.cells exZ 44) = w1 at *
  go_wp2_with fail
  refine HC1.out.mono ?_
  rintro e2 w2 ⟨c0, rfl, hx2, hp2, hg2⟩
  have hok := hx2.ok
  have hb3 := (Below.refl _ w2).alloc (Nat.le_refl _) (.cells c0 44)
  have HC3 : Hid (CX w0 r tv L en w w2.heap.size k1 x c0 (w2.alloc (.cells c0 44))) := Lib.hid (by
    have hz := HS1.out
    have hz2 := hg2.size
    refine ⟨hp2.later hb3, row_alloc _ _ _, (hx2.step (Nat.le_refl _) (fun b hb hlt => ⟨⟨by omega, by omega⟩, rfl⟩)).later hb3, grown_trans (grown_trans HG1.out hg2) (below_grown hb3), (HR1.out.grown hg2 (Nat.ne_of_gt HLT.out)).later hb3, by omega, HLT.out⟩)
  clear hp2 hg2 hx2 hb3 HG1 HR1 HC1
  go_wp2_with fail
  generalize w2.alloc (.cells c0 44) = w3 at *
  generalize w2.heap.size = g at *
  clear hok
  go_loopg [] n (fun gk wr => ∃ (m k : Nat) (x : PE) (c : Array Value), gk = m ∧ Hid (CX w0 r tv L en w g k x c wr) ∧ Hid (ChainR w0 r tv L en 87 ⟨#[79, 82]⟩ 19 m k x k' x'))
  case atStart => exact ⟨n, k1, x, c0, rfl, HC3, HCH⟩
  case round =>
    obtain ⟨m, k, x, c, rfl, HC, HR⟩ := hrel
    match gk, HR with
    | 0, HR =>
      obtain ⟨hB, hk', hx'⟩ := HR.out
      have hi := takesW ⟨#[79, 82]⟩ wr HC.out.nb
      rw [hB] at hi
      have HI := Lib.hid hi
      have HK := Lib.hid hk'
      have HX := Lib.hid hx'
      clear hB hk' hx' hi HR
      go_wp2_with fail
      refine HI.out.mono ?_
      rintro e5 w5 ⟨rfl, hp5, hg5⟩
      have HC5 := Lib.hid (HC.out.grown hg5 hp5)
      clear hp5 hg5 HC
      have hr := HC5.out.row
      have hb := hr.b (n := 8) HC5.out.ex.size
      have ho := hr.of
      have hbr := HC5.out.rs.b (n := 8) rfl
      have hok := HC5.out.ex.ok
      clear hr
      go_wp2_with fail
      refine bodyPost_ret (v := .agg c) (res_row Tryz.results54 ex_struct ex_size _ _ w.heap.size _ c rfl (HC5.out.rs.set c) HC5.out.ex.size) rfl ⟨_, rfl, ?_, ?_, ?_⟩
      · rw [HX.out]
        exact HC5.out.ex.step (S' := fun b => w.heap.size ≤ b) (by simp) fun b hb _ => ⟨by omega, setRow_other _ _ b c (by have := HC5.out.hg; omega)⟩
      · rw [HK.out]
        exact HC5.out.nb.other _ HW0.out (by have := HC5.out.hr; omega) c
      · exact grown_fill HC5.out.gr (Nat.le_refl _) c
    | m + 1, HR =>
      obtain ⟨hB, k2, y, hy, hrest⟩ := HR.out
      have hi := takesW ⟨#[79, 82]⟩ wr HC.out.nb
      rw [hB] at hi
      have HI := Lib.hid hi
      have HY := Lib.hid hy
      have HREST := Lib.hid hrest
      clear hB hi hy hrest HR
      go_wp2_with fail
      refine HI.out.mono ?_
      rintro e5 w5 ⟨rfl, hp5, hg5⟩
      have HC5 := Lib.hid (HC.out.grown hg5 hp5)
      clear hp5 hg5 HC
      go_upto_region 3 with fail
      have hgw := HC5.out.gr
      have hSr : ¬ (w.heap.size + 1 ≤ r ∧ r ≠ g) := by have := HLT.out; omega
      refine wp_region_kig 4 r (CxKn r c (fun b => w.heap.size + 1 ≤ b ∧ b ≠ g) 19 x y) (fun dn W => NB w0 r tv L en (if dn 2 then k2 else k + 1) W) 13 rfl (by kernel_rfl) (by kernel_rfl) (CxKn.later hSr w5) ?_ ?_ ?_ ?_
      · intro dn dn' W hdd hst
        rw [← hdd 2 (by decide)]
        exact hst
      · exact HC5.out.nb.later (Below.drew (Below.refl _ _))
      · intro j hj dn A W hother hgW hst hdj hd
        match j, hj with
        | 0, hj =>
          have h0 := tmps_at (show A.eval (.tmp 3) = .pointer (some ⟨g, 0, none⟩) from hother 3 (by kernel_rfl))
          have hr5 := HC5.out.row.grown hgW (by have := HC5.out.hg; have := HLT.out; omega)
          have hb5 := hr5.b (n := 8) HC5.out.ex.size
          have ho5 := hr5.of
          clear hother hd hj hr5
          exact kig_same rfl rfl (.agg c) (by simp only [execOp]; go_simp) rfl hst
        | 1, hj =>
          have h0 := tmps_at (show A.eval (.tmp 0) = .pointer (some ⟨r, 0, none⟩) from hother 0 (by kernel_rfl))
          clear hother hd hj
          exact kig_same rfl rfl (.pointer (some ⟨r, 0, none⟩)) (by simp only [execOp]; go_simp) rfl hst
        | 2, hj =>
          have h0 := tmps_at ((hd _ rfl ⟨1, .data⟩ (by simp) rfl).2.eq (.pointer (some ⟨r, 0, none⟩)) (fun _ h => h) 9 (by kernel_rfl) (by decide))
          have hst7 : NB w0 r tv L en (k + 1) W := by have h := hst; simp only [hdj] at h; exact h
          have hcall := HY.out W hst7
          clear hother hd hj
          refine kig_call rfl rfl 87 #[.pointer (some ⟨r, 0, none⟩)] (by simp only [execOp]; go_simp) (hcall.mono ?_)
          rintro e7 w7 ⟨d, rfl, hx7, hp7, hg7⟩
          refine ⟨_, rfl, hg7, ⟨d, rfl, hx7.step (Nat.le_refl _) (fun b hb hlt => ⟨⟨?_, ?_⟩, rfl⟩)⟩, hp7⟩
          · have h1 := (grown_trans hgw hgW).size; have h2 := HC5.out.hg; have h3 := HC5.out.row.lt; have h4 := hgW.size; omega
          · have h3 := HC5.out.row.lt; have h4 := hgW.size; omega
        | 3, hj =>
          obtain ⟨v7, ⟨d, e7, hx7⟩, h7⟩ := (hd _ rfl ⟨2, .data⟩ (by simp) rfl).2.get 10 (by kernel_rfl) (by decide)
          rw [e7] at h7
          have h0 := tmps_at h7
          have h1 := tmps_at ((hd _ rfl ⟨0, .data⟩ (by simp) rfl).2.eq (.agg c) (fun _ h => h) 8 (by kernel_rfl) (by decide))
          have hcall := twoW 19 (fun b => w.heap.size + 1 ≤ b ∧ b ≠ g) c d x y W (HC5.out.ex.grown hgW hSr) hx7
          have hW : g < W.heap.size := by have h3 := HC5.out.row.lt; have h4 := hgW.size; omega
          have hg5 := HC5.out.hg
          clear hother hd hj hx7
          refine kig_call rfl rfl 88 #[.int .u8 (19 : Int), .agg c, .agg d] (by simp only [execOp]; go_simp) (hcall.mono ?_)
          rintro e9 w9 ⟨d9, rfl, hx9, hb9⟩
          exact ⟨_, rfl, below_grown hb9, ⟨_, rfl, hx9.step (Nat.le_refl _) fun b hb _ => ⟨by omega, rfl⟩⟩, hst.later hb9⟩
        | q + 4, hj => omega
      · intro us W hgW hst hk
        obtain ⟨d, e9, hx9⟩ := hk 3 (by decide)
        have hr9 := HC5.out.row.grown hgW (by have := HC5.out.hg; have := HLT.out; omega)
        have hb9 := hr9.b (n := 8) HC5.out.ex.size
        have hok9 := hx9.ok
        have HX9 := Lib.hid hx9
        have HPW : Hid (NB w0 r tv L en k2 W) := Lib.hid hst
        have HC9 : Hid (CX w0 r tv L en w g k2 (.node 19 [x, y]) d (W.setRow g d)) := Lib.hid (by
          have hC := HC5.out.grown hgW HPW.out
          have h2 := hC.hg
          have h3 := hC.hr
          have h4 := HW0.out
          exact ⟨hC.nb.other g (by omega) (by omega) d, hC.row.set d, HX9.out.set (fun h => h.2 rfl), grown_fill hC.gr (by omega) d, (setRow_other W g _ d (by omega)).trans hC.rs, h2, h3⟩)
        clear hk hst hgW hr9 hx9 hgw
        simp only [List.drop_succ_cons, List.drop_zero, putAll, dstOf, Act.put, List.getElem?_toArray, List.getElem?_cons_zero, List.getElem?_cons_succ, Option.bind_some]
        simp only [List.setIfInBounds_toArray, List.set_cons_zero, List.set_cons_succ]
        rw [e9]
        go_wp2_with fail
        go_roundg m
        case measure => exact Nat.lt_succ_self _
        case rel => exact ⟨m, k2, .node 19 [x, y], d, rfl, HC9, HREST⟩
end Go.Proofs.YtjgkeillmelkoaaGreat.Dt
