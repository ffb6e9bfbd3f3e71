/- PlanParts: the law returns true at every input. -/
import Derived.Test.YtjgkeillmelkoaaGreatBp04
import Derived.Test.YtjgkeillmelkoaaGreatBp37
namespace Go.Proofs.YtjgkeillmelkoaaGreat.PlanParts
open Go.ChangeShapes Go.WideShapes Go.ChangeAt Go.RowKit Go.Proofs.YtjgkeillmelkoaaGreat.By
set_option linter.unusedVariables false
-- witness .agg #[.int .u8 0, .int .u8 0, .int .i64 0, .string ByteArray.empty, .string ByteArray.empty, .string ByteArray.empty, .int .i64 0, .slice none 0 0]
-- witness .agg #[.int .u8 0, .int .u8 0, .int .i64 0, .string ByteArray.empty, .string ByteArray.empty, .string ByteArray.empty, .int .i64 0, .slice none 0 0]
/- PlanParts: the parts of what AND joins are the parts of the one, and of the other one; so are the simple ones; OR has one part. No conditions. -/
open Go.Proofs.YtjgkeillmelkoaaGreat.Dt
abbrev exc (x : PE) (kv : Value) : Array Value := #[.int .u8 (x.op : Int), .int .u8 (x.v.k : Int), .int .i64 x.v.n, .string x.v.s, .string x.t, .string x.m, .int .i64 x.n, kv]
def OneKn (m : Nat) (XC YC : Array Value) (j : Nat) (v : Value) (w : World) : Prop := match j with
  | 0 => v = .agg XC
  | 1 => ∃ g, v = .slice (some ⟨g, 0, none⟩) 1 1 ∧ m ≤ g ∧ Row g 44 XC w
  | 2 => v = .agg YC
  | 3 => ∃ g, v = .slice (some ⟨g, 0, none⟩) 1 1 ∧ m ≤ g ∧ Row g 44 YC w
  | 4 => ∃ g, v = .slice (some ⟨g, 0, none⟩) 1 1 ∧ m ≤ g ∧ Row g 44 XC w
  | _ => ∃ g, v = .slice (some ⟨g, 0, none⟩) 1 1 ∧ m ≤ g ∧ Row g 44 YC w
theorem OneKn.later {m : Nat} {XC YC : Array Value} (j : Nat) (v : Value) (w1 w2 : World) (h : OneKn m XC YC j v w1) (hb : Below w1.heap.size w1 w2) : OneKn m XC YC j v w2 :=
  match j, h with
  | 0, h => h
  | 1, ⟨g, e, hm, h⟩ => ⟨g, e, hm, h.later hb⟩
  | 2, h => h
  | 3, ⟨g, e, hm, h⟩ => ⟨g, e, hm, h.later hb⟩
  | 4, ⟨g, e, hm, h⟩ => ⟨g, e, hm, h.later hb⟩
  | _ + 5, ⟨g, e, hm, h⟩ => ⟨g, e, hm, h.later hb⟩
/-- A literal of one node over two expressions. -/
theorem node_lit {W w : World} {k gk ga : Nat} {x y : PE} {kx ky : Value} {C D : Array Value} (hC : C = exc x kx) (hD : D = exc y ky) (hx : ExsR W kx x.kids) (hy : ExsR W ky y.kids) (hb : Below W.heap.size W w) (r1 : Row gk 44 (C ++ D) w)
    (r2 : Row ga 44 #[.int .u8 (k : Int), .int .u8 0, .int .i64 0, .string ⟨#[]⟩, .string ⟨#[]⟩, .string ⟨#[]⟩, .int .i64 0, .slice (some ⟨gk, 0, none⟩) 2 2] w) : ExsR w (.slice (some ⟨ga, 0, none⟩) 1 1) [PE.node k [x, y]] := by
  subst hC hD
  have h1 := (prow_lit2 (w0 := W) (lo := 0) r1 rfl rfl (show ExR W (exc x kx).toList x from exR_iff.2 ⟨_, rfl, hx⟩) (show ExR W (exc y ky).toList y from exR_iff.2 ⟨_, rfl, hy⟩) (Nat.zero_le _)).exs hb
  exact (prow_lit (w0 := w) (lo := 0) r2 rfl (show ExR w _ (PE.node k [x, y]) from exR_iff.2 ⟨_, rfl, h1⟩) (Nat.zero_le _)).exs (Below.refl _ _)
theorem one_lit {W w : World} {g : Nat} {x : PE} {kx : Value} {C : Array Value} (hC : C = exc x kx) (hx : ExsR W kx x.kids) (hb : Below W.heap.size W w) (r : Row g 44 C w) : ExsR w (.slice (some ⟨g, 0, none⟩) 1 1) [x] := by
  subst hC
  exact (prow_lit (w0 := W) (lo := 0) r rfl (show ExR W (exc x kx).toList x from exR_iff.2 ⟨_, rfl, hx⟩) (Nat.zero_le _)).exs hb
theorem two_lit {W w : World} {g : Nat} {x y : PE} {kx ky : Value} {C D : Array Value} (hC : C = exc x kx) (hD : D = exc y ky) (hx : ExsR W kx x.kids) (hy : ExsR W ky y.kids) (hb : Below W.heap.size W w) (r : Row g 44 (C ++ D) w) : ExsR w (.slice (some ⟨g, 0, none⟩) 2 2) [x, y] := by
  subst hC hD
  exact (prow_lit2 (w0 := W) (lo := 0) r rfl rfl (show ExR W (exc x kx).toList x from exR_iff.2 ⟨_, rfl, hx⟩) (show ExR W (exc y ky).toList y from exR_iff.2 ⟨_, rfl, hy⟩) (Nat.zero_le _)).exs hb
theorem pl_list_runG {P : Program} {ops : Array Oper} {rest : List Oper} {o : Oper} {a : Act} {w : World} {Q : Exit → Act → World → Prop} (hw : Region.wanted o (yielded ops a.tmps) = true) (s x : Operand) (t : TypeId)
    (ho : o.op = .call { callee := .builtin .append, args := #[s, x], argTypes := #[t, t] }) {v sv : Value} (hs : a.eval s = v) (hx : a.eval x = sv) {v' : Value} {w' : World} (hr : (Builtin.append_ #[t, t] o.type #[v, sv]).run P w = .ok v' w')
    (h : wpList P ops Q rest (a.put o.dst v') w') : wpList P ops Q (o :: rest) a w := by
  unfold wpList
  rw [if_pos hw]
  refine .inl ?_
  unfold Oper.wp execOp
  simp only [ho, resolve, invoke, builtin, Sem.run_bind, Sem.run_pure, Result.andThen_ok, List.map_toArray, List.map_cons, List.map_nil, hs, hx, hr]
  exact h
def simL (l : List PE) : List PE := (partsL l).filter simpleB
theorem filt_len (l : List PE) : (simL l).length ≤ cntL l := Nat.le_trans (List.length_filter_le _ _) (parts_cntL l)
theorem filt_short (l : List PE) (h : ∀ z, z ∈ l → Short z) : ∀ y, y ∈ simL l → Short y := fun y hy => parts_shortL l h y (List.mem_filter.1 hy).1
theorem simW {l : List PE} {v : Value} {w0 w : World} (hc : cntL l ≤ 1000000) (hb : Below w0.heap.size w0 w) (h : ExsR w0 v l) :
    Calls Tryz.prog 13 #[v] w fun e w' => ∃ v', e = .returned v' ∧ PRow w0 w.heap.size w' v' (simL l) ∧ Below w.heap.size w w' := plSimpleW hc hb h
attribute [local go_sem ↓] veilSt_ex veilLd_ex veilBs_ex
attribute [local go_sem] run_exSt run_exNew run_exLd okRow8 Value.oneCell'
set_option maxRecDepth 100000 in
set_option maxHeartbeats 64000000 in
theorem walk (x y : PE) (kx ky : Value) (W : World) (hx : ExsR W kx x.kids) (hy : ExsR W ky y.kids) (sx : Short x) (sy : Short y) :
    Calls Tryz.prog 4 #[x.val kx, y.val ky] W fun e w' => e = .returned (.bool true) ∧ Below W.heap.size W w' := by
  obtain ⟨ka, kc, rfl, _⟩ := hx.shape
  obtain ⟨ja, jc, rfl, _⟩ := hy.shape
  obtain ⟨XC, hXC⟩ : ∃ C, C = exc x (.slice ka x.kids.length kc) := ⟨_, rfl⟩
  obtain ⟨YC, hYC⟩ : ∃ C, C = exc y (.slice ja y.kids.length jc) := ⟨_, rfl⟩
  have HXC := Lib.hid hXC
  have HYC := Lib.hid hYC
  have zx : XC.size = 8 := by rw [hXC]; rfl
  have zy : YC.size = 8 := by rw [hYC]; rfl
  show Calls Tryz.prog 4 #[.agg (exc x (.slice ka x.kids.length kc)), .agg (exc y (.slice ja y.kids.length jc))] W fun e w' => e = .returned (.bool true) ∧ Below W.heap.size W w'
  rw [← hXC, ← hYC]
  clear hXC hYC
  have h1 := row_alloc W 44 XC
  have b1 := (Below.refl _ W).alloc (Nat.le_refl _) (.cells XC 44)
  have h2 := row_alloc (W.alloc (.cells XC 44)) 44 YC
  have b2 := (Below.refl _ (W.alloc (.cells XC 44))).alloc (Nat.le_refl _) (.cells YC 44)
  rw [show (W.alloc (.cells XC 44)).heap.size = W.heap.size + 1 by simp] at h2
  have HX := Lib.hid hx
  have HY := Lib.hid hy
  have SX := Lib.hid sx
  have SY := Lib.hid sy
  have HR1 := Lib.hid (h1.later b2)
  have HR2 := Lib.hid h2
  have HB := Lib.hid (next b1 b2)
  have HW := Lib.hid (worksY ((W.alloc (.cells XC 44)).alloc (.cells YC 44)))
  clear hx hy sx sy h1 b1 h2 b2
  go_enter Tryz.func4, Tryz.ntmps4
  go_upto_region 1 with fail
  generalize (W.alloc (.cells XC 44)).alloc (.cells YC 44) = w1 at *
  go_wp2_with fail
  refine HW.out.mono ?_
  rintro e2 w2 ⟨rfl, hb2⟩
  have HR12 := Lib.hid (HR1.out.later hb2)
  have HR22 := Lib.hid (HR2.out.later hb2)
  have HB2 := Lib.hid (next HB.out hb2)
  clear hb2 HR1 HR2 HB HW
  have hsx := sizeYTop x (.slice ka x.kids.length kc) w2 SX.out (exsR_below HX.out HB2.out)
  change Calls Tryz.prog 10 #[.agg (exc x (.slice ka x.kids.length kc)), .int .i64 0] w2 _ at hsx
  rw [← HXC.out] at hsx
  have HSX := Lib.hid hsx
  have r1 := HR12.out.b (n := 8) zx
  have o1 := HR12.out.of
  clear hsx
  go_wp2_with fail
  refine HSX.out.mono ?_
  rintro e3 w3 ⟨rfl, hb3⟩
  have HR13 := Lib.hid (HR12.out.later hb3)
  have HR23 := Lib.hid (HR22.out.later hb3)
  have HB3 := Lib.hid (next HB2.out hb3)
  clear hb3 HR12 HR22 HB2 HSX r1 o1
  by_cases hgx : 300 < syE 201 x
  · have ig : (300 : Int) < (syE 201 x : Int) := by omega
    clear hgx
    go_wp2_with fail
    go_ret
    exact ⟨rfl, HB3.out⟩
  · have ig : ¬ (300 : Int) < (syE 201 x : Int) := by omega
    have HCX : Hid (cntE x ≤ 300) := Lib.hid (by rw [syE_cnt 201 x (by omega)]; omega)
    clear hgx
    have hsy := sizeYTop y (.slice ja y.kids.length jc) w3 SY.out (exsR_below HY.out HB3.out)
    change Calls Tryz.prog 10 #[.agg (exc y (.slice ja y.kids.length jc)), .int .i64 0] w3 _ at hsy
    rw [← HYC.out] at hsy
    have HSY := Lib.hid hsy
    have r2 := HR23.out.b (n := 8) zy
    have o2 := HR23.out.of
    clear hsy
    go_wp2_with fail
    refine HSY.out.mono ?_
    rintro e4 w4 ⟨rfl, hb4⟩
    have HR14 := Lib.hid (HR13.out.later hb4)
    have HR24 := Lib.hid (HR23.out.later hb4)
    have HB4 := Lib.hid (next HB3.out hb4)
    clear hb4 HR13 HR23 HB3 HSY r2 o2
    by_cases hgy : 300 < syE 201 y
    · have ih : (300 : Int) < (syE 201 y : Int) := by omega
      clear hgy
      go_wp2_with fail
      go_ret
      exact ⟨rfl, HB4.out⟩
    · have ih : ¬ (300 : Int) < (syE 201 y : Int) := by omega
      have HCY : Hid (cntE y ≤ 300) := Lib.hid (by rw [syE_cnt 201 y (by omega)]; omega)
      clear hgy
      go_upto_region 5 with fail
      have r1 := HR14.out.b (n := 8) zx
      have o1 := HR14.out.of
      have r2 := HR24.out.b (n := 8) zy
      have o2 := HR24.out.of
      have hs2 : (veilBs 32 2 #[(0, .agg XC), (1, .agg YC)]).run Tryz.prog w4 = .ok (.slice (some ⟨w4.heap.size, 0, none⟩) 2 2) (w4.alloc (.cells (XC ++ YC) 44)) := run_bs2 w4 _ _ zx zy
      have ra := row_alloc w4 44 (XC ++ YC)
      have ba := (Below.refl _ w4).alloc (Nat.le_refl _) (.cells (XC ++ YC) 44)
      have hs1 : (veilBs 32 1 #[(0, .agg #[.int .u8 18, .int .u8 0, .int .i64 0, .string ⟨#[]⟩, .string ⟨#[]⟩, .string ⟨#[]⟩, .int .i64 0, .slice (some ⟨w4.heap.size, 0, none⟩) 2 2])]).run Tryz.prog (w4.alloc (.cells (XC ++ YC) 44)) = .ok (.slice (some ⟨(w4.alloc (.cells (XC ++ YC) 44)).heap.size, 0, none⟩) 1 1) ((w4.alloc (.cells (XC ++ YC) 44)).alloc (.cells #[.int .u8 18, .int .u8 0, .int .i64 0, .string ⟨#[]⟩, .string ⟨#[]⟩, .string ⟨#[]⟩, .int .i64 0, .slice (some ⟨w4.heap.size, 0, none⟩) 2 2] 44)) := run_bs1 _ _ rfl
      have rb := row_alloc (w4.alloc (.cells (XC ++ YC) 44)) 44 #[.int .u8 18, .int .u8 0, .int .i64 0, .string ⟨#[]⟩, .string ⟨#[]⟩, .string ⟨#[]⟩, .int .i64 0, .slice (some ⟨w4.heap.size, 0, none⟩) 2 2]
      have bb := (Below.refl _ (w4.alloc (.cells (XC ++ YC) 44))).alloc (Nat.le_refl _) (.cells #[.int .u8 18, .int .u8 0, .int .i64 0, .string ⟨#[]⟩, .string ⟨#[]⟩, .string ⟨#[]⟩, .int .i64 0, .slice (some ⟨w4.heap.size, 0, none⟩) 2 2] 44)
      have bab := next ba bb
      have HAND : Hid (ExsR ((w4.alloc (.cells (XC ++ YC) 44)).alloc (.cells #[.int .u8 18, .int .u8 0, .int .i64 0, .string ⟨#[]⟩, .string ⟨#[]⟩, .string ⟨#[]⟩, .int .i64 0, .slice (some ⟨w4.heap.size, 0, none⟩) 2 2] 44)) (.slice (some ⟨(w4.alloc (.cells (XC ++ YC) 44)).heap.size, 0, none⟩) 1 1) [PE.node 18 [x, y]]) := Lib.hid (node_lit HXC.out HYC.out HX.out HY.out (next HB4.out bab) (ra.later bb) rb)
      rw [show (w4.alloc (.cells (XC ++ YC) 44)).heap.size = w4.heap.size + 1 by simp] at HAND hs1
      have HR15 := Lib.hid (HR14.out.later bab)
      have HR25 := Lib.hid (HR24.out.later bab)
      have HB5 := Lib.hid (next HB4.out bab)
      clear ra ba rb bb HR14 HR24 HB4
      go_upto_region 6 with fail
      clear r1 o1 r2 o2 hs1 hs2
      clear bab
      generalize (w4.alloc (.cells (XC ++ YC) 44)).alloc (.cells #[.int .u8 18, .int .u8 0, .int .i64 0, .string ⟨#[]⟩, .string ⟨#[]⟩, .string ⟨#[]⟩, .int .i64 0, .slice (some ⟨w4.heap.size, 0, none⟩) 2 2] 44) = w5 at *
      generalize w4.heap.size + 1 = ga at *
      refine wp_region_kip (OneKn w5.heap.size XC YC) 72 rfl (by kernel_rfl) (by kernel_rfl) OneKn.later ?_ ?_
      · intro i hi A A2 hother hbW hd
        match i, hi with
        | 0, hi =>
          have h0 := tmps_at (show A.eval (.tmp 2) = .pointer (some ⟨W.heap.size, 0, none⟩) from hother 2 (by kernel_rfl))
          have hrr := HR15.out.later hbW
          have hb := hrr.b (n := 8) zx
          have ho := hrr.of
          clear hother hd hi hrr
          exact kip_same rfl (wanted_none rfl) (.agg XC) (by simp only [execOp]; go_simp) rfl
        | 1, hi =>
          have h0 := tmps_at ((hd _ rfl ⟨0, .data⟩ (by simp) rfl).eq (.agg XC) (fun _ h => h) 24 (by kernel_rfl) (by decide))
          have hbs : (veilBs 32 1 #[(0, .agg XC)]).run Tryz.prog A2 = .ok (.slice (some ⟨A2.heap.size, 0, none⟩) 1 1) (A2.alloc (.cells XC 44)) := run_bs1 A2 _ zx
          have hsz := hbW.size
          clear hother hd hi
          exact kip_val rfl (wanted_none rfl) (.slice (some ⟨A2.heap.size, 0, none⟩) 1 1) (A2.alloc (.cells XC 44)) (by simp only [execOp]; go_simp) ((Below.refl _ _).alloc (Nat.le_refl _) _) ⟨_, rfl, hsz, row_alloc _ _ _⟩
        | 2, hi =>
          have h0 := tmps_at (show A.eval (.tmp 3) = .pointer (some ⟨W.heap.size + 1, 0, none⟩) from hother 3 (by kernel_rfl))
          have hrr := HR25.out.later hbW
          have hb := hrr.b (n := 8) zy
          have ho := hrr.of
          clear hother hd hi hrr
          exact kip_same rfl (wanted_none rfl) (.agg YC) (by simp only [execOp]; go_simp) rfl
        | 3, hi =>
          have h0 := tmps_at ((hd _ rfl ⟨2, .data⟩ (by simp) rfl).eq (.agg YC) (fun _ h => h) 26 (by kernel_rfl) (by decide))
          have hbs : (veilBs 32 1 #[(0, .agg YC)]).run Tryz.prog A2 = .ok (.slice (some ⟨A2.heap.size, 0, none⟩) 1 1) (A2.alloc (.cells YC 44)) := run_bs1 A2 _ zy
          have hsz := hbW.size
          clear hother hd hi
          exact kip_val rfl (wanted_none rfl) (.slice (some ⟨A2.heap.size, 0, none⟩) 1 1) (A2.alloc (.cells YC 44)) (by simp only [execOp]; go_simp) ((Below.refl _ _).alloc (Nat.le_refl _) _) ⟨_, rfl, hsz, row_alloc _ _ _⟩
        | 4, hi =>
          obtain ⟨v, ⟨g, rfl, hm, hr⟩, h0⟩ := (hd _ rfl ⟨1, .data⟩ (by simp) rfl).get 25 (by kernel_rfl) (by decide)
          have h0 := tmps_at h0
          clear hother hd hi
          exact kip_same rfl (wanted_none rfl) (.slice (some ⟨g, 0, none⟩) 1 1) (by simp only [execOp]; go_simp) ⟨g, rfl, hm, hr⟩
        | 5, hi =>
          obtain ⟨v, ⟨g, rfl, hm, hr⟩, h0⟩ := (hd _ rfl ⟨3, .data⟩ (by simp) rfl).get 27 (by kernel_rfl) (by decide)
          have h0 := tmps_at h0
          clear hother hd hi
          exact kip_same rfl (wanted_none rfl) (.slice (some ⟨g, 0, none⟩) 1 1) (by simp only [execOp]; go_simp) ⟨g, rfl, hm, hr⟩
        | i + 6, hi => exact absurd hi (by simp)
      intro us w6 hb6 hk
      obtain ⟨g1, e4, hm1, hr1⟩ := hk 4 (by decide)
      obtain ⟨g2, e5, hm2, hr2⟩ := hk 5 (by decide)
      have HR16 := Lib.hid (HR15.out.later hb6)
      have HR26 := Lib.hid (HR25.out.later hb6)
      have HB6 := Lib.hid (next HB5.out hb6)
      have HAND6 := Lib.hid (exsR_below HAND.out hb6)
      have HONE := Lib.hid (one_lit HXC.out HX.out HB6.out hr1)
      have HOTH := Lib.hid (one_lit HYC.out HY.out HB6.out hr2)
      clear hk hb6 hm1 hr1 hm2 hr2 HR15 HR25 HB5 HAND
      simp only [putAll, dstOf, Act.put, List.getElem?_toArray, List.getElem?_cons_zero, List.getElem?_cons_succ, Option.bind_some, List.length_cons, List.length_nil]
      simp only [List.setIfInBounds_toArray, List.set_cons_zero, List.set_cons_succ]
      rw [e4, e5]
      have r1 := HR16.out.b (n := 8) zx
      have o1 := HR16.out.of
      have r2 := HR26.out.b (n := 8) zy
      have o2 := HR26.out.of
      have hs2 : (veilBs 32 2 #[(0, .agg XC), (1, .agg YC)]).run Tryz.prog w6 = .ok (.slice (some ⟨w6.heap.size, 0, none⟩) 2 2) (w6.alloc (.cells (XC ++ YC) 44)) := run_bs2 w6 _ _ zx zy
      have ra := row_alloc w6 44 (XC ++ YC)
      have ba := (Below.refl _ w6).alloc (Nat.le_refl _) (.cells (XC ++ YC) 44)
      have hs1 : (veilBs 32 1 #[(0, .agg #[.int .u8 19, .int .u8 0, .int .i64 0, .string ⟨#[]⟩, .string ⟨#[]⟩, .string ⟨#[]⟩, .int .i64 0, .slice (some ⟨w6.heap.size, 0, none⟩) 2 2])]).run Tryz.prog (w6.alloc (.cells (XC ++ YC) 44)) = .ok (.slice (some ⟨(w6.alloc (.cells (XC ++ YC) 44)).heap.size, 0, none⟩) 1 1) ((w6.alloc (.cells (XC ++ YC) 44)).alloc (.cells #[.int .u8 19, .int .u8 0, .int .i64 0, .string ⟨#[]⟩, .string ⟨#[]⟩, .string ⟨#[]⟩, .int .i64 0, .slice (some ⟨w6.heap.size, 0, none⟩) 2 2] 44)) := run_bs1 _ _ rfl
      have rb := row_alloc (w6.alloc (.cells (XC ++ YC) 44)) 44 #[.int .u8 19, .int .u8 0, .int .i64 0, .string ⟨#[]⟩, .string ⟨#[]⟩, .string ⟨#[]⟩, .int .i64 0, .slice (some ⟨w6.heap.size, 0, none⟩) 2 2]
      have bb := (Below.refl _ (w6.alloc (.cells (XC ++ YC) 44))).alloc (Nat.le_refl _) (.cells #[.int .u8 19, .int .u8 0, .int .i64 0, .string ⟨#[]⟩, .string ⟨#[]⟩, .string ⟨#[]⟩, .int .i64 0, .slice (some ⟨w6.heap.size, 0, none⟩) 2 2] 44)
      have bab := next ba bb
      have HOR : Hid (ExsR ((w6.alloc (.cells (XC ++ YC) 44)).alloc (.cells #[.int .u8 19, .int .u8 0, .int .i64 0, .string ⟨#[]⟩, .string ⟨#[]⟩, .string ⟨#[]⟩, .int .i64 0, .slice (some ⟨w6.heap.size, 0, none⟩) 2 2] 44)) (.slice (some ⟨(w6.alloc (.cells (XC ++ YC) 44)).heap.size, 0, none⟩) 1 1) [PE.node 19 [x, y]]) := Lib.hid (node_lit HXC.out HYC.out HX.out HY.out (next HB6.out bab) (ra.later bb) rb)
      rw [show (w6.alloc (.cells (XC ++ YC) 44)).heap.size = w6.heap.size + 1 by simp] at HOR hs1
      have HR17 := Lib.hid (HR16.out.later bab)
      have HR27 := Lib.hid (HR26.out.later bab)
      have HB7 := Lib.hid (next HB6.out bab)
      have HBB7 := Lib.hid bab
      clear ra ba rb bb bab HR16 HR26 HB6
      go_upto_region 8 with fail
      clear r1 o1 r2 o2 hs1 hs2
      generalize (w6.alloc (.cells (XC ++ YC) 44)).alloc (.cells #[.int .u8 19, .int .u8 0, .int .i64 0, .string ⟨#[]⟩, .string ⟨#[]⟩, .string ⟨#[]⟩, .int .i64 0, .slice (some ⟨w6.heap.size, 0, none⟩) 2 2] 44) = w7 at *
      generalize w6.heap.size + 1 = gor at *
      have HAND7 := Lib.hid (exsR_below HAND6.out HBB7.out)
      have HONE7 := Lib.hid (exsR_below HONE.out HBB7.out)
      have HOTH7 := Lib.hid (exsR_below HOTH.out HBB7.out)
      have HCN := Lib.hid (cnt_two (k := 18) HCX.out HCY.out)
      have HCO := Lib.hid (cnt_two (k := 19) HCX.out HCY.out).1
      have S18 := Lib.hid (short_two (k := 18) SX.out SY.out)
      have S19 := Lib.hid (short_two (k := 19) SX.out SY.out)
      clear HAND6 HONE HOTH HBB7
      have HB77 := Lib.hid (Below.refl w7.heap.size w7)
      have HPAP := Lib.hid (partsW HCN.out.1 HB77.out HAND7.out)
      go_wp2_with fail
      refine HPAP.out.mono ?_
      rintro eAP w8 ⟨vAP, rfl, hpA, hbA⟩
      have HAP := Lib.hid hpA
      have HABP := Lib.hid hbA
      have HB78 := Lib.hid (next HB77.out hbA)
      have HPBP := Lib.hid (partsW HCN.out.2.1 HB78.out HONE7.out)
      clear hpA hbA HPAP
      go_wp2_with fail
      refine HPBP.out.mono ?_
      rintro eBP w9 ⟨vBP, rfl, hpB, hbB⟩
      have HBBP := Lib.hid hpB
      have HBBbP := Lib.hid hbB
      have HB79 := Lib.hid (next HB78.out hbB)
      have HPCP := Lib.hid (partsW HCN.out.2.2.1 HB79.out HOTH7.out)
      clear hpB hbB HPBP
      go_wp2_with fail
      refine HPCP.out.mono ?_
      rintro eCP w10 ⟨vCP, rfl, hpC, hbC⟩
      have HB710 := Lib.hid (next HB79.out hbC)
      have HLNP : Hid ((partsL [x]).length + (partsL [y]).length ≤ 1000000000) := Lib.hid (by
        have h1 := parts_cntL [x]; have h2 := parts_cntL [y]; have h3 := HCN.out.2.1; have h4 := HCN.out.2.2.1; omega)
      obtain ⟨vDP, w11, hrun, hpD, hbD⟩ := (HBBP.out.later hbC).run hpC 32 HLNP.out (Nat.le_trans HBBbP.out.size hbC.size)
      have hb811 : Below w8.heap.size w8 w11 := (HBBbP.out.trans (hbC.mono HBBbP.out.size)).trans hbD
      have HB711 := Lib.hid (next HB78.out hb811)
      have HDP := Lib.hid (sameY (fun z hz => parts_shortL _ (fun u hu => by rw [List.mem_singleton.1 hu]; exact S18.out) z hz) (Nat.le_trans (parts_cntL _) (Nat.le_trans HCN.out.1 (by decide))) ((HAP.out.later hb811).exs HB711.out) (hpD.exs HB711.out))
      rw [law_and, eqB_self] at HDP
      clear hpC hbC hpD hbD HPCP HAP HABP HBBP HBBbP hb811 HLNP
      go_wp2_with (at_builtin; refine pl_list_run rfl (.tmp 36) (.tmp 38) 32 rfl rfl rfl hrun ?_)
      clear hrun
      go_wp2_with fail
      refine HDP.out.mono ?_
      rintro eDP w12 ⟨rfl, hbE⟩
      have HB712 := Lib.hid (next HB711.out hbE)
      clear hbE HDP
      have HPAS := Lib.hid (simW HCN.out.1 HB712.out HAND7.out)
      go_wp2_with fail
      refine HPAS.out.mono ?_
      rintro eAS w13 ⟨vAS, rfl, hpA, hbA⟩
      have HAS := Lib.hid hpA
      have HABS := Lib.hid hbA
      have HB713 := Lib.hid (next HB712.out hbA)
      have HPBS := Lib.hid (simW HCN.out.2.1 HB713.out HONE7.out)
      clear hpA hbA HPAS
      go_wp2_with fail
      refine HPBS.out.mono ?_
      rintro eBS w14 ⟨vBS, rfl, hpB, hbB⟩
      have HBBS := Lib.hid hpB
      have HBBbS := Lib.hid hbB
      have HB714 := Lib.hid (next HB713.out hbB)
      have HPCS := Lib.hid (simW HCN.out.2.2.1 HB714.out HOTH7.out)
      clear hpB hbB HPBS
      go_wp2_with fail
      refine HPCS.out.mono ?_
      rintro eCS w15 ⟨vCS, rfl, hpC, hbC⟩
      have HB715 := Lib.hid (next HB714.out hbC)
      have HLNS : Hid ((simL [x]).length + (simL [y]).length ≤ 1000000000) := Lib.hid (by
        have h1 := filt_len [x]; have h2 := filt_len [y]; have h3 := HCN.out.2.1; have h4 := HCN.out.2.2.1; omega)
      obtain ⟨vDS, w16, hrun, hpD, hbD⟩ := (HBBS.out.later hbC).run hpC 32 HLNS.out (Nat.le_trans HBBbS.out.size hbC.size)
      have hb1316 : Below w13.heap.size w13 w16 := (HBBbS.out.trans (hbC.mono HBBbS.out.size)).trans hbD
      have HB716 := Lib.hid (next HB713.out hb1316)
      have HDS := Lib.hid (sameY (fun z hz => filt_short _ (fun u hu => by rw [List.mem_singleton.1 hu]; exact S18.out) z hz) (Nat.le_trans (filt_len _) (Nat.le_trans HCN.out.1 (by decide))) ((HAS.out.later hb1316).exs HB716.out) (hpD.exs HB716.out))
      rw [show simL [PE.node 18 [x, y]] = simL [x] ++ simL [y] from law_and2 x y, eqB_self] at HDS
      clear hpC hbC hpD hbD HPCS HAS HABS HBBS HBBbS hb1316 HLNS
      go_wp2_with (at_builtin; refine pl_list_runG (wanted_some (g := 8) (t := 41) rfl (by kernel_rfl) rfl) (.tmp 45) (.tmp 47) 32 rfl rfl rfl hrun ?_)
      clear hrun
      go_wp2_with fail
      refine HDS.out.mono ?_
      rintro eDS w17 ⟨rfl, hbE⟩
      have HB717 := Lib.hid (next HB716.out hbE)
      clear hbE HDS
      have HPO := Lib.hid (partsW HCO.out HB717.out HOR.out)
      go_wp2_with fail
      refine HPO.out.mono ?_
      rintro eO w18 ⟨vO, rfl, hpO, hbO⟩
      have HB718 := Lib.hid (next HB717.out hbO)
      rw [law_or] at hpO
      have HSO := Lib.hid (sameY (xs := [PE.node 19 [x, y]]) (ys := [PE.node 19 [x, y]]) (fun z hz => by rw [List.mem_singleton.1 hz]; exact S19.out) (show 1 ≤ 140737488351232 by decide) (hpO.exs HB718.out) (exsR_below HOR.out HB718.out))
      rw [eqB_self] at HSO
      clear hpO hbO HPO
      go_wp2_with fail
      refine HSO.out.mono ?_
      rintro eP w19 ⟨rfl, hbP⟩
      have HB719 := Lib.hid (next HB718.out hbP)
      have HSI := Lib.hid (plSimpleW HCO.out HB719.out HOR.out)
      rw [law_or2] at HSI
      clear hbP HSO
      go_wp2_with fail
      refine HSI.out.mono ?_
      rintro eQ w20 ⟨vQ, rfl, hpQ, hbQ⟩
      obtain ⟨qa, qc, rfl⟩ := hpQ.shape
      have HB720 := Lib.hid (next HB719.out hbQ)
      have HR120 := Lib.hid (HR17.out.later HB720.out)
      have HR220 := Lib.hid (HR27.out.later HB720.out)
      have r1 := HR120.out.b (n := 8) zx
      have o1 := HR120.out.of
      have r2 := HR220.out.b (n := 8) zy
      have o2 := HR220.out.of
      have hs2 : (veilBs 32 2 #[(0, .agg XC), (1, .agg YC)]).run Tryz.prog w20 = .ok (.slice (some ⟨w20.heap.size, 0, none⟩) 2 2) (w20.alloc (.cells (XC ++ YC) 44)) := run_bs2 w20 _ _ zx zy
      have ra := row_alloc w20 44 (XC ++ YC)
      have ba := (Below.refl _ w20).alloc (Nat.le_refl _) (.cells (XC ++ YC) 44)
      have HB721 := Lib.hid (next HB720.out ba)
      have HTW := Lib.hid (two_lit HXC.out HYC.out HX.out HY.out (HB7.out.trans (HB721.out.mono HB7.out.size)) ra)
      have HPT := Lib.hid (partsW HCN.out.2.2.2 (Below.refl _ _) HTW.out)
      clear hpQ hbQ HSI ra ba
      go_wp2_with fail
      refine HPT.out.mono ?_
      rintro eR w22 ⟨vR, rfl, hpR, hbR⟩
      have HB722 := Lib.hid (next HB721.out hbR)
      have HPR := Lib.hid hpR
      have HBR := Lib.hid hbR
      have HPA := Lib.hid (partsW HCN.out.1 HB722.out HAND7.out)
      clear hpR hbR HPT r1 o1 r2 o2 hs2
      go_wp2_with fail
      refine HPA.out.mono ?_
      rintro eS w23 ⟨vS, rfl, hpS, hbS⟩
      have HB723 := Lib.hid (next HB722.out hbS)
      have HSS := Lib.hid (sameY (fun z hz => parts_shortL _ (fun u hu => by
        rcases List.mem_cons.1 hu with rfl | hu
        · exact SX.out
        · rw [List.mem_singleton.1 hu]; exact SY.out) z hz) (Nat.le_trans (parts_cntL _) (Nat.le_trans HCN.out.2.2.2 (by decide))) ((HPR.out.later hbS).exs (next HBR.out hbS)) (hpS.exs HB723.out))
      rw [law_both, eqB_self] at HSS
      clear hpS hbS HPA HPR HBR
      go_wp2_with fail
      refine HSS.out.mono ?_
      rintro eT w24 ⟨rfl, hbT⟩
      have HEND : Hid (Below W.heap.size W w24) := Lib.hid (HB7.out.trans ((next HB723.out hbT).mono HB7.out.size))
      clear hbT HSS
      go_wp2_with fail
      go_ret
      exact ⟨rfl, HEND.out⟩

set_option maxRecDepth 100000 in
theorem opened {H : Type} (enc : TypeId × Value → H) (W : World) (args : Array Value) (ds : List (DataW H)) (p : List MemPlace) :
    Lift.Owes enc Tryz.prog 4 Tryz.f4.params.toList W args ds p := by
  intro hA hval hsz _
  rw [Tryz.params4] at hA hval hsz
  obtain ⟨v0, vs0, d0, ds0, p0, q0, hargs, rfl, rfl, h0, r0⟩ := trodAll_cons hA
  obtain ⟨v1, vs1, d1, ds1, p1, q1, rfl, rfl, rfl, h1, r1⟩ := trodAll_cons r0
  obtain ⟨rfl, rfl, rfl⟩ := trodAll_nil r1
  obtain rfl : args = #[v0, v1] := by cases args; simp_all
  obtain ⟨base0, hv0⟩ := hval 0 _ v0 rfl rfl
  obtain ⟨a, rfl, ha, oa⟩ := arg_Ex exT hv0 h0 (lim_arg hsz (j := 0) rfl rfl)
  obtain ⟨base1, hv1⟩ := hval 1 _ v1 rfl rfl
  obtain ⟨b, rfl, hb, ob⟩ := arg_Ex exT hv1 h1 (lim_arg hsz (j := 1) rfl rfl)
  rw [pe_val a, pe_val b]
  exact walk a.pe b.pe a.kv b.kv W (pe_kidsR ha) (pe_kidsR hb) (pe_short a oa) (pe_short b ob)

theorem own : ownKnob Tryz.prog.godebug = none := by kernel_rfl
theorem laid : laidOutB Tryz.prog = true := by kernel_rfl

set_option maxRecDepth 100000 in
theorem lifted (os : Os) (started : os.Started) (H : Type) (enc : TypeId × Value → H) :
    ReturnsInHanded {} Tryz.checked os 4 .any (Rows.planPartsSpec.pre6 enc Tryz.prog Tryz.f4 Rows.planPartsRow.domain false)
      (Rows.planPartsSpec.post enc Tryz.prog Tryz.f4 false true false false) := by
  refine Lift.lifted (C := Tryz.checked) own started (by kernel_rfl) Tryz.func4
    (ChangeSpec.witness6 (enc := enc) (C := Tryz.checked) false ⟨#[], #[.agg #[.int .u8 0, .int .u8 0, .int .i64 0, .string ByteArray.empty, .string ByteArray.empty, .string ByteArray.empty, .int .i64 0, .slice none 0 0], .agg #[.int .u8 0, .int .u8 0, .int .i64 0, .string ByteArray.empty, .string ByteArray.empty, .string ByteArray.empty, .int .i64 0, .slice none 0 0]], []⟩ 8 (by kernel_rfl) (by kernel_rfl) (by kernel_rfl) (by kernel_rfl))
    laid (by rw [Tryz.params4]; intro t ht; simp at ht; rcases ht with rfl | rfl <;> exact ⟨by kernel_rfl, of_decide_eq_true (by kernel_rfl)⟩) rfl 4 rfl Tryz.underlying4
    (fun ds hds => by match ds, hds with | [_, _], _ => rfl) (opened enc)

theorem said : Rows.PlanPartsSaid :=
  OpenClaim.holds_of_wide 4 Tryz.f4 rfl rfl rfl rfl rfl rfl rfl ⟨rfl, rfl, rfl, rfl, rfl⟩ rfl rfl rfl rfl rfl (by kernel_rfl) Tryz.func4 (by kernel_rfl)
    (of_decide_eq_true (by kernel_rfl)) (by unfold Func.isWrapper; first | (rw [if_pos (by decide +kernel)]; kernel_rfl) | (rw [if_neg (by decide +kernel)]; exact ⟨rfl, rfl⟩))
    (fun os started H enc _ => lifted os started H enc)
#print axioms said
end Go.Proofs.YtjgkeillmelkoaaGreat.PlanParts
