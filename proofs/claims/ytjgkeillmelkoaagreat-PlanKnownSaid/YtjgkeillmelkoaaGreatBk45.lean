import Derived.Test.YtjgkeillmelkoaaGreatBk43
import Derived.Test.YtjgkeillmelkoaaGreatBk44
import Derived.Test.YtjgkeillmelkoaaGreatBk40
namespace Go.Proofs.YtjgkeillmelkoaaGreat.Dt
open Go.RowKit Go.Proofs.YtjgkeillmelkoaaGreat.By

theorem len_cnt : ∀ l : List PE, l.length ≤ cntL l
  | [] => Nat.zero_le _
  | x :: l => by have := len_cnt l; rw [cntL, List.length_cons, cnt_kids]; omega
theorem small_lim : ∀ t ∈ [smallT], t.key.length ≤ 1000000 ∧ t.ixs.length ≤ 1000000 ∧ ∀ x ∈ t.ixs, x.cols.length ≤ 1000000 := fun t ht => by
  obtain rfl := List.mem_singleton.1 ht
  exact ⟨by decide, by decide, fun x hx => by obtain rfl := List.mem_singleton.1 hx; decide⟩
theorem small_lim2 : ∀ t ∈ [smallT, smallT], t.key.length ≤ 1000000 ∧ t.ixs.length ≤ 1000000 ∧ ∀ x ∈ t.ixs, x.cols.length ≤ 1000000 := fun t ht => small_lim t (by simpa using ht)
theorem wayD {s index : ByteArray} {many first : Int} {st : PSt} {part : List PE} (w : World)
    (hres : ∀ W, Calls Tryz.prog 6 #[.string s] W fun e w' => ∃ c, e = .returned (.agg c) ∧ New W.heap.size w' (fun u => StR u c.toList st) ∧ Below W.heap.size W w')
    (hk : st.kind = 6 ∨ st.kind = 7) (hsrc : st.src = []) (htab : st.table = ⟨#[116]⟩) (hwh : cntL st.wh ≤ 1000000) (hok : (colsL st.wh).foldl (okStep 3) true = true)
    (hst : stepL 0 ((partsL st.wh).filter simpleB) smallT = (index, part)) (hm : many = (part.length : Int)) (hfirst : part = [] ∨ ∃ y ys, part = y :: ys ∧ y.op = 1 ∧ y.v.n = first) :
    Calls Tryz.prog 9 #[.string s, .string index, .int .i64 many, .int .i64 first] w fun e w' => e = .returned (.bool true) ∧ Below w.heap.size w w' :=
  wayN (m := 0) w (by decide) hres (fun va vc cs W hc h =>
    (planN (ts := [smallT]) (fs := [0]) (n := 1) (all := 3) (C := st.wh) h rfl rfl (by decide)
      (fun W2 hb => (gather1W (cat := [smallT]) (p := 0) (catR_below hc hb) (by decide) (stR_below h hb) (by omega) (by rw [htab]; decide +kernel) rfl (by decide)).mono fun e w' hh => by
        obtain ⟨ta, tc, fa, fc, he, h1, h2, h3⟩ := hh
        rw [decide_eq_true (show 6 ≤ st.kind ∧ st.kind ≤ 8 by omega)] at he
        exact ⟨ta, tc, fa, fc, he, h1, h2, h3⟩)
      (conds_67 hk) (by rw [hsrc]; exact ⟨by simpa using Nat.le_trans (len_cnt _) hwh, Nat.zero_le _⟩) hwh small_lim hok).mono fun e w' hh => by
        obtain ⟨v, w7, he, hp, hb⟩ := hh
        exact ⟨v, w7, he, ⟨_, hp, hst⟩, hb⟩)
    hm (hfirst.imp id fun ⟨y, ys, h1, h2, h3⟩ => ⟨y, ys, h1, h3, .inl h2⟩)
/-- The law's own small thing is done right. -/
theorem works_stepD : stepL 0 ((partsL st1.wh).filter simpleB) smallT = (⟨#[]⟩, [intE 2, intE 1]) := by kernel_rfl
theorem worksD (w : World) : Calls Tryz.prog 8 #[] w fun e w' => e = .returned (.bool true) ∧ Below w.heap.size w w' := by
  have HW := Lib.hid (wayD (s := tx1T) (index := ⟨#[]⟩) (many := 2) (first := 2) (part := [intE 2, intE 1]) w resolved1 (.inr rfl) rfl rfl (by decide) (by decide) works_stepD rfl (.inr ⟨_, _, rfl, rfl, rfl⟩))
  go_enter Tryz.func8, Tryz.ntmps8
  go_wp2_with fail
  refine HW.out.mono ?_
  rintro e1 w1 ⟨rfl, hb1⟩
  have HB1 := Lib.hid hb1
  clear hb1 HW
  go_wp2_with fail
  go_ret
  exact ⟨rfl, HB1.out⟩
theorem way3D (w : World) : Calls Tryz.prog 9 #[.string tx3T, .string ⟨#[]⟩, .int .i64 0, .int .i64 0] w fun e w' => e = .returned (.bool true) ∧ Below w.heap.size w w' :=
  wayD (s := tx3T) (index := ⟨#[]⟩) (many := 0) (first := 0) (part := []) w resolved3 (.inr rfl) rfl rfl (by decide) (by decide) step3 rfl (.inl rfl)
theorem way4D (w : World) : Calls Tryz.prog 9 #[.string tx4T, .string ⟨#[105]⟩, .int .i64 1, .int .i64 3] w fun e w' => e = .returned (.bool true) ∧ Below w.heap.size w w' :=
  wayD (s := tx4T) (index := ⟨#[105]⟩) (many := 1) (first := 3) (part := [intE 3]) w resolved4 (.inr rfl) rfl rfl (by decide) (by decide) step4 rfl (.inr ⟨_, _, rfl, rfl, rfl⟩)
theorem way5D (w : World) : Calls Tryz.prog 9 #[.string tx5T, .string ⟨#[]⟩, .int .i64 2, .int .i64 4] w fun e w' => e = .returned (.bool true) ∧ Below w.heap.size w w' :=
  wayD (s := tx5T) (index := ⟨#[]⟩) (many := 2) (first := 4) (part := [intE 4, intE 1]) w resolved5 (.inr rfl) rfl rfl (by decide) (by decide) step5 rfl (.inr ⟨_, _, rfl, rfl, rfl⟩)
theorem step6 : stpL [0, 3] [smallT, smallT] ((partsL [px6]).filter simpleB) 1 = (⟨#[105]⟩, [dotE ⟨#[116]⟩ ⟨#[97]⟩ 0]) := by kernel_rfl
theorem way6D {s : ByteArray} (w : World) (hres : ∀ W, Calls Tryz.prog 6 #[.string s] W fun e w' => ∃ c, e = .returned (.agg c) ∧ New W.heap.size w' (fun u => StR u c.toList st6) ∧ Below W.heap.size W w') :
    Calls Tryz.prog 9 #[.string s, .string ⟨#[105]⟩, .int .i64 1, .int .i64 0] w fun e w' => e = .returned (.bool true) ∧ Below w.heap.size w w' :=
  wayN (m := 1) (part := [dotE ⟨#[116]⟩ ⟨#[97]⟩ 0]) w (by decide) hres (fun va vc cs W hc h =>
    (planN (ts := [smallT, smallT]) (fs := [0, 3]) (n := 2) (all := 6) (C := [px6]) h rfl rfl (by decide) (fun W2 hb => gather2W va vc cs W2 (catR_below hc hb) (stR_below h hb))
      rfl (by decide) (by decide) small_lim2 (by decide)).mono fun e w' hh => by
        obtain ⟨v, w7, he, hp, hb⟩ := hh
        exact ⟨v, w7, he, ⟨_, hp, step6⟩, hb⟩)
    rfl (.inr ⟨_, _, rfl, rfl, .inr ⟨rfl, rfl⟩⟩)
end Go.Proofs.YtjgkeillmelkoaaGreat.Dt
namespace Go.Proofs.YtjgkeillmelkoaaGreat.Dt
open Go.RowKit Go.Proofs.YtjgkeillmelkoaaGreat.By

attribute [local go_sem ↓] veilSt_ex veilLd_ex
attribute [local go_sem] run_exSt run_exNew run_exLd okRow8 Value.oneCell'
set_option maxRecDepth 100000 in
set_option maxHeartbeats 16000000 in
theorem askW (l : List PSo) (la : Option Addr) (lc : Nat) (by' : Value) (x y : PE) (kv : Value) (W : World) (hl : l.length ≤ 1000) (hcl : ∀ y ∈ l, y.2.cols.length ≤ 1000) (hp : PtW l x y) (ht : TyW l y) (hs : SosR W (.slice la l.length lc) l) (hk : ExsR W kv x.kids) :
    Calls Tryz.prog 73 #[.slice la l.length lc, by', .bool false, x.val kv, .int .u8 0] W fun e w' => ∃ cs, e = .returned (.tuple #[.agg cs, .int .i64 0]) ∧ ExN W.heap.size w' cs y ∧ Below W.heap.size W w' := by
  obtain ⟨ka, kc, rfl, _⟩ := hk.shape
  have hb1 : Below W.heap.size W (W.alloc (.cells (exA x (.slice ka x.kids.length kc)) 44)) := (Below.refl _ _).alloc (Nat.le_refl _) _
  have h1 := row_alloc W 44 (exA x (.slice ka x.kids.length kc))
  have ha2 := (Below.refl _ (W.alloc (.cells (exA x (.slice ka x.kids.length kc)) 44))).alloc (Nat.le_refl _) (.cells exZ 44)
  have h2 := row_alloc (W.alloc (.cells (exA x (.slice ka x.kids.length kc)) 44)) 44 exZ
  rw [show (W.alloc (.cells (exA x (.slice ka x.kids.length kc)) 44)).heap.size = W.heap.size + 1 by simp] at h2
  have HX := Lib.hid (h1.later ha2)
  have HZ := Lib.hid h2
  have HB := Lib.hid (next hb1 ha2)
  have hc := one0W l la lc x y (.slice ka x.kids.length kc) _ hl hcl hp ht (sosR_below hs (next hb1 ha2)) (exsR_below hk (next hb1 ha2))
  unfold PE.val at hc
  have HC := Lib.hid hc
  clear hb1 h1 ha2 h2 hs hk hp ht hc hl hcl
  unfold PE.val
  go_enter Tryz.func73, Tryz.ntmps73
  go_upto_region 1 with fail
  generalize (W.alloc (.cells #[.int .u8 (x.op : Int), .int .u8 (x.v.k : Int), .int .i64 x.v.n, .string x.v.s, .string x.t, .string x.m, .int .i64 x.n, .slice ka x.kids.length kc] 44)).alloc (.cells exZ 44) = w2 at *
  have hb := HX.out.b (n := 8) rfl
  have ho := HX.out.of
  go_wp2_with fail
  refine HC.out.mono ?_
  rintro e3 w3 ⟨c, rfl, hx3, hb3⟩
  have hok := hx3.ok
  have HX3 := HX.out.later hb3
  have hb := HX3.b (n := 8) rfl
  have HX4 : Hid (Row W.heap.size 44 c (w3.setRow W.heap.size c)) := Lib.hid (HX3.set c)
  have HZ4 : Hid (Row (W.heap.size + 1) 44 exZ (w3.setRow W.heap.size c)) := Lib.hid ((setRow_other _ _ _ _ (by omega)).trans (HZ.out.later hb3))
  have HB4 : Hid (Below W.heap.size W (w3.setRow W.heap.size c)) := Lib.hid (below_setRow' (next HB.out hb3) (Nat.le_refl _) c)
  have HXN : Hid (ExN w2.heap.size (w3.setRow W.heap.size c) c y) := Lib.hid (hx3.set (by have := HX.out.lt; omega))
  have HLT : Hid (W.heap.size + 1 < w2.heap.size) := Lib.hid HZ.out.lt
  clear hx3 hb3 HX3 HC HX HZ HB ho
  go_upto_region 2 with fail
  clear hb hok
  generalize w3.setRow W.heap.size c = w4 at *
  have hb := HX4.out.b (n := 8) HXN.out.size
  have ho := HX4.out.of
  have hz := HZ4.out.b (n := 8) rfl
  have hok := HXN.out.ok
  go_wp2_with fail
  exact bodyPost_ret (v := .tuple #[.agg c, .int .i64 0]) (res_ct rfl _ _ (W.heap.size + 1) _ _ _ rfl rfl (HZ4.out.set _) HXN.out.size) rfl
    ⟨c, rfl, (ExD.set HXN.out (g := W.heap.size + 1) (by have := HLT.out; omega)).step (Nat.le_refl _) fun b hb _ => ⟨by have := HLT.out; omega, rfl⟩, below_setRow' HB4.out (by omega) _⟩
end Go.Proofs.YtjgkeillmelkoaaGreat.Dt
