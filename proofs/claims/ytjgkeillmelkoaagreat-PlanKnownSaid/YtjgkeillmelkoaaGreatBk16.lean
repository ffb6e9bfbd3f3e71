import Derived.Test.YtjgkeillmelkoaaGreatBk09
import Derived.Test.YtjgkeillmelkoaaGreatBk06
namespace Go.Proofs.YtjgkeillmelkoaaGreat.Dt
open Go.RowKit Go.Proofs.YtjgkeillmelkoaaGreat.By

/-- What Put says of an expression. -/
def PutW (x : PE) : Prop := ∀ (kv : Value) (W : World), ExsR W kv x.kids → Calls Tryz.prog 91 #[x.val kv] W fun e w' => e = .returned (.tuple #[.string (putR x).1, .bool (putR x).2]) ∧ Below W.heap.size W w'
set_option maxRecDepth 100000 in
set_option maxHeartbeats 8000000 in
theorem oexprW (r : Nat) (o : OS) (x : PE) (kv : Value) (w : World) (hp : PutW x) (hk : ExsR w kv x.kids) (h : ORow r o w) (hz : o.s.size + (putR x).1.size ≤ 1000000000) :
    Calls Tryz.prog 63 #[.pointer (some ⟨r, 0, none⟩), x.val kv] w (OPost r (oExpr x o) w) := by
  obtain ⟨u, b⟩ := o
  have hz : u.size + (putR x).1.size ≤ 1000000000 := hz
  have h : Row r 128 #[.string u, .bool b] w := h
  obtain ⟨ka, kc, rfl, _⟩ := hk.shape
  have hbA : Below w.heap.size w (w.alloc (.cells #[.int .u8 (x.op : Int), .int .u8 (x.v.k : Int), .int .i64 x.v.n, .string x.v.s, .string x.t, .string x.m, .int .i64 x.n, .slice ka x.kids.length kc] 44)) := (Below.refl _ _).alloc (Nat.le_refl _) _
  have hx := row_alloc w 44 #[.int .u8 (x.op : Int), .int .u8 (x.v.k : Int), .int .i64 x.v.n, .string x.v.s, .string x.t, .string x.m, .int .i64 x.n, .slice ka x.kids.length kc]
  have hc := hp (.slice ka x.kids.length kc) (w.alloc (.cells #[.int .u8 (x.op : Int), .int .u8 (x.v.k : Int), .int .i64 x.v.n, .string x.v.s, .string x.t, .string x.m, .int .i64 x.n, .slice ka x.kids.length kc] 44)) (exsR_below hk hbA)
  unfold PE.val at hc ⊢
  have HC := Lib.hid hc
  have H := Lib.hid (h.later hbA)
  have HBA := Lib.hid (below_grown (r := r) hbA)
  have HZ := Lib.hid hz
  obtain ⟨pz, hpz⟩ : ∃ z, z = (putR x).1 := ⟨_, rfl⟩
  obtain ⟨pb, hpb⟩ : ∃ z, z = (putR x).2 := ⟨_, rfl⟩
  have HE : Hid (oExpr x ⟨u, b⟩ = oPut pz ⟨u, b && pb⟩) := Lib.hid (by rw [hpz, hpb]; rfl)
  rw [← hpz] at HC HZ
  rw [← hpb] at HC
  clear h hbA hc hp hk hz hpz hpb
  go_enter Tryz.func63, Tryz.ntmps63
  go_upto_region 1 with fail
  generalize w.alloc (.cells #[.int .u8 (x.op : Int), .int .u8 (x.v.k : Int), .int .i64 x.v.n, .string x.v.s, .string x.t, .string x.m, .int .i64 x.n, .slice ka x.kids.length kc] 44) = w1 at *
  have c0 := hx.cell (i := 0) (v := .int .u8 (x.op : Int)) rfl
  have c1 := hx.cell (i := 1) (v := .int .u8 (x.v.k : Int)) rfl
  have c2 := hx.cell (i := 2) (v := .int .i64 x.v.n) rfl
  have c3 := hx.cell (i := 3) (v := .string x.v.s) rfl
  have c4 := hx.cell (i := 4) (v := .string x.t) rfl
  have c5 := hx.cell (i := 5) (v := .string x.m) rfl
  have c6 := hx.cell (i := 6) (v := .int .i64 x.n) rfl
  have c7 := hx.cell (i := 7) (v := .slice ka x.kids.length kc) rfl
  clear hx
  generalize w.heap.size = q at *
  go_wp2_with fail
  refine HC.out.mono ?_
  rintro e2 w2 ⟨rfl, hb2⟩
  have H2 := H.out.later hb2
  have d1 := H2.cell (i := 1) (v := .bool b) rfl
  have f1 := H2.free 1
  have HR1 := Lib.hid (row_set1 H2 (.bool (b && pb)))
  have HP := Lib.hid (oputW r ⟨u, b && pb⟩ pz (w2.setCell ⟨r, 1, none⟩ (.bool (b && pb))) HR1.out HZ.out)
  have HG : Hid (w1.grownBy (w2.setCell ⟨r, 1, none⟩ (.bool (b && pb))) (some r)) := Lib.hid (grown_trans (below_grown (r := r) hb2) (grown_set w2 r 1 (.bool (b && pb))))
  clear hb2 H2 HC c0 c1 c2 c3 c4 c5 c6 c7
  cases b with
  | false =>
    go_wp2_with fail
    refine HP.out.mono ?_
    rintro e3 w3 ⟨rfl, hr3, hg3⟩
    have H3 := Lib.hid hr3
    have HG3 := Lib.hid (grown_trans HG.out hg3)
    clear hr3 hg3 HP d1 f1
    go_wp2_with fail
    go_end0
    exact ⟨rfl, by rw [HE.out]; exact H3.out, grown_trans HBA.out HG3.out⟩
  | true =>
    go_wp2_with fail
    refine HP.out.mono ?_
    rintro e3 w3 ⟨rfl, hr3, hg3⟩
    have H3 := Lib.hid hr3
    have HG3 := Lib.hid (grown_trans HG.out hg3)
    clear hr3 hg3 HP d1 f1
    go_wp2_with fail
    go_end0
    exact ⟨rfl, by rw [HE.out]; exact H3.out, grown_trans HBA.out HG3.out⟩
theorem grownBelow {w w' : World} {r n : Nat} (h : w.grownBy w' (some r)) (hn : n ≤ r) (hw : n ≤ w.heap.size) : Below n w w' := ⟨h.os, h.tape, h.output, h.size, fun i hi => h.block i (by omega) (fun e => by cases e; omega)⟩
/-- The writer's box in a world above the one in which its arguments lie. -/
structure OB (w1 : World) (r : Nat) (o : OS) (w : World) : Prop where
  row : ORow r o w
  hb : Below w1.heap.size w1 w
  hr : w1.heap.size ≤ r
theorem OB.post {w1 w w' : World} {r : Nat} {o o' : OS} (h : OB w1 r o w) (hr : ORow r o' w') (hg : w.grownBy w' (some r)) : OB w1 r o' w' :=
  ⟨hr, (h.hb.trans (grownBelow hg h.hr h.hb.size)), h.hr⟩
theorem oPut_le (w : ByteArray) (o : OS) : o.s.size + w.size ≤ (oPut w o).s.size := by
  unfold oPut
  simp only
  rw [ByteArray.size_append]
  split
  · omega
  · rw [ByteArray.size_append]; omega
theorem oExpr_le (x : PE) (o : OS) : o.s.size + (putR x).1.size ≤ (oExpr x o).s.size := oPut_le _ (oAnd (putR x).2 o)
theorem oName_le (x : ByteArray) (o : OS) : o.s.size + x.size ≤ (oName x o).s.size := oPut_le _ (oAnd (isNm x) o)
/-- An element of a row that lies ahead, cell by cell. -/
theorem kid_ob {w1 w : World} {r : Nat} {o : OS} {ka : Option Addr} {kc k : Nat} {xs : List PE} {y : PE} (h : OB w1 r o w) (hk : ExsR w1 (.slice ka xs.length kc) xs) (hy : xs[k]? = some y) : ∃ q o kv, ka = some ⟨q, o, none⟩ ∧ ExsR w kv y.kids ∧
    w.cell? ⟨q, o + k * 8, none⟩ = some (.int .u8 (y.op : Int)) ∧ w.cell? ⟨q, o + k * 8 + 1, none⟩ = some (.int .u8 (y.v.k : Int)) ∧ w.cell? ⟨q, o + k * 8 + 2, none⟩ = some (.int .i64 y.v.n) ∧ w.cell? ⟨q, o + k * 8 + 3, none⟩ = some (.string y.v.s) ∧
    w.cell? ⟨q, o + k * 8 + 4, none⟩ = some (.string y.t) ∧ w.cell? ⟨q, o + k * 8 + 5, none⟩ = some (.string y.m) ∧ w.cell? ⟨q, o + k * 8 + 6, none⟩ = some (.int .i64 y.n) ∧ w.cell? ⟨q, o + k * 8 + 7, none⟩ = some kv := exs_at (exsR_below hk h.hb) hy
def oM1 (wd : ByteArray) (l : List PE) (o : OS) : OS := match l with | [x] => oExpr x (oPut wd o) | _ => o
set_option maxRecDepth 100000 in
set_option maxHeartbeats 8000000 in
theorem omaybeW (w1 : World) (r : Nat) (o : OS) (wd : ByteArray) (l : List PE) (lv : Value) (w : World) (hp : ∀ x ∈ l, PutW x) (hl : ExsR w1 lv l) (h : OB w1 r o w) (hz : (oMaybe wd l o).s.size ≤ 1000000000) :
    Calls Tryz.prog 64 #[.pointer (some ⟨r, 0, none⟩), .string wd, lv] w (OPost r (oMaybe wd l o) w) := by
  obtain ⟨la, lc, rfl, hlc⟩ := hl.shape
  obtain ⟨D, hD⟩ : ∃ D, D = decide (l.length ≤ 1) := ⟨_, rfl⟩
  have eD : decide ((l.length : Int) ≤ 1) = D := by rw [hD]; exact decide_eq_decide.2 (by omega)
  obtain ⟨o', hR⟩ : ∃ o', o' = oAnd D o := ⟨_, rfl⟩
  have hM : oMaybe wd l o = oM1 wd l o' := by rw [hR, hD]; rfl
  obtain ⟨u, b⟩ := o
  have hw : Row r 128 #[.string u, .bool b] w := h.row
  have c1 := hw.cell (i := 1) (v := .bool b) rfl
  have f1 := hw.free 1
  have hg1 := grown_set w r 1 (.bool (b && D))
  have HR1 := Lib.hid (h.post (o' := o') (by rw [hR]; exact row_set1 hw (.bool (b && D))) hg1)
  have HG1 := Lib.hid hg1
  have HL := Lib.hid hl
  have HLC := Lib.hid hlc
  obtain ⟨R, hRR⟩ : ∃ R, R = oMaybe wd l ⟨u, b⟩ := ⟨_, rfl⟩
  rw [← hRR] at hz hM ⊢
  have HM := Lib.hid hM
  have HPW := Lib.hid hp
  clear h hw hl hp hR hM hRR hlc hg1
  by_cases h1 : l.length = 1
  · obtain ⟨x, rfl⟩ := List.length_eq_one_iff.1 h1
    have HM : Hid (R = oExpr x (oPut wd o')) := Lib.hid HM.out
    have e1 : (([x].length : Nat) : Int) = 1 := rfl
    obtain rfl : D = true := by rw [hD]; rfl
    have hz1 : (oPut wd o').s.size + (putR x).1.size ≤ 1000000000 := by have := oExpr_le x (oPut wd o'); rw [← HM.out] at this; omega
    have HZ1 := Lib.hid hz1
    have HP := Lib.hid (oputW r o' wd _ HR1.out.row (by have := oPut_le wd o'; omega))
    have HX := Lib.hid (HPW.out x (by simp))
    have ilc : (0 : Int) < (lc : Int) := by have := HLC.out; simp at this; omega
    clear h1 hz1 hz hD HPW HLC eD
    have hcut : ∀ (W : World), OB w1 r (oPut wd o') W → ∃ q o kv ja jc, la = some ⟨q, o, none⟩ ∧ kv = .slice ja x.kids.length jc ∧ Hid (Calls Tryz.prog 63 #[.pointer (some ⟨r, 0, none⟩), .agg #[.int .u8 (x.op : Int), .int .u8 (x.v.k : Int), .int .i64 x.v.n, .string x.v.s, .string x.t, .string x.m, .int .i64 x.n, kv]] W (OPost r R W)) ∧
        W.cell? ⟨q, o, none⟩ = some (.int .u8 (x.op : Int)) ∧ W.cell? ⟨q, o + 1, none⟩ = some (.int .u8 (x.v.k : Int)) ∧ W.cell? ⟨q, o + 2, none⟩ = some (.int .i64 x.v.n) ∧ W.cell? ⟨q, o + 3, none⟩ = some (.string x.v.s) ∧
        W.cell? ⟨q, o + 4, none⟩ = some (.string x.t) ∧ W.cell? ⟨q, o + 5, none⟩ = some (.string x.m) ∧ W.cell? ⟨q, o + 6, none⟩ = some (.int .i64 x.n) ∧ W.cell? ⟨q, o + 7, none⟩ = some kv := by
      intro W hW
      obtain ⟨q, o, kv, e, hk, p⟩ := kid_ob (k := 0) (y := x) hW HL.out rfl
      obtain ⟨ja, jc, rfl, _⟩ := hk.shape
      simp only [Nat.zero_mul, Nat.add_zero] at p
      have hc := oexprW r _ x _ W HX.out hk hW.row HZ1.out
      rw [← HM.out] at hc
      exact ⟨q, o, _, ja, jc, e, rfl, Lib.hid hc, p⟩
    have HCUT := Lib.hid hcut
    clear hcut
    cases b with
    | false =>
      go_enter Tryz.func64, Tryz.ntmps64
      go_wp2_with fail
      refine HP.out.mono ?_
      rintro e2 w2 ⟨rfl, hr2, hg2⟩
      obtain ⟨q, oo, kv, ja, jc, rfl, rfl, HC, p0, p1, p2, p3, p4, p5, p6, p7⟩ := HCUT.out w2 (HR1.out.post hr2 hg2)
      have HG2 := Lib.hid (grown_trans HG1.out hg2)
      clear hr2 hg2 HP c1 f1
      go_wp2_with fail
      refine HC.out.mono ?_
      rintro e3 w3 ⟨rfl, hr3, hg3⟩
      have H3 := Lib.hid hr3
      have HG3 := Lib.hid (grown_trans HG2.out hg3)
      clear hr3 hg3 HC p0 p1 p2 p3 p4 p5 p6 p7
      go_wp2_with fail
      go_end0
      exact ⟨rfl, H3.out, HG3.out⟩
    | true =>
      go_enter Tryz.func64, Tryz.ntmps64
      go_wp2_with fail
      refine HP.out.mono ?_
      rintro e2 w2 ⟨rfl, hr2, hg2⟩
      obtain ⟨q, oo, kv, ja, jc, rfl, rfl, HC, p0, p1, p2, p3, p4, p5, p6, p7⟩ := HCUT.out w2 (HR1.out.post hr2 hg2)
      have HG2 := Lib.hid (grown_trans HG1.out hg2)
      clear hr2 hg2 HP c1 f1
      go_wp2_with fail
      refine HC.out.mono ?_
      rintro e3 w3 ⟨rfl, hr3, hg3⟩
      have H3 := Lib.hid hr3
      have HG3 := Lib.hid (grown_trans HG2.out hg3)
      clear hr3 hg3 HC p0 p1 p2 p3 p4 p5 p6 p7
      go_wp2_with fail
      go_end0
      exact ⟨rfl, H3.out, HG3.out⟩
  · have HM : Hid (R = o') := Lib.hid (by rw [HM.out]; unfold oM1; match l, h1 with | [], _ => rfl | _ :: _ :: _, _ => rfl)
    have e1 : ((l.length : Int) == 1) = false := by simp; omega
    clear h1 hz hD HPW HLC
    cases b with
    | false =>
      go_enter Tryz.func64, Tryz.ntmps64
      go_wp2_with fail
      go_end0
      exact ⟨rfl, by rw [HM.out]; exact HR1.out.row, HG1.out⟩
    | true =>
      go_enter Tryz.func64, Tryz.ntmps64
      go_wp2_with fail
      go_end0
      exact ⟨rfl, by rw [HM.out]; exact HR1.out.row, HG1.out⟩
end Go.Proofs.YtjgkeillmelkoaaGreat.Dt
