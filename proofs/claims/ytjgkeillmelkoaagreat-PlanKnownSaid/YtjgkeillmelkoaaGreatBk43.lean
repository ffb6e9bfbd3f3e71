import Derived.Test.YtjgkeillmelkoaaGreatBk42
import Derived.Test.YtjgkeillmelkoaaGreatBk36
import Derived.Test.YtjgkeillmelkoaaGreatBk37
import Derived.Test.YtjgkeillmelkoaaGreatBk40
namespace Go.Proofs.YtjgkeillmelkoaaGreat.Dt
open Go.RowKit Go.Proofs.YtjgkeillmelkoaaGreat.By

attribute [local go_sem ↓] veilLd_sm
attribute [local go_sem] run_smLd
set_option maxRecDepth 100000 in
set_option maxHeartbeats 32000000 in
theorem wayN {s index : ByteArray} {many first : Int} {st : PSt} {part : List PE} {m : Nat} (w : World) (hm1 : m ≤ 1000000)
    (hres : ∀ W, Calls Tryz.prog 6 #[.string s] W fun e w' => ∃ c, e = .returned (.agg c) ∧ New W.heap.size w' (fun u => StR u c.toList st) ∧ Below W.heap.size W w')
    (hplan : ∀ (va : Option Addr) (vc : Nat) (cs : List Value) (W : World), CatR W (.slice va 1 vc) [smallT] → StR W cs st → Calls Tryz.prog 5 #[.slice va 1 vc, .agg cs.toArray] W fun e w' => ∃ v w7, e = .returned (.tuple #[v, .int .i64 0]) ∧ (∃ sp, PlO w7 sp (m + 1) v w' ∧ sp m = (index, part)) ∧ Below W.heap.size W w')
    (hm : many = (part.length : Int)) (hfirst : part = [] ∨ ∃ y ys, part = y :: ys ∧ y.v.n = first ∧ (y.op = 1 ∨ y.op = 2 ∧ y.n = first)) :
    Calls Tryz.prog 9 #[.string s, .string index, .int .i64 many, .int .i64 first] w fun e w' => e = .returned (.bool true) ∧ Below w.heap.size w w' := by
  subst hm
  have HR := Lib.hid hres
  have HS := Lib.hid (smallL w)
  have HP := Lib.hid hplan
  have HFI := Lib.hid hfirst
  have HM := Lib.hid hm1
  clear hres hplan hfirst hm1
  go_enter Tryz.func9, Tryz.ntmps9
  go_wp2_with fail
  refine HS.out.mono ?_
  rintro e1 w1 ⟨v1, rfl, hv1, hb1⟩
  obtain ⟨va, vc, rfl, _⟩ := hv1.here.shape
  have HV1 := Lib.hid hv1.here
  have HB1 := Lib.hid hb1
  clear hv1 hb1 HS
  go_wp2_with fail
  refine (HR.out _).mono ?_
  rintro e2 w2 ⟨c, rfl, hv2, hb2⟩
  have hcc : c = c.toList.toArray := by simp
  have HP2 := Lib.hid (HP.out va vc c.toList w2 (catR_below HV1.out hb2) hv2.here)
  have HB2 := Lib.hid (next HB1.out hb2)
  rw [← hcc] at HP2
  clear hv2 hb2 HV1 hcc HR HP
  go_wp2_with fail
  refine HP2.out.mono ?_
  rintro e3 w3 ⟨v3, w7, rfl, ⟨sp, hpo, hsp⟩, hb3⟩
  obtain ⟨xs, hown, hlast⟩ := hpo.own
  obtain ⟨pv, sa, sn, sc, ⟨h0, h1, h2⟩, hpart⟩ := hlast m rfl
  rw [hsp] at h0 hpart
  obtain ⟨b, lc, rfl⟩ : ∃ b lc, v3 = .slice (some ⟨b, 0, none⟩) (m + 1) lc := by
    rcases hown.2 with ⟨_, h0⟩ | ⟨g, cap, cur, rfl, _⟩
    · omega
    · exact ⟨g, cap, rfl⟩
  have HB3 := Lib.hid (next HB2.out hb3)
  have q0 := World.ownsRow.cells hown rfl _ _ h0
  have q1 := World.ownsRow.cells hown rfl _ _ h1
  have q2 := World.ownsRow.cells hown rfl _ _ h2
  rw [Addr.add_lit, Nat.zero_add] at q0 q1 q2
  obtain ⟨pa, pc, rfl, _⟩ := hpart.shape
  change ExsR w3 (.slice pa part.length pc) part at hpart
  change w3.cell? ⟨b, m * 3 + 1, none⟩ = some (.slice pa part.length pc) at q1
  have f1 : (((m + 1 : Nat) : Int) == 0) = false := by simp; omega
  have f2 : (((m : Int) + 1) == 0) = false := by simp; omega
  have f3 : ¬ ((m : Int) + 1 = 0) := by omega
  have f4 : wrap64 (m : Int) = (m : Int) := by have := HM.out; unfold wrap64; omega
  have f5 : (m : Int) < (m : Int) + 1 := by omega
  have f6 : (0 : Int) ≤ (m : Int) := by omega
  have HPT := Lib.hid hpart
  clear hown hlast hpo hsp h0 h1 h2 hb3 hpart HP2
  have hbx : Below w3.heap.size w3 (w3.alloc (.cells #[.string index, .slice pa part.length pc, .slice sa sn sc] 61)) := (Below.refl _ _).alloc (Nat.le_refl _) _
  have HX := Lib.hid (row_alloc w3 61 #[.string index, .slice pa part.length pc, .slice sa sn sc])
  have HPX := Lib.hid (exsR_below HPT.out hbx)
  have HBX := Lib.hid (next HB3.out hbx)
  clear hbx
  go_upto_region 5 with fail
  clear q0 q1 q2 f1 f2 f3 f4 f5 f6
  generalize w3.alloc (.cells #[.string index, .slice pa part.length pc, .slice sa sn sc] 61) = w4 at *
  generalize w3.heap.size = g at *
  have x0 := HX.out.cell (i := 0) (v := .string index) rfl
  have x1 := HX.out.cell (i := 1) (v := .slice pa part.length pc) rfl
  cases part with
  | nil =>
    go_wp2_with fail
    go_ret
    exact ⟨rfl, HBX.out⟩
  | cons y ys =>
    have hfy : y.v.n = first ∧ (y.op = 1 ∨ y.op = 2 ∧ y.n = first) := by
      rcases HFI.out with h | ⟨_, _, h, h1⟩
      · cases h
      · cases h; exact h1
    obtain ⟨rfl, hop⟩ := hfy
    obtain ⟨b1, o1, k1, rfl, _, p0, p1, p2, p3, p4, p5, p6, p7⟩ := exs_at (k := 0) HPX.out rfl
    simp only [Nat.zero_mul, Nat.add_zero] at p0 p1 p2 p3 p4 p5 p6 p7
    clear p3 p4 p5 p7
    clear HFI HPT HPX
    generalize hm : (y :: ys).length = k at *
    have hm1 : 0 < k := by rw [← hm]; exact Nat.succ_pos _
    clear hm
    have im0 : ((k : Int) == 0) = false := by simp; omega
    have imn : ¬ (k : Int) = 0 := by omega
    have img : (0 : Int) < (k : Int) := by omega
    have en : (y.v.n == y.v.n) = true := by simp
    clear hm1
    rcases hop with hop | ⟨hop, hn⟩
    · rw [hop] at p0
      go_wp2_with fail
      go_ret
      exact ⟨rfl, HBX.out⟩
    · rw [hop] at p0
      rw [hn] at p6
      go_wp2_with fail
      go_ret
      exact ⟨rfl, HBX.out⟩
end Go.Proofs.YtjgkeillmelkoaaGreat.Dt
namespace Go.Proofs.YtjgkeillmelkoaaGreat.Dt
open Go.RowKit Go.Proofs.YtjgkeillmelkoaaGreat.By

attribute [local go_sem ↓] veilSt_sr
attribute [local go_sem] run_srSt okRow3' Value.oneCell'
set_option maxRecDepth 100000 in
set_option maxHeartbeats 32000000 in
theorem gather0W {cat : List PTb} {va : Option Addr} {vc : Nat} {s : PSt} {cs : List Value} {w : World} (hcat : CatR w (.slice va cat.length vc) cat) (hcl : cat.length ≤ 1000000) (h : StR w cs s) (hk8 : ¬ s.kind = 8) (hf : idxL (fiB s.table) cat 0 = -1) :
    Calls Tryz.prog 14 #[.slice va cat.length vc, .agg cs.toArray] w fun e w' => e = .returned (.tuple #[.agg #[.slice none 0 0, .slice none 0 0, .int .i64 0], .bool false]) ∧ Below w.heap.size w w' := by
  obtain ⟨c4, c5, c6, c7, c8, c9, ga, gc, wa, wc, c12, c13, c14, rfl, _, _, _⟩ := st_read h
  have h1 := row_alloc w 35 #[.int .u8 (s.kind : Int), .string s.table, .string s.name, .bool s.uniq, c4, c5, c6, c7, c8, c9, .slice ga s.src.length gc, .slice wa s.wh.length wc, c12, c13, c14, .int .i64 s.limit]
  have b1 := (Below.refl _ w).alloc (Nat.le_refl _) (.cells #[.int .u8 (s.kind : Int), .string s.table, .string s.name, .bool s.uniq, c4, c5, c6, c7, c8, c9, .slice ga s.src.length gc, .slice wa s.wh.length wc, c12, c13, c14, .int .i64 s.limit] 35)
  have b2 := (Below.refl _ (w.alloc (.cells #[.int .u8 (s.kind : Int), .string s.table, .string s.name, .bool s.uniq, c4, c5, c6, c7, c8, c9, .slice ga s.src.length gc, .slice wa s.wh.length wc, c12, c13, c14, .int .i64 s.limit] 35))).alloc (Nat.le_refl _) (.cells #[.slice none 0 0, .slice none 0 0, .int .i64 0] 51)
  have hz := row_alloc (w.alloc (.cells #[.int .u8 (s.kind : Int), .string s.table, .string s.name, .bool s.uniq, c4, c5, c6, c7, c8, c9, .slice ga s.src.length gc, .slice wa s.wh.length wc, c12, c13, c14, .int .i64 s.limit] 35)) 51 #[.slice none 0 0, .slice none 0 0, .int .i64 0]
  have z1 : (w.alloc (.cells #[.int .u8 (s.kind : Int), .string s.table, .string s.name, .bool s.uniq, c4, c5, c6, c7, c8, c9, .slice ga s.src.length gc, .slice wa s.wh.length wc, c12, c13, c14, .int .i64 s.limit] 35)).heap.size = w.heap.size + 1 := by simp
  rw [z1] at hz
  have HS := Lib.hid (h1.later b2)
  have HZ := Lib.hid hz
  have HB := Lib.hid (next b1 b2)
  have HCAT := Lib.hid hcat
  have HCL := Lib.hid hcl
  have HF : Hid (findV cat s.table = .tuple #[.int .i64 0, .bool false]) := Lib.hid (by unfold findV; rw [hf, if_pos rfl])
  have HK8 := Lib.hid hk8
  clear h1 b1 b2 hz z1 hcat hcl h hf hk8
  go_enter Tryz.func14, Tryz.ntmps14
  go_upto_region 1 with fail
  generalize (w.alloc (.cells #[.int .u8 (s.kind : Int), .string s.table, .string s.name, .bool s.uniq, c4, c5, c6, c7, c8, c9, .slice ga s.src.length gc, .slice wa s.wh.length wc, c12, c13, c14, .int .i64 s.limit] 35)).alloc (.cells #[.slice none 0 0, .slice none 0 0, .int .i64 0] 51) = w1 at *
  have c1 := HS.out.cell (i := 1) (v := .string s.table) rfl
  go_upto_region 2 with fail
  clear c1
  have hb2 : Below w1.heap.size w1 (w1.alloc (.cells #[.string s.table] 9)) := (Below.refl _ _).alloc (Nat.le_refl _) _
  have HS2 := Lib.hid (HS.out.later hb2)
  have HZ2 := Lib.hid (HZ.out.later hb2)
  have HB2 := Lib.hid (next HB.out hb2)
  have HN2 := Lib.hid (row_alloc w1 9 #[.string s.table])
  clear hb2 HS HZ HB
  generalize w1.alloc (.cells #[.string s.table] 9) = w2 at *
  generalize w1.heap.size = gn at *
  have c0 := HS2.out.cell (i := 0) (v := .int .u8 (s.kind : Int)) rfl
  have i8 : ((s.kind : Int) == 8) = false := by have := HK8.out; simp; omega
  go_upto_region 10 with fail
  clear c0 i8
  have hb3 : Below w2.heap.size w2 (w2.alloc (.cells #[.slice none 0 0, .slice none 0 0, .int .i64 0] 51)) := (Below.refl _ _).alloc (Nat.le_refl _) _
  have HS3 := Lib.hid (HS2.out.later hb3)
  have HZ3 := Lib.hid (HZ2.out.later hb3)
  have HB3 := Lib.hid (next HB2.out hb3)
  have HN3 := Lib.hid (HN2.out.later hb3)
  have HL3 := Lib.hid (row_alloc w2 51 #[.slice none 0 0, .slice none 0 0, .int .i64 0])
  have HLN : Hid (w.heap.size + 1 < w2.heap.size ∧ gn < w2.heap.size) := Lib.hid ⟨HZ2.out.lt, HN2.out.lt⟩
  clear hb3 HS2 HZ2 HB2 HN2
  generalize w2.alloc (.cells #[.slice none 0 0, .slice none 0 0, .int .i64 0] 51) = w3 at *
  generalize w2.heap.size = gl at *
  go_wp2_with fail
  go_loopg [35] 1 (fun gk iv wr => iv = .int .i64 0 ∧ gk = 1 ∧ w3 = wr)
  case atStart => exact ⟨rfl, rfl, rfl⟩
  case round =>
    obtain ⟨rfl, rfl, rfl⟩ := hrel
    have n0 := HN3.out.cell (i := 0) (v := .string s.table) rfl
    have hfw := findSW cat va vc s.table w3 HCL.out (catR_below HCAT.out HB3.out)
    rw [HF.out] at hfw
    go_wp2_with fail
    refine hfw.mono ?_
    rintro e4 w4 ⟨rfl, hb4⟩
    have HZ4 := Lib.hid (HZ3.out.later hb4)
    have HL4 := Lib.hid (HL3.out.later hb4)
    have HB4 := Lib.hid (next HB3.out hb4)
    clear n0 hfw hb4 HS3 HZ3 HL3 HB3 HN3
    have g0 := HL4.out.cell (i := 0) (v := .slice none 0 0) rfl
    have g1 := HL4.out.cell (i := 1) (v := .slice none 0 0) rfl
    have g2 := HL4.out.cell (i := 2) (v := .int .i64 0) rfl
    have hzb := HZ4.out.b (n := 3) rfl
    go_wp2_with fail
    exact bodyPost_ret (v := .tuple #[.agg #[.slice none 0 0, .slice none 0 0, .int .i64 0], .bool false]) (res_sr rfl _ _ (w.heap.size + 1) _ _ _ rfl rfl (HZ4.out.set _) rfl) rfl ⟨rfl, below_setRow' HB4.out (by omega) _⟩
attribute [local go_sem ↓] veilLd_sm
attribute [local go_sem] run_smLd
set_option maxRecDepth 100000 in
set_option maxHeartbeats 32000000 in
theorem planE {cat : List PTb} {va : Option Addr} {vc : Nat} {s : PSt} {cs : List Value} {w : World} (hcat : CatR w (.slice va cat.length vc) cat) (hcl : cat.length ≤ 1000000) (h : StR w cs s) (hk8 : ¬ s.kind = 8) (hf : idxL (fiB s.table) cat 0 = -1) (hco : condsL s = []) (hsrc : s.src = []) (hwh : s.wh.length ≤ 1000000) :
    Calls Tryz.prog 5 #[.slice va cat.length vc, .agg cs.toArray] w fun e w' => e = .returned (.tuple #[.slice none 0 0, .int .i64 2]) ∧ Below w.heap.size w w' := by
  have HSC : Hid (cs.toArray.size = 16) := Lib.hid (by rw [List.size_toArray]; exact (stCells _ _ _ h).1)
  have hb1 : Below w.heap.size w (w.alloc (.cells cs.toArray 35)) := (Below.refl _ _).alloc (Nat.le_refl _) _
  have HS1 := Lib.hid (row_alloc w 35 cs.toArray)
  have HB1 := Lib.hid hb1
  have HST := Lib.hid h
  have HGA := Lib.hid (gather0W (catR_below hcat hb1) hcl (stR_below h hb1) hk8 hf)
  have HCO := Lib.hid hco
  have HSR : Hid ((s.src.flatMap (·.on)).length + s.wh.length ≤ 1000000 ∧ s.src.length ≤ 1000000) := Lib.hid (by rw [hsrc]; exact ⟨by simpa using hwh, Nat.zero_le _⟩)
  clear hb1 h hcat hcl hk8 hf hco hsrc hwh
  go_enter Tryz.func5, Tryz.ntmps5
  go_upto_region 1 with fail
  generalize w.alloc (.cells cs.toArray 35) = w1 at *
  have hb := HS1.out.b (n := 16) HSC.out
  have ho := HS1.out.of
  go_wp2_with fail
  refine HGA.out.mono ?_
  rintro e2 w2 ⟨rfl, hb2⟩
  have z1 : (w2.alloc (.cells #[.slice none 0 0, .slice none 0 0, .int .i64 0] 51)).heap.size = w2.heap.size + 1 := by simp
  have hr1 := row_alloc w2 51 #[.slice none 0 0, .slice none 0 0, .int .i64 0]
  have ba := (Below.refl _ w2).alloc (Nat.le_refl _) (.cells #[.slice none 0 0, .slice none 0 0, .int .i64 0] 51)
  have hr2 := row_alloc (w2.alloc (.cells #[.slice none 0 0, .slice none 0 0, .int .i64 0] 51)) 4 #[.bool false]
  have bb := (Below.refl _ (w2.alloc (.cells #[.slice none 0 0, .slice none 0 0, .int .i64 0] 51))).alloc (Nat.le_refl _) (.cells #[.bool false] 4)
  rw [z1] at hr2
  have hr1' := hr1.later bb
  have bab := next ba bb
  have hzb := hr1'.b (n := 3) rfl
  obtain ⟨wA, hwA⟩ : ∃ wA, wA = (w2.alloc (.cells #[.slice none 0 0, .slice none 0 0, .int .i64 0] 51)).alloc (.cells #[.bool false] 4) := ⟨_, rfl⟩
  rw [← hwA] at hr1' hr2 hzb bab
  have hro2 : Row (w2.heap.size + 1) 4 #[.bool false] (wA.setRow w2.heap.size #[.slice none 0 0, .slice none 0 0, .int .i64 0]) := (setRow_other _ _ _ _ (by omega)).trans hr2
  have hx0 := hro2.cell (i := 0) (v := .bool false) rfl
  have hxf := hro2.free 0
  have hst := run_srSt wA w2.heap.size #[.slice none 0 0, .slice none 0 0, .int .i64 0] hzb (by simp [okRow, Value.oneCell'])
  have bs := below_set (j := w2.heap.size + 1) (i := 0) (u := .bool false) (below_setRow' bab (Nat.le_refl _) #[.slice none 0 0, .slice none 0 0, .int .i64 0]) (by omega)
  have es := setCell_eq_setRow (wA.setRow w2.heap.size #[.slice none 0 0, .slice none 0 0, .int .i64 0]) (w2.heap.size + 1) 0 _ _ _ (.bool false) hro2
  have HO3 : Hid (Row (w2.heap.size + 1) 4 #[.bool false] ((wA.setRow w2.heap.size #[.slice none 0 0, .slice none 0 0, .int .i64 0]).setCell ⟨w2.heap.size + 1, 0, none⟩ (.bool false))) := Lib.hid (by rw [es]; exact hro2.set _)
  have HLT2 : Hid (w.heap.size < w2.heap.size) := Lib.hid (HS1.out.later hb2).lt
  have HB2 := Lib.hid (next HB1.out hb2)
  have HS3 := Lib.hid ((HS1.out.later hb2).later bs)
  have HB3 := Lib.hid (next HB2.out bs)
  rw [hwA] at hx0 hxf hst
  clear hb2 hr1 ba bb bab hr1' hzb hr2 hro2 bs es HS1 HB1 hb ho HGA
  go_upto_region 2 with fail
  clear hx0 hxf hst
  rw [← hwA]
  generalize (wA.setRow w2.heap.size #[.slice none 0 0, .slice none 0 0, .int .i64 0]).setCell ⟨w2.heap.size + 1, 0, none⟩ (.bool false) = w3 at *
  clear hwA z1
  have hb := HS3.out.b (n := 16) HSC.out
  have ho := HS3.out.of
  have HCND := Lib.hid (condsW HB3.out HST.out HSR.out.1 HSR.out.2)
  rw [HCO.out] at HCND
  go_wp2_with fail
  refine HCND.out.mono ?_
  rintro e4 w4 ⟨cv, rfl, hpc, hb4⟩
  obtain ⟨va4, vc4, rfl⟩ := hpc.shape
  simp only [List.length_nil]
  have HO4 := Lib.hid (HO3.out.later hb4)
  have HB4 := Lib.hid (next HB3.out hb4)
  clear hpc hb4 hb ho HCND HO3 HS3 HB3
  go_upto_region 8 with fail
  go_loopg [31] 1 (fun gk iv wr => iv = .int .i64 0 ∧ gk = 1 ∧ w4 = wr)
  case atStart => exact ⟨rfl, rfl, rfl⟩
  case round =>
    obtain ⟨rfl, rfl, rfl⟩ := hrel
    have c0 := HO4.out.cell (i := 0) (v := .bool false) rfl
    go_wp2_with fail
    go_ret2
    exact ⟨rfl, HB4.out⟩
end Go.Proofs.YtjgkeillmelkoaaGreat.Dt
namespace Go.Proofs.YtjgkeillmelkoaaGreat.Dt
open Go.RowKit Go.Proofs.YtjgkeillmelkoaaGreat.By

theorem step3 : stepL 0 ((partsL st3.wh).filter simpleB) smallT = (⟨#[]⟩, []) := by kernel_rfl
theorem step4 : stepL 0 ((partsL st4.wh).filter simpleB) smallT = (⟨#[105]⟩, [intE 3]) := by kernel_rfl
theorem step5 : stepL 0 ((partsL st5.wh).filter simpleB) smallT = (⟨#[]⟩, [intE 4, intE 1]) := by kernel_rfl
theorem plan0W (w : World) (cs : List Value) (h : StR w cs st2) : Calls Tryz.prog 5 #[.slice none 0 0, .agg cs.toArray] w fun e w' => e = .returned (.tuple #[.slice none 0 0, .int .i64 2]) ∧ Below w.heap.size w w' :=
  planE (cat := []) (va := none) (vc := 0) slR_zero (by decide) h (by decide) rfl rfl rfl (by decide)
def stB : PSt := { kind := 9 }
theorem plan9W (w : World) (va : Option Addr) (vc : Nat) (cs : List Value) (hcat : CatR w (.slice va 1 vc) [smallT]) (h : StR w cs stB) : Calls Tryz.prog 5 #[.slice va 1 vc, .agg cs.toArray] w fun e w' => e = .returned (.tuple #[.slice none 0 0, .int .i64 2]) ∧ Below w.heap.size w w' :=
  planE (cat := [smallT]) (va := va) (vc := vc) hcat (by decide) h (by decide) (by decide +kernel) rfl rfl (by decide)
end Go.Proofs.YtjgkeillmelkoaaGreat.Dt
