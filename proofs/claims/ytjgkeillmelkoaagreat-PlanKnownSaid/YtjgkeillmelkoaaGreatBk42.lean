import Derived.Test.YtjgkeillmelkoaaGreatBk37
import Derived.Test.YtjgkeillmelkoaaGreatBk41
namespace Go.Proofs.YtjgkeillmelkoaaGreat.Dt
open Go.RowKit Go.Proofs.YtjgkeillmelkoaaGreat.By

/-- The steps so far: a row of the call's own; the last of them told. -/
structure PlO (w7 : World) (st : Nat → ByteArray × List PE) (k : Nat) (v : Value) (W : World) : Prop where
  own : ∃ xs, W.ownsRow w7.heap.size 61 3 v k xs ∧ ∀ m, k = m + 1 → ∃ pv sa sn sc, (xs[m * 3]? = some (.string (st m).1) ∧ xs[m * 3 + 1]? = some pv ∧ xs[m * 3 + 2]? = some (.slice sa sn sc)) ∧ ExsR W pv (st m).2
  hb : Below w7.heap.size w7 W
theorem PRow.opt {w0 w w' : World} {lo : Nat} {v : Value} {E : List PE} {r : Option Nat} (h : PRow w0 lo w v E) (g : w.grownBy w' r) (hne : ∀ k, r = some k → v.ownBlock ≠ some k) : PRow w0 lo w' v E := by
  cases r with
  | none => exact h.later ⟨g.os, g.tape, g.output, g.size, fun b hb => g.block b hb (by simp)⟩
  | some r => exact h.other g fun k hk e => hne r rfl (e ▸ hk)
theorem row_tail {xs : List Value} {k : Nat} {a b c : Value} (h : xs.length = k * 3) : (xs ++ [a, b, c])[k * 3]? = some a ∧ (xs ++ [a, b, c])[k * 3 + 1]? = some b ∧ (xs ++ [a, b, c])[k * 3 + 2]? = some c := by
  refine ⟨?_, ?_, ?_⟩
  · rw [List.getElem?_append_right (by omega), h, Nat.sub_self]; rfl
  · rw [List.getElem?_append_right (by omega), h, Nat.add_sub_cancel_left]; rfl
  · rw [List.getElem?_append_right (by omega), h, Nat.add_sub_cancel_left]; rfl
theorem plo_next {w7 W : World} {st : Nat → ByteArray × List PE} {k sn sc : Nat} {v pv : Value} {sa : Option Addr} {xs : List Value} (hown : W.ownsRow w7.heap.size 61 3 v (k + 1) (xs ++ [.string (st k).1, pv, .slice sa sn sc])) (hl : xs.length = k * 3) (hx : ExsR W pv (st k).2) (hb : Below w7.heap.size w7 W) : PlO w7 st (k + 1) v W := by
  refine ⟨⟨_, hown, fun m hm => ?_⟩, hb⟩
  obtain rfl : m = k := by omega
  exact ⟨_, _, _, _, row_tail hl, hx⟩
/-- The steps of sources. -/
def stpL (fs : List Int) (ts : List PTb) (parts : List PE) (m : Nat) : ByteArray × List PE := stepL (fs.getD m 0) parts (ts.getD m ⟨⟨#[]⟩, [], [], []⟩)
attribute [local go_sem ↓] veilSt_ex veilLd_ex veilBs_ex veilSt_sr veilSt_tb veilLd_sm
attribute [local go_sem] run_exSt run_exNew run_exLd run_srSt run_tbSt run_smLd okRow8 okRow3' okRow4 Value.oneCell'
set_option maxRecDepth 100000 in
set_option maxHeartbeats 64000000 in
theorem planN {va : Option Addr} {vc cn n : Nat} {all : Int} {s : PSt} {cs : List Value} {ts : List PTb} {fs : List Int} {C : List PE} {w : World} (h : StR w cs s) (hts : ts.length = n) (hfs : fs.length = n) (hn : n ≤ 1000000)
    (hga : ∀ W, Below w.heap.size w W → Calls Tryz.prog 14 #[.slice va cn vc, .agg cs.toArray] W fun e w' => ∃ ta tc fa fc, e = .returned (.tuple #[.agg #[.slice ta n tc, .slice fa n fc, .int .i64 all], .bool true]) ∧ CatR w' (.slice ta n tc) ts ∧ IntsR w' (.slice fa n fc) fs ∧ Below W.heap.size W w')
    (hC : condsL s = C) (hsr : (s.src.flatMap (·.on)).length + s.wh.length ≤ 1000000 ∧ s.src.length ≤ 1000000) (hwh : cntL C ≤ 1000000) (htl : ∀ t ∈ ts, t.key.length ≤ 1000000 ∧ t.ixs.length ≤ 1000000 ∧ ∀ x ∈ t.ixs, x.cols.length ≤ 1000000) (hok : (colsL C).foldl (okStep all) true = true) :
    Calls Tryz.prog 5 #[.slice va cn vc, .agg cs.toArray] w fun e w' => ∃ v w7, e = .returned (.tuple #[v, .int .i64 0]) ∧ PlO w7 (stpL fs ts ((partsL C).filter simpleB)) n v w' ∧ Below w.heap.size w w' := by
  have hwl : C.length ≤ 1000000 := by
    have hlen : ∀ l : List PE, l.length ≤ cntL l := fun l => by
      induction l with
      | nil => exact Nat.zero_le _
      | cons x l ih => rw [cntL, List.length_cons, cnt_kids]; omega
    exact Nat.le_trans (hlen C) hwh
  have HWL := Lib.hid hwl
  obtain ⟨parts, hparts⟩ : ∃ ps, ps = (partsL C).filter simpleB := ⟨_, rfl⟩
  have HPL : Hid (parts.length ≤ 1000000) := Lib.hid (by rw [hparts]; exact Nat.le_trans (List.length_filter_le _ _) (Nat.le_trans (parts_cntL _) hwh))
  have HP2 : Hid (∀ x ∈ parts, (∃ a b, x.kids = [a, b]) ∧ cntE x ≤ 1000000) := Lib.hid (by rw [hparts]; exact fun x hx => simple_two hx hwh)
  rw [← hparts]
  have HPA := Lib.hid hparts
  have HSC : Hid (cs.toArray.size = 16) := Lib.hid (by rw [List.size_toArray]; exact (stCells _ _ _ h).1)
  have hb1 : Below w.heap.size w (w.alloc (.cells cs.toArray 35)) := (Below.refl _ _).alloc (Nat.le_refl _) _
  have HS1 := Lib.hid (row_alloc w 35 cs.toArray)
  have HB1 := Lib.hid hb1
  have HST := Lib.hid h
  have HGA := Lib.hid (hga _ hb1)
  have HCO := Lib.hid hC
  have HSR := Lib.hid hsr
  have HTL := Lib.hid htl
  have HTS := Lib.hid hts
  have HFS := Lib.hid hfs
  have HN := Lib.hid hn
  have HWH := Lib.hid hwh
  have HOK := Lib.hid hok
  clear hparts hwl hb1 h hga hC hsr hts hfs hn htl hwh hok
  go_enter Tryz.func5, Tryz.ntmps5
  go_upto_region 1 with fail
  generalize w.alloc (.cells cs.toArray 35) = w1 at *
  have hb := HS1.out.b (n := 16) HSC.out
  have ho := HS1.out.of
  go_wp2_with fail
  refine HGA.out.mono ?_
  rintro e2 w2 ⟨ta, tc, fa, fc, rfl, hct, hcf, hb2⟩
  have z1 : (w2.alloc (.cells #[.slice none 0 0, .slice none 0 0, .int .i64 0] 51)).heap.size = w2.heap.size + 1 := by simp
  have hr1 := row_alloc w2 51 #[.slice none 0 0, .slice none 0 0, .int .i64 0]
  have ba := (Below.refl _ w2).alloc (Nat.le_refl _) (.cells #[.slice none 0 0, .slice none 0 0, .int .i64 0] 51)
  have hr2 := row_alloc (w2.alloc (.cells #[.slice none 0 0, .slice none 0 0, .int .i64 0] 51)) 4 #[.bool false]
  have bb := (Below.refl _ (w2.alloc (.cells #[.slice none 0 0, .slice none 0 0, .int .i64 0] 51))).alloc (Nat.le_refl _) (.cells #[.bool false] 4)
  rw [z1] at hr2
  have hr1' := hr1.later bb
  have bab := next ba bb
  have hzb := hr1'.b (n := 3) rfl
  obtain ⟨wA, hwA⟩ : ∃ wA, wA = (w2.alloc (.cells #[.slice none 0 0, .slice none 0 0, .int .i64 0] 51)).alloc (.cells #[.bool false] 4) := ⟨_, rfl⟩
  rw [← hwA] at hr1' hr2 hzb bab
  have hrl : Row w2.heap.size 51 #[.slice ta n tc, .slice fa n fc, .int .i64 all] (wA.setRow w2.heap.size #[.slice ta n tc, .slice fa n fc, .int .i64 all]) := hr1'.set _
  have hro2 : Row (w2.heap.size + 1) 4 #[.bool false] (wA.setRow w2.heap.size #[.slice ta n tc, .slice fa n fc, .int .i64 all]) := (setRow_other _ _ _ _ (by omega)).trans hr2
  have hx0 := hro2.cell (i := 0) (v := .bool false) rfl
  have hxf := hro2.free 0
  have hst := run_srSt wA w2.heap.size #[.slice ta n tc, .slice fa n fc, .int .i64 all] hzb (by simp [okRow, Value.oneCell'])
  have bs := below_set (j := w2.heap.size + 1) (i := 0) (u := .bool true) (below_setRow' bab (Nat.le_refl _) #[.slice ta n tc, .slice fa n fc, .int .i64 all]) (by omega)
  have es := setCell_eq_setRow (wA.setRow w2.heap.size #[.slice ta n tc, .slice fa n fc, .int .i64 all]) (w2.heap.size + 1) 0 _ _ _ (.bool true) hro2
  have HL3 : Hid (Row w2.heap.size 51 #[.slice ta n tc, .slice fa n fc, .int .i64 all] ((wA.setRow w2.heap.size #[.slice ta n tc, .slice fa n fc, .int .i64 all]).setCell ⟨w2.heap.size + 1, 0, none⟩ (.bool true))) := Lib.hid (by rw [es]; exact (setRow_other _ _ _ _ (by omega)).trans hrl)
  have HO3 : Hid (Row (w2.heap.size + 1) 4 #[.bool true] ((wA.setRow w2.heap.size #[.slice ta n tc, .slice fa n fc, .int .i64 all]).setCell ⟨w2.heap.size + 1, 0, none⟩ (.bool true))) := Lib.hid (by rw [es]; exact hro2.set _)
  have HLT2 : Hid (w.heap.size < w2.heap.size) := Lib.hid (HS1.out.later hb2).lt
  have HB2 := Lib.hid (next HB1.out hb2)
  have HS3 := Lib.hid ((HS1.out.later hb2).later bs)
  have HB3 := Lib.hid (next HB2.out bs)
  have HCT2 := Lib.hid hct
  have HCF2 := Lib.hid hcf
  have HBS := Lib.hid bs
  rw [hwA] at hx0 hxf hst
  clear hct hcf hb2 hr1 ba bb bab hr1' hzb hr2 hrl hro2 bs es HS1 HB1 hb ho HGA
  go_upto_region 2 with fail
  clear hx0 hxf hst
  rw [← hwA]
  generalize (wA.setRow w2.heap.size #[.slice ta n tc, .slice fa n fc, .int .i64 all]).setCell ⟨w2.heap.size + 1, 0, none⟩ (.bool true) = w3 at *
  clear hwA
  have HGL : Hid (w2.heap.size + 1 < w3.heap.size) := Lib.hid HO3.out.lt
  generalize hglz : w2.heap.size = gl at *
  have HGZ := Lib.hid hglz
  clear hglz z1
  have hb := HS3.out.b (n := 16) HSC.out
  have ho := HS3.out.of
  have HCND := Lib.hid (condsW HB3.out HST.out HSR.out.1 HSR.out.2)
  go_wp2_with fail
  refine HCND.out.mono ?_
  rintro e4 w4 ⟨cv, rfl, hpc, hb4⟩
  rw [HCO.out] at hpc
  obtain ⟨va4, vc4, rfl⟩ := hpc.shape
  have HPC := Lib.hid hpc
  have HB34 := Lib.hid hb4
  have HL4 := Lib.hid (HL3.out.later hb4)
  have HO4 := Lib.hid (HO3.out.later hb4)
  have HB4 := Lib.hid (next HB3.out hb4)
  clear hpc hb4 hb ho HCND HL3 HO3 HS3
  go_upto_region 8 with fail
  have HG34 : Hid (w3.heap.size ≤ w4.heap.size) := Lib.hid HB34.out.size
  have HFF := Lib.hid (okF (w := w) (wb := w4) (gok := gl + 1) (gl := gl) (by omega) HL4.out HB4.out (by have := HLT2.out; omega) HO4.out.lt)
  go_loopg [31] C.length (fun gk iv wr => ∃ (i : Nat) (b : Bool), iv = .int .i64 (i : Int) ∧ gk = C.length - i ∧ i ≤ C.length ∧ Hid ((colsL (C.drop i)).foldl (okStep all) b = true) ∧ Hid (Row (gl + 1) 4 #[.bool b] wr ∧ w4.grownBy wr (some (gl + 1))))
  case atStart => exact ⟨0, true, rfl, rfl, Nat.zero_le _, HOK, Lib.hid ⟨HO4.out, World.grownBy.refl _ _⟩⟩
  case round =>
    obtain ⟨i, b, rfl, rfl, hi, HFO, HI⟩ := hrel
    have hpw : PRow w w3.heap.size wr (.slice va4 C.length vc4) C := HPC.out.other HI.out.2 (fun k hk => by have := (HPC.out.lt k hk).1; have := HGL.out; omega)
    by_cases hlt : i < C.length
    · obtain ⟨x, hx⟩ : ∃ z, C[i]? = some z := ⟨C[i], by simp⟩
      obtain ⟨g, na, nc, rfl, hgg, hky, hld⟩ := prow_at hpw hx
      have hbx : Below wr.heap.size wr (wr.alloc (.cells #[.int .u8 (x.op : Int), .int .u8 (x.v.k : Int), .int .i64 x.v.n, .string x.v.s, .string x.t, .string x.m, .int .i64 x.n, .slice na x.kids.length nc] 44)) := (Below.refl _ _).alloc (Nat.le_refl _) _
      have HRX := Lib.hid (row_alloc wr 44 #[.int .u8 (x.op : Int), .int .u8 (x.v.k : Int), .int .i64 x.v.n, .string x.v.s, .string x.t, .string x.m, .int .i64 x.n, .slice na x.kids.length nc])
      have hc := colsW HFF.out (Nat.le_trans (cnt_mem (List.mem_of_getElem? hx)) HWH.out) hky (HFF.out.later _ _ _ HI.out hbx)
      unfold PE.val at hc
      have HC := Lib.hid hc
      have HNX : Hid ((colsL (C.drop (i + 1))).foldl (okStep all) ((colsE x).foldl (okStep all) b) = true) := Lib.hid (by rw [← List.foldl_append, ← colsL_next hx]; exact HFO.out)
      have ilt : (i : Int) < (C.length : Int) := by omega
      have ige : (0 : Int) ≤ (i : Int) := by omega
      have HLT := Lib.hid hlt
      clear hbx hc hx hky hlt hi hpw
      go_upto_region 6 with fail
      clear hld
      generalize wr.alloc (.cells #[.int .u8 (x.op : Int), .int .u8 (x.v.k : Int), .int .i64 x.v.n, .string x.v.s, .string x.t, .string x.m, .int .i64 x.n, .slice na x.kids.length nc] 44) = wx at *
      generalize wr.heap.size = gx at *
      have hrb := HRX.out.b (n := 8) rfl
      have hro := HRX.out.of
      go_wp2_with fail
      refine HC.out.mono ?_
      rintro e5 w5 ⟨rfl, hi5⟩
      have HI5 := Lib.hid hi5
      clear hi5 HC hrb hro
      go_wp2_with fail
      go_roundg (C.length - (i + 1))
      case measure => exact Nat.sub_lt_sub_left HLT.out (Nat.lt_succ_self _)
      case rel => exact ⟨i + 1, _, congrArg (Value.int .i64) (by have h1 := HWL.out; have h2 := HLT.out; unfold wrap64; omega), rfl, HLT.out, HNX, HI5⟩
    · obtain rfl : i = C.length := by omega
      have eb : b = true := by have h := HFO.out; rw [List.drop_length, colsL] at h; exact h
      subst eb
      have HP5 := Lib.hid hpw
      have HL5 := Lib.hid (HL4.out.grown HI.out.2 (by omega))
      have HO5 := Lib.hid HI.out.1
      have HGR5 := Lib.hid HI.out.2
      have c0 := HI.out.1.cell (i := 0) (v := .bool true) rfl
      clear hlt hi hpw HFO HI
      go_upto_region 10 with fail
      clear c0
      have HB5 : Hid (Below w.heap.size w wr) := Lib.hid (HB4.out.grown HGR5.out HB4.out.size (fun k hk => by cases hk; have := HLT2.out; omega))
      have HB25 : Hid (Below gl w2 wr) := Lib.hid ((HBS.out.trans (HB34.out.mono (by have := HGL.out; omega))).grown HGR5.out (by have := HGL.out; have := HG34.out; omega) (fun k hk => by cases hk; omega))
      have HSI := Lib.hid (plSimpleW HWH.out (Below.refl _ wr) (HP5.out.exs HB5.out))
      rw [← HPA.out] at HSI
      clear HBS HB34 HGR5 HO5 HPC HL4 HO4 HB4 HFF
      go_wp2_with fail
      refine HSI.out.mono ?_
      rintro e6 w6 ⟨pv, rfl, hp6, hb6⟩
      obtain ⟨pa, pc, rfl⟩ := hp6.shape
      have hb7 : Below w6.heap.size w6 (w6.alloc (.cells #[.slice pa parts.length pc] 32)) := (Below.refl _ _).alloc (Nat.le_refl _) _
      have HP6 := Lib.hid (hp6.exs hb6)
      have HL6LT : Hid (gl < w6.heap.size) := Lib.hid (HL5.out.later hb6).lt
      have HB7 := Lib.hid (next (next HB5.out hb6) hb7)
      have HL7 := Lib.hid ((HL5.out.later hb6).later hb7)
      have HB27 : Hid (Below gl w2 (w6.alloc (.cells #[.slice pa parts.length pc] 32))) := Lib.hid ((HB25.out.trans (hb6.mono (by have := HL5.out.lt; omega))).trans (hb7.mono (by have := (HL5.out.later hb6).lt; omega)))
      have HB67 := Lib.hid hb7
      have HGP := Lib.hid (row_alloc w6 32 #[.slice pa parts.length pc])
      clear hp6 hb6 hb7 HSI HB5 HL5 HB25 HP5
      go_upto_region 12 with fail
      generalize w6.alloc (.cells #[.slice pa parts.length pc] 32) = w7 at *
      have c0 := HL7.out.cell (i := 0) (v := .slice ta n tc) rfl
      go_wp2_with fail
      clear c0
      have HPO : Hid (PlO w7 (stpL fs ts parts) 0 (.slice none 0 0) w7) := Lib.hid ⟨⟨[], World.ownsRow_nil _ _ _ _, fun m h => by omega⟩, Below.refl _ _⟩
      go_loopg [12, 46] n (fun gk ov iv wr => ∃ (k : Nat) (oa : Option Addr) (oc : Nat), iv = .int .i64 (k : Int) ∧ ov = .slice oa k oc ∧ gk = n - k ∧ k ≤ n ∧ Hid (PlO w7 (stpL fs ts parts) k (.slice oa k oc) wr))
      case atStart => exact ⟨0, none, 0, rfl, rfl, rfl, Nat.zero_le _, HPO⟩
      case round =>
        obtain ⟨k, oa, oc, rfl, rfl, rfl, hk, HO⟩ := hrel
        clear HPO
        obtain ⟨wo, rfl⟩ : ∃ z, z = wr := ⟨wr, rfl⟩
        rcases Nat.lt_or_ge k n with hkn | hkn
        · have HKN := Lib.hid hkn
          have iklt : (k : Int) < (n : Int) := Int.ofNat_lt.2 hkn
          have ikge : (0 : Int) ≤ (k : Int) := Int.natCast_nonneg k
          obtain ⟨t, ht⟩ : ∃ t, ts[k]? = some t := ⟨_, List.getElem?_eq_getElem (by have := HTS.out; omega)⟩
          obtain ⟨f, hf⟩ : ∃ f, fs[k]? = some f := ⟨_, List.getElem?_eq_getElem (by have := HFS.out; omega)⟩
          have HF := Lib.hid hf
          have HTT := Lib.hid (HTL.out t (List.mem_of_getElem? ht))
          have HSTP : Hid (stpL fs ts parts k = stepL f parts t) := Lib.hid (by unfold stpL; rw [List.getD_eq_getElem?_getD, List.getD_eq_getElem?_getD, hf, ht]; rfl)
          have HGPR := Lib.hid (HGP.out.later HO.out.hb)
          have HLR := Lib.hid (HL7.out.later HO.out.hb)
          have HB67R := Lib.hid (HB67.out.trans (HO.out.hb.mono HB67.out.size))
          have HBR := Lib.hid (HB7.out.trans (HO.out.hb.mono HB7.out.size))
          have HB2R := Lib.hid (HB27.out.trans (HO.out.hb.mono (Nat.le_of_lt HL7.out.lt)))
          have HB2' : Hid (Below w2.heap.size w2 wo) := Lib.hid (by rw [HGZ.out]; exact HB2R.out)
          obtain ⟨b, o, ca, cc, ja, jc, xa, xc, rfl, htb, q0, q1, q2, q3⟩ := tb_ld HCT2.out ht HB2'.out
          have HTB := Lib.hid htb
          have Q0 := Lib.hid q0
          have Q1 := Lib.hid q1
          have Q2 := Lib.hid q2
          have Q3 := Lib.hid q3
          clear htb q0 q1 q2 q3 ht hf hkn hk
          have z1 : (wo.alloc (.cells #[.int .i64 (k : Int)] 3)).heap.size = wo.heap.size + 1 := by simp
          have ri := row_alloc wo 3 #[.int .i64 (k : Int)]
          have ba := (Below.refl _ wo).alloc (Nat.le_refl _) (.cells #[.int .i64 (k : Int)] 3)
          have rt := row_alloc (wo.alloc (.cells #[.int .i64 (k : Int)] 3)) 59 #[.string ⟨#[]⟩, .slice none 0 0, .slice none 0 0, .slice none 0 0]
          have bb := (Below.refl _ (wo.alloc (.cells #[.int .i64 (k : Int)] 3))).alloc (Nat.le_refl _) (.cells #[.string ⟨#[]⟩, .slice none 0 0, .slice none 0 0, .slice none 0 0] 59)
          rw [z1] at rt
          have ri' := ri.later bb
          have bab := next ba bb
          obtain ⟨wB, hwB⟩ : ∃ wB, wB = (wo.alloc (.cells #[.int .i64 (k : Int)] 3)).alloc (.cells #[.string ⟨#[]⟩, .slice none 0 0, .slice none 0 0, .slice none 0 0] 59) := ⟨_, rfl⟩
          rw [← hwB] at ri' rt bab
          have hst := run_tbSt wB (wo.heap.size + 1) #[.string t.name, .slice ca t.cols.length cc, .slice ja t.key.length jc, .slice xa t.ixs.length xc] (rt.b (n := 4) rfl) (by simp [okRow, Value.oneCell'])
          have HI8 : Hid (Row wo.heap.size 3 #[.int .i64 (k : Int)] (wB.setRow (wo.heap.size + 1) #[.string t.name, .slice ca t.cols.length cc, .slice ja t.key.length jc, .slice xa t.ixs.length xc])) := Lib.hid ((setRow_other _ _ _ _ (by omega)).trans ri')
          have HT8 : Hid (Row (wo.heap.size + 1) 59 #[.string t.name, .slice ca t.cols.length cc, .slice ja t.key.length jc, .slice xa t.ixs.length xc] (wB.setRow (wo.heap.size + 1) #[.string t.name, .slice ca t.cols.length cc, .slice ja t.key.length jc, .slice xa t.ixs.length xc])) := Lib.hid (rt.set _)
          have HB78 : Hid (Below wo.heap.size wo (wB.setRow (wo.heap.size + 1) #[.string t.name, .slice ca t.cols.length cc, .slice ja t.key.length jc, .slice xa t.ixs.length xc])) := Lib.hid (below_setRow' bab (by omega) _)
          have q0 := Q0.out
          have q1 := Q1.out
          have q2 := Q2.out
          have q3 := Q3.out
          rw [hwB] at hst
          clear z1 ri ba rt bb ri' bab
          go_upto_region 15 with fail
          clear hst q0 q1 q2 q3
          rw [← hwB]
          generalize wB.setRow (wo.heap.size + 1) #[.string t.name, .slice ca t.cols.length cc, .slice ja t.key.length jc, .slice xa t.ixs.length xc] = w8 at *
          clear hwB
          generalize hgi : wo.heap.size = gi at *
          have HGI := Lib.hid hgi
          clear hgi
          generalize hgp : w6.heap.size = gp at *
          have HGPZ := Lib.hid hgp
          clear hgp
          have hb9 : Below w8.heap.size w8 (w8.alloc (.cells #[.string ⟨#[]⟩, .slice none 0 0, .slice none 0 0] 61)) := (Below.refl _ _).alloc (Nat.le_refl _) _
          have HG8 : Hid (gi + 1 < w8.heap.size) := Lib.hid HT8.out.lt
          have HI9 := Lib.hid (HI8.out.later hb9)
          have HT9 := Lib.hid (HT8.out.later hb9)
          have HB79 : Hid (Below gi wo (w8.alloc (.cells #[.string ⟨#[]⟩, .slice none 0 0, .slice none 0 0] 61))) := Lib.hid (HB78.out.trans (hb9.mono (by have := HG8.out; omega)))
          have HS9 : Hid (SimS (w8.alloc (.cells #[.string ⟨#[]⟩, .slice none 0 0, .slice none 0 0] 61)) w8.heap.size (.slice none 0 0) 0 [] (w8.alloc (.cells #[.string ⟨#[]⟩, .slice none 0 0, .slice none 0 0] 61))) := Lib.hid ⟨World.ownsRow_nil _ _ _ _, row_alloc _ _ _, World.grownBy.refl _ _⟩
          clear hb9 HI8 HT8 HB78
          go_upto_region 16 with fail
          generalize w8.alloc (.cells #[.string ⟨#[]⟩, .slice none 0 0, .slice none 0 0] 61) = w9 at *
          generalize w8.heap.size = gs at *
          have HGPI : Hid (gl < gp ∧ gp < gi ∧ gi + 1 < gs ∧ gs < w9.heap.size) := Lib.hid ⟨by have h1 := HL6LT.out; have h2 := HGPZ.out; omega, by have := HGPR.out.lt; have := HGI.out; omega, HG8.out, HS9.out.row.lt⟩
          have HTB9 : Hid (TB w6 gl gp gi #[.slice (some ⟨b, o, none⟩) n tc, .slice fa n fc, .int .i64 all] (.slice pa parts.length pc) k w9) := Lib.hid ⟨by have h1 := HB67R.out; rw [← HGPZ.out] at h1; exact h1.trans (HB79.out.mono (by have := HGPI.out; have := HGPZ.out; omega)), by have h1 := HB79.out; rw [← HGI.out] at h1; exact HLR.out.later h1, by have h1 := HB79.out; rw [← HGI.out] at h1; exact HGPR.out.later h1, HI9.out⟩
          have HB29 : Hid (Below w2.heap.size w2 w9) := Lib.hid (HB2'.out.trans (HB79.out.mono (by have := HGPI.out; have := HGZ.out; omega)))
          have HB9 : Hid (Below w.heap.size w w9) := Lib.hid (HBR.out.trans (HB79.out.mono (by have := HGPI.out; have := HLT2.out; omega)))
          have HOB : Hid (∃ xs, w9.ownsRow w7.heap.size 61 3 (.slice oa k oc) k xs) := Lib.hid (by
            obtain ⟨xs, h1, _⟩ := HO.out.own
            refine ⟨xs, own_kept (r := .slice none 0 0) h1 ?_ (fun z hz => by simp [Value.ownBlock] at hz)⟩
            have h2 := HB79.out
            rw [← HGI.out] at h2
            exact ⟨h2.os, h2.tape, h2.output, h2.size, fun z hz _ => h2.block z hz⟩)
          have HOLT : Hid (∀ z, (Value.slice oa k oc).ownBlock = some z → w7.heap.size ≤ z ∧ z < gi) := Lib.hid (fun z hz => by
            obtain ⟨xs, h1, _⟩ := HO.out.own
            have := World.ownsRow.lt h1 z hz
            have := HGI.out
            omega)
          have HB709 : Hid (Below w7.heap.size w7 w9) := Lib.hid (HO.out.hb.trans (by have h2 := HB79.out; rw [← HGI.out] at h2; exact h2.mono HO.out.hb.size))
          have HG7 : Hid (w6.heap.size < w7.heap.size ∧ w7.heap.size ≤ gi) := Lib.hid ⟨by have := HGP.out.lt; have := HGPZ.out; omega, by have := HO.out.hb.size; have := HGI.out; omega⟩
          clear HI9 HB2' HLR HGPR HB67R HB79 Q0 Q1 Q2 Q3 HBR HB2R HO
          have hgp0 := HTB9.out.rp.cell (i := 0) (v := .slice pa parts.length pc) rfl
          go_wp2_with fail
          clear hgp0
          go_loopg [54] parts.length (fun gk iv wr => ∃ (i n' : Nat) (sv : Value) (xs : List Value), iv = .int .i64 (i : Int) ∧ gk = parts.length - i ∧ i ≤ parts.length ∧ n' ≤ i ∧ Hid (SimS w9 gs sv n' xs wr))
          case atStart => exact ⟨0, 0, _, [], rfl, rfl, Nat.zero_le _, Nat.le_refl _, HS9⟩
          case round =>
            obtain ⟨i, n', sv, xs, rfl, rfl, hi, hni, HS⟩ := hrel
            obtain ⟨sa, sc, rfl⟩ := own_sl HS.out.own
            have HTBR := Lib.hid (HTB9.out.grown HS.out.hg (by have := HGPI.out; have := HGPZ.out; omega) (by have := HGPI.out; omega) (by have := HGPI.out; omega) (by have := HGPI.out; omega))
            by_cases hlt : i < parts.length
            · obtain ⟨x, hx⟩ : ∃ z, parts[i]? = some z := ⟨parts[i], by simp⟩
              obtain ⟨b1, o1, na, nc, rfl, hky, hld⟩ := kid_ld HP6.out hx HTBR.out.h0
              have hbx : Below wr.heap.size wr (wr.alloc (.cells #[.int .u8 (x.op : Int), .int .u8 (x.v.k : Int), .int .i64 x.v.n, .string x.v.s, .string x.t, .string x.m, .int .i64 x.n, .slice na x.kids.length nc] 44)) := (Below.refl _ _).alloc (Nat.le_refl _) _
              have HRX := Lib.hid (row_alloc wr 44 #[.int .u8 (x.op : Int), .int .u8 (x.v.k : Int), .int .i64 x.v.n, .string x.v.s, .string x.t, .string x.m, .int .i64 x.n, .slice na x.kids.length nc])
              have HSX := Lib.hid (HS.out.later hbx)
              have HTBX := Lib.hid (HTBR.out.later hbx)
              have HKX : Hid (ExR w6 (#[.int .u8 (x.op : Int), .int .u8 (x.v.k : Int), .int .i64 x.v.n, .string x.v.s, .string x.t, .string x.m, .int .i64 x.n, .slice na x.kids.length nc] : Array Value).toList x) := Lib.hid (exR_iff.2 ⟨_, rfl, hky⟩)
              have HKY := Lib.hid hky
              have HCN : Hid (cntE x ≤ 1000000) := Lib.hid (HP2.out x (List.mem_of_getElem? hx)).2
              have ilt : (i : Int) < (parts.length : Int) := by omega
              have ige : (0 : Int) ≤ (i : Int) := by omega
              have HLT := Lib.hid hlt
              have HNI := Lib.hid hni
              clear hbx hky hx hlt hni hi HS HTBR
              go_upto_region 19 with fail
              clear hld
              generalize hgx : wr.alloc (.cells #[.int .u8 (x.op : Int), .int .u8 (x.v.k : Int), .int .i64 x.v.n, .string x.v.s, .string x.t, .string x.m, .int .i64 x.n, .slice na x.kids.length nc] 44) = wx at *
              clear hgx
              generalize wr.heap.size = gx at *
              have HB2X : Hid (Below w2.heap.size w2 wx) := Lib.hid (HB29.out.grown HSX.out.hg HB29.out.size (fun k hk => by cases hk; have := HGPI.out; have := HGZ.out; omega))
              have HKW : Hid (∀ W, Below wx.heap.size wx W → Calls Tryz.prog 18 #[.agg #[.slice (some ⟨b, o, none⟩) n tc, .slice fa n fc, .int .i64 all], .agg #[.int .u8 (x.op : Int), .int .u8 (x.v.k : Int), .int .i64 x.v.n, .string x.v.s, .string x.t, .string x.m, .int .i64 x.n, .slice na x.kids.length nc]] W fun e w' => e = .returned (.int .i64 (knownV fs x : Int)) ∧ Below W.heap.size W w') := Lib.hid fun W hb => by
                have h := knownW (ta := some ⟨b, o, none⟩) (tn := n) (tc := tc) (all := all) (fa := fa) (fc := fc) (fs := fs) (by have := HFS.out; have := HN.out; omega) (by rw [HFS.out]; exact intsR_below HCF2.out (HB2X.out.trans (hb.mono HB2X.out.size))) (exsR_below HKY.out (HTBX.out.h0.trans (hb.mono HTBX.out.h0.size))) HCN.out
                rw [HFS.out] at h
                exact h
              obtain ⟨kn, hkv⟩ : ∃ kn, kn = knownV fs x := ⟨_, rfl⟩
              rw [← hkv] at HKW
              clear hkv
              by_cases hkk : kn = k
              · obtain rfl : k = kn := hkk.symm
                have s0 := lat_cell (HTBX.out.rl.cell (i := 0) (v := .slice (some ⟨b, o, none⟩) n tc) rfl)
                have s1 := lat_cell (HTBX.out.rl.cell (i := 1) (v := .slice fa n fc) rfl)
                have s2 := lat_cell (HTBX.out.rl.cell (i := 2) (v := .int .i64 all) rfl)
                have s3 := lat_cell (HTBX.out.ri.cell (i := 0) (v := .int .i64 (k : Int)) rfl)
                have hxl : ∀ e : Later wx, (veilLd 44 ⟨gx, 0, none⟩).run Tryz.prog (lat wx e) = .ok (.agg #[.int .u8 (x.op : Int), .int .u8 (x.v.k : Int), .int .i64 x.v.n, .string x.v.s, .string x.t, .string x.m, .int .i64 x.n, .slice na x.kids.length nc]) (lat wx e) := fun e => by
                  have hr := HRX.out.later (lat_below wx e)
                  rw [run_exLd _ gx (hr.b (n := 8) rfl), hr.of]
                refine wp_region_later (by kernel_rfl) (by kernel_rfl) ?_
                repeat (go_big_quiet_step (exact lat_calls (HKW.out _ (lat_below _ _))))
                refine wpQuiet_nil ?_
                refine later_out (fun w10 hb10 => ?_)
                have HSY := Lib.hid (HSX.out.later hb10)
                have HRY := Lib.hid (HRX.out.later hb10)
                clear s0 s1 s2 s3 hxl hb10 HSX HRX HKW HB2X HTBX HKY HKX HCN
                go_upto_region 20 with fail
                have HNB : Hid (n' ≤ 1000000) := Lib.hid (by have := HNI.out; have := HLT.out; have := HPL.out; omega)
                refine wp_region_all' (SpJ w9 gs gx (.slice sa n' sc) #[.int .u8 (x.op : Int), .int .u8 (x.v.k : Int), .int .i64 x.v.n, .string x.v.s, .string x.t, .string x.m, .int .i64 x.n, .slice na x.kids.length nc] n') 97 rfl (by kernel_rfl) (by kernel_rfl) ?_ ?_ ?_
                · intro us _
                  exact ⟨grown_trans HSY.out.hg (below_grown (Below.refl _ _).drew), (fun j _ h => by cases h), (fun _ => ⟨⟨_, World.ownsRow.kept HSY.out.own (pl_grown (Below.refl _ _).drew) (by cases (Value.slice sa n' sc).ownBlock <;> simp)⟩, HRY.out.later (Below.refl _ _).drew⟩), (fun h => by cases h), (fun h => by cases h), HSY.out.row.later (Below.refl _ _).drew⟩
                · intro i hi dn us A A2 hother hat hJ hi0 hcl hd
                  match i, hi with
                  | 0, hi =>
                    have h0 := tmps_at (show A.eval (.tmp 15) = .pointer (some ⟨gs, 0, none⟩) from hother 15 (by kernel_rfl))
                    refine op_val rfl rfl (.pointer (some ⟨gs, 2, none⟩)) A2 (by simp only [execOp]; go_simp) ?_
                    exact ⟨_, rfl, hJ.const 0 (by decide)⟩
                  | 1, hi =>
                    have h5 : dn 5 = false := by
                      cases h : dn 5 with
                      | false => rfl
                      | true => exact absurd (hcl 5 _ rfl h ⟨1, .data⟩ (by simp) rfl) (ne_true hi0)
                    have h9 : dn 9 = false := by
                      cases h : dn 9 with
                      | false => rfl
                      | true => exact absurd (hcl 9 _ rfl h ⟨5, .data⟩ (by simp) rfl) (ne_true h5)
                    have h0 := tmps_at ((hat 0 63 (by decide) (by kernel_rfl) (by decide)).trans (hJ.vs 0 (by decide) (hd _ rfl ⟨0, .data⟩ (by simp) rfl)))
                    simp only [SpV] at h0
                    have hst := hJ.step
                    rw [h9, if_neg (by decide)] at hst
                    have q2 := hst.cell (i := 2) (v := .slice sa n' sc) rfl
                    refine op_val rfl rfl (.slice sa n' sc) A2 (by simp only [execOp]; go_simp) ?_
                    exact ⟨_, rfl, hJ.const 1 (by decide)⟩
                  | 2, hi =>
                    have h5 : dn 5 = false := by
                      cases h : dn 5 with
                      | false => rfl
                      | true => exact absurd (hcl 5 _ rfl h ⟨2, .phase⟩ (by simp) rfl) (ne_true hi0)
                    have h0 := tmps_at (show A.eval (.tmp 17) = .pointer (some ⟨gx, 0, none⟩) from hother 17 (by kernel_rfl))
                    have hrx := (hJ.own h5).2
                    have hrb := hrx.b (n := 8) rfl
                    have hro := hrx.of
                    refine op_val rfl rfl (.agg #[.int .u8 (x.op : Int), .int .u8 (x.v.k : Int), .int .i64 x.v.n, .string x.v.s, .string x.t, .string x.m, .int .i64 x.n, .slice na x.kids.length nc]) A2 (by simp only [execOp]; go_simp) ?_
                    exact ⟨_, rfl, hJ.const 2 (by decide)⟩
                  | 3, hi =>
                    have h0 := tmps_at ((hat 1 64 (by decide) (by kernel_rfl) (by decide)).trans (hJ.vs 1 (by decide) (hd _ rfl ⟨1, .data⟩ (by simp) rfl)))
                    simp only [SpV] at h0
                    refine op_val rfl rfl (.int .i64 (n' : Int)) A2 (by simp only [execOp]; go_simp) ?_
                    exact ⟨_, rfl, hJ.const 3 (by decide)⟩
                  | 4, hi =>
                    have h5 : dn 5 = false := by
                      cases h : dn 5 with
                      | false => rfl
                      | true => exact absurd (hcl 5 _ rfl h ⟨4, .data⟩ (by simp) rfl) (ne_true hi0)
                    have h9 : dn 9 = false := by
                      cases h : dn 9 with
                      | false => rfl
                      | true => exact absurd (hcl 9 _ rfl h ⟨5, .data⟩ (by simp) rfl) (ne_true h5)
                    have hbs : (veilBs 32 1 #[(0, .agg exZ)]).run Tryz.prog A2 = .ok (.slice (some ⟨A2.heap.size, 0, none⟩) 1 1) (A2.alloc (.cells exZ 44)) := run_bs1 A2 _ rfl
                    refine op_val rfl rfl (.slice (some ⟨A2.heap.size, 0, none⟩) 1 1) (A2.alloc (.cells exZ 44)) (by simp only [execOp]; go_simp) ?_
                    exact ⟨_, rfl, hJ.lit h5 h9⟩
                  | 5, hi =>
                    have h9 : dn 9 = false := by
                      cases h : dn 9 with
                      | false => rfl
                      | true => exact absurd (hcl 9 _ rfl h ⟨5, .data⟩ (by simp) rfl) (ne_true hi0)
                    have h6 : dn 6 = false := by
                      cases h : dn 6 with
                      | false => rfl
                      | true => exact absurd (hcl 6 _ rfl h ⟨5, .data⟩ (by simp) rfl) (ne_true hi0)
                    obtain ⟨v', w', hr, hj⟩ := hJ.app (hd _ rfl ⟨4, .data⟩ (by simp) rfl) hi0 h6 h9 HNB.out HGPI.out.2.2.2 32
                    exact pl_op_run rfl rfl (.tmp 64) (.tmp 67) 32 rfl ((hat 1 64 (by decide) (by kernel_rfl) (by decide)).trans (hJ.vs 1 (by decide) (hd _ rfl ⟨1, .data⟩ (by simp) rfl))) (hat 4 67 (by decide) (by kernel_rfl) (by decide)) hr ⟨v', rfl, hj⟩
                  | 6, hi =>
                    have hd5 := hd _ rfl ⟨5, .data⟩ (by simp) rfl
                    obtain ⟨g, cap, e5, _, _⟩ := hJ.k5 hd5
                    have h0 := tmps_at ((hat 5 68 (by decide) (by kernel_rfl) (by decide)).trans e5)
                    have h1 := tmps_at ((hat 3 66 (by decide) (by kernel_rfl) (by decide)).trans (hJ.vs 3 (by decide) (hd _ rfl ⟨3, .data⟩ (by simp) rfl)))
                    simp only [SpV] at h1
                    have inl : (n' : Int) < ((n' + 1 : Nat) : Int) := by omega
                    have ing : (0 : Int) ≤ (n' : Int) := by omega
                    refine op_val rfl rfl (.pointer (some ⟨g, n' * 8, none⟩)) A2 (by simp only [execOp]; go_simp; exact fun h => absurd (Int.lt_of_add_one_le h) (Int.lt_irrefl _)) ?_
                    exact ⟨_, rfl, hJ.addr hd5 e5⟩
                  | 7, hi =>
                    have hd6 := hd _ rfl ⟨6, .data⟩ (by simp) rfl
                    have hd5 := hd _ rfl ⟨5, .chain⟩ (by simp) rfl
                    obtain ⟨g, w', e6, hst, hj⟩ := hJ.fill hd5 hd6 HGPI.out.2.2.2 rfl (by simp [Value.oneCell'])
                    have h0 := tmps_at ((hat 6 69 (by decide) (by kernel_rfl) (by decide)).trans e6)
                    have h1 := tmps_at ((hat 2 65 (by decide) (by kernel_rfl) (by decide)).trans (hJ.vs 2 (by decide) (hd _ rfl ⟨2, .data⟩ (by simp) rfl)))
                    simp only [SpV] at h1
                    refine op_skip rfl rfl w' (by simp only [execOp]; go_simp) ?_
                    exact ⟨_, rfl, hj _⟩
                  | 8, hi =>
                    have h0 := tmps_at (show A.eval (.tmp 15) = .pointer (some ⟨gs, 0, none⟩) from hother 15 (by kernel_rfl))
                    refine op_val rfl rfl (.pointer (some ⟨gs, 2, none⟩)) A2 (by simp only [execOp]; go_simp) ?_
                    exact ⟨_, rfl, hJ.const 8 (by decide)⟩
                  | 9, hi =>
                    have hd5 := hd _ rfl ⟨5, .data⟩ (by simp) rfl
                    obtain ⟨g, cap, e5, _, _⟩ := hJ.k5 hd5
                    have h0 := tmps_at ((hat 8 70 (by decide) (by kernel_rfl) (by decide)).trans (hJ.vs 8 (by decide) (hd _ rfl ⟨8, .data⟩ (by simp) rfl)))
                    simp only [SpV] at h0
                    have h1 := tmps_at ((hat 5 68 (by decide) (by kernel_rfl) (by decide)).trans e5)
                    have hst := hJ.step
                    rw [hi0, if_neg (by decide)] at hst
                    have q2 := hst.cell (i := 2) (v := .slice sa n' sc) rfl
                    have k2 := hst.free 2
                    have hj := hJ.fld hd5 HGPI.out.2.2.2
                    rw [e5] at hj
                    refine op_skip rfl rfl (A2.setCell ⟨gs, 2, none⟩ (.slice (some ⟨g, 0, none⟩) (n' + 1) cap)) (by simp only [execOp]; go_simp) ?_
                    exact ⟨_, rfl, hj _⟩
                  | i + 10, hi => exact absurd hi (by simp)
                intro dn us w11 hall hJ
                obtain ⟨g, cap, e5, ⟨xs', hown'⟩, _⟩ := hJ.k5 (hall 5 (by decide))
                have hst := hJ.step
                rw [hall 9 (by decide), if_pos rfl] at hst
                rw [e5] at hown' hst
                have HSZ : Hid (SimS w9 gs (.slice (some ⟨g, 0, none⟩) (n' + 1) cap) (n' + 1) xs' w11) := Lib.hid ⟨hown', hst, hJ.hg⟩
                clear hall hJ hown' hst HSY HRY e5
                simp only [putAll, dstOf, Act.put, List.getElem?_toArray, List.getElem?_cons_zero, List.getElem?_cons_succ, Option.bind_some, List.length_cons, List.length_nil]
                simp only [List.setIfInBounds_toArray, List.set_cons_zero, List.set_cons_succ]
                go_wp2_with fail
                go_roundg (parts.length - (i + 1))
                case measure => exact Nat.sub_lt_sub_left HLT.out (Nat.lt_succ_self _)
                case rel => exact ⟨i + 1, n' + 1, _, xs', congrArg (Value.int .i64) (by have h1 := HPL.out; have h2 := HLT.out; unfold wrap64; omega), rfl, HLT.out, Nat.succ_le_succ HNI.out, HSZ⟩
              · have ikk : ¬ (kn : Int) = (k : Int) := fun h => hkk (Int.ofNat.inj h)
                have ikb : ((kn : Int) == (k : Int)) = false := beq_eq_false_iff_ne.2 ikk
                have s0 := lat_cell (HTBX.out.rl.cell (i := 0) (v := .slice (some ⟨b, o, none⟩) n tc) rfl)
                have s1 := lat_cell (HTBX.out.rl.cell (i := 1) (v := .slice fa n fc) rfl)
                have s2 := lat_cell (HTBX.out.rl.cell (i := 2) (v := .int .i64 all) rfl)
                have s3 := lat_cell (HTBX.out.ri.cell (i := 0) (v := .int .i64 (k : Int)) rfl)
                have hxl : ∀ e : Later wx, (veilLd 44 ⟨gx, 0, none⟩).run Tryz.prog (lat wx e) = .ok (.agg #[.int .u8 (x.op : Int), .int .u8 (x.v.k : Int), .int .i64 x.v.n, .string x.v.s, .string x.t, .string x.m, .int .i64 x.n, .slice na x.kids.length nc]) (lat wx e) := fun e => by
                  have hr := HRX.out.later (lat_below wx e)
                  rw [run_exLd _ gx (hr.b (n := 8) rfl), hr.of]
                refine wp_region_later (by kernel_rfl) (by kernel_rfl) ?_
                repeat (go_big_quiet_step (exact lat_calls (HKW.out _ (lat_below _ _))))
                refine wpQuiet_nil ?_
                refine later_out (fun w10 hb10 => ?_)
                have HSY := Lib.hid (HSX.out.later hb10)
                skip
                clear s0 s1 s2 s3 hxl hb10 HSX HRX HKW HB2X HTBX HKY HKX HCN
                go_wp2_with fail
                go_roundg (parts.length - (i + 1))
                case measure => exact Nat.sub_lt_sub_left HLT.out (Nat.lt_succ_self _)
                case rel => exact ⟨i + 1, n', _, _, congrArg (Value.int .i64) (by have h1 := HPL.out; have h2 := HLT.out; unfold wrap64; omega), rfl, HLT.out, Nat.le_succ_of_le HNI.out, HSY⟩
            · obtain rfl : i = parts.length := by omega
              clear hlt hi
              go_upto_region 23 with fail
              have HTR := Lib.hid (HT9.out.grown HS.out.hg (by have := HGPI.out; omega))
              have HB2R : Hid (Below w2.heap.size w2 wr) := Lib.hid (HB29.out.grown HS.out.hg HB29.out.size (fun k hk => by cases hk; have := HGPI.out; have := HGZ.out; omega))
              obtain ⟨cv, kv, iv, etc, hcols, hkey, hixs⟩ := HTB.out
              simp only [List.cons.injEq, and_true, true_and] at etc
              obtain ⟨rfl, rfl, rfl⟩ := etc
              have HKEY := Lib.hid hkey
              have HIXS := Lib.hid hixs
              have htry := tryW (gs := gs) (ix := ⟨#[]⟩) (qa := none) (qn := 0) (qc := 0) (sv := .slice sa n' sc) (nm := ⟨#[]⟩) (fs := fs) (i0 := k) (f := f) (all := all) (tn := n) (tc := tc) (fa := fa) (fc := fc) (ta := some ⟨b, o, none⟩) HP6.out HPL.out (fun x hx => (HP2.out x hx).1) (by rw [HFS.out]; exact intsR_below HCF2.out HB2R.out) HF.out (intsR_below HKEY.out HB2R.out) HTT.out.1 (by rw [HFS.out]; exact HTBR.out) HS.out.row
              have HTRY := Lib.hid htry
              have HST0 : Hid (StS w6 w9 gs (.slice sa n' sc) (⟨#[]⟩, []) none 0 wr) := Lib.hid ⟨HS.out.row, prow_nil _ _ _, HS.out.hg⟩
              have t2 := HTR.out.cell (i := 2) (v := .slice ja t.key.length jc) rfl
              clear hcols hkey hixs htry HTB
              go_wp2_with fail
              refine HTRY.out.mono ?_
              rintro e12 w12 ⟨rfl, hg12, hif⟩
              obtain ⟨qa1, qc1, hst1⟩ := HST0.out.next HGPI.out.2.2.2 hg12 hif
              have HST1 := Lib.hid hst1
              have HTR1 := Lib.hid (HTR.out.grown hg12 (by have := HGPI.out; omega))
              clear hst1 hg12 hif HST0 HTRY t2 HTR HTBR HB2R HS
              have t3 := HTR1.out.cell (i := 3) (v := .slice xa t.ixs.length xc) rfl
              go_wp2_with fail
              clear t3
              go_loopg [80] t.ixs.length (fun gk iv wr => ∃ (i : Nat) (cur : ByteArray × List PE) (qa : Option Addr) (qc : Nat), iv = .int .i64 (i : Int) ∧ gk = t.ixs.length - i ∧ i ≤ t.ixs.length ∧ Hid ((t.ixs.drop i).foldl (fun c x => stepOne f parts c x.name x.cols) cur = stepL f parts t) ∧ Hid (StS w6 w9 gs (.slice sa n' sc) cur qa qc wr))
              case atStart => exact ⟨0, _, qa1, qc1, rfl, rfl, Nat.zero_le _, Lib.hid rfl, HST1⟩
              case round =>
                obtain ⟨i, cur, qa, qc, rfl, rfl, hi, HFD, HSS⟩ := hrel
                clear HST1 HTR1
                have HTBR := Lib.hid (HTB9.out.grown HSS.out.hg (by have := HGPI.out; have := HGPZ.out; omega) (by have := HGPI.out; omega) (by have := HGPI.out; omega) (by have := HGPI.out; omega))
                have HB2R : Hid (Below w2.heap.size w2 wr) := Lib.hid (HB29.out.grown HSS.out.hg HB29.out.size (fun k hk => by cases hk; have := HGPI.out; have := HGZ.out; omega))
                by_cases hlt : i < t.ixs.length
                · obtain ⟨y, hy⟩ : ∃ z, t.ixs[i]? = some z := ⟨t.ixs[i], by simp⟩
                  obtain ⟨yb, yo, yv, rfl, hyc, y0, y1, y2⟩ := ix_at (ixsR_below HIXS.out HB2R.out) hy
                  obtain ⟨ya, yc, rfl, _⟩ := hyc.shape
                  have hbx : Below wr.heap.size wr (wr.alloc (.cells #[.string y.name, .slice ya y.cols.length yc, .bool y.uniq] 67)) := (Below.refl _ _).alloc (Nat.le_refl _) _
                  have HYB := Lib.hid (row_alloc wr 67 #[.string y.name, .slice ya y.cols.length yc, .bool y.uniq])
                  have HSX := Lib.hid (HSS.out.later hbx)
                  have HB2X : Hid (Below w2.heap.size w2 (wr.alloc (.cells #[.string y.name, .slice ya y.cols.length yc, .bool y.uniq] 67))) := Lib.hid (next HB2R.out hbx)
                  have HYL := Lib.hid (HTT.out.2.2 y (List.mem_of_getElem? hy))
                  have HTRY := Lib.hid (tryW (gs := gs) (nm := y.name) (fs := fs) (i0 := k) (f := f) (all := all) (tn := n) (tc := tc) (fa := fa) (fc := fc) (ta := some ⟨b, o, none⟩) HP6.out HPL.out (fun x hx => (HP2.out x hx).1) (by rw [HFS.out]; exact intsR_below HCF2.out HB2X.out) HF.out (intsR_below hyc hbx) HYL.out (by rw [HFS.out]; exact HTBR.out.later hbx) HSX.out.row)
                  have HND := Lib.hid (drop_at hy)
                  have ilt : (i : Int) < (t.ixs.length : Int) := by omega
                  have ige : (0 : Int) ≤ (i : Int) := by omega
                  have HLT := Lib.hid hlt
                  clear hbx hy hyc hlt hi HSS HTBR HB2R HB2X HYL
                  go_upto_region 27 with fail
                  clear y0 y1 y2
                  generalize wr.alloc (.cells #[.string y.name, .slice ya y.cols.length yc, .bool y.uniq] 67) = wx at *
                  generalize wr.heap.size = gy at *
                  have y0 := HYB.out.cell (i := 0) (v := .string y.name) rfl
                  have y1 := HYB.out.cell (i := 1) (v := .slice ya y.cols.length yc) rfl
                  go_wp2_with fail
                  refine HTRY.out.mono ?_
                  rintro e13 w13 ⟨rfl, hg13, hif⟩
                  obtain ⟨qa2, qc2, hst2⟩ := HSX.out.next HGPI.out.2.2.2 hg13 hif
                  have HST2 := Lib.hid hst2
                  have HFD2 : Hid ((t.ixs.drop (i + 1)).foldl (fun c x => stepOne f parts c x.name x.cols) (stepOne f parts cur y.name y.cols) = stepL f parts t) := Lib.hid (by rw [← HFD.out, HND.out]; rfl)
                  clear y0 y1 hst2 hg13 hif HTRY HSX HYB
                  go_wp2_with fail
                  go_roundg (t.ixs.length - (i + 1))
                  case measure => exact Nat.sub_lt_sub_left HLT.out (Nat.lt_succ_self _)
                  case rel => exact ⟨i + 1, _, qa2, qc2, congrArg (Value.int .i64) (by have h1 := HTT.out.2.1; have h2 := HLT.out; unfold wrap64; omega), rfl, HLT.out, HFD2, HST2⟩
                · obtain rfl : i = t.ixs.length := by omega
                  have HCUR : Hid (cur = stepL f parts t) := Lib.hid (by have h := HFD.out; rw [List.drop_length] at h; exact h)
                  clear hlt hi HFD HB2R
                  have s0 := HSS.out.row.cell (i := 0) (v := .string cur.1) rfl
                  have s1 := HSS.out.row.cell (i := 1) (v := .slice qa cur.2.length qc) rfl
                  have s2 := HSS.out.row.cell (i := 2) (v := .slice sa n' sc) rfl
                  have hba : Below wr.heap.size wr (wr.alloc (.cells #[.string cur.1, .slice qa cur.2.length qc, .slice sa n' sc] 61)) := (Below.refl _ _).alloc (Nat.le_refl _) _
                  have hla := row_alloc wr 61 #[.string cur.1, .slice qa cur.2.length qc, .slice sa n' sc]
                  obtain ⟨xs, hxs⟩ := HOB.out
                  have hoa := World.ownsRow.kept (World.ownsRow.kept hxs HSS.out.hg (.inr fun e => by have := (HOLT.out _ e).2; have := HGPI.out; omega)) (pl_grown hba) (by cases (Value.slice oa k oc).ownBlock <;> simp)
                  have hw7a : w7.heap.size ≤ (wr.alloc (.cells #[.string cur.1, .slice qa cur.2.length qc, .slice sa n' sc] 61)).heap.size := Nat.le_trans (Nat.le_trans HB709.out.size HSS.out.hg.size) hba.size
                  obtain ⟨v14, w14, hrun, hown, hg14, _⟩ := pl_run_append (P := Tryz.prog) (w := wr.alloc (.cells #[.string cur.1, .slice qa cur.2.length qc, .slice sa n' sc] 61)) 22 22 61 3 64 elStep w7.heap.size (.slice oa k oc) k xs hoa (.slice (some ⟨wr.heap.size, 0, none⟩) 1 1) 1 (#[.string cur.1, .slice qa cur.2.length qc, .slice sa n' sc] : Array Value).toList (prd_lit hla rfl) (by simp [Value.oneCell']) (by have := HN.out; have := HKN.out; unfold maxLen; omega) (by have := HN.out; have := HKN.out; omega) hw7a
                  obtain ⟨va14, vc14, rfl⟩ := own_slR hown
                  have hb7a : Below w7.heap.size w7 (wr.alloc (.cells #[.string cur.1, .slice qa cur.2.length qc, .slice sa n' sc] 61)) := (HB709.out.grown HSS.out.hg HB709.out.size (fun z hz => by cases hz; have := HGPI.out; have := HG7.out; omega)).trans (hba.mono (Nat.le_trans HB709.out.size HSS.out.hg.size))
                  have hb714 : Below w7.heap.size w7 w14 := hb7a.grown hg14 hb7a.size (fun z hz => (HOLT.out z hz).1)
                  have hp14 : PRow w6 w9.heap.size w14 (.slice qa cur.2.length qc) cur.2 := (HSS.out.pr.later hba).opt hg14 (fun z hz e => by have := (HSS.out.pr.lt z e).1; have := (HOLT.out z hz).2; have := HGPI.out; omega)
                  have HP14 : Hid (PlO w7 (stpL fs ts parts) (k + 1) (.slice va14 (k + 1) vc14) w14) := Lib.hid (plo_next (st := stpL fs ts parts) (by rw [HSTP.out, ← HCUR.out]; exact hown) hxs.1 (by rw [HSTP.out, ← HCUR.out]; exact hp14.exs (by rw [HGPZ.out]; exact HB67.out.trans (hb714.mono (by have := HG7.out.1; have := HGPZ.out; omega)))) hb714)
                  clear hba hla hown hg14 hoa hw7a hb7a hb714 hp14 hxs HSS
                  go_wp2_with (at_builtin; refine pl_list_run rfl (.tmp 91) (.tmp 93) 22 rfl rfl rfl hrun ?_)
                  clear hrun s0 s1 s2
                  go_wp2_with fail
                  go_roundg (n - (k + 1))
                  case measure => exact Nat.sub_lt_sub_left HKN.out (Nat.lt_succ_self _)
                  case rel => exact ⟨k + 1, va14, vc14, congrArg (Value.int .i64) (by have h1 := HN.out; have h2 := HKN.out; unfold wrap64; omega), rfl, rfl, HKN.out, HP14⟩
        · obtain rfl : k = n := Nat.le_antisymm hk hkn
          have HBF := Lib.hid (HB7.out.trans (HO.out.hb.mono HB7.out.size))
          clear hk hkn
          go_wp2_with fail
          go_ret2
          exact ⟨_, w7, rfl, HO.out, HBF.out⟩
end Go.Proofs.YtjgkeillmelkoaaGreat.Dt
