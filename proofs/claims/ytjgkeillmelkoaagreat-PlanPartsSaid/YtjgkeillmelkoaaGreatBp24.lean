import Derived.LoopN
import Derived.Test.YtjgkeillmelkoaaGreatBp23
import Derived.Test.YtjgkeillmelkoaaGreatBp17
import Derived.Test.YtjgkeillmelkoaaGreatBp14
import Derived.Test.YtjgkeillmelkoaaGreatBp03
import Derived.Test.YtjgkeillmelkoaaGreatBp10
import Derived.Test.YtjgkeillmelkoaaGreatBp04
namespace Go.Proofs.YtjgkeillmelkoaaGreat.Dt
open Go.RowKit Go.Proofs.YtjgkeillmelkoaaGreat.By

variable {w0 : World} {r : Nat} {tv : Value} {L : List Tk} {en : Int}
/-- What a call for perhaps an expression gives. -/
def NPer (w0 : World) (r : Nat) (tv : Value) (L : List Tk) (en : Int) (t : ByteArray) (k k' : Nat) (l : List PE) : Prop := ∀ w, NB w0 r tv L en k w → Calls Tryz.prog 55 #[.pointer (some ⟨r, 0, none⟩), .string t] w fun e w' =>
  ∃ v, e = .returned v ∧ New w.heap.size w' (fun u => ExsR u v l) ∧ NB w0 r tv L en k' w' ∧ w.grownBy w' (some r)
/-- What a call for a statement gives. -/
def NStm (w0 : World) (r : Nat) (tv : Value) (L : List Tk) (en : Int) (k k' : Nat) (x : PSt) : Prop := ∀ w, NB w0 r tv L en k w → Calls Tryz.prog 31 #[.pointer (some ⟨r, 0, none⟩)] w fun e w' =>
  ∃ cs, e = .returned (.agg cs) ∧ New w.heap.size w' (fun u => StR u cs.toList x) ∧ NB w0 r tv L en k' w' ∧ w.grownBy w' (some r)
theorem veilBs_px (n : Nat) (ps : Array (Nat × Value)) : Instr.buildSlice 32 n ps = veilBs 32 n ps := rfl
attribute [local go_sem ↓] veilBs_px
set_option maxRecDepth 100000 in
set_option maxHeartbeats 4000000 in
theorem perhapsYes (t : ByteArray) (k k' : Nat) (x : PE) (ht : cB L en k t = true) (hx : NRun w0 r tv L en 54 (k + 1) k' x) : NPer w0 r tv L en t k k' [x] := by
  intro w h
  have HLT : Hid (r < w.heap.size) := Lib.hid h.lt
  have hi := takesW t w h
  rw [ht] at hi
  have HI := Lib.hid hi
  have HX := Lib.hid hx
  clear h hi ht hx
  go_enter Tryz.func55, Tryz.ntmps55
  go_wp2_with fail
  refine HI.out.mono ?_
  rintro e2 w2 ⟨rfl, hp2, hg2⟩
  have HC := Lib.hid (HX.out w2 hp2)
  have HG2 := Lib.hid hg2
  clear hp2 hg2 HI
  go_wp2_with fail
  refine HC.out.mono ?_
  rintro e3 w3 ⟨c, rfl, hx3, hp3, hg3⟩
  have hbs : (veilBs 32 1 #[(0, .agg c)]).run Tryz.prog w3 = .ok (.slice (some ⟨w3.heap.size, 0, none⟩) 1 1) (w3.alloc (.cells c 44)) := run_bs1 w3 c hx3.size
  have hb4 := (Below.refl _ w3).alloc (Nat.le_refl _) (.cells c 44)
  have HP4 := Lib.hid (hp3.later hb4)
  have HG4 := Lib.hid (grown_trans (grown_trans HG2.out hg3) (below_grown (r := r) hb4))
  have HK := Lib.hid (exs_row1 (S := fun b => w.heap.size ≤ b) (row_alloc w3 44 c) (by have h1 := HG2.out.size; have h2 := hg3.size; omega) ((hx3.later hb4).step (Nat.le_refl _) fun b hb _ => ⟨by have h1 := HG2.out.size; omega, rfl⟩))
  clear hx3 hp3 hg3 hb4 HC
  go_wp2_with fail
  go_ret
  exact ⟨_, rfl, HK.out, HP4.out, HG4.out⟩
/-- What lies there while a statement is read: the reader, the result's box. -/
structure RP (w0 : World) (r : Nat) (tv : Value) (L : List Tk) (en : Int) (w : World) (k : Nat) (W : World) : Prop where
  nb : NB w0 r tv L en k W
  gr : w.grownBy W (some r)
  rs : Row w.heap.size 35 stZ W
  hr : r < w.heap.size
theorem RP.grown {w W W' : World} {k k' : Nat} (h : RP w0 r tv L en w k W) (g : W.grownBy W' (some r)) (hp : NB w0 r tv L en k' W') : RP w0 r tv L en w k' W' := ⟨hp, grown_trans h.gr g, h.rs.grown g (Nat.ne_of_gt h.hr), h.hr⟩
attribute [local go_sem ↓] veilSt_sm veilLd_sm
attribute [local go_sem] run_smSt run_smNew run_smLd okRow16 Value.oneCell'
set_option maxRecDepth 100000 in
set_option maxHeartbeats 8000000 in
theorem deleteW (k k' : Nat) (l : List PE) (h1 : cB L en k ⟨#[67, 82, 69, 65, 84, 69]⟩ = false) (h2 : cB L en k ⟨#[68, 82, 79, 80]⟩ = false) (h3 : cB L en k ⟨#[73, 78, 83, 69, 82, 84]⟩ = false) (h4 : cB L en k ⟨#[85, 80, 68, 65, 84, 69]⟩ = false) (h5 : cB L en k ⟨#[68, 69, 76, 69, 84, 69]⟩ = true) (h6 : cB L en (k + 1) ⟨#[70, 82, 79, 77]⟩ = true)
    (h7 : kP L (k + 2) = 2) (h8 : NPer w0 r tv L en ⟨#[87, 72, 69, 82, 69]⟩ (k + 3) k' l) : NStm w0 r tv L en k k' { kind := 7, table := (tokP L en (k + 2)).s, wh := l } := by
  intro w h
  have HW0 : Hid (w0.heap.size ≤ w.heap.size) := Lib.hid h.hb.size
  have hb1 := (Below.refl _ w).alloc (Nat.le_refl _) (.cells stZ 35)
  have HP1 : Hid (RP w0 r tv L en w k (w.alloc (.cells stZ 35))) := Lib.hid ⟨h.later hb1, below_grown hb1, row_alloc _ _ _, h.lt⟩
  have H1 := Lib.hid h1
  have H2 := Lib.hid h2
  have H3 := Lib.hid h3
  have H4 := Lib.hid h4
  have H5 := Lib.hid h5
  have H6 := Lib.hid h6
  have H7 := Lib.hid h7
  have H8 := Lib.hid h8
  obtain ⟨nm, hnm⟩ : ∃ nm, (tokP L en (k + 2)).s = nm := ⟨_, rfl⟩
  rw [hnm]
  have HNM := Lib.hid hnm
  clear h hb1 h1 h2 h3 h4 h5 h6 h7 h8 hnm
  go_enter Tryz.func31, Tryz.ntmps31
  go_upto_region 1 with fail
  generalize w.alloc (.cells stZ 35) = w1 at *
  have ht := takesW ⟨#[67, 82, 69, 65, 84, 69]⟩ _ HP1.out.nb
  rw [H1.out] at ht
  have HT := Lib.hid ht
  clear ht
  go_wp2_with fail
  refine HT.out.mono ?_
  rintro e2 w2 ⟨rfl, hp, hg⟩
  have HP2 : Hid (RP w0 r tv L en w k w2) := Lib.hid (HP1.out.grown hg hp)
  clear hp hg HT HP1
  have ht := takesW ⟨#[68, 82, 79, 80]⟩ _ HP2.out.nb
  rw [H2.out] at ht
  have HT := Lib.hid ht
  clear ht
  go_wp2_with fail
  refine HT.out.mono ?_
  rintro e3 w3 ⟨rfl, hp, hg⟩
  have HP3 : Hid (RP w0 r tv L en w k w3) := Lib.hid (HP2.out.grown hg hp)
  clear hp hg HT HP2
  have ht := takesW ⟨#[73, 78, 83, 69, 82, 84]⟩ _ HP3.out.nb
  rw [H3.out] at ht
  have HT := Lib.hid ht
  clear ht
  go_wp2_with fail
  refine HT.out.mono ?_
  rintro e4 w4 ⟨rfl, hp, hg⟩
  have HP4 : Hid (RP w0 r tv L en w k w4) := Lib.hid (HP3.out.grown hg hp)
  clear hp hg HT HP3
  have ht := takesW ⟨#[85, 80, 68, 65, 84, 69]⟩ _ HP4.out.nb
  rw [H4.out] at ht
  have HT := Lib.hid ht
  clear ht
  go_wp2_with fail
  refine HT.out.mono ?_
  rintro e5 w5 ⟨rfl, hp, hg⟩
  have HP5 : Hid (RP w0 r tv L en w k w5) := Lib.hid (HP4.out.grown hg hp)
  clear hp hg HT HP4
  have ht := takesW ⟨#[68, 69, 76, 69, 84, 69]⟩ _ HP5.out.nb
  rw [H5.out] at ht
  have HT := Lib.hid ht
  clear ht
  go_wp2_with fail
  refine HT.out.mono ?_
  rintro e6 w6 ⟨rfl, hp, hg⟩
  have HP6 : Hid (RP w0 r tv L en w (k + 1) w6) := Lib.hid (HP5.out.grown hg hp)
  clear hp hg HT HP5
  have HT := Lib.hid (needsW ⟨#[70, 82, 79, 77]⟩ _ HP6.out.nb H6.out)
  go_wp2_with fail
  refine HT.out.mono ?_
  rintro e7 w7 ⟨rfl, hp, hg⟩
  have HP7 : Hid (RP w0 r tv L en w (k + 2) w7) := Lib.hid (HP6.out.grown hg hp)
  clear hp hg HT HP6
  have hn := nameW _ HP7.out.nb H7.out
  rw [HNM.out] at hn
  have HT := Lib.hid hn
  clear hn
  go_wp2_with fail
  refine HT.out.mono ?_
  rintro e8 w8 ⟨rfl, hp, hg⟩
  have HP8 : Hid (RP w0 r tv L en w (k + 3) w8) := Lib.hid (HP7.out.grown hg hp)
  clear hp hg HT HP7
  have hb9 := (Below.refl _ w8).alloc (Nat.le_refl _) (.cells #[.int .u8 7, .string nm, .string ⟨#[]⟩, .bool false, .slice none 0 0, .slice none 0 0, .slice none 0 0, .slice none 0 0, .slice none 0 0, .slice none 0 0, .slice none 0 0, .slice none 0 0, .slice none 0 0, .slice none 0 0, .slice none 0 0, .int .i64 0] 35)
  have HP9 := Lib.hid (HP8.out.grown (below_grown (r := r) hb9) (HP8.out.nb.later hb9))
  have HLT8 : Hid (w.heap.size < w8.heap.size) := Lib.hid HP8.out.rs.lt
  have HS9 : Hid (SG (fun b => w.heap.size < b ∧ b ≠ w8.heap.size) w8.heap.size #[.int .u8 7, .string nm, .string ⟨#[]⟩, .bool false, .slice none 0 0, .slice none 0 0, .slice none 0 0, .slice none 0 0, .slice none 0 0, .slice none 0 0, .slice none 0 0, .slice none 0 0, .slice none 0 0, .slice none 0 0, .slice none 0 0, .int .i64 0] { kind := 7, table := nm } (w8.alloc (.cells #[.int .u8 7, .string nm, .string ⟨#[]⟩, .bool false, .slice none 0 0, .slice none 0 0, .slice none 0 0, .slice none 0 0, .slice none 0 0, .slice none 0 0, .slice none 0 0, .slice none 0 0, .slice none 0 0, .slice none 0 0, .slice none 0 0, .int .i64 0] 35))) := Lib.hid (sg_new w8 7 nm ⟨#[]⟩ false 0 (by simp))
  clear hb9 HP8
  go_upto_region 38 with fail
  generalize w8.alloc (.cells #[.int .u8 7, .string nm, .string ⟨#[]⟩, .bool false, .slice none 0 0, .slice none 0 0, .slice none 0 0, .slice none 0 0, .slice none 0 0, .slice none 0 0, .slice none 0 0, .slice none 0 0, .slice none 0 0, .slice none 0 0, .slice none 0 0, .int .i64 0] 35) = w9 at *
  generalize w8.heap.size = g at *
  have HT := Lib.hid (H8.out w9 HP9.out.nb)
  go_wp2_with fail
  refine HT.out.mono ?_
  rintro e10 w10 ⟨v, rfl, hv, hp, hg⟩
  have HP10 : Hid (RP w0 r tv L en w k' w10) := Lib.hid (HP9.out.grown hg hp)
  have hs10 := HS9.out.grown hg (by have := HLT8.out; have := HP9.out.hr; omega) (by have := HP9.out.hr; omega)
  have hv2 : Dep (fun b => w.heap.size < b ∧ b ≠ g) w10 fun u => ExsR u v l := hv.step (Nat.le_refl _) fun b hb _ => ⟨⟨by have := HS9.out.row.lt; have := HLT8.out; omega, by have := HS9.out.row.lt; omega⟩, rfl⟩
  have hs11 := hs10.put_wh v l hv2
  obtain ⟨va, vc, rfl, _⟩ := hv.here.shape
  obtain ⟨d, hd⟩ := hs10.cell 11 (by decide)
  have fd := row_free hs10.row 11
  have hE := setCell_eq_setRow w10 g 11 _ _ _ (.slice va l.length vc) hs10.row
  have HP11 : Hid (RP w0 r tv L en w k' (w10.setCell ⟨g, 11, none⟩ (.slice va l.length vc))) := Lib.hid (by
    have h3 := HLT8.out
    have h4 := HP10.out.hr
    have h5 := HW0.out
    rw [hE]
    exact ⟨HP10.out.nb.other g (by omega) (by omega) _, grown_fill HP10.out.gr (by omega) _, (setRow_other _ _ _ _ (by omega)).trans HP10.out.rs, h4⟩)
  have HS11 := Lib.hid hs11
  clear hv hv2 hp hg hs10 hs11 hE HT HP10 HP9 HS9
  go_upto_region 39 with fail
  generalize w10.setCell ⟨g, 11, none⟩ (.slice va l.length vc) = w11 at *
  clear hd fd
  have hrb := HS11.out.rb
  have hro := HS11.out.row.of
  have hrq := HP11.out.rs.b (n := 16) rfl
  have hok := HS11.out.ok
  have HZ := Lib.hid HS11.out.size
  obtain ⟨D, hD⟩ : ∃ D, D = (#[.int .u8 7, .string nm, .string ⟨#[]⟩, .bool false, .slice none 0 0, .slice none 0 0, .slice none 0 0, .slice none 0 0, .slice none 0 0, .slice none 0 0, .slice none 0 0, .slice none 0 0, .slice none 0 0, .slice none 0 0, .slice none 0 0, .int .i64 0].setIfInBounds 11 (.slice va l.length vc) : Array Value) := ⟨_, rfl⟩
  rw [← hD] at HS11 hro hok HZ
  clear hD
  go_wp2_with fail
  refine bodyPost_ret (v := .agg D) (res_row Tryz.results31 sm_struct sm_size _ _ w.heap.size _ D rfl (HP11.out.rs.set D) HZ.out) rfl ⟨_, rfl, ?_, ?_, ?_⟩
  · exact HS11.out.st.step (by simp) fun b hb _ => ⟨by omega, setRow_other _ _ b D (by omega)⟩
  · exact HP11.out.nb.other _ HW0.out (by have := HP11.out.hr; omega) D
  · exact grown_fill HP11.out.gr (Nat.le_refl _) D
end Go.Proofs.YtjgkeillmelkoaaGreat.Dt
namespace Go.Proofs.YtjgkeillmelkoaaGreat.Dt
open Go.RowKit Go.Proofs.YtjgkeillmelkoaaGreat.By

theorem arr16 {c : Array Value} (h : c.size = 16) : ∃ a0 a1 a2 a3 a4 a5 a6 a7 a8 a9 a10 a11 a12 a13 a14 a15, c = #[a0, a1, a2, a3, a4, a5, a6, a7, a8, a9, a10, a11, a12, a13, a14, a15] := by
  have hl : c.toList.length = 16 := by simpa using h
  match hc : c.toList, hl with
  | [a0, a1, a2, a3, a4, a5, a6, a7, a8, a9, a10, a11, a12, a13, a14, a15], _ => exact ⟨a0, a1, a2, a3, a4, a5, a6, a7, a8, a9, a10, a11, a12, a13, a14, a15, Array.toList_inj.1 hc⟩
theorem veilBs_st (n : Nat) (ps : Array (Nat × Value)) : Instr.buildSlice 68 n ps = veilBs 68 n ps := rfl
theorem run_bsSt (W : World) (c : Array Value) (h : okRow 16 c = true) : (veilBs 68 1 #[(0, .agg c)]).run Tryz.prog W = .ok (.slice (some ⟨W.heap.size, 0, none⟩) 1 1) (W.alloc (.cells c 35)) := by
  obtain ⟨a0, a1, a2, a3, a4, a5, a6, a7, a8, a9, a10, a11, a12, a13, a14, a15, rfl⟩ := arr16 (okRow_iff.1 h).1
  unfold veilBs
  go_simp
theorem elSt : By.Elem Tryz.prog 68 35 16 320 where
  slice := by kernel_rfl
  info := by
    have h : (Tryz.prog.info? 35).map (fun i => (i.zero, i.size, i.bytes)) = some (some (.agg stZ), 16, 320) := by kernel_rfl
    obtain ⟨i, hi, h1, h2, h3⟩ := info_parts h
    exact ⟨i, _, hi, h1, h2, h3, rfl⟩
  pos := by decide
theorem res_tc {fn : Func} {p q : Tmp} (h : fn.results = #[.tmp p, .cell q 70]) (tmps : Array Value) (w : World) (k : Nat) (u : TypeId) (v : Value) (ds : Array Value)
    (hp : tmps.getD p undef = v) (hq : tmps.getD q undef = .pointer (some ⟨k, 0, none⟩)) (hk : Row k u ds w) (hd : ds.size = 2) : (results fn tmps).run Tryz.prog w = .ok (.tuple #[v, .agg ds]) w := by
  have hs : ∃ fs, Tryz.prog.underlying 70 = some (.struct fs) := st_of (by kernel_rfl)
  obtain ⟨gs, hv⟩ := hs
  have hi : (Tryz.prog.info? 70).map (·.size) = some 2 := by kernel_rfl
  have hp' : tmps[p]?.getD undef = v := by simpa using hp
  have hq' : tmps[q]?.getD undef = .pointer (some ⟨k, 0, none⟩) := by simpa using hq
  simp [results, h, hp', hq', asAddr, run_loadVar_row w k u 70 ds (0, 0) _ hk hv rfl (by rw [hi, hd])]
/-- The place's box is filled. -/
structure Fin1 (q : Nat) (ds : Array Value) (W W' : World) : Prop where
  r1 : Row q 70 ds W'
  ot : ∀ b, b ≠ q → W'.heap[b]? = W.heap[b]?
  sz : W.heap.size ≤ W'.heap.size
  bl : ∀ n, n ≤ q → Below n W W'
theorem fin_1 {q : Nat} {x y a b : Value} {W : World} (h1 : Row q 70 #[x, y] W) : Fin1 q #[a, b] W ((W.setCell ⟨q, 0, none⟩ a).setCell ⟨q, 1, none⟩ b) := by
  have e1 := setCell_eq_setRow _ q 0 _ _ _ a h1
  have h2 : Row q 70 #[a, y] (W.setCell ⟨q, 0, none⟩ a) := by rw [e1]; exact h1.set _
  have e2 := setCell_eq_setRow _ q 1 _ _ _ b h2
  refine ⟨by rw [e2]; exact h2.set _, fun k hk => ?_, by simp, fun n hn => below_set (below_set (Below.refl _ _) hn) hn⟩
  rw [e2, e1]
  exact (setRow_other _ q k _ hk).trans (setRow_other _ q k _ hk)
end Go.Proofs.YtjgkeillmelkoaaGreat.Dt
namespace Go.Proofs.YtjgkeillmelkoaaGreat.Dt
open Go.RowKit Go.Proofs.YtjgkeillmelkoaaGreat.By

theorem NB.row2 {w0 w w' : World} {r k : Nat} {tv : Value} {L : List Tk} {en : Int} {o : Option Nat} (h : NB w0 r tv L en k w) (g : w.grownBy w' o) (ho : ∀ j, o = some j → r < j) : NB w0 r tv L en k w' :=
  ⟨(g.block r h.lt (fun e => by have := ho r e.symm; omega)).trans h.row, h.tk, ⟨g.os.trans h.hb.os, g.tape.trans h.hb.tape, g.output.trans h.hb.output, Nat.le_trans h.hb.size g.size, fun b hb => (g.block b (Nat.lt_of_lt_of_le hb h.hb.size) (fun e => by have := ho b e.symm; have := h.hr; omega)).trans (h.hb.block b hb)⟩, h.hr, h.hl⟩
theorem riBelow {w w' : World} {r n : Nat} (h : w.grownBy w' (some r)) (hn : n ≤ r) (hw : n ≤ w.heap.size) : Below n w w' := ⟨h.os, h.tape, h.output, h.size, fun i hi => h.block i (by omega) (fun e => by cases e; omega)⟩
attribute [local go_sem ↓] veilBs_st
attribute [local go_sem] run_bsSt
set_option maxRecDepth 100000 in
set_option maxHeartbeats 16000000 in
theorem iscriptW (t : ByteArray) (L : List Tk) (x : PSt) (w : World) (ht : toksL t.data.toList = .inr L) (hs : t.size ≤ 4096) (h1 : 1 ≤ L.length) (h2 : L.length ≤ 4096)
    (hst : ∀ (w0 : World) (r : Nat) (tv : Value), NStm w0 r tv L (t.size : Int) 0 L.length x) : Calls Tryz.prog 21 #[.string t] w fun e w' =>
    ∃ v, e = .returned (.tuple #[v, .agg #[.int .i64 0, .int .i64 0]]) ∧ New w.heap.size w' (fun u => SlR 16 StR u v [x]) ∧ Below w.heap.size w w' := by
  have hb0 : Below w.heap.size w (w.alloc (.cells #[.int .i64 0, .int .i64 0] 70)) := (Below.refl _ _).alloc (Nat.le_refl _) _
  have HR1 := Lib.hid (row_alloc w 70 #[.int .i64 0, .int .i64 0])
  have HB0 := Lib.hid hb0
  have HST := Lib.hid hst
  have HLEN := Lib.hid h2
  have HL1 := Lib.hid h1
  have HTS : Hid (t.size ≤ 4096) := Lib.hid hs
  have htk := refToksW t (w.alloc (.cells #[.int .i64 0, .int .i64 0] 70)) (by omega)
  rw [ht] at htk
  have HT := Lib.hid htk
  clear hb0 hst h1 h2 hs ht htk
  go_enter Tryz.func21, Tryz.ntmps21
  go_upto_region 1 with fail
  generalize w.alloc (.cells #[.int .i64 0, .int .i64 0] 70) = w1 at *
  go_wp2_with fail
  refine HT.out.mono ?_
  rintro e2 w2 ⟨⟨tv, rfl, htk⟩, hb2⟩
  obtain ⟨ta, tc, rfl⟩ := htk.shape
  have HTK := Lib.hid htk
  have hbk := (Below.refl _ w2).alloc (Nat.le_refl _) (.cells #[.int .i64 0, .int .i64 0] 70)
  have HR1b := Lib.hid ((HR1.out.later hb2).later hbk)
  have HLK : Hid (w.heap.size < w2.heap.size) := Lib.hid (HR1.out.later hb2).lt
  have HB2 := Lib.hid (next (next HB0.out hb2) hbk)
  have HBK := Lib.hid hbk
  have HK := Lib.hid (row_alloc w2 70 #[.int .i64 0, .int .i64 0])
  clear hb2 HT htk hbk
  go_upto_region 2 with fail
  generalize hw3 : w2.alloc (.cells #[.int .i64 0, .int .i64 0] 70) = w3 at *
  have HZ3 : Hid (w3.heap.size = w2.heap.size + 1) := Lib.hid (by rw [← hw3]; simp)
  have k0 := HK.out.cell (i := 0) (v := .int .i64 0) rfl
  clear hw3
  go_upto_region 4 with fail
  clear k0
  have hbp := (Below.refl _ w3).alloc (Nat.le_refl _) (.cells #[.slice ta L.length tc, .int .i64 0, .int .i64 0, .int .i64 (t.size : Int)] 89)
  have hrow := row_alloc w3 89 #[.slice ta L.length tc, .int .i64 0, .int .i64 0, .int .i64 (t.size : Int)]
  have HNB : Hid (NB w2 w3.heap.size (.slice ta L.length tc) L (t.size : Int) 0 (w3.alloc (.cells #[.slice ta L.length tc, .int .i64 0, .int .i64 0, .int .i64 (t.size : Int)] 89))) := Lib.hid
    ⟨hrow, HTK.out, next HBK.out hbp, by have := HZ3.out; omega, HLEN.out⟩
  have HR1c := Lib.hid (HR1b.out.later hbp)
  have HB4 := Lib.hid (next HB2.out hbp)
  have HRP : Hid (w.heap.size < w3.heap.size) := Lib.hid (by have := HZ3.out; have := HLK.out; omega)
  have HW4 : Hid ((w3.alloc (.cells #[.slice ta L.length tc, .int .i64 0, .int .i64 0, .int .i64 (t.size : Int)] 89)).heap.size = w3.heap.size + 1) := Lib.hid (by simp)
  clear hbp hrow
  go_upto_region 5 with fail
  generalize w3.alloc (.cells #[.slice ta L.length tc, .int .i64 0, .int .i64 0, .int .i64 (t.size : Int)] 89) = w4 at *
  generalize w3.heap.size = r at *
  go_wp2_with fail
  go_loopg [7] 1 (fun gk ov wr => ∃ (done : List PSt) (ccs : List (List Value)) (k : Nat), (gk = 1 ∧ done = [] ∧ k = 0 ∨ gk = 0 ∧ done = [x] ∧ k = L.length) ∧ Hid (NB w2 r (.slice ta L.length tc) L (t.size : Int) k wr) ∧ Hid (OwnL 35 16 StR (r + 1) wr ov done ccs) ∧ Hid (w4.grownBy wr (some r)))
  case atStart => exact ⟨[], [], 0, .inl ⟨rfl, rfl, rfl⟩, HNB, Lib.hid (OwnL.nil _ _ _ _ _), Lib.hid (grown_refl _ _)⟩
  case round =>
    obtain ⟨done, ccs, k, hor, HP, HOW, HG⟩ := hrel
    obtain ⟨va, vc, rfl⟩ := HOW.out.shape
    have c0 := HP.out.row.cell (i := 0) (v := .slice ta L.length tc) rfl
    have c1 := HP.out.row.cell (i := 1) (v := .int .i64 (k : Int)) rfl
    rcases hor with ⟨rfl, rfl, rfl⟩ | ⟨rfl, rfl, rfl⟩
    · have i1 : (0 : Int) < (L.length : Int) := by have := HL1.out; omega
      have HC := Lib.hid (HST.out w2 r (.slice ta L.length tc) wr HP.out)
      go_wp2_with fail
      refine HC.out.mono ?_
      rintro e7 v7 ⟨c7, rfl, hn7, hp7, hg7⟩
      obtain ⟨c, hc7, hcl, hc1, hok, hcn⟩ := heB stCells r v7 (.agg c7) x (hn7.imp (fun u hu => ⟨c7.toList, by simp, hu⟩) |>.mono (by have := HP.out.lt; omega))
      have hal := (Below.refl v7.heap.size v7).alloc (Nat.le_refl _) (.cells c.toArray 35)
      obtain rfl : c7 = c.toArray := by cases hc7; rfl
      have HLT6 : Hid (r + 1 ≤ wr.heap.size) := Lib.hid HP.out.lt
      have HOA := Lib.hid ((HOW.out.grown hg7 (Nat.lt_succ_self _)).later hal)
      have HPA := Lib.hid (NB.later hp7 hal)
      have HGA := Lib.hid (grown_trans (grown_trans HG.out hg7) (below_grown (r := r) hal))
      have HNA := Lib.hid (row_alloc v7 35 c.toArray)
      have HYA : Hid (New wr.heap.size (v7.alloc (.cells c.toArray 35)) fun u => StR u c x) := Lib.hid (New.below (hn7.imp fun u hu => by simpa using hu) hal)
      have HCL := Lib.hid hcl
      have HC1 := Lib.hid hc1
      have HM : Hid (∀ k, (Value.slice va ([] : List PSt).length vc).ownBlock = some k → k < wr.heap.size) := Lib.hid (fun k hk => (World.ownsRow.lt HOW.out.own k hk).2)
      have HLO : Hid (∀ k, (Value.slice va ([] : List PSt).length vc).ownBlock = some k → r + 1 ≤ k) := Lib.hid (fun k hk => (World.ownsRow.lt HOW.out.own k hk).1)
      have HCC : Hid (ccs.length = 0) := Lib.hid HOW.out.len
      have HBS : Hid (r + 1 ≤ (v7.alloc (.cells c.toArray 35)).heap.size) := Lib.hid (Nat.le_trans HP.out.lt (Nat.le_trans hg7.size hal.size))
      clear hn7 hp7 hg7 hcn hal hcl hc1 HC hc7 c0 c1
      go_upto_region 8 with (at_builtin; refine wpList_append_one rfl (.tmp 29) (.tmp 32) 68 rfl (r + 1) 35 16 320 elSt (.slice va ([] : List PSt).length vc) ccs.length ccs.flatten rfl HOA.out.own v7.heap.size 1 c rfl HCL.out (fun j u hj => HNA.out.cell (by simpa using hj)) HC1.out (by have := HCC.out; unfold maxLen; omega) (by have := HCC.out; omega) HBS.out ?_; intro v' w8 hown8 hg8 hv8; have HO8 := Lib.hid (HOA.out.snoc hown8 hg8 hv8 HCL.out HYA.out HLT6.out HM.out); have HP8 := Lib.hid (NB.row2 HPA.out hg8 (fun j hj => by have := HLO.out j hj; omega)); have HG8 := Lib.hid (grown_row HGA.out hg8 (fun j hj => by have := HLO.out j hj; have := HW4.out; omega)); clear hown8 hg8 hv8; obtain ⟨va', vc', hv'⟩ := HO8.out.shape; rw [List.length_append, List.length_singleton] at hv'; subst hv')
      clear hok
      have c0 := HP8.out.row.cell (i := 0) (v := .slice ta L.length tc) rfl
      have c1 := HP8.out.row.cell (i := 1) (v := .int .i64 (L.length : Int)) rfl
      have c2 := HP8.out.row.cell (i := 2) (v := .int .i64 0) rfl
      have i2 : ¬ (L.length : Int) < (L.length : Int) := by omega
      go_wp2_with fail
      go_roundg 0
      case measure => exact Nat.zero_lt_one
      case rel => exact ⟨_, _, L.length, .inr ⟨rfl, rfl, rfl⟩, HP8, HO8, HG8⟩
    · have i1 : ¬ (L.length : Int) < (L.length : Int) := by omega
      have HR1z := Lib.hid (HR1c.out.grown HG.out (Nat.ne_of_lt HRP.out))
      have HBD : Hid (Below w.heap.size w wr) := Lib.hid (HB4.out.trans (riBelow HG.out (Nat.le_of_lt HRP.out) HB4.out.size))
      have HFA := Lib.hid (fin_1 (a := .int .i64 0) (b := .int .i64 0) HR1z.out)
      have q0 := HR1z.out.cell (i := 0) (v := .int .i64 0) rfl
      have q1 := HR1z.out.cell (i := 1) (v := .int .i64 0) rfl
      have f0 := row_free HR1z.out 0
      have f1 := row_free HR1z.out 1
      have HD := Lib.hid HOW.out.done
      go_wp2_with fail
      refine bodyPost_ret (v := .tuple #[.slice va [x].length vc, .agg #[.int .i64 0, .int .i64 0]]) (res_tc rfl _ _ w.heap.size _ _ #[.int .i64 0, .int .i64 0] rfl rfl HFA.out.r1 rfl) rfl ⟨_, rfl, ?_, HBD.out.trans (HFA.out.bl _ (Nat.le_refl _))⟩
      exact HD.out.step HFA.out.sz fun b hb hlt => ⟨by have := HRP.out; omega, HFA.out.ot b (by have := HRP.out; omega)⟩
end Go.Proofs.YtjgkeillmelkoaaGreat.Dt
namespace Go.Proofs.YtjgkeillmelkoaaGreat.Dt
open Go.RowKit Go.Proofs.YtjgkeillmelkoaaGreat.By

variable {w0 : World} {r : Nat} {tv : Value} {L : List Tk} {en : Int}
/-- The signs that bind more than those that compare. -/
def bindS : List ByteArray := [⟨#[42]⟩, ⟨#[47]⟩, ⟨#[37]⟩, ⟨#[43]⟩, ⟨#[45]⟩, ⟨#[124, 124]⟩]
theorem toJoin {k k' : Nat} {x : PE} (hb : NRun w0 r tv L en 112 k k' x) (h0 : cB L en k ⟨#[45]⟩ = false) (hs : ∀ t ∈ bindS, cB L en k' t = false) : NRun w0 r tv L en 105 k k' x :=
  ijoinW 0 k k' k' x x (iplusW k k' x (itimesW k k' x (iminusW k k' x hb h0) (hs _ (by simp [bindS])) (hs _ (by simp [bindS])) (hs _ (by simp [bindS]))) (hs _ (by simp [bindS])) (hs _ (by simp [bindS]))) ⟨hs _ (by simp [bindS]), rfl, rfl⟩
/-- A comparison by '=' of two things. -/
theorem toEq {k k1 k' : Nat} {x y : PE} (h1 : NRun w0 r tv L en 105 k k1 x) (hn : cB L en k ⟨#[78, 79, 84]⟩ = false) (his : cB L en k1 ⟨#[73, 83]⟩ = false) (he : cB L en k1 ⟨#[61]⟩ = true)
    (h2 : NRun w0 r tv L en 105 (k1 + 1) k' y) : NRun w0 r tv L en 101 k k' (.node 12 [x, y]) :=
  inotW 0 k k1 k' x y ⟨#[61]⟩ (by decide) rfl h1 hn his (fun j hj => absurd hj (Nat.not_lt_zero _)) he h2
theorem toOr {k k' : Nat} {x : PE} (h : NRun w0 r tv L en 87 k k' x) (ho : cB L en k' ⟨#[79, 82]⟩ = false) : NRun w0 r tv L en 54 k k' x :=
  iorW 0 k k' k' x x h ⟨ho, rfl, rfl⟩
/-- The expressions of the layer's own texts. -/
def nameE (s : ByteArray) : PE := .mk 2 V00 ⟨#[]⟩ s 0 []
def intE (n : Nat) : PE := .val1 ⟨1, (n : Int), ⟨#[]⟩⟩
/-- The text "DELETE FROM t WHERE b = 1 AND 2 = a": its bytes, its tokens. -/
def tx1T : ByteArray := ⟨#[68, 69, 76, 69, 84, 69, 32, 70, 82, 79, 77, 32, 116, 32, 87, 72, 69, 82, 69, 32, 98, 32, 61, 32, 49, 32, 65, 78, 68, 32, 50, 32, 61, 32, 97]⟩
def tx1L : List Tk := [⟨1, ⟨#[68, 69, 76, 69, 84, 69]⟩, 0, 0⟩, ⟨1, ⟨#[70, 82, 79, 77]⟩, 0, 7⟩, ⟨2, ⟨#[116]⟩, 0, 12⟩, ⟨1, ⟨#[87, 72, 69, 82, 69]⟩, 0, 14⟩, ⟨2, ⟨#[98]⟩, 0, 20⟩, ⟨6, ⟨#[61]⟩, 0, 22⟩, ⟨3, ⟨#[]⟩, 1, 24⟩, ⟨1, ⟨#[65, 78, 68]⟩, 0, 26⟩, ⟨3, ⟨#[]⟩, 2, 30⟩, ⟨6, ⟨#[61]⟩, 0, 32⟩, ⟨2, ⟨#[97]⟩, 0, 34⟩]
set_option maxRecDepth 100000 in
theorem tx1_toks : toksL tx1T.data.toList = .inr tx1L := by decide +kernel
def tx1S : PSt := { kind := 7, table := ⟨#[116]⟩, wh := [.node 18 [.node 12 [nameE ⟨#[98]⟩, intE 1], .node 12 [intE 2, nameE ⟨#[97]⟩]]] }
set_option maxRecDepth 100000 in
theorem tx1_st (w0 : World) (r : Nat) (tv : Value) : NStm w0 r tv tx1L (tx1T.size : Int) 0 tx1L.length tx1S := by
  have h0 : NRun w0 r tv tx1L (tx1T.size : Int) 101 4 7 (.node 12 [nameE ⟨#[98]⟩, intE 1]) := toEq (toJoin (ibaseName 4 (by decide +kernel) (by decide +kernel)) (by decide +kernel) (by decide +kernel)) (by decide +kernel) (by decide +kernel) (by decide +kernel) (toJoin (ibaseInt 6 (by decide +kernel) (by decide +kernel)) (by decide +kernel) (by decide +kernel))
  have h1 : NRun w0 r tv tx1L (tx1T.size : Int) 101 8 11 (.node 12 [intE 2, nameE ⟨#[97]⟩]) := toEq (toJoin (ibaseInt 8 (by decide +kernel) (by decide +kernel)) (by decide +kernel) (by decide +kernel)) (by decide +kernel) (by decide +kernel) (by decide +kernel) (toJoin (ibaseName 10 (by decide +kernel) (by decide +kernel)) (by decide +kernel) (by decide +kernel))
  have ha : NRun w0 r tv tx1L (tx1T.size : Int) 87 4 11 (.node 18 [.node 12 [nameE ⟨#[98]⟩, intE 1], .node 12 [intE 2, nameE ⟨#[97]⟩]]) := iandW 1 4 7 11 _ _ h0 ⟨(by decide +kernel), 11, _, h1, ⟨(by decide +kernel), rfl, rfl⟩⟩
  have ho := toOr ha (by decide +kernel)
  exact deleteW 0 11 _ (by decide +kernel) (by decide +kernel) (by decide +kernel) (by decide +kernel) (by decide +kernel) (by decide +kernel) (by decide +kernel) (perhapsYes _ 3 11 _ (by decide +kernel) ho)
theorem tx1_read (w : World) : Calls Tryz.prog 21 #[.string tx1T] w fun e w' =>
    ∃ v, e = .returned (.tuple #[v, .agg #[.int .i64 0, .int .i64 0]]) ∧ New w.heap.size w' (fun u => SlR 16 StR u v [tx1S]) ∧ Below w.heap.size w w' :=
  iscriptW tx1T tx1L tx1S w tx1_toks (by decide) (by decide) (by decide) tx1_st
end Go.Proofs.YtjgkeillmelkoaaGreat.Dt
namespace Go.Proofs.YtjgkeillmelkoaaGreat.Et
open Go.Proofs.YtjgkeillmelkoaaGreat.Dt
open Go.RowKit Go.Proofs.YtjgkeillmelkoaaGreat.By

theorem ret_bool {a b : Bool} (h : a = true ↔ b = true) : Ending.returned (.bool a) = .returned (.bool b) := by rw [Bool.eq_iff_iff.2 h]

/-- The box in which a call lays an expression that it got. -/
abbrev exBox (w : World) (x : Ex) (t : TypeId) : World := w.alloc (.cells #[.int .u8 (x.op : Int), .int .u8 (x.v.k : Int), .int .i64 x.v.n, .string x.v.s, .string x.t, .string x.m, .int .i64 x.n, x.kv] t)

end Go.Proofs.YtjgkeillmelkoaaGreat.Et
namespace Go.Proofs.YtjgkeillmelkoaaGreat.Et
open Go.Proofs.YtjgkeillmelkoaaGreat.Dt
open Go.RowKit Go.Proofs.YtjgkeillmelkoaaGreat.By

theorem at1 {w : World} {a : Option Addr} {n c k : Nat} {l : List Nat} {y : Nat} (h : U8sAt w (.slice a n c) l) (hk : l[k]? = some y) :
    ∃ b o, a = some ⟨b, o, none⟩ ∧ b < w.heap.size ∧ w.cell? ⟨b, o + k, none⟩ = some (.int .u8 (y : Int)) := by
  obtain ⟨a', c', e, _, h⟩ := h
  simp only [Value.slice.injEq] at e
  obtain ⟨rfl, _, _⟩ := e
  obtain ⟨b, o, rfl, h'⟩ := h k y hk
  have h0 := h' 0 _ rfl
  rw [Nat.mul_one, Nat.add_zero] at h0
  exact ⟨b, o, rfl, cell_lt h0, h0⟩

end Go.Proofs.YtjgkeillmelkoaaGreat.Et
namespace Go.Proofs.YtjgkeillmelkoaaGreat.Et
open Go.Proofs.YtjgkeillmelkoaaGreat.Dt
open Go.RowKit Go.Proofs.YtjgkeillmelkoaaGreat.By

theorem elU8 : By.Elem Tryz.prog 147 5 1 1 where
  slice := by kernel_rfl
  info := by
    have h : (Tryz.prog.info? 5).map (fun i => (i.zero, i.size, i.bytes)) = some (some (.int .u8 0), 1, 1) := by kernel_rfl
    obtain ⟨i, hi, h1, h2, h3⟩ := info_parts h
    exact ⟨i, _, hi, h1, h2, h3, rfl⟩
  pos := by decide

def uCells (l : List Nat) : List Value := l.map fun (k : Nat) => .int .u8 (k : Int)
/-- Owned kinds. -/
def OwnU (w : World) (base : Nat) (v : Value) (l : List Nat) : Prop := w.ownsRow base 5 1 v l.length (uCells l)
theorem OwnU.nil (w : World) (base : Nat) : OwnU w base (.slice none 0 0) [] := World.ownsRow_nil _ _ _ _
theorem OwnU.shape {w : World} {base : Nat} {v : Value} {l : List Nat} (h : OwnU w base v l) : ∃ a c, v = .slice a l.length c := by
  rcases h.2 with ⟨rfl, hn⟩ | ⟨g, cap, cur, rfl, _⟩
  · exact ⟨none, 0, by rw [hn]⟩
  · exact ⟨_, _, rfl⟩
theorem OwnU.at_ {w : World} {base : Nat} {v : Value} {l : List Nat} (h : OwnU w base v l) : U8sAt w v l := by
  rcases h.2 with ⟨rfl, hn⟩ | ⟨g, cap, cur, rfl, hg, hh, hn, hcap, hsz, ht⟩
  · obtain rfl : l = [] := List.eq_nil_of_length_eq_zero hn
    exact SlAt.nil _ _ _
  · refine ⟨_, cap, rfl, hn, fun i x hx => ⟨g, 0, rfl, fun j u hu => ?_⟩⟩
    obtain ⟨hi, rfl⟩ := List.getElem?_eq_some_iff.1 hx
    match j, hu with
    | 0, hu =>
      simp [u8Cells] at hu
      subst hu
      have := World.ownsRow.cellAt (w := w) (e := 5) (size := 1) h i (by omega)
      rw [Nat.zero_add, Nat.mul_one, Nat.add_zero, this]
      simp [uCells, hi]
    | j + 1, hu => simp [u8Cells] at hu
theorem OwnU.below {w w' : World} {base : Nat} {v : Value} {l : List Nat} (h : OwnU w base v l) (hb : Below w.heap.size w w') : OwnU w' base v l :=
  World.ownsRow.kept (row := none) h ⟨hb.os, hb.tape, hb.output, hb.size, fun i hi _ => hb.block i hi⟩ (by cases v.ownBlock <;> simp)
theorem OwnU.snoc {w : World} {base : Nat} {v : Value} {l : List Nat} {k : Nat} (h : w.ownsRow base 5 1 v (l.length + 1) (uCells l ++ [.int .u8 (k : Int)])) : OwnU w base v (l ++ [k]) := by
  unfold OwnU
  rw [List.length_append]
  simpa [uCells] using h
/-- A result's box: a value's, that nothing has been laid into. -/
structure ResBox (k : Nat) (w : World) : Prop where
  c0 : w.cell? ⟨k, 0, none⟩ = some (.int .u8 0)
  c1 : w.cell? ⟨k, 1, none⟩ = some (.int .i64 0)
  c2 : w.cell? ⟨k, 2, none⟩ = some (.string ⟨#[]⟩)
  f0 : w.frozen? ⟨k, 0, none⟩ = false
  f1 : w.frozen? ⟨k, 1, none⟩ = false
  f2 : w.frozen? ⟨k, 2, none⟩ = false
end Go.Proofs.YtjgkeillmelkoaaGreat.Et
namespace Go.Proofs.YtjgkeillmelkoaaGreat.Et
open Go.Proofs.YtjgkeillmelkoaaGreat.Dt
open Go.RowKit Go.Proofs.YtjgkeillmelkoaaGreat.By

/-- A value's box. -/
structure BoxV (k : Nat) (v : V) (w : World) : Prop where
  c0 : w.cell? ⟨k, 0, none⟩ = some (.int .u8 (v.k : Int))
  c1 : w.cell? ⟨k, 1, none⟩ = some (.int .i64 v.n)
  c2 : w.cell? ⟨k, 2, none⟩ = some (.string v.s)
end Go.Proofs.YtjgkeillmelkoaaGreat.Et
namespace Go.Proofs.YtjgkeillmelkoaaGreat.Et
open Go.Proofs.YtjgkeillmelkoaaGreat.Dt
open Go.RowKit Go.Proofs.YtjgkeillmelkoaaGreat.By

/-- What is there behind the loop over the values. -/
structure DoesAt (l : List V) (a : Option Addr) (c : Nat) (w wr : World) (kv : Value) (k : Nat) (ks : List Nat) : Prop where
  own : OwnU wr (w.heap.size + 1) kv ks
  ks : ks = (l.take k).map V.k
  res : ResBox w.heap.size wr
  at_ : VsAt wr (.slice a l.length c) l
  bel : Below w.heap.size w wr

end Go.Proofs.YtjgkeillmelkoaaGreat.Et
namespace Go.Proofs.YtjgkeillmelkoaaGreat.Et
open Go.Proofs.YtjgkeillmelkoaaGreat.Dt
open Go.RowKit Go.Proofs.YtjgkeillmelkoaaGreat.By

/-- The cells of an expression's box. -/
theorem box_cells (w w1 : World) (x : Ex) (t : TypeId) (hb : Below (exBox w x t).heap.size (exBox w x t) w1) :
    w1.cell? ⟨w.heap.size, 0, none⟩ = some (.int .u8 (x.op : Int)) ∧ w1.cell? ⟨w.heap.size, 1, none⟩ = some (.int .u8 (x.v.k : Int)) ∧ w1.cell? ⟨w.heap.size, 2, none⟩ = some (.int .i64 x.v.n) ∧ w1.cell? ⟨w.heap.size, 3, none⟩ = some (.string x.v.s) ∧
      w1.cell? ⟨w.heap.size, 4, none⟩ = some (.string x.t) ∧ w1.cell? ⟨w.heap.size, 5, none⟩ = some (.string x.m) ∧ w1.cell? ⟨w.heap.size, 6, none⟩ = some (.int .i64 x.n) ∧ w1.cell? ⟨w.heap.size, 7, none⟩ = some x.kv := by
  refine ⟨?_, ?_, ?_, ?_, ?_, ?_, ?_, ?_⟩ <;> (rw [hb.cell (by simp)]; go_simp)

end Go.Proofs.YtjgkeillmelkoaaGreat.Et
namespace Go.Proofs.YtjgkeillmelkoaaGreat.Et
open Go.Proofs.YtjgkeillmelkoaaGreat.Dt
open Go.RowKit Go.Proofs.YtjgkeillmelkoaaGreat.By

def vCells (l : List V) : List Value := l.flatMap V.cells
/-- Owned values. -/
def OwnV (w : World) (base : Nat) (v : Value) (l : List V) : Prop := w.ownsRow base 42 3 v l.length (vCells l)
end Go.Proofs.YtjgkeillmelkoaaGreat.Et
namespace Go.Proofs.YtjgkeillmelkoaaGreat.Et
open Go.Proofs.YtjgkeillmelkoaaGreat.Dt
open Go.RowKit Go.Proofs.YtjgkeillmelkoaaGreat.By

/-- What the calls that tell columns and groups do. -/
structure Env (cols : Int) (g : Bool) (w0 : World) (f : FuncId) (p : Addr) (tf : Value) (col : Int → V) (grp : Ex → V × Nat) : Prop where
  fcall : ∀ args w, (callFunc f args).run Tryz.prog w = .ok (.enter f args) w
  hcol : ∀ n W, 0 ≤ n → n < cols → Below w0.heap.size w0 W → Calls Tryz.prog f #[.int .i64 n, .pointer (some p)] W fun e w' => e = .returned (col n).val ∧ Below W.heap.size W w'
  colok : ∀ n, 0 ≤ n → n < cols → (col n).ok
  hgrp : g = true → ∃ h q, tf = .func (.func h) #[] #[.pointer (some q)] ∧ (∀ args w, (callFunc h args).run Tryz.prog w = .ok (.enter h args) w) ∧ ∀ (y : Ex) W, y.In W → y.Ok → groupB y.op = true → mayB cols true y = true → Below w0.heap.size w0 W →
    Calls Tryz.prog h #[y.val, .pointer (some q)] W fun e w' => e = .returned (resV (grp y)) ∧ Below W.heap.size W w'
  grpok : g = true → ∀ y : Ex, y.Ok → groupB y.op = true → mayB cols true y = true → (grp y).1.ok

/-- What is there between two kids. -/
structure WalkAt (col : Int → V) (grp : Ex → V × Nat) (ks : List Ex) (op : Nat) (w wr : World) (kv : Value) (k : Nat) (vs : List V) : Prop where
  own : OwnV wr (w.heap.size + 2) kv vs
  sofar : Sofar col grp ks k vs
  ok : ∀ v ∈ vs, v.ok
  res : ResBox (w.heap.size + 1) wr
  op : wr.cell? ⟨w.heap.size, 0, none⟩ = some (.int .u8 (op : Int))
  bel : Below w.heap.size w wr

end Go.Proofs.YtjgkeillmelkoaaGreat.Et
namespace Go.Proofs.YtjgkeillmelkoaaGreat.Et
open Go.Proofs.YtjgkeillmelkoaaGreat.Dt

/-- What has been told so far. -/
structure Tl where
  n : Nat
  t : Int
  best : V
end Go.Proofs.YtjgkeillmelkoaaGreat.Et
