import Derived.Test.YtjgkeillmelkoaaGreatBk29
import Derived.Test.YtjgkeillmelkoaaGreatBk18
import Derived.Test.YtjgkeillmelkoaaGreatBk05
import Derived.Test.YtjgkeillmelkoaaGreatBk04
namespace Go.Proofs.YtjgkeillmelkoaaGreat.Dt
open Go.RowKit Go.Proofs.YtjgkeillmelkoaaGreat.By

/-- The sources of a DELETE. -/
def smallS : List PSo := [(⟨#[116]⟩, smallT)]
theorem slR_zero {α : Type} {size : Nat} {R : World → List Value → α → Prop} {u : World} {a : Option Addr} {n : Nat} : SlR size R u (.slice a 0 n) ([] : List α) :=
  ⟨[], ⟨a, n, rfl, Nat.zero_le _, fun i x h => by simp at h⟩, rfl, fun i c x h => by simp at h⟩
theorem res_cs {fn : Func} {p q : Tmp} (h : fn.results = #[.cell p 35, .tmp q]) (tmps : Array Value) (w : World) (k : Nat) (u : TypeId) (v : Value) (ds : Array Value)
    (hp : tmps.getD p undef = .pointer (some ⟨k, 0, none⟩)) (hq : tmps.getD q undef = v) (hk : Row k u ds w) (hd : ds.size = 16) : (results fn tmps).run Tryz.prog w = .ok (.tuple #[.agg ds, v]) w := by
  obtain ⟨gs, hv⟩ := sm_struct
  have hi := sm_size
  have hp' : tmps[p]?.getD undef = .pointer (some ⟨k, 0, none⟩) := by simpa using hp
  have hq' : tmps[q]?.getD undef = v := by simpa using hq
  simp [results, h, hp', hq', asAddr, run_loadVar_row w k u 35 ds (0, 0) _ hk hv rfl (by rw [hi, hd])]
theorem sos_small {W : World} {g : Nat} {ca ka ia : Option Addr} {cc kc ic : Nat} {T : TypeId} (hr : Row g T #[.string ⟨#[116]⟩, .string ⟨#[116]⟩, .slice ca 3 cc, .slice ka 2 kc, .slice ia 1 ic] W) (h1 : SlR 3 ColR W (.slice ca 3 cc) smallT.cols) (h2 : IntsR W (.slice ka 2 kc) smallT.key) (h3 : SlR 3 IxR W (.slice ia 1 ic) smallT.ixs) : SosR W (.slice (some ⟨g, 0, none⟩) 1 1) smallS := by
  refine ⟨[#[.string ⟨#[116]⟩, .string ⟨#[116]⟩, .slice ca 3 cc, .slice ka 2 kc, .slice ia 1 ic].toList], ⟨_, _, rfl, Nat.le_refl _, fun i x hi => ⟨g, 0, rfl, fun j u hj => hr.cell ?_⟩⟩, rfl, fun i c x hc hx => ?_⟩
  · match i, hi with
    | 0, hi => cases hi; simpa using hj
    | n + 1, hi => cases hi
  · match i, hc, hx with
    | 0, hc, hx => cases hc; cases hx; exact ⟨rfl, _, rfl, _, _, _, rfl, h1, h2, h3⟩
    | n + 1, hc, _ => cases hc
attribute [local go_sem ↓] veilSt_sm veilLd_sm
attribute [local go_sem] run_smSt run_smNew run_smLd okRow16 Value.oneCell'
set_option maxRecDepth 100000 in
set_option maxHeartbeats 16000000 in
theorem resolveDel (v : Value) (x y : PE) (a4 a5 a6 a7 a8 a9 a10 a11 a12 a13 a14 : Option Addr) (n4 n5 n6 n7 n8 n9 n10 n11 n12 n13 n14 : Nat) (w : World) (hcat : CatR w v [smallT]) (hex : ExsR w (.slice a11 1 n11) [x]) (hpw : PutW x)
    (hok : (oDel ⟨#[116]⟩ [x]).ok = true) (hz : (oDel ⟨#[116]⟩ [x]).s.size ≤ 4096) (hp : PtW smallS x y) (ht : TyW smallS y) :
    Calls Tryz.prog 22 #[v, .agg #[.int .u8 7, .string ⟨#[116]⟩, .string ⟨#[]⟩, .bool false, .slice a4 0 n4, .slice a5 0 n5, .slice a6 0 n6, .slice a7 0 n7, .slice a8 0 n8, .slice a9 0 n9, .slice a10 0 n10, .slice a11 1 n11, .slice a12 0 n12, .slice a13 0 n13, .slice a14 0 n14, .int .i64 0]] w fun e w' => ∃ cs, e = .returned (.tuple #[.agg cs, .int .i64 0]) ∧ New w.heap.size w' (fun u => StR u cs.toList { kind := 7, table := ⟨#[116]⟩, wh := [y] }) ∧ Below w.heap.size w w' := by
  obtain ⟨va, vc, rfl, _⟩ := hcat.shape
  have HCAT := Lib.hid hcat
  obtain ⟨b, o, cv, kv, iv, rfl, hcols, hkey, hix, t0, t1, t2, t3⟩ := tb_at (k := 0) hcat rfl
  simp only [Nat.zero_mul, Nat.add_zero] at t0 t1 t2 t3
  obtain ⟨ca, cc, rfl, _⟩ := hcols.shape
  obtain ⟨ka, kc, rfl, _⟩ := hkey.shape
  obtain ⟨ia, ic, rfl, _⟩ := hix.shape
  have T0 : Hid (w.cell? ⟨b, o, none⟩ = some (.string ⟨#[116]⟩)) := Lib.hid t0
  have T1 : Hid (w.cell? ⟨b, o + 1, none⟩ = some (.slice ca 3 cc)) := Lib.hid t1
  have T2 : Hid (w.cell? ⟨b, o + 2, none⟩ = some (.slice ka 2 kc)) := Lib.hid t2
  have T3 : Hid (w.cell? ⟨b, o + 3, none⟩ = some (.slice ia 1 ic)) := Lib.hid t3
  have HSO : Hid (∀ (W : World) (g : Nat), Below w.heap.size w W → Row g 98 #[.string ⟨#[116]⟩, .string ⟨#[116]⟩, .slice ca 3 cc, .slice ka 2 kc, .slice ia 1 ic] W → SosR W (.slice (some ⟨g, 0, none⟩) 1 1) smallS) := Lib.hid fun W g hb hr => sos_small hr (colsR_below hcols hb) (intsR_below hkey hb) (ixsR_below hix hb)
  clear t0 t1 t2 t3 hcols hkey hix
  have hb1 : Below w.heap.size w (w.alloc (.cells #[.int .u8 7, .string ⟨#[116]⟩, .string ⟨#[]⟩, .bool false, .slice a4 0 n4, .slice a5 0 n5, .slice a6 0 n6, .slice a7 0 n7, .slice a8 0 n8, .slice a9 0 n9, .slice a10 0 n10, .slice a11 1 n11, .slice a12 0 n12, .slice a13 0 n13, .slice a14 0 n14, .int .i64 0] 35)) := (Below.refl _ _).alloc (Nat.le_refl _) _
  have h1 := row_alloc w 35 #[.int .u8 7, .string ⟨#[116]⟩, .string ⟨#[]⟩, .bool false, .slice a4 0 n4, .slice a5 0 n5, .slice a6 0 n6, .slice a7 0 n7, .slice a8 0 n8, .slice a9 0 n9, .slice a10 0 n10, .slice a11 1 n11, .slice a12 0 n12, .slice a13 0 n13, .slice a14 0 n14, .int .i64 0]
  have ha2 := (Below.refl _ (w.alloc (.cells #[.int .u8 7, .string ⟨#[116]⟩, .string ⟨#[]⟩, .bool false, .slice a4 0 n4, .slice a5 0 n5, .slice a6 0 n6, .slice a7 0 n7, .slice a8 0 n8, .slice a9 0 n9, .slice a10 0 n10, .slice a11 1 n11, .slice a12 0 n12, .slice a13 0 n13, .slice a14 0 n14, .int .i64 0] 35))).alloc (Nat.le_refl _) (.cells stZ 35)
  have h2 := row_alloc (w.alloc (.cells #[.int .u8 7, .string ⟨#[116]⟩, .string ⟨#[]⟩, .bool false, .slice a4 0 n4, .slice a5 0 n5, .slice a6 0 n6, .slice a7 0 n7, .slice a8 0 n8, .slice a9 0 n9, .slice a10 0 n10, .slice a11 1 n11, .slice a12 0 n12, .slice a13 0 n13, .slice a14 0 n14, .int .i64 0] 35)) 35 stZ
  rw [show (w.alloc (.cells #[.int .u8 7, .string ⟨#[116]⟩, .string ⟨#[]⟩, .bool false, .slice a4 0 n4, .slice a5 0 n5, .slice a6 0 n6, .slice a7 0 n7, .slice a8 0 n8, .slice a9 0 n9, .slice a10 0 n10, .slice a11 1 n11, .slice a12 0 n12, .slice a13 0 n13, .slice a14 0 n14, .int .i64 0] 35)).heap.size = w.heap.size + 1 by simp] at h2
  have HX := Lib.hid (h1.later ha2)
  have HZ := Lib.hid h2
  have HB := Lib.hid (next hb1 ha2)
  have HEX := Lib.hid hex
  have HPT := Lib.hid hp
  have HTY := Lib.hid ht
  have HPR := Lib.hid (printDelW ⟨#[116]⟩ [x] a4 a5 a6 a7 a8 a9 a10 a11 a12 a13 a14 n4 n5 n6 n7 n8 n9 n10 n11 n12 n13 n14 _ (isNameW ⟨#[116]⟩ (by decide)) (fun z hz => by obtain rfl := List.mem_singleton.1 hz; exact hpw) (exsR_below hex (next hb1 ha2)) hok hz)
  clear hb1 h1 ha2 h2 hcat hex hp ht hpw hok hz
  go_enter Tryz.func22, Tryz.ntmps22
  go_upto_region 1 with fail
  generalize (w.alloc (.cells #[.int .u8 7, .string ⟨#[116]⟩, .string ⟨#[]⟩, .bool false, .slice a4 0 n4, .slice a5 0 n5, .slice a6 0 n6, .slice a7 0 n7, .slice a8 0 n8, .slice a9 0 n9, .slice a10 0 n10, .slice a11 1 n11, .slice a12 0 n12, .slice a13 0 n13, .slice a14 0 n14, .int .i64 0] 35)).alloc (.cells stZ 35) = w2 at *
  have hb := HX.out.b (n := 16) rfl
  have ho := HX.out.of
  go_wp2_with fail
  refine HPR.out.mono ?_
  rintro e3 w3 ⟨rfl, hb3⟩
  have HX3 := Lib.hid (HX.out.later hb3)
  have HZ3 := Lib.hid (HZ.out.later hb3)
  have HB3 := Lib.hid (next HB.out hb3)
  clear hb3 hb ho HX HZ HB HPR
  have c0 := HX3.out.cell (i := 0) (v := .int .u8 7) rfl
  have HM := Lib.hid (mayW _ w3 (catR_below HCAT.out HB3.out))
  go_wp2_with fail
  refine HM.out.mono ?_
  rintro e4 w4 ⟨rfl, hb4⟩
  have HX4 := Lib.hid (HX3.out.later hb4)
  have HZ4 := Lib.hid (HZ3.out.later hb4)
  have HB4 := Lib.hid (next HB3.out hb4)
  clear hb4 c0 HX3 HZ3 HB3 HM
  have c0 := HX4.out.cell (i := 0) (v := .int .u8 7) rfl
  have c1 := HX4.out.cell (i := 1) (v := .string ⟨#[116]⟩) rfl
  have hf := findW [smallT] (some ⟨b, o, none⟩) vc ⟨#[116]⟩ w4 (by decide) (catR_below HCAT.out HB4.out)
  rw [show idxL (fun x : PTb => decide (x.name = ⟨#[116]⟩)) [smallT] 0 = 0 by decide +kernel] at hf
  have HF := Lib.hid hf
  clear hf
  go_wp2_with fail
  refine HF.out.mono ?_
  rintro e5 w5 ⟨rfl, rfl⟩
  clear HF
  have t0 := (HB4.out.cell (cell_lt T0.out)).trans T0.out
  have t1 := (HB4.out.cell (cell_lt T1.out)).trans T1.out
  have t2 := (HB4.out.cell (cell_lt T2.out)).trans T2.out
  have t3 := (HB4.out.cell (cell_lt T3.out)).trans T3.out
  go_upto_region 10 with fail
  clear c0 c1 t0 t1 t2 t3
  have hb6 := (Below.refl _ w4).alloc (Nat.le_refl _) (.cells #[.string ⟨#[116]⟩, .slice ca 3 cc, .slice ka 2 kc, .slice ia 1 ic] 59)
  have HX6 := Lib.hid (HX4.out.later hb6)
  have HZ6 := Lib.hid (HZ4.out.later hb6)
  have HB6 := Lib.hid (next HB4.out hb6)
  have HT6 := Lib.hid (row_alloc w4 59 #[.string ⟨#[116]⟩, .slice ca 3 cc, .slice ka 2 kc, .slice ia 1 ic])
  clear hb6 HX4 HZ4 HB4
  generalize w4.alloc (.cells #[.string ⟨#[116]⟩, .slice ca 3 cc, .slice ka 2 kc, .slice ia 1 ic] 59) = w6 at *
  generalize w4.heap.size = g at *
  have c1 := HX6.out.cell (i := 1) (v := .string ⟨#[116]⟩) rfl
  have t0 := HT6.out.cell (i := 0) (v := .string ⟨#[116]⟩) rfl
  have t1 := HT6.out.cell (i := 1) (v := .slice ca 3 cc) rfl
  have t2 := HT6.out.cell (i := 2) (v := .slice ka 2 kc) rfl
  have t3 := HT6.out.cell (i := 3) (v := .slice ia 1 ic) rfl
  go_upto_region 11 with fail
  clear c1 t0 t1 t2 t3
  have hb7 := (Below.refl _ w6).alloc (Nat.le_refl _) (.cells #[.string ⟨#[116]⟩, .string ⟨#[116]⟩, .slice ca 3 cc, .slice ka 2 kc, .slice ia 1 ic] 98)
  have HX7 := Lib.hid (HX6.out.later hb7)
  have HZ7 := Lib.hid (HZ6.out.later hb7)
  have HB7 := Lib.hid (next HB6.out hb7)
  have HSR7 := Lib.hid (row_alloc w6 98 #[.string ⟨#[116]⟩, .string ⟨#[116]⟩, .slice ca 3 cc, .slice ka 2 kc, .slice ia 1 ic])
  have HLT7 : Hid (w.heap.size < w6.heap.size) := Lib.hid HX6.out.lt
  clear hb7 HX6 HZ6 HB6 HT6
  generalize w6.alloc (.cells #[.string ⟨#[116]⟩, .string ⟨#[116]⟩, .slice ca 3 cc, .slice ka 2 kc, .slice ia 1 ic] 98) = w7 at *
  generalize w6.heap.size = gs at *
  have c0 := HX7.out.cell (i := 0) (v := .int .u8 7) rfl
  have c8 := HX7.out.cell (i := 8) (v := .slice a8 0 n8) rfl
  have f8 := HX7.out.free 8
  go_upto_region 33 with fail
  go_wp2_with fail
  go_loopg [19, 20] 0 (fun gk ov iv wr => ov = .slice none 0 0 ∧ iv = .int .i64 0 ∧ w7 = wr)
  case atStart => exact ⟨rfl, rfl, rfl⟩
  case round =>
    obtain ⟨rfl, rfl, rfl⟩ := hrel
    have hs8 := setCell_eq_setRow w7 w.heap.size 8 _ _ _ (.slice none 0 0) HX7.out
    have HX8 : Hid (Row w.heap.size 35 #[.int .u8 7, .string ⟨#[116]⟩, .string ⟨#[]⟩, .bool false, .slice a4 0 n4, .slice a5 0 n5, .slice a6 0 n6, .slice a7 0 n7, .slice none 0 0, .slice a9 0 n9, .slice a10 0 n10, .slice a11 1 n11, .slice a12 0 n12, .slice a13 0 n13, .slice a14 0 n14, .int .i64 0] (w7.setCell ⟨w.heap.size, 8, none⟩ (.slice none 0 0))) := Lib.hid (by rw [hs8]; exact HX7.out.set _)
    have HZ8 : Hid (Row (w.heap.size + 1) 35 stZ (w7.setCell ⟨w.heap.size, 8, none⟩ (.slice none 0 0))) := Lib.hid (by rw [hs8]; exact (setRow_other _ _ _ _ (by omega)).trans HZ7.out)
    have HB8 : Hid (Below w.heap.size w (w7.setCell ⟨w.heap.size, 8, none⟩ (.slice none 0 0))) := Lib.hid (below_set HB7.out (Nat.le_refl _))
    clear hs8
    have HSR8 : Hid (Row gs 98 #[.string ⟨#[116]⟩, .string ⟨#[116]⟩, .slice ca 3 cc, .slice ka 2 kc, .slice ia 1 ic] (w7.setCell ⟨w.heap.size, 8, none⟩ (.slice none 0 0))) := Lib.hid (by
      rw [setCell_eq_setRow w7 w.heap.size 8 _ _ _ (.slice none 0 0) HX7.out]
      exact (setRow_other _ _ _ _ (by have := HLT7.out; omega)).trans HSR7.out)
    go_upto_region 49 with fail
    clear c0 c8 f8
    generalize w7.setCell ⟨w.heap.size, 8, none⟩ (.slice none 0 0) = w8 at *
    have HC := Lib.hid (condW smallS (some ⟨gs, 0, none⟩) 1 x y a11 n11 w8 (by decide) (fun z hz => by obtain rfl := List.mem_singleton.1 hz; decide) HPT.out HTY.out (HSO.out w8 gs HB8.out HSR8.out) (exsR_below HEX.out HB8.out))
    have c11 := HX8.out.cell (i := 11) (v := .slice a11 1 n11) rfl
    go_wp2_with fail
    refine HC.out.mono ?_
    rintro e9 w9 ⟨v9, rfl, hv9, hb9⟩
    obtain ⟨q9, r9, rfl, _⟩ := hv9.here.shape
    clear c11 HC
    have HX9 := Lib.hid (HX8.out.later hb9)
    have HZ9 := Lib.hid (HZ8.out.later hb9)
    have HB9 := Lib.hid (next HB8.out hb9)
    have HLT8 : Hid (w.heap.size + 1 < w8.heap.size) := Lib.hid HZ8.out.lt
    have HV9 := Lib.hid hv9
    have c11 := HX9.out.cell (i := 11) (v := .slice a11 1 n11) rfl
    have f11 := HX9.out.free 11
    have hs11 := setCell_eq_setRow w9 w.heap.size 11 _ _ _ (.slice q9 1 r9) HX9.out
    have HXZ : Hid (Row w.heap.size 35 #[.int .u8 7, .string ⟨#[116]⟩, .string ⟨#[]⟩, .bool false, .slice a4 0 n4, .slice a5 0 n5, .slice a6 0 n6, .slice a7 0 n7, .slice none 0 0, .slice a9 0 n9, .slice a10 0 n10, .slice q9 1 r9, .slice a12 0 n12, .slice a13 0 n13, .slice a14 0 n14, .int .i64 0] (w9.setCell ⟨w.heap.size, 11, none⟩ (.slice q9 1 r9))) := Lib.hid (by rw [hs11]; exact HX9.out.set _)
    have HZZ : Hid (Row (w.heap.size + 1) 35 stZ (w9.setCell ⟨w.heap.size, 11, none⟩ (.slice q9 1 r9))) := Lib.hid (by rw [hs11]; exact (setRow_other _ _ _ _ (by omega)).trans HZ9.out)
    have HBZ : Hid (Below w.heap.size w (w9.setCell ⟨w.heap.size, 11, none⟩ (.slice q9 1 r9))) := Lib.hid (below_set HB9.out (Nat.le_refl _))
    have HVZ : Hid (Dep (fun b => w8.heap.size ≤ b) (w9.setCell ⟨w.heap.size, 11, none⟩ (.slice q9 1 r9)) fun u => ExsR u (.slice q9 1 r9) [y]) := Lib.hid (by
      rw [hs11]
      exact HV9.out.step (by simp) fun b hb _ => ⟨hb, setRow_other _ _ _ _ (by have := HLT8.out; omega)⟩)
    clear hs11 hv9 hb9
    go_upto_region 50 with fail
    clear c11 f11
    generalize w9.setCell ⟨w.heap.size, 11, none⟩ (.slice q9 1 r9) = w10 at *
    have hb := HXZ.out.b (n := 16) rfl
    have ho := HXZ.out.of
    have hz := HZZ.out.b (n := 16) rfl
    go_wp2_with fail
    refine bodyPost_ret (v := .tuple #[.agg #[.int .u8 7, .string ⟨#[116]⟩, .string ⟨#[]⟩, .bool false, .slice a4 0 n4, .slice a5 0 n5, .slice a6 0 n6, .slice a7 0 n7, .slice none 0 0, .slice a9 0 n9, .slice a10 0 n10, .slice q9 1 r9, .slice a12 0 n12, .slice a13 0 n13, .slice a14 0 n14, .int .i64 0], .int .i64 0]) (res_cs rfl _ _ (w.heap.size + 1) _ _ _ rfl rfl (HZZ.out.set _) rfl) rfl ⟨_, rfl, ?_, below_setRow' HBZ.out (by omega) _⟩
    intro u hu
    have hv := HVZ.out u fun b hb hlt => (hu b (by have := HLT8.out; omega) (by simpa using hlt)).trans (setRow_other _ _ _ _ (by have := HLT8.out; omega))
    exact ⟨_, _, _, _, _, _, _, _, _, _, _, rfl, slR_zero, slR_zero, slR_zero, slR_zero, slR_zero, slR_zero, slR_zero, hv, slR_zero, slR_zero, slR_zero⟩
end Go.Proofs.YtjgkeillmelkoaaGreat.Dt
namespace Go.Proofs.YtjgkeillmelkoaaGreat.Dt
open Go.RowKit Go.Proofs.YtjgkeillmelkoaaGreat.By

def rx1 : PE := .node 18 [.node 12 [nameE ⟨#[98]⟩, intE 1], .node 12 [intE 2, nameE ⟨#[97]⟩]]
theorem tx1_wh : tx1S = { kind := 7, table := ⟨#[116]⟩, wh := [rx1] } := rfl
theorem rx1_put : PutW rx1 :=
  putNodeW 18 _ _ (by decide) (by decide)
    (putNodeW 12 _ _ (by decide) (by decide) (putNameW _ (isNameW _ (by decide))) (putIntW 1 (by decide)) (by decide +kernel))
    (putNodeW 12 _ _ (by decide) (by decide) (putIntW 2 (by decide)) (putNameW _ (isNameW _ (by decide))) (by decide +kernel)) (by decide +kernel)
theorem rx1_ok : (oDel ⟨#[116]⟩ [rx1]).ok = true := by decide +kernel
theorem rx1_size : (oDel ⟨#[116]⟩ [rx1]).s.size ≤ 4096 := by decide +kernel
theorem smallS_cols : ∀ y ∈ smallS, y.2.cols.length ≤ 1000 := fun z hz => by obtain rfl := List.mem_singleton.1 hz; decide
theorem rx1_pt : PtW smallS rx1 px1 :=
  putTwoW smallS 18 _ _ _ _ (by decide)
    (putTwoW smallS 12 _ _ _ _ (by decide) (putColW smallS ⟨#[]⟩ ⟨#[98]⟩ 0 1 (by decide) smallS_cols (by decide +kernel)) (putValW smallS _))
    (putTwoW smallS 12 _ _ _ _ (by decide) (putValW smallS _) (putColW smallS ⟨#[]⟩ ⟨#[97]⟩ 0 0 (by decide) smallS_cols (by decide +kernel)))
theorem px1_ty : TyW smallS px1 := fun w c cv h hu => px1_type w c cv h hu
end Go.Proofs.YtjgkeillmelkoaaGreat.Dt
namespace Go.Proofs.YtjgkeillmelkoaaGreat.Dt
open Go.RowKit Go.Proofs.YtjgkeillmelkoaaGreat.By

theorem run_smLdAt2 (W : World) (b o : Nat) (cs : List Value) (h16 : cs.length = 16) (hc : ∀ (j : Nat) (u : Value), cs[j]? = some u → W.cell? ⟨b, o + j, none⟩ = some u) : (veilLd 35 ⟨b, o, none⟩).run Tryz.prog W = .ok (.agg cs.toArray) W := by
  have hl : (loadCells ⟨b, o, none⟩ cs.length).run Tryz.prog W = .ok cs.toArray W := run_loadCells_list (P := Tryz.prog) W ⟨b, o, none⟩ cs (fun j v hv => by rw [Addr.add_lit]; exact hc j v hv)
  obtain ⟨fs, hu⟩ := sm_struct
  have hi := sm_size
  cases hq : Tryz.prog.info? 35 with
  | none => rw [hq] at hi; cases hi
  | some i =>
    have hs : i.size = 16 := by simpa [hq] using hi
    have hagg : (isAgg 35).run Tryz.prog W = .ok true W := by
      unfold isAgg
      rw [Sem.run_bind, run_underlying hu W]
      rfl
    rw [h16] at hl
    unfold veilLd
    simp [loadVar, Sem.run_bind, hagg, sizeOf, typeInfo, hq, hs, hl]

theorem nil_shape {α : Type} {size : Nat} {R : World → List Value → α → Prop} {w : World} {v : Value} (h : SlR size R w v ([] : List α)) : ∃ a n, v = .slice a 0 n := by
  obtain ⟨a, c, e, _⟩ := h.shape
  exact ⟨a, c, e⟩
/-- A DELETE's cells, one by one. -/
theorem del_cells {w : World} {cs : List Value} {t : ByteArray} {x : PE} (h : StR w cs { kind := 7, table := t, wh := [x] }) : ∃ (a4 a5 a6 a7 a8 a9 a10 a11 a12 a13 a14 : Option Addr) (n4 n5 n6 n7 n8 n9 n10 n11 n12 n13 n14 : Nat),
    cs = [.int .u8 7, .string t, .string ⟨#[]⟩, .bool false, .slice a4 0 n4, .slice a5 0 n5, .slice a6 0 n6, .slice a7 0 n7, .slice a8 0 n8, .slice a9 0 n9, .slice a10 0 n10, .slice a11 1 n11, .slice a12 0 n12, .slice a13 0 n13, .slice a14 0 n14, .int .i64 0] ∧ ExsR w (.slice a11 1 n11) [x] := by
  obtain ⟨c4, c5, c6, c7, c8, c9, c10, c11, c12, c13, c14, rfl, h4, h5, h6, h7, h8, h9, h10, h11, h12, h13, h14⟩ := h
  obtain ⟨a4, n4, rfl⟩ := nil_shape h4
  obtain ⟨a5, n5, rfl⟩ := nil_shape h5
  obtain ⟨a6, n6, rfl⟩ := nil_shape h6
  obtain ⟨a7, n7, rfl⟩ := nil_shape h7
  obtain ⟨a8, n8, rfl⟩ := nil_shape h8
  obtain ⟨a9, n9, rfl⟩ := nil_shape h9
  obtain ⟨a10, n10, rfl⟩ := nil_shape h10
  obtain ⟨a11, n11, rfl, _⟩ := h11.shape
  obtain ⟨a12, n12, rfl⟩ := nil_shape h12
  obtain ⟨a13, n13, rfl⟩ := nil_shape h13
  obtain ⟨a14, n14, rfl⟩ := nil_shape h14
  exact ⟨a4, a5, a6, a7, a8, a9, a10, a11, a12, a13, a14, n4, n5, n6, n7, n8, n9, n10, n11, n12, n13, n14, rfl, h11⟩
/-- What Resolve makes of works' DELETE. -/
theorem resolve1 (v : Value) (cs : List Value) (w : World) (hcat : CatR w v [smallT]) (h : StR w cs tx1S) : Calls Tryz.prog 22 #[v, .agg cs.toArray] w fun e w' => ∃ cs, e = .returned (.tuple #[.agg cs, .int .i64 0]) ∧ New w.heap.size w' (fun u => StR u cs.toList { kind := 7, table := ⟨#[116]⟩, wh := [px1] }) ∧ Below w.heap.size w w' := by
  rw [tx1_wh] at h
  obtain ⟨a4, a5, a6, a7, a8, a9, a10, a11, a12, a13, a14, n4, n5, n6, n7, n8, n9, n10, n11, n12, n13, n14, rfl, hx⟩ := del_cells h
  exact resolveDel v rx1 px1 a4 a5 a6 a7 a8 a9 a10 a11 a12 a13 a14 n4 n5 n6 n7 n8 n9 n10 n11 n12 n13 n14 w hcat hx rx1_put rx1_ok rx1_size rx1_pt px1_ty
end Go.Proofs.YtjgkeillmelkoaaGreat.Dt
namespace Go.Proofs.YtjgkeillmelkoaaGreat.By
open Go.RowKit

section
variable {P : Program} {ops : Array Oper} {Q : Exit → Act → World → Prop} {i : Nat} {a : Act} {w : World} {o : Oper} {K : Act → World → Prop}
theorem op_val (ho : ops[i]? = some o) (hg : o.guard = none) (v : Value) (w' : World) (hrun : (execOp a.eval o).run P w = .ok (.value v) w') (h : K (a.put (dstOf ops i) v) w') : wpOp P ops Q i K a w := by
  unfold wpOp
  simp only [ho]
  rw [if_pos (by unfold Region.wanted; rw [hg])]
  refine .inl ?_
  unfold Oper.wp
  rw [hrun, Oper.upon_value]
  unfold dstOf at h
  rw [ho] at h
  exact h
theorem op_skip (ho : ops[i]? = some o) (hg : o.guard = none) (w' : World) (hrun : (execOp a.eval o).run P w = .ok .skip w') (h : K (a.put (dstOf ops i) undef) w') : wpOp P ops Q i K a w := by
  unfold wpOp
  simp only [ho]
  rw [if_pos (by unfold Region.wanted; rw [hg])]
  refine .inl ?_
  unfold Oper.wp
  rw [hrun, Oper.upon_skip]
  unfold dstOf at h
  rw [ho] at h
  exact h
end
end Go.Proofs.YtjgkeillmelkoaaGreat.By
namespace Go.Proofs.YtjgkeillmelkoaaGreat.By
open Go.RowKit

/-- The same, with what stands in the slots that the region writes until it does. -/
theorem wp_region_all' {P : Program} {id : Nat} {Q : Exit → Act → World → Prop} {a0 : Act} {w : World} {l : List Oper} (J : (Nat → Bool) → (Nat → Value) → World → Prop) (N : Nat) (hN : a0.tmps.size = N) (hm : P.follows .mixedOrders = true) (hB : mixB .any l.toArray = true)
    (h0 : ∀ us : Nat → Value, (∀ j t, j < l.length → dstOf l.toArray j = some t → us j = a0.eval (.tmp t)) → J (fun _ => false) us w.drew)
    (hops : ∀ i, i < l.length → ∀ (dn : Nat → Bool) (us : Nat → Value) (A : Act) w1, (∀ t, ((List.range l.length).all fun j => dstOf l.toArray j != some t) = true → A.eval (.tmp t) = a0.eval (.tmp t)) → (∀ j t, j < l.length → dstOf l.toArray j = some t → t < N → A.eval (.tmp t) = us j) →
      J dn us w1 → dn i = false → (∀ j o, l.toArray[j]? = some o → dn j = true → ∀ e ∈ o.after, Region.binds .any e = true → dn e.on = true) → (∀ oi, l.toArray[i]? = some oi → ∀ e ∈ oi.after, Region.binds .any e = true → dn e.on = true) →
      wpOp P l.toArray Q i (fun a' w' => ∃ v, a' = A.put (dstOf l.toArray i) v ∧ J (upd dn i) (fun j => if j = i then v else us j) w') A w1)
    (hend : ∀ (dn : Nat → Bool) (us : Nat → Value) w1, (∀ j, j < l.length → dn j = true) → J dn us w1 → Q .normal (putAll l.toArray us l.length a0) w1) :
    (Code.region id l.toArray true).wp P Q a0 w := by
  simp only [mixB, Bool.and_eq_true, List.size_toArray] at hB
  obtain ⟨hap, hback⟩ := hB
  obtain ⟨us0, hus0, husv⟩ : ∃ us : Nat → Value, putAll l.toArray us l.length a0 = a0 ∧ ∀ j t, j < l.length → dstOf l.toArray j = some t → us j = a0.eval (.tmp t) := by
    refine ⟨fun j => ((dstOf l.toArray j).map fun t => a0.tmps.getD t undef).getD undef, ?_, fun j t _ ht => by simp only [ht]; rfl⟩
    have : ∀ k, k ≤ l.length → putAll l.toArray (fun j => ((dstOf l.toArray j).map fun t => a0.tmps.getD t undef).getD undef) k a0 = a0 := by
      intro k
      induction k with
      | zero => intro _; rfl
      | succ k ih =>
        intro hk
        rw [putAll, ih (by omega)]
        exact put_old a0 _
    exact this _ (Nat.le_refl _)
  have hfalse0 : dnOf (Array.replicate l.toArray.size false) = fun _ => false := by
    funext j
    unfold dnOf
    rw [getD_replicate_false]
  refine wp_region_inv hm (fun done a w1 => ∃ us : Nat → Value, a = putAll l.toArray us l.length a0 ∧ J (dnOf done) us w1 ∧ (∀ j o, l.toArray[j]? = some o → dnOf done j = true → ∀ e ∈ o.after, Region.binds .any e = true → dnOf done e.on = true)) ?_ ?_ ?_
  · refine ⟨us0, hus0.symm, by rw [hfalse0]; exact h0 _ husv, fun j o _ hd => ?_⟩
    rw [hfalse0] at hd; cases hd
  · rintro done a w1 i hs ⟨us, rfl, hJ, hcl⟩ hi
    obtain ⟨hlt, hfalse⟩ := ready_false hi
    rw [hs, List.size_toArray] at hlt
    obtain ⟨_, oi, hoi, hafter⟩ := mem_ready.1 hi
    have hupd : dnOf (done.setIfInBounds i true) = upd (dnOf done) i := by
      funext j
      unfold upd
      by_cases hj : j = i
      · subst hj
        unfold dnOf
        simp [show j < done.size by rw [hs, List.size_toArray]; exact hlt]
      · rw [show dnOf (done.setIfInBounds i true) j = dnOf done j from getD_set_ne false (Ne.symm hj)]; simp [hj]
    have hg := hops i hlt (dnOf done) us _ w1 (fun t ht => eval_other us a0 t l.length fun j hj he => by
        have := List.all_eq_true.1 ht j (List.mem_range.2 hj)
        rw [he] at this
        simp at this) (fun j t hj hd ht => eval_at hap us a0 hd (by rw [hN]; exact ht) l.length hj (Nat.le_refl _)) hJ
      (by unfold dnOf; simpa [show i < done.size by rw [hs, List.size_toArray]; exact hlt] using hfalse) hcl
      (fun o ho e he hb => by
        rw [hoi] at ho
        cases ho
        exact hafter e he hb)
    refine wpOp_mono (fun a' w' hK => ?_) hg
    obtain ⟨v, rfl, hJ'⟩ := hK
    rw [putAll_put hap us i v l.length hlt (Nat.le_refl _), hupd]
    refine ⟨_, rfl, hJ', fun j o ho hd e he hb => ?_⟩
    have hup : ∀ x, dnOf done x = true → upd (dnOf done) i x = true := fun x h => by unfold upd; simp [h]
    by_cases hji : j = i
    · subst hji
      rw [hoi] at ho
      cases ho
      exact hup _ (hafter e he hb)
    · exact hup _ (hcl j o ho (by unfold upd at hd; simpa [hji] using hd) e he hb)
  · rintro done a w1 hs ⟨us, rfl, hJ, _⟩ hr
    have hall : ∀ j, j < l.length → dnOf done j = true := by
      intro m
      induction m using Nat.strongRecOn with
      | _ m ih =>
        intro hm'
        cases h : dnOf done m with
        | true => rfl
        | false =>
          exfalso
          have hlt : m < done.size := by rw [hs, List.size_toArray]; exact hm'
          have hi : m ∈ Region.ready .any l.toArray done := by
            obtain ⟨o, ho⟩ : ∃ o, l.toArray[m]? = some o := ⟨l.toArray[m]'(by simpa using hm'), by simp⟩
            refine mem_ready.2 ⟨getD_in hlt h, o, ho, fun e he hb => ?_⟩
            have h1 := List.all_eq_true.1 hback m (List.mem_range.2 hm')
            rw [ho] at h1
            simp only [Option.map_some, Option.getD_some, Array.all_eq_true_iff_forall_mem] at h1
            have h2 := h1 e he
            rw [hb] at h2
            have h3 : e.on < m := by simpa using h2
            exact ih e.on h3 (by omega)
          rw [hr] at hi
          cases hi
    exact hend (dnOf done) us w1 hall hJ

end Go.Proofs.YtjgkeillmelkoaaGreat.By
