import Derived.Test.YtjgkeillmelkoaaGreatBk46
import Derived.Test.YtjgkeillmelkoaaGreatBk40
namespace Go.Proofs.YtjgkeillmelkoaaGreat.Dt
open Go.RowKit Go.Proofs.YtjgkeillmelkoaaGreat.By

attribute [local go_sem ↓] veilSt_sm veilLd_sm
attribute [local go_sem] run_smSt run_smNew run_smLd okRow16 Value.oneCell'
set_option maxRecDepth 100000 in
set_option maxHeartbeats 16000000 in
theorem resolveSel (v : Value) (a4 a5 a6 a7 a8 a11 a12 a13 a14 a10 : Option Addr) (n4 n5 n6 n7 n8 n11 n12 n13 n14 n10 : Nat) (w : World) (hcat : CatR w v [smallT]) (hs : SlR 3 SrcR w (.slice a10 2 n10) src6) :
    Calls Tryz.prog 22 #[v, .agg #[.int .u8 8, .string ⟨#[]⟩, .string ⟨#[]⟩, .bool false, .slice a4 0 n4, .slice a5 0 n5, .slice a6 0 n6, .slice a7 0 n7, .slice a8 0 n8, .slice none 0 0, .slice a10 2 n10, .slice a11 0 n11, .slice a12 0 n12, .slice a13 0 n13, .slice a14 0 n14, .int .i64 (-1)]] w fun e w' => ∃ cs, e = .returned (.tuple #[.agg cs, .int .i64 0]) ∧ New w.heap.size w' (fun u => StR u cs.toList st6) ∧ Below w.heap.size w w' := by
  obtain ⟨va, vc, rfl, _⟩ := hcat.shape
  have HCAT := Lib.hid hcat
  have HSR := Lib.hid hs
  have hb1 : Below w.heap.size w (w.alloc (.cells #[.int .u8 8, .string ⟨#[]⟩, .string ⟨#[]⟩, .bool false, .slice a4 0 n4, .slice a5 0 n5, .slice a6 0 n6, .slice a7 0 n7, .slice a8 0 n8, .slice none 0 0, .slice a10 2 n10, .slice a11 0 n11, .slice a12 0 n12, .slice a13 0 n13, .slice a14 0 n14, .int .i64 (-1)] 35)) := (Below.refl _ _).alloc (Nat.le_refl _) _
  have h1 := row_alloc w 35 #[.int .u8 8, .string ⟨#[]⟩, .string ⟨#[]⟩, .bool false, .slice a4 0 n4, .slice a5 0 n5, .slice a6 0 n6, .slice a7 0 n7, .slice a8 0 n8, .slice none 0 0, .slice a10 2 n10, .slice a11 0 n11, .slice a12 0 n12, .slice a13 0 n13, .slice a14 0 n14, .int .i64 (-1)]
  have ha2 := (Below.refl _ (w.alloc (.cells #[.int .u8 8, .string ⟨#[]⟩, .string ⟨#[]⟩, .bool false, .slice a4 0 n4, .slice a5 0 n5, .slice a6 0 n6, .slice a7 0 n7, .slice a8 0 n8, .slice none 0 0, .slice a10 2 n10, .slice a11 0 n11, .slice a12 0 n12, .slice a13 0 n13, .slice a14 0 n14, .int .i64 (-1)] 35))).alloc (Nat.le_refl _) (.cells stZ 35)
  have h2 := row_alloc (w.alloc (.cells #[.int .u8 8, .string ⟨#[]⟩, .string ⟨#[]⟩, .bool false, .slice a4 0 n4, .slice a5 0 n5, .slice a6 0 n6, .slice a7 0 n7, .slice a8 0 n8, .slice none 0 0, .slice a10 2 n10, .slice a11 0 n11, .slice a12 0 n12, .slice a13 0 n13, .slice a14 0 n14, .int .i64 (-1)] 35)) 35 stZ
  rw [show (w.alloc (.cells #[.int .u8 8, .string ⟨#[]⟩, .string ⟨#[]⟩, .bool false, .slice a4 0 n4, .slice a5 0 n5, .slice a6 0 n6, .slice a7 0 n7, .slice a8 0 n8, .slice none 0 0, .slice a10 2 n10, .slice a11 0 n11, .slice a12 0 n12, .slice a13 0 n13, .slice a14 0 n14, .int .i64 (-1)] 35)).heap.size = w.heap.size + 1 by simp] at h2
  have HX := Lib.hid (h1.later ha2)
  have HZ := Lib.hid h2
  have HB := Lib.hid (next hb1 ha2)
  clear hb1 h1 ha2 h2 hcat hs
  go_enter Tryz.func22, Tryz.ntmps22
  go_upto_region 1 with fail
  generalize (w.alloc (.cells #[.int .u8 8, .string ⟨#[]⟩, .string ⟨#[]⟩, .bool false, .slice a4 0 n4, .slice a5 0 n5, .slice a6 0 n6, .slice a7 0 n7, .slice a8 0 n8, .slice none 0 0, .slice a10 2 n10, .slice a11 0 n11, .slice a12 0 n12, .slice a13 0 n13, .slice a14 0 n14, .int .i64 (-1)] 35)).alloc (.cells stZ 35) = w2 at *
  have HPR := Lib.hid (print6W a4 a5 a6 a7 a8 none a11 a12 a13 a14 a10 n4 n5 n6 n7 n8 0 n11 n12 n13 n14 n10 w2 (slR_below (fun _ _ _ _ h hb => by obtain ⟨v, e, h⟩ := h; exact ⟨v, e, exsR_below h hb⟩) HSR.out HB.out))
  have hb := HX.out.b (n := 16) rfl
  have ho := HX.out.of
  go_wp2_with fail
  refine HPR.out.mono ?_
  rintro e3 w3 ⟨rfl, hb3⟩
  have HX3 := Lib.hid (HX.out.later hb3)
  have HZ3 := Lib.hid (HZ.out.later hb3)
  have HB3 := Lib.hid (next HB.out hb3)
  clear hb3 hb ho HX HZ HB HPR
  have c0 := HX3.out.cell (i := 0) (v := .int .u8 8) rfl
  have HM := Lib.hid (mayW _ w3 (catR_below HCAT.out HB3.out))
  go_wp2_with fail
  refine HM.out.mono ?_
  rintro e4 w4 ⟨rfl, hb4⟩
  have HX4 := Lib.hid (HX3.out.later hb4)
  have HZ4 := Lib.hid (HZ3.out.later hb4)
  have HB4 := Lib.hid (next HB3.out hb4)
  clear hb4 c0 HX3 HZ3 HB3 HM
  have c0 := HX4.out.cell (i := 0) (v := .int .u8 8) rfl
  have hb := HX4.out.b (n := 16) rfl
  have ho := HX4.out.of
  have HC := Lib.hid (choose6W va vc a4 a5 a6 a7 a8 a11 a12 a13 a14 a10 n4 n5 n6 n7 n8 n11 n12 n13 n14 n10 w4 (catR_below HCAT.out HB4.out) (slR_below (fun _ _ _ _ h hb => by obtain ⟨v, e, h⟩ := h; exact ⟨v, e, exsR_below h hb⟩) HSR.out HB4.out))
  go_wp2_with fail
  refine HC.out.mono ?_
  rintro e5 w5 ⟨c, rfl, hn, hb5⟩
  have HOK := okRow_st hn.here
  have hsz := (okRow_iff.1 HOK).1
  have HN := Lib.hid hn
  have HZ5 := Lib.hid (HZ4.out.later hb5)
  have HB5 := Lib.hid (next HB4.out hb5)
  have HLT : Hid (w.heap.size + 1 < w4.heap.size) := Lib.hid HZ4.out.lt
  clear c0 hb ho hn hb5 HX4 HZ4 HB4 HC
  have hz := HZ5.out.b (n := 16) rfl
  go_wp2_with fail
  exact bodyPost_ret (v := .tuple #[.agg c, .int .i64 0]) (res_cs rfl _ _ (w.heap.size + 1) _ _ _ rfl rfl (HZ5.out.set _) hsz) rfl
    ⟨c, rfl, HN.out.step (by simp) fun b hb _ => ⟨by have := HLT.out; omega, setRow_other _ _ _ _ (by have := HLT.out; omega)⟩, below_setRow' HB5.out (by omega) _⟩
theorem resolve6 (v : Value) (cs : List Value) (w : World) (hcat : CatR w v [smallT]) (h : StX w cs tx6S) : Calls Tryz.prog 22 #[v, .agg cs.toArray] w fun e w' => ∃ cs, e = .returned (.tuple #[.agg cs, .int .i64 0]) ∧ New w.heap.size w' (fun u => StR u cs.toList st6) ∧ Below w.heap.size w w' := by
  obtain ⟨⟨c4, c5, c6, c7, c8, c9, c10, c11, c12, c13, c14, rfl, h4, h5, h6, h7, h8, h9, h10, h11, h12, h13, h14⟩, hx⟩ := h
  cases hx
  obtain ⟨a4, n4, rfl⟩ := nil_shape h4
  obtain ⟨a5, n5, rfl⟩ := nil_shape h5
  obtain ⟨a6, n6, rfl⟩ := nil_shape h6
  obtain ⟨a7, n7, rfl⟩ := nil_shape h7
  obtain ⟨a8, n8, rfl⟩ := nil_shape h8
  obtain ⟨a11, n11, rfl⟩ := nil_shape h11
  obtain ⟨a12, n12, rfl⟩ := nil_shape h12
  obtain ⟨a13, n13, rfl⟩ := nil_shape h13
  obtain ⟨a14, n14, rfl⟩ := nil_shape h14
  obtain ⟨a10, n10, rfl, _⟩ := SlR.shape h10
  exact resolveSel v a4 a5 a6 a7 a8 a11 a12 a13 a14 a10 n4 n5 n6 n7 n8 n11 n12 n13 n14 n10 w hcat h10
theorem resolved6 (w : World) : Calls Tryz.prog 6 #[.string tx6T] w fun e w' => ∃ c, e = .returned (.agg c) ∧ New w.heap.size w' (fun u => StR u c.toList st6) ∧ Below w.heap.size w w' :=
  resolvedW (R := StX) tx6T tx6S st6 w tx6_read resolve6 fun _ _ _ h hb => ⟨stR_below h.1 hb, h.2⟩
end Go.Proofs.YtjgkeillmelkoaaGreat.Dt
