import Derived.Test.YtjgkeillmelkoaaGreatBk12
import Derived.Test.YtjgkeillmelkoaaGreatBk07
import Derived.Test.YtjgkeillmelkoaaGreatBk05
namespace Go.Proofs.YtjgkeillmelkoaaGreat.Dt
open Go.RowKit Go.Proofs.YtjgkeillmelkoaaGreat.By

def RBlobKn (ao : Option Addr) (O : List UInt8) (co : Nat) (s : ByteArray) (p : Nat) (c1 : UInt8) (d : UInt8) (x : UInt8) (a : Nat) (y : Nat) : Nat → Value → World → Prop
  | 0, v, _ => v = .slice ao O.length co
  | 1, v, _ => v = .string s
  | 2, v, _ => v = .int .i64 (p : Int)
  | 3, v, _ => v = .int .u8 (c1.toNat : Int)
  | 4, v, _ => v = .int .i64 (a : Int)
  | 5, v, _ => v = .int .i64 (16 * (a : Int))
  | 6, v, _ => v = .string s
  | 7, v, _ => v = .int .i64 (p : Int)
  | 8, v, _ => v = .int .i64 ((p : Int) + 1)
  | 9, v, _ => v = .int .u8 (d.toNat : Int)
  | 10, v, _ => v = .int .i64 (y : Int)
  | 11, v, _ => v = .int .i64 (x.toNat : Int)
  | 12, v, _ => v = byte x
  | 13, v, w => ∃ b, v = .slice (some ⟨b, 0, none⟩) 1 1 ∧ w.cell? ⟨b, 0, none⟩ = some (byte x)
  | _, _, _ => True
theorem RBlobKn.later {ao : Option Addr} {O : List UInt8} {co : Nat} {s : ByteArray} {p : Nat} {c1 : UInt8} {d : UInt8} {x : UInt8} {a : Nat} {y : Nat} : ∀ (j : Nat) (v : Value) (w1 w2 : World), RBlobKn ao O co s p c1 d x a y j v w1 → Below w1.heap.size w1 w2 → RBlobKn ao O co s p c1 d x a y j v w2
  | 0, _, _, _, h, _ => h
  | 1, _, _, _, h, _ => h
  | 2, _, _, _, h, _ => h
  | 3, _, _, _, h, _ => h
  | 4, _, _, _, h, _ => h
  | 5, _, _, _, h, _ => h
  | 6, _, _, _, h, _ => h
  | 7, _, _, _, h, _ => h
  | 8, _, _, _, h, _ => h
  | 9, _, _, _, h, _ => h
  | 10, _, _, _, h, _ => h
  | 11, _, _, _, h, _ => h
  | 12, _, _, _, h, _ => h
  | 13, _, _, _, ⟨b, h0, c0⟩, hb => ⟨b, h0, (hb.cell (cell_lt c0)).trans c0⟩
  | _ + 14, _, _, _, h, _ => h

set_option maxRecDepth 100000 in
set_option maxHeartbeats 16000000 in
theorem refBlobW (s : ByteArray) (k : Nat) (x : Int) (hx : x = (k : Int)) (w : World) (hs : s.size ≤ 1000000) (hk : k + 2 ≤ s.size) :
    Calls Tryz.prog 77 #[.string s, .int .i64 x] w fun e w' => e = .returned (refV k (blobOne (s.data.toList.drop k))) ∧ Below w.heap.size w w' := by
  subst hx
  obtain ⟨R, hR⟩ : ∃ R, R = bscan (s.data.toList.drop (k + 2)) := ⟨_, rfl⟩
  have HONE : Hid (blobOne (s.data.toList.drop k) = blobR R) := Lib.hid (by rw [blobOne_eq, List.drop_drop, ← hR])
  have HR0 := Lib.hid hR
  have HS := Lib.hid hs
  have HK := Lib.hid hk
  have HW1 := Lib.hid (wrapI ((k : Int) + 2) (by omega) (by omega))
  clear hs hk hR
  have HB0 := Lib.hid (rb_new w)
  go_enter Tryz.func77, Tryz.ntmps77
  go_upto_region 1 with fail
  generalize ((w.alloc (.cells #[.int .u8 0, .string ⟨#[]⟩, .int .u64 0, .int .i64 0] 114)).alloc (.cells #[.int .i64 0, .int .i64 0] 70)) = w1 at *
  obtain ⟨c, hc⟩ : ∃ c, c = w.heap.size + 1 := ⟨_, rfl⟩
  rw [← hc]
  have HC := Lib.hid hc
  clear hc
  have hw1 := HW1.out
  go_wp2_with fail
  clear hw1
  go_loopg [7, 8] (s.size + 1 - (k + 2)) (fun gk ov iv wr => ∃ (p : Nat) (O : List UInt8), iv = .int .i64 (p : Int) ∧ gk = s.size + 1 - p ∧ p ≤ s.size ∧ k + 2 ≤ p ∧ Hid (TS w ov O wr) ∧ Hid (R = bsh O (p - (k + 2)) (bscan (s.data.toList.drop p))) ∧ Hid (O.length ≤ p))
  case atStart => exact ⟨k + 2, [], by first | rfl | (simp; done) | (simp; exact HW1.out), rfl, HK.out, Nat.le_refl _, Lib.hid ⟨HB0.out, OwnB.nil _ _ _⟩, Lib.hid (by rw [HR0.out]; cases bscan (s.data.toList.drop (k + 2)) <;> simp [bsh]), Lib.hid (Nat.zero_le _)⟩
  case round =>
    obtain ⟨p, O, rfl, rfl, hp, hkp, HQ, HT, HOL⟩ := hrel
    obtain ⟨ao, co, rfl⟩ := HQ.out.2.shape
    have HP := Lib.hid hp
    have HKP := Lib.hid hkp
    obtain ⟨c1, hc1⟩ : ∃ c, c = topB (s.data.toList.drop p) := ⟨_, rfl⟩
    have HA0 : Hid (∀ W, Calls Tryz.prog 48 #[.string s, .int .i64 (p : Int)] W fun e w' => e = .returned (byte c1) ∧ W = w') := Lib.hid (fun W => by rw [hc1]; exact refAtW s p W HS.out _ rfl)
    have HC1 := Lib.hid hc1
    clear hc1
    by_cases hlt : p < s.size
    · have j0 : (0 : Int) ≤ (p : Int) := by omega
      have j1 : (p : Int) < (s.size : Int) := by omega
      have j2 : ¬ (s.size : Int) ≤ (p : Int) := by omega
      obtain ⟨c2, hc, hdr⟩ : ∃ c, s[p] = c ∧ s.data.toList.drop p = c :: s.data.toList.drop (p + 1) := ⟨_, rfl, drop_cons s hlt⟩
      have hcn : (s[p]).toNat = c2.toNat := by rw [hc]
      obtain rfl : c1 = c2 := by rw [HC1.out, hdr]; rfl
      have jn : decide (s.size ≤ p) = false := decide_eq_false (by omega)
      have HDR := Lib.hid hdr
      have HLT := Lib.hid hlt
      have HWP1 := Lib.hid (wrapI ((p : Int) + 1) (by omega) (by have := HS.out; omega))
      have HWP2 := Lib.hid (wrapI ((p : Int) + 2) (by omega) (by have := HS.out; omega))
      obtain ⟨d, hd⟩ : ∃ d, d = topB (s.data.toList.drop (p + 1)) := ⟨_, rfl⟩
      have HAT : Hid (∀ W, Calls Tryz.prog 48 #[.string s, .int .i64 ((p : Int) + 1)] W fun e w' => e = .returned (byte d) ∧ W = w') := Lib.hid (fun W => by rw [hd]; exact refAtW s (p + 1) W HS.out _ (by omega))
      have HD := Lib.hid hd
      have HX1 := Lib.hid (fun W => refHexW c1 W)
      have HX2 := Lib.hid (fun W => refHexW d W)
      have HCN := Lib.hid hcn
      clear hp hkp hdr hd hc
      by_cases h39 : c1 = 39
      · subst h39
        have HRS : Hid (R = .inr (O, p - (k + 2) + 1)) := Lib.hid (by
          rw [HT.out, HDR.out, bscan_quote]
          simp [bsh])
        clear HX1 hcn
        go_wp2_with fail
        refine (HA0.out _).mono ?_
        rintro e w5 ⟨rfl, rfl⟩
        by_cases hlong : 1000 < O.length
        · have i1 : (1000 : Int) < (O.length : Int) := by omega
          have HONE : Hid (blobOne (s.data.toList.drop k) = .bad 3 0) := Lib.hid (by rw [HONE.out, HRS.out, blobR_long hlong])
          clear hlong
          go_wp2_with fail
          refine (refBadW 3 ((k : Int)) wr).mono ?_
          rintro e w9 ⟨rfl, hb9⟩
          have HR9 := Lib.hid ((Lib.hid HQ.out.1).out.later hb9)
          clear hb9
          obtain ⟨hbt, hbs, hbc, hcb⟩ := HR9.out.fin HC.out
          have HSIX := Lib.hid (filled6 w9 w.heap.size c hbc (.int .u8 0) (.string ⟨#[]⟩) (.int .u64 0) (.int .i64 0) (.int .i64 3) (.int .i64 ((k : Int))) hbt hbs _ rfl)
          obtain ⟨c0, c1, c2, c3, f0, f1, f2, f3⟩ := hbt
          have s0 := (hbs 0 _ rfl).1
          have s1 := (hbs 1 _ rfl).1
          have t0 := (hbs 0 _ rfl).2
          have t1 := (hbs 1 _ rfl).2
          clear hbs
          go_wp2_with fail
          obtain ⟨q0, q1, q2, q3, p0, p1⟩ := HSIX.out
          rw [HONE.out]
          refine bodyPost_ret (v := .tuple #[.agg #[.int .u8 0, .string ⟨#[]⟩, .int .u64 0, .int .i64 0], .int .i64 0, .agg #[.int .i64 3, .int .i64 ((k : Int))]]) (by simp [results, Tryz.results77, go_sem, q0, q1, q2, q3, p0, p1]) rfl ⟨refV_bad rfl (by omega), below6 HR9.out.bl (Nat.le_refl _) (by rw [HC.out]; omega)⟩
        · have i1 : ¬ (1000 : Int) < (O.length : Int) := by omega
          have HONE : Hid (blobOne (s.data.toList.drop k) = .tok 5 O 0 (p - (k + 2) + 1 + 2)) := Lib.hid (by rw [HONE.out, HRS.out, blobR_ok hlong])
          have hcv := convX (P := Tryz.prog) 147 5 9 Tryz.underlying147 Tryz.underlying5 Tryz.underlying9 (.inl HQ.out.2)
          have HR8 := Lib.hid HQ.out.1
          clear hlong
          obtain ⟨hbt, hbs, hbc, hcb⟩ := HR8.out.fin HC.out
          have HSIX := Lib.hid (filled6 wr w.heap.size c hbc (.int .u8 5) (.string ⟨O.toArray⟩) (.int .u64 0) (.int .i64 (k : Int)) (.int .i64 0) (.int .i64 0) hbt hbs _ rfl)
          obtain ⟨c0, c1, c2, c3, f0, f1, f2, f3⟩ := hbt
          have s0 := (hbs 0 _ rfl).1
          have s1 := (hbs 1 _ rfl).1
          have t0 := (hbs 0 _ rfl).2
          have t1 := (hbs 1 _ rfl).2
          clear hbs
          go_wp2_with fail
          obtain ⟨q0, q1, q2, q3, p0, p1⟩ := HSIX.out
          rw [HONE.out]
          refine bodyPost_ret (v := .tuple #[.agg #[.int .u8 5, .string ⟨O.toArray⟩, .int .u64 0, .int .i64 (k : Int)], .int .i64 ((p : Int) + 1), .agg #[.int .i64 0, .int .i64 0]]) (by simp [results, Tryz.results77, go_sem, q0, q1, q2, q3, p0, p1]; exact HWP1.out) rfl ⟨refV_tok rfl rfl (by have := HKP.out; omega) rfl, below6 HR8.out.bl (Nat.le_refl _) (by rw [HC.out]; omega)⟩
      · have e40 : ((c1.toNat : Int) != 39) = true := by
          have : c1.toNat ≠ 39 := fun e => h39 (UInt8.toNat_inj.1 e)
          first | (simp; done) | (simp; omega)
        have H39 := Lib.hid h39
        clear h39
        cases hqc : hexV c1 with
        | none =>
          rw [hexI_none hqc] at HX1
          have HONE : Hid (blobOne (s.data.toList.drop k) = .bad 6 (p - (k + 2) + 2)) := Lib.hid (by
            rw [HONE.out, HT.out, HDR.out, bscan_none H39.out hqc]
            rfl)
          clear hqc
          go_wp2_with fail
          refine (HA0.out _).mono ?_
          rintro e w5 ⟨rfl, rfl⟩
          go_wp2_with fail
          refine (HX1.out _).mono ?_
          rintro e w5 ⟨rfl, rfl⟩
          skip
          go_wp2_with fail
          refine (refBadW 6 ((p : Int)) wr).mono ?_
          rintro e w9 ⟨rfl, hb9⟩
          have HR9 := Lib.hid ((Lib.hid HQ.out.1).out.later hb9)
          clear hb9
          obtain ⟨hbt, hbs, hbc, hcb⟩ := HR9.out.fin HC.out
          have HSIX := Lib.hid (filled6 w9 w.heap.size c hbc (.int .u8 0) (.string ⟨#[]⟩) (.int .u64 0) (.int .i64 0) (.int .i64 6) (.int .i64 ((p : Int))) hbt hbs _ rfl)
          obtain ⟨c0, c1, c2, c3, f0, f1, f2, f3⟩ := hbt
          have s0 := (hbs 0 _ rfl).1
          have s1 := (hbs 1 _ rfl).1
          have t0 := (hbs 0 _ rfl).2
          have t1 := (hbs 1 _ rfl).2
          clear hbs
          go_wp2_with fail
          obtain ⟨q0, q1, q2, q3, p0, p1⟩ := HSIX.out
          rw [HONE.out]
          refine bodyPost_ret (v := .tuple #[.agg #[.int .u8 0, .string ⟨#[]⟩, .int .u64 0, .int .i64 0], .int .i64 0, .agg #[.int .i64 6, .int .i64 ((p : Int))]]) (by simp [results, Tryz.results77, go_sem, q0, q1, q2, q3, p0, p1]) rfl ⟨refV_bad rfl (by have := HKP.out; omega), below6 HR9.out.bl (Nat.le_refl _) (by rw [HC.out]; omega)⟩
        | some a =>
          rw [hexI_some hqc] at HX1
          have hpa : ¬ (a : Int) < 0 := by omega
          cases hqd : hexV d with
          | none =>
            rw [hexI_none hqd] at HX2
            have HONE : Hid (blobOne (s.data.toList.drop k) = .bad 6 (p - (k + 2) + 1 + 2)) := Lib.hid (by
              rw [HONE.out, HT.out, HDR.out, bscan_half H39.out hqc (by rw [← HD.out]; exact hqd)]
              rfl)
            clear hqc hqd
            have hwp := HWP1.out
            go_wp2_with fail
            refine (HA0.out _).mono ?_
            rintro e w5 ⟨rfl, rfl⟩
            go_wp2_with fail
            refine (HX1.out _).mono ?_
            rintro e w5 ⟨rfl, rfl⟩
            go_wp2_with fail
            refine (HAT.out _).mono ?_
            rintro e w5 ⟨rfl, rfl⟩
            go_wp2_with fail
            refine (HX2.out _).mono ?_
            rintro e w5 ⟨rfl, rfl⟩
            clear hpa
            go_wp2_with fail
            refine (refBadW 6 ((p : Int) + 1) wr).mono ?_
            rintro e w9 ⟨rfl, hb9⟩
            have HR9 := Lib.hid ((Lib.hid HQ.out.1).out.later hb9)
            clear hb9
            obtain ⟨hbt, hbs, hbc, hcb⟩ := HR9.out.fin HC.out
            have HSIX := Lib.hid (filled6 w9 w.heap.size c hbc (.int .u8 0) (.string ⟨#[]⟩) (.int .u64 0) (.int .i64 0) (.int .i64 6) (.int .i64 ((p : Int) + 1)) hbt hbs _ rfl)
            obtain ⟨c0, c1, c2, c3, f0, f1, f2, f3⟩ := hbt
            have s0 := (hbs 0 _ rfl).1
            have s1 := (hbs 1 _ rfl).1
            have t0 := (hbs 0 _ rfl).2
            have t1 := (hbs 1 _ rfl).2
            clear hbs
            go_wp2_with fail
            obtain ⟨q0, q1, q2, q3, p0, p1⟩ := HSIX.out
            rw [HONE.out]
            refine bodyPost_ret (v := .tuple #[.agg #[.int .u8 0, .string ⟨#[]⟩, .int .u64 0, .int .i64 0], .int .i64 0, .agg #[.int .i64 6, .int .i64 ((p : Int) + 1)]]) (by simp [results, Tryz.results77, go_sem, q0, q1, q2, q3, p0, p1]) rfl ⟨refV_bad rfl (by have := HKP.out; omega), below6 HR9.out.bl (Nat.le_refl _) (by rw [HC.out]; omega)⟩
          | some y =>
            rw [hexI_some hqd] at HX2
            have ha := (hexC_hexV hqc).2
            have hy := (hexC_hexV hqd).2
            have hlt2 : p + 1 < s.size := by
              rcases Nat.lt_or_ge (p + 1) s.size with h | h
              · exact h
              · exfalso
                have h1 := HD.out
                rw [drop_end s h] at h1
                rw [h1] at hqd
                exact absurd hqd (by rw [show topB [] = 0 from rfl, hex_zero]; simp)
            have h2 := drop_cons s hlt2
            have h3 : s[p + 1] = d := by
              have h1 := HD.out
              rw [h2] at h1
              exact h1.symm
            have HNX : Hid (p + 2 ≤ s.size ∧ R = bsh (O ++ [UInt8.ofNat (16 * a + y)]) (p + 2 - (k + 2)) (bscan (s.data.toList.drop (p + 2)))) := Lib.hid (by
              refine ⟨hlt2, ?_⟩
              rw [HT.out, HDR.out, h2, h3, bscan_pair H39.out hqc hqd]
              have := HKP.out
              rw [show p - (k + 2) + 2 = p + 2 - (k + 2) by omega])
            have hp2 : ¬ (y : Int) < 0 := by omega
            obtain ⟨x, hx⟩ : ∃ x : UInt8, x = UInt8.ofNat (16 * a + y) := ⟨_, rfl⟩
            have hxn : x.toNat = 16 * a + y := by rw [hx, UInt8.toNat_ofNat', Nat.mod_eq_of_lt (by omega)]
            have HDN : (s[p + 1]).toNat = d.toNat := by rw [h3]
            have HM1 : IntKind.i64.wrap (16 * (a : Int)) = 16 * (a : Int) := wrapK _ (by omega) (by omega)
            have HM2 : IntKind.i64.wrap (16 * (a : Int) + (y : Int)) = (x.toNat : Int) := by rw [wrapK _ (by omega) (by omega), hxn]; omega
            have HM3 : IntKind.u8.wrap (x.toNat : Int) = (x.toNat : Int) := by have := x.toNat_lt; rw [IntKind.wrap_u8]; omega
            have HWP : IntKind.i64.wrap ((p : Int) + 1) = (p : Int) + 1 := wrapK _ (by omega) (by have := HS.out; omega)
            rw [← hx] at HNX
            have HXX1 := HX1.out
            have HXX2 := HX2.out
            have k1 : (0 : Int) ≤ (p : Int) + 1 := by omega
            have k2 : (p : Int) + 1 < (s.size : Int) := by omega
            clear hqc hqd ha hy hx hxn h2 h3
            have hwp := HWP1.out
            go_wp2_with fail
            refine (HA0.out _).mono ?_
            rintro e w5 ⟨rfl, rfl⟩
            go_wp2_with fail
            refine (HX1.out _).mono ?_
            rintro e w5 ⟨rfl, rfl⟩
            go_wp2_with fail
            refine (HAT.out _).mono ?_
            rintro e w5 ⟨rfl, rfl⟩
            go_wp2_with fail
            refine (HX2.out _).mono ?_
            rintro e w5 ⟨rfl, rfl⟩
            go_upto_region 8 with fail
            have HX1 := HXX1
            have HX2 := HXX2
            refine wp_region_kipt 14 (RBlobKn ao O co s p c1 d x a y) 75 (by simp) (by kernel_rfl) (by kernel_rfl) RBlobKn.later ?_ ?_
            · intro i hi A W hother hbW hd
              match i, hi with
                | 0, hi =>
                  have h7 := tmps_at (show A.eval (.tmp 7) = .slice ao O.length co from hother 7 (by kernel_rfl))
                  clear hother hd hi
                  exact kip_same rfl (wanted_none rfl) (.slice ao O.length co) (by simp only [execOp]; go_simp) rfl
                | 1, hi =>
                  have h0 := tmps_at (show A.eval (.tmp 0) = .string s from hother 0 (by kernel_rfl))
                  clear hother hd hi
                  exact kip_same rfl (wanted_none rfl) (.string s) (by simp only [execOp]; go_simp) rfl
                | 2, hi =>
                  have h8 := tmps_at (show A.eval (.tmp 8) = .int .i64 (p : Int) from hother 8 (by kernel_rfl))
                  clear hother hd hi
                  exact kip_same rfl (wanted_none rfl) (.int .i64 (p : Int)) (by simp only [execOp]; go_simp) rfl
                | 3, hi =>
                  have h44 := tmps_at ((hd _ rfl ⟨1, .data⟩ (by simp) rfl).eq (.string s) (fun _ h => h) 44 (by kernel_rfl) (by decide))
                  have h45 := tmps_at ((hd _ rfl ⟨2, .data⟩ (by simp) rfl).eq (.int .i64 (p : Int)) (fun _ h => h) 45 (by kernel_rfl) (by decide))
                  have hcn2 := HCN.out
                  clear hother hd hi
                  exact kip_same rfl (wanted_none rfl) (.int .u8 (c1.toNat : Int)) (by simp only [execOp]; go_simp) rfl
                | 4, hi =>
                  have h46 := tmps_at ((hd _ rfl ⟨3, .data⟩ (by simp) rfl).eq (.int .u8 (c1.toNat : Int)) (fun _ h => h) 46 (by kernel_rfl) (by decide))
                  clear hother hd hi
                  exact kip_call rfl (wanted_none rfl) 99 #[byte c1] (by simp only [execOp]; go_simp) ((HX1 W).mono fun e w2 hh => ⟨⟨_, hh.1, rfl⟩, by rw [← hh.2]; exact Below.refl _ _⟩)
                | 5, hi =>
                  have h47 := tmps_at ((hd _ rfl ⟨4, .data⟩ (by simp) rfl).eq (.int .i64 (a : Int)) (fun _ h => h) 47 (by kernel_rfl) (by decide))
                  have hm1 := HM1
                  clear hother hd hi
                  exact kip_same rfl (wanted_none rfl) (.int .i64 (16 * (a : Int))) (by simp only [execOp]; go_simp) rfl
                | 6, hi =>
                  have h0 := tmps_at (show A.eval (.tmp 0) = .string s from hother 0 (by kernel_rfl))
                  clear hother hd hi
                  exact kip_same rfl (wanted_none rfl) (.string s) (by simp only [execOp]; go_simp) rfl
                | 7, hi =>
                  have h8 := tmps_at (show A.eval (.tmp 8) = .int .i64 (p : Int) from hother 8 (by kernel_rfl))
                  clear hother hd hi
                  exact kip_same rfl (wanted_none rfl) (.int .i64 (p : Int)) (by simp only [execOp]; go_simp) rfl
                | 8, hi =>
                  have h50 := tmps_at ((hd _ rfl ⟨7, .data⟩ (by simp) rfl).eq (.int .i64 (p : Int)) (fun _ h => h) 50 (by kernel_rfl) (by decide))
                  have hw1 := HWP
                  clear hother hd hi
                  exact kip_same rfl (wanted_none rfl) (.int .i64 ((p : Int) + 1)) (by simp only [execOp]; go_simp) rfl
                | 9, hi =>
                  have h49 := tmps_at ((hd _ rfl ⟨6, .data⟩ (by simp) rfl).eq (.string s) (fun _ h => h) 49 (by kernel_rfl) (by decide))
                  have h51 := tmps_at ((hd _ rfl ⟨8, .data⟩ (by simp) rfl).eq (.int .i64 ((p : Int) + 1)) (fun _ h => h) 51 (by kernel_rfl) (by decide))
                  have hdn := HDN
                  clear hother hd hi
                  exact kip_same rfl (wanted_none rfl) (.int .u8 (d.toNat : Int)) (by simp only [execOp]; go_simp) rfl
                | 10, hi =>
                  have h52 := tmps_at ((hd _ rfl ⟨9, .data⟩ (by simp) rfl).eq (.int .u8 (d.toNat : Int)) (fun _ h => h) 52 (by kernel_rfl) (by decide))
                  clear hother hd hi
                  exact kip_call rfl (wanted_none rfl) 99 #[byte d] (by simp only [execOp]; go_simp) ((HX2 W).mono fun e w2 hh => ⟨⟨_, hh.1, rfl⟩, by rw [← hh.2]; exact Below.refl _ _⟩)
                | 11, hi =>
                  have h48 := tmps_at ((hd _ rfl ⟨5, .data⟩ (by simp) rfl).eq (.int .i64 (16 * (a : Int))) (fun _ h => h) 48 (by kernel_rfl) (by decide))
                  have h53 := tmps_at ((hd _ rfl ⟨10, .data⟩ (by simp) rfl).eq (.int .i64 (y : Int)) (fun _ h => h) 53 (by kernel_rfl) (by decide))
                  have hm2 := HM2
                  clear hother hd hi
                  exact kip_same rfl (wanted_none rfl) (.int .i64 (x.toNat : Int)) (by simp only [execOp]; go_simp) rfl
                | 12, hi =>
                  have h54 := tmps_at ((hd _ rfl ⟨11, .data⟩ (by simp) rfl).eq (.int .i64 (x.toNat : Int)) (fun _ h => h) 54 (by kernel_rfl) (by decide))
                  have hm3 := HM3
                  clear hother hd hi
                  exact kip_same rfl (wanted_none rfl) (byte x) (by simp only [execOp]; go_simp) rfl
                | 13, hi =>
                  have h55 := tmps_at ((hd _ rfl ⟨12, .data⟩ (by simp) rfl).eq (byte x) (fun _ h => h) 55 (by kernel_rfl) (by decide))
                  clear hother hd hi
                  exact kip_val rfl (wanted_none rfl) (.slice (some ⟨W.heap.size, 0, none⟩) 1 1) (W.alloc (.cells #[byte x] 5)) (by simp only [execOp]; go_simp) ((Below.refl _ _).alloc (Nat.le_refl _) _) ⟨_, rfl, by go_simp⟩
                | n + 14, hi => omega
            · intro us W hbW hk
              have h0 : us 0 = .slice ao O.length co := hk 0 (by decide)
              obtain ⟨b, h13, z0⟩ : ∃ b, us 13 = .slice (some ⟨b, 0, none⟩) 1 1 ∧ W.cell? ⟨b, 0, none⟩ = some (byte x) := hk 13 (by decide)
              have HQ2 := Lib.hid (HQ.out.later hbW)
              clear hk hbW
              simp only [putAll, dstOf, List.getElem?_toArray, List.getElem?_cons_zero, List.getElem?_cons_succ, Option.bind_some, Act.put, h0, h13, List.drop_succ_cons, List.drop_zero]
              simp only [List.setIfInBounds_toArray, List.set_cons_zero, List.set_cons_succ]
              refine wpList_append_x rfl (.tmp 43) (.tmp 56) 147 rfl (w.heap.size + 2) 5 Num.elem_u8 _ O rfl (.inl HQ2.out.2) _ [x] rfl (reads_cells b [x] (fun i hi => by
                rcases i with _ | i
                · exact z0
                · simp at hi)) (by simp) (by clear hwp HM1 HM2 HM3 HWP; have := HOL.out; have := HS.out; have := HP.out; simp; omega) HQ2.out.1.sz ?_
              intro v' w9 hown hbel
              have HT9 := Lib.hid (TS.app (W' := w9) HQ2.out.1 hbel hbel.size hown)
              clear hown hbel z0 h0 h13 HM1 HM2 HM3 HWP hwp k1 k2
              have hwp := HWP2.out
              go_wp2_with fail
              go_roundg (s.size + 1 - (p + 2))
              case measure => have := HLT.out; omega
              case rel => exact ⟨p + 2, _, by first | rfl | (simp; done) | (simp; exact HWP2.out), rfl, HNX.out.1, by have := HKP.out; omega, HT9, Lib.hid HNX.out.2, Lib.hid (by have := HOL.out; simp; omega)⟩
    · obtain rfl : p = s.size := by omega
      have j2 : (s.size : Int) ≤ (s.size : Int) := by omega
      have HONE : Hid (blobOne (s.data.toList.drop k) = .bad 6 (s.size - (k + 2) + 2)) := Lib.hid (by
        rw [HONE.out, HT.out, drop_end s (Nat.le_refl _)]
        rfl)
      have hz : c1 = 0 := by rw [HC1.out, bytes_end s s.size (Nat.le_refl _)]
      subst hz
      clear hlt hp hkp
      go_wp2_with fail
      refine (HA0.out _).mono ?_
      rintro e w5 ⟨rfl, rfl⟩
      go_wp2_with fail
      refine (refBadW 6 ((s.size : Int)) wr).mono ?_
      rintro e w9 ⟨rfl, hb9⟩
      have HR9 := Lib.hid ((Lib.hid HQ.out.1).out.later hb9)
      clear hb9
      obtain ⟨hbt, hbs, hbc, hcb⟩ := HR9.out.fin HC.out
      have HSIX := Lib.hid (filled6 w9 w.heap.size c hbc (.int .u8 0) (.string ⟨#[]⟩) (.int .u64 0) (.int .i64 0) (.int .i64 6) (.int .i64 ((s.size : Int))) hbt hbs _ rfl)
      obtain ⟨c0, c1, c2, c3, f0, f1, f2, f3⟩ := hbt
      have s0 := (hbs 0 _ rfl).1
      have s1 := (hbs 1 _ rfl).1
      have t0 := (hbs 0 _ rfl).2
      have t1 := (hbs 1 _ rfl).2
      clear hbs
      go_wp2_with fail
      obtain ⟨q0, q1, q2, q3, p0, p1⟩ := HSIX.out
      rw [HONE.out]
      refine bodyPost_ret (v := .tuple #[.agg #[.int .u8 0, .string ⟨#[]⟩, .int .u64 0, .int .i64 0], .int .i64 0, .agg #[.int .i64 6, .int .i64 ((s.size : Int))]]) (by simp [results, Tryz.results77, go_sem, q0, q1, q2, q3, p0, p1]) rfl ⟨refV_bad rfl (by have := HKP.out; omega), below6 HR9.out.bl (Nat.le_refl _) (by rw [HC.out]; omega)⟩
end Go.Proofs.YtjgkeillmelkoaaGreat.Dt
namespace Go.Proofs.YtjgkeillmelkoaaGreat.Dt
open Go.RowKit Go.Proofs.YtjgkeillmelkoaaGreat.By

def WordKn (s : ByteArray) (t : List UInt8) (k m : Nat) (b : Bool) : Nat → Value → World → Prop
  | 0, v, w => ∃ A, v = .slice (some ⟨A, 0, none⟩) 43 43 ∧ StrsAt A wordsL w
  | 1, v, _ => v = .string s
  | 2, v, _ => v = .int .i64 (k : Int)
  | 3, v, _ => v = .int .i64 ((k : Int) + (m : Int))
  | 4, v, _ => v = str t
  | 5, v, _ => v = .bool b
  | 6, v, _ => v = .bool (!b)
  | _, _, _ => True
theorem WordKn.later {s : ByteArray} {t : List UInt8} {k m : Nat} {b : Bool} : ∀ (j : Nat) (v : Value) (w1 w2 : World), WordKn s t k m b j v w1 → Below w1.heap.size w1 w2 → WordKn s t k m b j v w2
  | 0, _, _, _, ⟨A, h, hs⟩, hb => ⟨A, h, hs.later hb⟩
  | 1, _, _, _, h, _ => h
  | 2, _, _, _, h, _ => h
  | 3, _, _, _, h, _ => h
  | 4, _, _, _, h, _ => h
  | 5, _, _, _, h, _ => h
  | 6, _, _, _, h, _ => h
  | _ + 7, _, _, _, h, _ => h
theorem cap_word {c : UInt8} (h : capB c = true) : wordB c = true := by unfold wordB; rw [h]; simp
theorem name_end {c : UInt8} (h : nameB c = false) (hw : wordB c = true) : capB c = true := by
  unfold nameB at h
  rw [hw] at h
  simpa using h
set_option maxRecDepth 100000 in
set_option maxHeartbeats 16000000 in
theorem refWordsFnW (s : ByteArray) (k : Nat) (x : Int) (hx : x = (k : Int)) (w : World) (hs : s.size ≤ 1000000) (hk : k < s.size) :
    Calls Tryz.prog 80 #[.string s, .int .i64 x] w fun e w' => e = .returned (refV k (wordOne (s.data.toList.drop k))) ∧ Below w.heap.size w w' := by
  subst hx
  obtain ⟨l, hl⟩ : ∃ l, l = s.data.toList.drop k := ⟨_, rfl⟩
  have hll : l.length = s.size - k := by rw [hl, List.length_drop, bytes_list]
  obtain ⟨c0, hc0, hdr⟩ : ∃ c, s[k] = c ∧ s.data.toList.drop k = c :: s.data.toList.drop (k + 1) := ⟨_, rfl, drop_cons s hk⟩
  have hcn : (s[k]).toNat = c0.toNat := by rw [hc0]
  have htop : topB l = c0 := by rw [hl, hdr]; rfl
  have HTOP := Lib.hid htop
  have HLL := Lib.hid hll
  have HL := Lib.hid hl
  have HS := Lib.hid hs
  have HK := Lib.hid hk
  have HC0 := Lib.hid (refCapW c0)
  have HCN := Lib.hid hcn
  have i0 : (0 : Int) ≤ (k : Int) := by omega
  have i1 : (k : Int) < (s.size : Int) := by omega
  rw [← hl]
  clear hs hdr hl hll htop hc0 hcn
  have HB0 := Lib.hid (rb_new w)
  go_enter Tryz.func80, Tryz.ntmps80
  go_upto_region 1 with fail
  generalize ((w.alloc (.cells #[.int .u8 0, .string ⟨#[]⟩, .int .u64 0, .int .i64 0] 114)).alloc (.cells #[.int .i64 0, .int .i64 0] 70)) = w1 at *
  obtain ⟨c, hc⟩ : ∃ c, c = w.heap.size + 1 := ⟨_, rfl⟩
  rw [← hc]
  have HC := Lib.hid hc
  clear hc
  have hcn := HCN.out
  cases hcp : capB c0 with
  | true =>
    rw [hcp] at HC0
    obtain ⟨m, hm⟩ : ∃ m, m = runL wordB l := ⟨_, rfl⟩
    obtain ⟨t, ht⟩ : ∃ t, t = l.take m := ⟨_, rfl⟩
    have hml : k + m ≤ s.size := by
      have h1 := runL_le wordB l
      have h2 := HLL.out
      have h3 := HK.out
      rw [hm]; omega
    have hcut : (.string (s.extract k (k + m)) : Value) = str t := by rw [cut_list, ← HL.out, ht]
    have HONE : Hid (wordOne l = if t ∈ wordsL then .tok 1 t 0 m else .bad 6 0) := Lib.hid (by unfold wordOne; rw [HTOP.out, if_pos hcp, ← hm, ← ht])
    have HGET : Hid (∀ j, j < m → wordB (topB (s.data.toList.drop (k + j))) = true) := Lib.hid (fun j hj => by
      have := runL_get (p := wordB) (l := l) (j := j) (by rw [← hm]; exact hj)
      rwa [HL.out, List.drop_drop] at this)
    have HEND : Hid (wordB (topB (s.data.toList.drop (k + m))) = false) := Lib.hid (by
      rcases runL_drop wordB l with h1 | h1
      · rw [← hm, HL.out, List.drop_drop] at h1
        rw [h1]; decide
      · rwa [← hm, HL.out, List.drop_drop] at h1)
    have HM := Lib.hid hm
    have HML := Lib.hid hml
    have HCUT := Lib.hid hcut
    clear hm ht hml hcut hcp
    go_wp2_with fail
    refine (HC0.out _).mono ?_
    rintro e w2 ⟨rfl, rfl⟩
    go_wp2_with fail
    clear hcn
    go_loopg [7] (m + 1) (fun gk iv wr => ∃ j : Nat, iv = .int .i64 ((k + j : Nat) : Int) ∧ gk = m + 1 - j ∧ j ≤ m ∧ w1 = wr)
    case atStart => exact ⟨0, rfl, rfl, Nat.zero_le _, rfl⟩
    case round =>
      obtain ⟨j, rfl, rfl, hj, rfl⟩ := hrel
      obtain ⟨y, hy⟩ : ∃ y, y = topB (s.data.toList.drop (k + j)) := ⟨_, rfl⟩
      have HA2 : Hid (∀ W, Calls Tryz.prog 48 #[.string s, .int .i64 ((k : Int) + (j : Int))] W fun e w' => e = .returned (byte y) ∧ W = w') := Lib.hid (fun W => by rw [hy]; exact refAtW s (k + j) W HS.out _ (by omega))
      have HDY := Lib.hid (refWordW y)
      by_cases hjm : j < m
      · have hg := HGET.out j hjm
        rw [← hy] at hg
        rw [hg] at HDY
        have HJ := Lib.hid hjm
        have hw2 := wrapI ((k : Int) + (j : Int) + 1) (by omega) (by have h1 := HS.out; have h2 := HML.out; omega)
        clear hj hjm hg hy
        go_wp2_with fail
        refine (HA2.out _).mono ?_
        rintro e w3 ⟨rfl, rfl⟩
        go_wp2_with fail
        refine (HDY.out _).mono ?_
        rintro e w4 ⟨rfl, rfl⟩
        go_wp2_with fail
        go_roundg (m + 1 - (j + 1))
        case measure => have := HJ.out; omega
        case rel => exact ⟨j + 1, by simp; omega, rfl, HJ.out, rfl⟩
      · obtain rfl : j = m := by omega
        have hg := HEND.out
        rw [← hy] at hg
        rw [hg] at HDY
        clear hj hjm hg hy
        go_wp2_with fail
        refine (HA2.out _).mono ?_
        rintro e w3 ⟨rfl, rfl⟩
        go_wp2_with fail
        refine (HDY.out _).mono ?_
        rintro e w4 ⟨rfl, rfl⟩
        go_upto_region 5 with fail
        obtain ⟨B, hB⟩ : ∃ B, B = decide (t ∈ wordsL) := ⟨_, rfl⟩
        have HBB := Lib.hid hB
        have HIN : Hid (∀ A W, StrsAt A wordsL W → Calls Tryz.prog 83 #[.slice (some ⟨A, 0, none⟩) 43 43, str t] W fun e w' => e = .returned (.bool B) ∧ W = w') := Lib.hid (fun A W h => by rw [hB]; exact refInW A wordsL 43 words_len (by decide) ⟨t.toArray⟩ W h)
        have j2 : (k : Int) ≤ (k : Int) + (j : Int) := by omega
        have j3 : (k : Int) + (j : Int) ≤ (s.size : Int) := by have := HML.out; omega
        clear hB
        go_cut [25] (fun v wx => v = .bool (!B) ∧ Hid (Below w1.heap.size w1 wx))
        case first =>
          refine wp_region_kip (WordKn s t k j B) 71 (by simp) (by kernel_rfl) (by kernel_rfl) WordKn.later ?_ ?_
          · intro i hi A W hother hbW hd
            match i, hi with
            | 0, hi =>
              clear hother hd hi
              exact kip_call rfl (wanted_none rfl) 100 #[] (by simp only [execOp]; go_simp) ((refWordsW W).mono fun e w2 ⟨A, h1, h2, h3⟩ => ⟨⟨_, h1, A, rfl, h2⟩, h3⟩)
            | 1, hi =>
              have h0 := tmps_at (show A.eval (.tmp 0) = .string s from hother 0 (by kernel_rfl))
              clear hother hd hi
              exact kip_same rfl (wanted_none rfl) (.string s) (by simp only [execOp]; go_simp) rfl
            | 2, hi =>
              have h1 := tmps_at (show A.eval (.tmp 1) = .int .i64 (k : Int) from hother 1 (by kernel_rfl))
              clear hother hd hi
              exact kip_same rfl (wanted_none rfl) (.int .i64 (k : Int)) (by simp only [execOp]; go_simp) rfl
            | 3, hi =>
              have h7 := tmps_at (show A.eval (.tmp 7) = .int .i64 ((k : Int) + (j : Int)) from hother 7 (by kernel_rfl))
              clear hother hd hi
              exact kip_same rfl (wanted_none rfl) (.int .i64 ((k : Int) + (j : Int))) (by simp only [execOp]; go_simp) rfl
            | 4, hi =>
              have h20 := tmps_at ((hd _ rfl ⟨1, .data⟩ (by simp) rfl).eq (.string s) (fun _ h => h) 20 (by kernel_rfl) (by decide))
              have h21 := tmps_at ((hd _ rfl ⟨2, .data⟩ (by simp) rfl).eq (.int .i64 (k : Int)) (fun _ h => h) 21 (by kernel_rfl) (by decide))
              have h22 := tmps_at ((hd _ rfl ⟨3, .data⟩ (by simp) rfl).eq (.int .i64 ((k : Int) + (j : Int))) (fun _ h => h) 22 (by kernel_rfl) (by decide))
              clear hother hd hi
              exact kip_same rfl (wanted_none rfl) (.string (s.extract k (k + j))) (by simp only [execOp]; go_simp; rw [show ((k : Int) + (j : Int)).toNat = k + j by omega]) HCUT.out
            | 5, hi =>
              obtain ⟨av, ⟨ax, rfl, has⟩, hx⟩ := (hd _ rfl ⟨0, .data⟩ (by simp) rfl).get 19 (by kernel_rfl) (by decide)
              have h19 := tmps_at hx
              have h23 := tmps_at ((hd _ rfl ⟨4, .data⟩ (by simp) rfl).eq (str t) (fun _ h => h) 23 (by kernel_rfl) (by decide))
              clear hother hd hi hx
              exact kip_call rfl (wanted_none rfl) 83 #[.slice (some ⟨ax, 0, none⟩) 43 43, str t] (by simp only [execOp]; go_simp) ((HIN.out ax W has).mono fun e w2 hh => ⟨⟨_, hh.1, rfl⟩, by rw [← hh.2]; exact Below.refl _ _⟩)
            | 6, hi =>
              have h24 := tmps_at ((hd _ rfl ⟨5, .data⟩ (by simp) rfl).eq (.bool B) (fun _ h => h) 24 (by kernel_rfl) (by decide))
              clear hother hd hi
              exact kip_same rfl (wanted_none rfl) (.bool (!B)) (by simp only [execOp]; go_simp) rfl
            | n + 7, hi => simp at hi; omega
          · intro us W hbW hkk
            have h6 : us 6 = .bool (!B) := hkk 6 (by decide)
            have HBW := Lib.hid hbW
            clear hkk hbW
            simp only [List.length_cons, List.length_nil, Nat.zero_add, Nat.reduceAdd, putAll, dstOf, List.getElem?_toArray, List.getElem?_cons_zero, List.getElem?_cons_succ, Option.bind_some, Act.put, h6]
            simp only [List.setIfInBounds_toArray, List.set_cons_zero, List.set_cons_succ]
            go_wp2_with fail
            go_meet
            exact ⟨rfl, HBW⟩
        case rest =>
          rename World => w5
          obtain ⟨rfl, HBW⟩ := hcut
          have HB5 := Lib.hid (HB0.out.later HBW.out)
          clear HBW
          cases B with
          | false =>
            have HONE : Hid (wordOne l = .bad 6 0) := Lib.hid (by rw [HONE.out, if_neg (of_decide_eq_false HBB.out.symm)])
            simp only [Bool.not_false]
            go_wp2_with fail
            refine (refBadW 6 ((k : Int)) w5).mono ?_
            rintro e w9 ⟨rfl, hb9⟩
            have HR9 := Lib.hid (HB5.out.later hb9)
            clear hb9
            obtain ⟨hbt, hbs, hbc, hcb⟩ := HR9.out.fin HC.out
            have HSIX := Lib.hid (filled6 w9 w.heap.size c hbc (.int .u8 0) (.string ⟨#[]⟩) (.int .u64 0) (.int .i64 0) (.int .i64 6) (.int .i64 ((k : Int))) hbt hbs _ rfl)
            obtain ⟨c0, c1, c2, c3, f0, f1, f2, f3⟩ := hbt
            have s0 := (hbs 0 _ rfl).1
            have s1 := (hbs 1 _ rfl).1
            have t0 := (hbs 0 _ rfl).2
            have t1 := (hbs 1 _ rfl).2
            clear hbs
            go_wp2_with fail
            obtain ⟨q0, q1, q2, q3, p0, p1⟩ := HSIX.out
            rw [HONE.out]
            refine bodyPost_ret (v := .tuple #[.agg #[.int .u8 0, .string ⟨#[]⟩, .int .u64 0, .int .i64 0], .int .i64 0, .agg #[.int .i64 6, .int .i64 ((k : Int))]]) (by simp [results, Tryz.results80, go_sem, q0, q1, q2, q3, p0, p1]) rfl ⟨refV_bad rfl (by omega), below6 HR9.out.bl (Nat.le_refl _) (by rw [HC.out]; omega)⟩
          | true =>
            have HONE : Hid (wordOne l = .tok 1 t 0 j) := Lib.hid (by rw [HONE.out, if_pos (of_decide_eq_true HBB.out.symm)])
            simp only [Bool.not_true]
            obtain ⟨hbt, hbs, hbc, hcb⟩ := HB5.out.fin HC.out
            have HSIX := Lib.hid (filled6 w5 w.heap.size c hbc (.int .u8 1) (.string (s.extract k (k + j))) (.int .u64 0) (.int .i64 (k : Int)) (.int .i64 0) (.int .i64 0) hbt hbs _ rfl)
            obtain ⟨c0, c1, c2, c3, f0, f1, f2, f3⟩ := hbt
            have s0 := (hbs 0 _ rfl).1
            have s1 := (hbs 1 _ rfl).1
            have t0 := (hbs 0 _ rfl).2
            have t1 := (hbs 1 _ rfl).2
            clear hbs
            go_wp2_with fail
            obtain ⟨q0, q1, q2, q3, p0, p1⟩ := HSIX.out
            rw [HONE.out]
            refine bodyPost_ret (v := .tuple #[.agg #[.int .u8 1, .string (s.extract k (k + j)), .int .u64 0, .int .i64 (k : Int)], .int .i64 ((k : Int) + (j : Int)), .agg #[.int .i64 0, .int .i64 0]]) (by simp [results, Tryz.results80, go_sem, q0, q1, q2, q3, p0, p1]) rfl ⟨by rw [HCUT.out]; exact refV_tok rfl rfl (by omega) rfl, below6 HB5.out.bl (Nat.le_refl _) (by rw [HC.out]; omega)⟩
  | false =>
    rw [hcp] at HC0
    obtain ⟨m, hm⟩ : ∃ m, m = runL nameB l := ⟨_, rfl⟩
    obtain ⟨t, ht⟩ : ∃ t, t = l.take m := ⟨_, rfl⟩
    obtain ⟨z, hz⟩ : ∃ z, z = topB (s.data.toList.drop (k + m)) := ⟨_, rfl⟩
    have hml : k + m ≤ s.size := by
      have h1 := runL_le nameB l
      have h2 := HLL.out
      have h3 := HK.out
      rw [hm]; omega
    have hcut : (.string (s.extract k (k + m)) : Value) = str t := by rw [cut_list, ← HL.out, ht]
    have HONE : Hid (wordOne l = if capB z then .bad 6 m else if 32 < m then .bad 3 0 else .tok 2 t 0 m) := Lib.hid (by
      unfold wordOne
      rw [HTOP.out, if_neg (by rw [hcp]; decide), ← hm, ← ht, hz, HL.out, List.drop_drop])
    have HGET : Hid (∀ j, j < m → nameB (topB (s.data.toList.drop (k + j))) = true) := Lib.hid (fun j hj => by
      have := runL_get (p := nameB) (l := l) (j := j) (by rw [← hm]; exact hj)
      rwa [HL.out, List.drop_drop] at this)
    have HEND : Hid (nameB z = false) := Lib.hid (by
      rw [hz]
      rcases runL_drop nameB l with h1 | h1
      · rw [← hm, HL.out, List.drop_drop] at h1
        rw [h1]; decide
      · rwa [← hm, HL.out, List.drop_drop] at h1)
    have HZ := Lib.hid hz
    have HML := Lib.hid hml
    have HCUT := Lib.hid hcut
    clear hm ht hml hcut hcp hz
    go_wp2_with fail
    refine (HC0.out _).mono ?_
    rintro e w2 ⟨rfl, rfl⟩
    go_wp2_with fail
    clear hcn
    go_loopg [7] (m + 1) (fun gk iv wr => ∃ j : Nat, iv = .int .i64 ((k + j : Nat) : Int) ∧ gk = m + 1 - j ∧ j ≤ m ∧ w1 = wr)
    case atStart => exact ⟨0, rfl, rfl, Nat.zero_le _, rfl⟩
    case round =>
      obtain ⟨j, rfl, rfl, hj, rfl⟩ := hrel
      obtain ⟨y, hy⟩ : ∃ y, y = topB (s.data.toList.drop (k + j)) := ⟨_, rfl⟩
      have HA2 : Hid (∀ W, Calls Tryz.prog 48 #[.string s, .int .i64 ((k : Int) + (j : Int))] W fun e w' => e = .returned (byte y) ∧ W = w') := Lib.hid (fun W => by rw [hy]; exact refAtW s (k + j) W HS.out _ (by omega))
      have HDY := Lib.hid (refWordW y)
      have HCY := Lib.hid (refCapW y)
      by_cases hjm : j < m
      · have hg := HGET.out j hjm
        rw [← hy] at hg
        have hg1 : wordB y = true := by unfold nameB at hg; simp at hg; exact hg.1
        have hg2 : capB y = false := by unfold nameB at hg; simp at hg; exact hg.2
        rw [hg1] at HDY
        rw [hg2] at HCY
        have hpl : k + j < s.size := by have := HML.out; omega
        obtain ⟨c2, hc2, hdr2⟩ : ∃ c, s[k + j] = c ∧ s.data.toList.drop (k + j) = c :: s.data.toList.drop (k + j + 1) := ⟨_, rfl, drop_cons s hpl⟩
        have hcn2 : (s[k + j]).toNat = c2.toNat := by rw [hc2]
        obtain rfl : y = c2 := by rw [hy, hdr2]; rfl
        have HJ := Lib.hid hjm
        have k2 : (0 : Int) ≤ (k : Int) + (j : Int) := by omega
        have k3 : (k : Int) + (j : Int) < (s.size : Int) := by omega
        have hw2 := wrapI ((k : Int) + (j : Int) + 1) (by omega) (by have h1 := HS.out; have h2 := HML.out; omega)
        clear hj hjm hg hg1 hg2 hy hc2 hdr2
        go_wp2_with fail
        refine (HA2.out _).mono ?_
        rintro e w3 ⟨rfl, rfl⟩
        go_wp2_with fail
        refine (HDY.out _).mono ?_
        rintro e w4 ⟨rfl, rfl⟩
        go_wp2_with fail
        refine (HCY.out _).mono ?_
        rintro e w4 ⟨rfl, rfl⟩
        go_wp2_with fail
        go_roundg (m + 1 - (j + 1))
        case measure => have := HJ.out; omega
        case rel => exact ⟨j + 1, by simp; omega, rfl, HJ.out, rfl⟩
      · obtain rfl : j = m := by omega
        obtain rfl : y = z := by rw [hy, HZ.out]
        clear hj hjm hy
        cases hwy : wordB y with
        | true =>
          have hcy := name_end HEND.out hwy
          rw [hwy] at HDY
          rw [hcy] at HCY
          have HONE : Hid (wordOne l = .bad 6 j) := Lib.hid (by rw [HONE.out, if_pos hcy])
          have hpl : k + j < s.size := by
            rcases Nat.lt_or_ge (k + j) s.size with h | h
            · exact h
            · rw [HZ.out, bytes_end s _ h] at hwy; exact absurd hwy (by decide)
          obtain ⟨c2, hc2, hdr2⟩ : ∃ c, s[k + j] = c ∧ s.data.toList.drop (k + j) = c :: s.data.toList.drop (k + j + 1) := ⟨_, rfl, drop_cons s hpl⟩
          have hcn2 : (s[k + j]).toNat = c2.toNat := by rw [hc2]
          obtain rfl : y = c2 := by rw [HZ.out, hdr2]; rfl
          have k2 : (0 : Int) ≤ (k : Int) + (j : Int) := by omega
          have k3 : (k : Int) + (j : Int) < (s.size : Int) := by omega
          clear hwy hcy hc2 hdr2
          go_wp2_with fail
          refine (HA2.out _).mono ?_
          rintro e w3 ⟨rfl, rfl⟩
          go_wp2_with fail
          refine (HDY.out _).mono ?_
          rintro e w4 ⟨rfl, rfl⟩
          go_wp2_with fail
          refine (HCY.out _).mono ?_
          rintro e w4 ⟨rfl, rfl⟩
          go_wp2_with fail
          refine (refBadW 6 ((k : Int) + (j : Int)) w1).mono ?_
          rintro e w9 ⟨rfl, hb9⟩
          have HR9 := Lib.hid (HB0.out.later hb9)
          clear hb9
          obtain ⟨hbt, hbs, hbc, hcb⟩ := HR9.out.fin HC.out
          have HSIX := Lib.hid (filled6 w9 w.heap.size c hbc (.int .u8 0) (.string ⟨#[]⟩) (.int .u64 0) (.int .i64 0) (.int .i64 6) (.int .i64 ((k : Int) + (j : Int))) hbt hbs _ rfl)
          obtain ⟨c0, c1, c2, c3, f0, f1, f2, f3⟩ := hbt
          have s0 := (hbs 0 _ rfl).1
          have s1 := (hbs 1 _ rfl).1
          have t0 := (hbs 0 _ rfl).2
          have t1 := (hbs 1 _ rfl).2
          clear hbs
          go_wp2_with fail
          obtain ⟨q0, q1, q2, q3, p0, p1⟩ := HSIX.out
          rw [HONE.out]
          refine bodyPost_ret (v := .tuple #[.agg #[.int .u8 0, .string ⟨#[]⟩, .int .u64 0, .int .i64 0], .int .i64 0, .agg #[.int .i64 6, .int .i64 ((k : Int) + (j : Int))]]) (by simp [results, Tryz.results80, go_sem, q0, q1, q2, q3, p0, p1]) rfl ⟨refV_bad rfl (by omega), below6 HR9.out.bl (Nat.le_refl _) (by rw [HC.out]; omega)⟩
        | false =>
          rw [hwy] at HDY
          have hcy : capB y = false := by
            cases hc : capB y with
            | false => rfl
            | true => rw [cap_word hc] at hwy; cases hwy
          rw [hcy] at HONE
          clear hwy hcy
          have hw2 : wrap64 ((k : Int) + (j : Int) - (k : Int)) = (j : Int) := by have h1 := HS.out; have h2 := HML.out; unfold wrap64; omega
          go_wp2_with fail
          refine (HA2.out _).mono ?_
          rintro e w3 ⟨rfl, rfl⟩
          go_wp2_with fail
          refine (HDY.out _).mono ?_
          rintro e w4 ⟨rfl, rfl⟩
          by_cases h32 : 32 < j
          · have HONE : Hid (wordOne l = .bad 3 0) := Lib.hid (by rw [HONE.out, if_neg (by decide), if_pos h32])
            have n1 : (32 : Int) < (j : Int) := by omega
            clear h32
            go_wp2_with fail
            refine (refBadW 3 ((k : Int)) w1).mono ?_
            rintro e w9 ⟨rfl, hb9⟩
            have HR9 := Lib.hid (HB0.out.later hb9)
            clear hb9
            obtain ⟨hbt, hbs, hbc, hcb⟩ := HR9.out.fin HC.out
            have HSIX := Lib.hid (filled6 w9 w.heap.size c hbc (.int .u8 0) (.string ⟨#[]⟩) (.int .u64 0) (.int .i64 0) (.int .i64 3) (.int .i64 ((k : Int))) hbt hbs _ rfl)
            obtain ⟨c0, c1, c2, c3, f0, f1, f2, f3⟩ := hbt
            have s0 := (hbs 0 _ rfl).1
            have s1 := (hbs 1 _ rfl).1
            have t0 := (hbs 0 _ rfl).2
            have t1 := (hbs 1 _ rfl).2
            clear hbs
            go_wp2_with fail
            obtain ⟨q0, q1, q2, q3, p0, p1⟩ := HSIX.out
            rw [HONE.out]
            refine bodyPost_ret (v := .tuple #[.agg #[.int .u8 0, .string ⟨#[]⟩, .int .u64 0, .int .i64 0], .int .i64 0, .agg #[.int .i64 3, .int .i64 ((k : Int))]]) (by simp [results, Tryz.results80, go_sem, q0, q1, q2, q3, p0, p1]) rfl ⟨refV_bad rfl (by omega), below6 HR9.out.bl (Nat.le_refl _) (by rw [HC.out]; omega)⟩
          · have HONE : Hid (wordOne l = .tok 2 t 0 j) := Lib.hid (by rw [HONE.out, if_neg (by decide), if_neg h32])
            have n1 : ¬ (32 : Int) < (j : Int) := by omega
            have k2 : (0 : Int) ≤ (k : Int) + (j : Int) := by omega
            have j2 : (k : Int) ≤ (k : Int) + (j : Int) := by omega
            have j3 : (k : Int) + (j : Int) ≤ (s.size : Int) := by have := HML.out; omega
            clear h32
            obtain ⟨hbt, hbs, hbc, hcb⟩ := HB0.out.fin HC.out
            have HSIX := Lib.hid (filled6 w1 w.heap.size c hbc (.int .u8 2) (.string (s.extract k (k + j))) (.int .u64 0) (.int .i64 (k : Int)) (.int .i64 0) (.int .i64 0) hbt hbs _ rfl)
            obtain ⟨c0, c1, c2, c3, f0, f1, f2, f3⟩ := hbt
            have s0 := (hbs 0 _ rfl).1
            have s1 := (hbs 1 _ rfl).1
            have t0 := (hbs 0 _ rfl).2
            have t1 := (hbs 1 _ rfl).2
            clear hbs
            go_wp2_with fail
            obtain ⟨q0, q1, q2, q3, p0, p1⟩ := HSIX.out
            rw [HONE.out]
            refine bodyPost_ret (v := .tuple #[.agg #[.int .u8 2, .string (s.extract k (k + j)), .int .u64 0, .int .i64 (k : Int)], .int .i64 ((k : Int) + (j : Int)), .agg #[.int .i64 0, .int .i64 0]]) (by simp [results, Tryz.results80, go_sem, q0, q1, q2, q3, p0, p1]) rfl ⟨by rw [HCUT.out]; exact refV_tok rfl rfl (by omega) rfl, below6 HB0.out.bl (Nat.le_refl _) (by rw [HC.out]; omega)⟩
end Go.Proofs.YtjgkeillmelkoaaGreat.Dt
