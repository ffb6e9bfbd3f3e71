/-
  The walk of the reader's quoted at a text.
-/
import Derived.Test.YtghfaeapgghhlaaDoorLexQ
import Derived.Deep.DeepCutAuto
namespace Go.Proofs.YtghfaeapgghhlaaDoor.Dt
open Go.RowKit Go.Proofs.YtghfaeapgghhlaaDoor.By

set_option maxRecDepth 100000 in
set_option maxHeartbeats 16000000 in
theorem textLexW (r : Nat) (s : ByteArray) (k : Nat) (w : World) (h : RD r s k w) (hs : s.size ≤ 1000000) (hk : k < s.size) :
    Calls Tryd.prog 75 #[.pointer (some ⟨r, 0, none⟩), .int .u8 4] w fun e w' => e = .returned (outV (textOne (s.data.toList.drop k))) ∧ RD r s (k + lenO (textOne (s.data.toList.drop k))) w' ∧ w.grownBy w' (some r) := by
  obtain ⟨R, hR⟩ : ∃ R, R = qscan (s.data.toList.drop (k + 1)) := ⟨_, rfl⟩
  have HONE : Hid (textOne (s.data.toList.drop k) = textR (s.size - k) R) := Lib.hid (by rw [textOne_eq, List.drop_drop, ← hR, List.length_drop, bytes_list])
  have HR0 := Lib.hid hR
  have HQ0 : Hid (QS w r w.heap.size s k (.slice none 0 0) [] (w.alloc (.cells #[.int .u8 0, .string ⟨#[]⟩, .int .u64 0, .int .i64 0] 48))) := Lib.hid (QS.new h _)
  have HRB : Hid (r < w.heap.size) := Lib.hid h.lt
  have HS := Lib.hid hs
  have HK := Lib.hid hk
  have HW1 := Lib.hid (wrapI ((k : Int) + 1) (by omega) (by omega))
  clear h hs hk hR
  go_enter Tryd.func75, Tryd.ntmps75
  go_upto_region 1 with fail
  generalize (w.alloc (.cells #[.int .u8 0, .string ⟨#[]⟩, .int .u64 0, .int .i64 0] 48)) = w1 at *
  obtain ⟨b, hb⟩ : ∃ b, b = w.heap.size := ⟨_, rfl⟩
  rw [← hb] at HQ0 HRB ⊢
  have HBE := Lib.hid (Nat.le_of_eq hb.symm)
  have HNE : Hid (b ≠ r) := Lib.hid (by have := HRB.out; omega)
  clear hb
  have hw1 := HW1.out
  obtain ⟨⟨d0, d1, g1⟩, -, -, -, -⟩ := HQ0.out
  go_upto_region 3 with fail
  have HQ1 := Lib.hid (HQ0.out.set HRB.out (k + 1) ((k : Int) + 1) (by omega))
  clear d0 d1 g1
  generalize w1.setCell ⟨r, 1, none⟩ (.int .i64 ((k : Int) + 1)) = w2 at *
  clear hw1
  go_wp2_with fail
  go_loopg [7] (s.size + 1 - (k + 1)) (fun gk ov wr => ∃ (p : Nat) (O : List UInt8), gk = s.size + 1 - p ∧ p ≤ s.size ∧ k + 1 ≤ p ∧ Hid (QS w r b s p ov O wr) ∧ Hid (R = (qscan (s.data.toList.drop p)).map fun x => (O ++ x.1, p - (k + 1) + x.2)) ∧ Hid (O.length ≤ p))
  case atStart => exact ⟨k + 1, [], rfl, HK.out, Nat.le_refl _, HQ1, Lib.hid (by rw [HR0.out]; simp), Lib.hid (Nat.zero_le _)⟩
  case round =>
    obtain ⟨p, O, rfl, hp, hkp, HQ, HT, HOL⟩ := hrel
    have HP := Lib.hid hp
    have HKP := Lib.hid hkp
    have HSH := Lib.hid HQ.out.own.shape
    have j0 : (0 : Int) ≤ (p : Int) := by omega
    by_cases hlt : p < s.size
    · have j1 : (p : Int) < (s.size : Int) := by omega
      have j2 : ¬ (s.size : Int) ≤ (p : Int) := by omega
      obtain ⟨c, hc, hdr⟩ : ∃ c, s[p] = c ∧ s.data.toList.drop p = c :: s.data.toList.drop (p + 1) := ⟨_, rfl, drop_cons s hlt⟩
      have HCC := Lib.hid hc
      have HDR := Lib.hid hdr
      have HLT := Lib.hid hlt
      have HWP1 := Lib.hid (wrapI ((p : Int) + 1) (by omega) (by have := HS.out; omega))
      have HWP2 := Lib.hid (wrapI ((p : Int) + 1 + 1) (by omega) (by have := HS.out; omega))
      have HPK : Hid (∀ W, RD r s p W → Calls Tryd.prog 72 #[.pointer (some ⟨r, 0, none⟩), .int .i64 1] W fun e w' => e = .returned (byte (topB (s.data.toList.drop (p + 1)))) ∧ Below W.heap.size W w') := Lib.hid (fun W h => peek1 r s p W h HS.out HP.out)
      clear hp hkp hdr hc
      go_upto_region 4 with fail
      obtain ⟨⟨d0, d1, g1⟩, -, -, -, -⟩ := HQ.out
      have l0 := lat_cell d0
      have l1 := lat_cell d1
      refine wp_region_later (by kernel_rfl) (by kernel_rfl) ?_
      repeat (go_big_quiet_step (fail))
      refine wpQuiet_nil ?_
      refine later_out (fun w3 hb3 => ?_)
      have HQ3 := Lib.hid (HQ.out.later hb3)
      clear l0 l1 d0 d1 g1 hb3
      go_upto_region 6 with fail
      obtain ⟨⟨d0, d1, g1⟩, -, -, -, -⟩ := HQ3.out
      have l0 := lat_cell d0
      have l1 := lat_cell d1
      refine wp_region_later (by kernel_rfl) (by kernel_rfl) ?_
      repeat (go_big_quiet_step (fail))
      refine wpQuiet_nil ?_
      refine later_out (fun w4 hb4 => ?_)
      have HQ4 := Lib.hid (HQ3.out.later hb4)
      clear l0 l1 d0 d1 g1 hb4
      rw [HCC.out]
      clear HCC j1 j2
      obtain ⟨d, hd⟩ : ∃ d, d = topB (s.data.toList.drop (p + 1)) := ⟨_, rfl⟩
      rw [← hd] at HPK
      have HD := Lib.hid hd
      clear hd hlt
      by_cases h39 : c = 39
      · subst h39
        by_cases h40 : d = 39
        · subst h40
          have HNX : Hid (p + 2 ≤ s.size ∧ R = (qscan (s.data.toList.drop (p + 2))).map fun x => (O ++ [39] ++ x.1, p + 2 - (k + 1) + x.2)) := Lib.hid (by
            have hlt2 : p + 1 < s.size := by
              rcases Nat.lt_or_ge (p + 1) s.size with h | h
              · exact h
              · exfalso
                have := HD.out
                rw [drop_end s h] at this
                exact absurd this (by decide)
            have h2 := drop_cons s hlt2
            have h3 : s[p + 1] = 39 := by
              have := HD.out
              rw [h2] at this
              exact this.symm
            refine ⟨hlt2, ?_⟩
            rw [HT.out, HDR.out, h2, h3, qscan_two, Option.map_map]
            congr 1
            funext x
            have := HKP.out
            simp
            omega)
          go_wp2_with fail
          refine (HPK.out _ HQ4.out.rd).mono ?_
          rintro e w5 ⟨rfl, hb5⟩
          have HQ5 := Lib.hid (HQ4.out.later hb5)
          clear hb5
          have hwp := HWP1.out
          obtain ⟨⟨d0, d1, g1⟩, -, -, -, -⟩ := HQ5.out
          go_upto_region 24 with fail
          have HQ6 := Lib.hid (HQ5.out.set HRB.out (p + 1) ((p : Int) + 1) (by omega))
          clear d0 d1 g1
          generalize w5.setCell ⟨r, 1, none⟩ (.int .i64 ((p : Int) + 1)) = w6 at *
          clear hwp
          have hwp := HWP2.out
          obtain ⟨ao, co, rfl⟩ := HSH.out
          go_wp2_with (at_builtin; refine wpList_append_x rfl (.tmp 117) (.tmp 119) 55 rfl (b + 1) 5 Num.elem_u8 _ O rfl (.inl (HQ6.out.own.alloc _)) _ [39] rfl (reads_cells w6.heap.size [39] (fun i hi => by rcases i with _ | i; (go_simp); (simp at hi))) (by simp) (by clear hwp; have := HOL.out; have := HS.out; have := HP.out; simp; omega) (by clear hwp; have := HQ6.out.sz; simp; omega) ?_; intro v' w9 hown hbel; have HQ9 := Lib.hid (HQ6.out.app (W' := w9) HRB.out (((Below.refl _ w6).alloc HQ6.out.sz (.cells #[byte 39] 5)).trans hbel) hown (by clear hwp; have := hbel.size; simp at this; omega) HBE.out); obtain ⟨⟨d0, d1, g1⟩, -, -, -, -⟩ := HQ9.out; clear hown hbel)
          go_roundg (s.size + 1 - (p + 2))
          case measure => have := HLT.out; omega
          case rel => exact ⟨p + 2, _, rfl, HNX.out.1, by have := HKP.out; omega, Lib.hid (HQ9.out.set HRB.out (p + 2) _ (by omega)), HNX.out.2 ▸ Lib.hid rfl, Lib.hid (by have := HOL.out; simp; omega)⟩
        · have e40 : ((d.toNat : Int) != 39) = true := by
            have : d.toNat ≠ 39 := fun e => h40 (UInt8.toNat_inj.1 e)
            first | (simp; done) | (simp; omega)
          have HRS : Hid (R = some (O, p - (k + 1) + 1)) := Lib.hid (by
            rw [HT.out, HDR.out, qscan_stop (by rw [← HD.out]; exact h40)]
            simp)
          clear h40
          go_wp2_with fail
          refine (HPK.out _ HQ4.out.rd).mono ?_
          rintro e w5 ⟨rfl, hb5⟩
          have HQ5 := Lib.hid (HQ4.out.later hb5)
          clear hb5
          have hwp := HWP1.out
          obtain ⟨ao, co, rfl⟩ := HSH.out
          obtain ⟨⟨d0, d1, g1⟩, -, -, -, -⟩ := HQ5.out
          go_upto_region 18 with fail
          have HQ6 := Lib.hid (HQ5.out.set HRB.out (p + 1) ((p : Int) + 1) (by omega))
          clear d0 d1 g1
          generalize w5.setCell ⟨r, 1, none⟩ (.int .i64 ((p : Int) + 1)) = w6 at *
          clear hwp
          by_cases hlong : 1000 < O.length
          · have i1 : (1000 : Int) < (O.length : Int) := by omega
            have HONE : Hid (textOne (s.data.toList.drop k) = .bad 3 0) := Lib.hid (by rw [HONE.out, HRS.out, textR_long hlong])
            clear hlong
            obtain ⟨⟨d0, d1, g1⟩, -, -, -, -⟩ := HQ6.out
            go_upto_region 20 with fail
            have HQ7 := Lib.hid (HQ6.out.set HRB.out (k) ((k : Int)) (rfl))
            clear d0 d1 g1
            generalize w6.setCell ⟨r, 1, none⟩ (.int .i64 ((k : Int))) = w7 at *
            obtain ⟨c0, c1, c2, c3, f0, f1, f2, f3⟩ := HQ7.out.bx
            go_wp2_with fail
            obtain ⟨q0, q1, q2, q3⟩ := filled4 w7 b (.int .u8 0) (.string ⟨#[]⟩) (.int .u64 0) (.int .i64 0) HQ7.out.bx _ rfl
            rw [HONE.out]
            refine bodyPost_ret (v := .tuple #[T0.val, .int .i64 3]) (by simp [results, Tryd.results75, go_sem, q0, q1, q2, q3, Tk.val, T0]; try rfl) rfl ⟨rfl, HQ7.out.rd.box _ _ _ _ HNE.out, grown_box HQ7.out.gr _ _ _ _ HBE.out⟩
          · have i1 : ¬ (1000 : Int) < (O.length : Int) := by omega
            have HONE : Hid (textOne (s.data.toList.drop k) = .tok 4 O 0 (p - (k + 1) + 1 + 1)) := Lib.hid (by rw [HONE.out, HRS.out, textR_ok hlong])
            have hcv := convX (P := Tryd.prog) 55 5 9 Tryd.underlying55 Tryd.underlying5 Tryd.underlying9 (.inl HQ6.out.own)
            clear hlong
            obtain ⟨c0, c1, c2, c3, f0, f1, f2, f3⟩ := HQ6.out.bx
            go_wp2_with fail
            obtain ⟨q0, q1, q2, q3⟩ := filled4 w6 b (.int .u8 4) (str O) (.int .u64 0) (.int .i64 0) HQ6.out.bx _ rfl
            rw [HONE.out]
            refine bodyPost_ret (v := .tuple #[Tk.val ⟨4, ⟨O.toArray⟩, 0, 0⟩, .int .i64 0]) (by simp [results, Tryd.results75, go_sem, q0, q1, q2, q3, Tk.val]) rfl ⟨rfl, ?_, grown_box HQ6.out.gr _ _ _ _ HBE.out⟩
            have hpos : k + lenO (.tok 4 O 0 (p - (k + 1) + 1 + 1)) = p + 1 := by have := HKP.out; show k + (p - (k + 1) + 1 + 1) = p + 1; omega
            rw [hpos]
            exact HQ6.out.rd.box _ _ _ _ HNE.out
      · have e39 : ((c.toNat : Int) == 39) = false := by
          have : c.toNat ≠ 39 := fun e => h39 (UInt8.toNat_inj.1 e)
          first | (simp; done) | (simp; omega)
        have HNX : Hid (R = (qscan (s.data.toList.drop (p + 1))).map fun x => (O ++ [c] ++ x.1, p + 1 - (k + 1) + x.2)) := Lib.hid (by
          rw [HT.out, HDR.out, qscan_other h39, Option.map_map]
          congr 1
          funext x
          have := HKP.out
          simp
          omega)
        clear h39
        have hwp := HWP1.out
        obtain ⟨ao, co, rfl⟩ := HSH.out
        go_wp2_with (at_builtin; refine wpList_append_x rfl (.tmp 117) (.tmp 119) 55 rfl (b + 1) 5 Num.elem_u8 _ O rfl (.inl (HQ4.out.own.alloc _)) _ [c] rfl (reads_cells w4.heap.size [c] (fun i hi => by rcases i with _ | i; (go_simp); (simp at hi))) (by simp) (by clear hwp; have := HOL.out; have := HS.out; have := HP.out; simp; omega) (by clear hwp; have := HQ4.out.sz; simp; omega) ?_; intro v' w9 hown hbel; have HQ9 := Lib.hid (HQ4.out.app (W' := w9) HRB.out (((Below.refl _ w4).alloc HQ4.out.sz (.cells #[byte c] 5)).trans hbel) hown (by clear hwp; have := hbel.size; simp at this; omega) HBE.out); obtain ⟨⟨d0, d1, g1⟩, -, -, -, -⟩ := HQ9.out; clear hown hbel)
        go_roundg (s.size + 1 - (p + 1))
        case measure => have := HLT.out; omega
        case rel => exact ⟨p + 1, _, rfl, HLT.out, by have := HKP.out; omega, Lib.hid (HQ9.out.set HRB.out (p + 1) _ (by omega)), HNX.out ▸ Lib.hid rfl, Lib.hid (by have := HOL.out; simp; omega)⟩
    · obtain rfl : p = s.size := by omega
      have j2 : (s.size : Int) ≤ (s.size : Int) := by omega
      have HONE : Hid (textOne (s.data.toList.drop k) = .bad 6 (s.size - k)) := Lib.hid (by
        rw [HONE.out, HT.out, drop_end s (Nat.le_refl _)]
        rfl)
      clear hlt hp hkp
      go_upto_region 4 with fail
      obtain ⟨⟨d0, d1, g1⟩, -, -, -, -⟩ := HQ.out
      have l0 := lat_cell d0
      have l1 := lat_cell d1
      refine wp_region_later (by kernel_rfl) (by kernel_rfl) ?_
      repeat (go_big_quiet_step (fail))
      refine wpQuiet_nil ?_
      refine later_out (fun w3 hb3 => ?_)
      have HQ3 := Lib.hid (HQ.out.later hb3)
      clear l0 l1 d0 d1 g1 hb3
      obtain ⟨c0, c1, c2, c3, f0, f1, f2, f3⟩ := HQ3.out.bx
      go_wp2_with fail
      obtain ⟨q0, q1, q2, q3⟩ := filled4 w3 b (.int .u8 0) (.string ⟨#[]⟩) (.int .u64 0) (.int .i64 0) HQ3.out.bx _ rfl
      rw [HONE.out]
      refine bodyPost_ret (v := .tuple #[T0.val, .int .i64 6]) (by simp [results, Tryd.results75, go_sem, q0, q1, q2, q3, Tk.val, T0]; try rfl) rfl ⟨rfl, (show RD r s (k + (s.size - k)) w3 by rw [show k + (s.size - k) = s.size by have := HKP.out; omega]; exact HQ3.out.rd).box _ _ _ _ HNE.out, grown_box HQ3.out.gr _ _ _ _ HBE.out⟩
end Go.Proofs.YtghfaeapgghhlaaDoor.Dt
