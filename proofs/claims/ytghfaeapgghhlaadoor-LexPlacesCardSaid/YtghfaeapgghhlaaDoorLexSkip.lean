/-
  The walk of the reader's skip: blanks and remarks.
-/
import Derived.Test.YtghfaeapgghhlaaDoorLexR
import Derived.ScopeJumps
import Derived.WalkMore
namespace Go.Proofs.YtghfaeapgghhlaaDoor.Dt
open Go.RowKit Go.Proofs.YtghfaeapgghhlaaDoor.By

/-- How much is not read yet. -/
def leftR (r : Nat) (s : ByteArray) (w : World) : Nat := match w.cell? ⟨r, 1, none⟩ with | some (.int _ q) => s.size - q.toNat | _ => 0
theorem leftR_at {r : Nat} {s : ByteArray} {k : Nat} {w : World} (h : RD r s k w) : leftR r s w = s.size - k := by
  unfold leftR
  rw [h.c1]
  simp
set_option maxRecDepth 100000 in
set_option maxHeartbeats 8000000 in
theorem skipW (r : Nat) (s : ByteArray) (k : Nat) (w : World) (h : RD r s k w) (hs : s.size ≤ 1000000) (hk : k ≤ s.size) :
    Calls Tryd.prog 48 #[.pointer (some ⟨r, 0, none⟩)] w fun e w' => e = .returned (.tuple #[]) ∧ RD r s (k + skipL (s.data.toList.drop k)) w' ∧ w.grownBy w' (some r) := by
  have HR0 := Lib.hid h
  have HS := Lib.hid hs
  have HK0 := Lib.hid hk
  clear h hs hk
  go_enter Tryd.func48, Tryd.ntmps48
  go_wp2_with fail
  refine wp_scope_jumps 0 (fun a' w' => ∃ (u2 u3 u4 u5 u6 u7 u8 u9 u10 u11 u12 u13 : Value) (k' : Nat), a' = { tmps := #[.pointer (some ⟨r, 0, none⟩), undef, u2, u3, u4, u5, u6, u7, u8, u9, u10, u11, u12, u13], defers := [] } ∧ k' ≤ s.size ∧ Hid (RD r s k' w') ∧ Hid (w.grownBy w' (some r)) ∧ Hid (k' + skipL (s.data.toList.drop k') = k + skipL (s.data.toList.drop k))) (fun _ w' => leftR r s w') rfl ?_ ?_
  · have HR := HR0
    have HG : Hid (w.grownBy w (some r)) := Lib.hid (World.grownBy.refl _ _)
    have HK := HK0
    have HSUM : Hid (k + skipL (s.data.toList.drop k) = k + skipL (s.data.toList.drop k)) := Lib.hid rfl
    go_wp2_with fail
    go_step3
    go_wp2_with fail
    refine (whileW blankB 71 (fun _ _ => by kernel_rfl) blankW r s k w HR.out HS.out HK.out).mono ?_
    rintro e w1 ⟨rfl, hr1, hg1⟩
    obtain ⟨k1, hk1⟩ : ∃ k1, k1 = k + runL blankB (s.data.toList.drop k) := ⟨_, rfl⟩
    rw [← hk1] at hr1
    have HK1 : Hid (k ≤ k1 ∧ k1 ≤ s.size) := Lib.hid (by
      have := runL_le blankB (s.data.toList.drop k)
      rw [List.length_drop, bytes_list] at this
      have := HK.out
      omega)
    have HSK : Hid (k + skipL (s.data.toList.drop k) = if dashes (s.data.toList.drop k1) then k1 + runL lineB (s.data.toList.drop k1) + skipL (s.data.toList.drop (k1 + runL lineB (s.data.toList.drop k1))) else k1) := Lib.hid (by
      rw [skip_eq, List.drop_drop, ← hk1, List.drop_drop]
      split
      · omega
      · rw [hk1])
    have HR1 := Lib.hid hr1
    have HG1 := Lib.hid (grown_trans HG.out hg1)
    clear hr1 hg1 hk1
    obtain ⟨c, hc⟩ : ∃ c, c = topB (s.data.toList.drop k1) := ⟨_, rfl⟩
    obtain ⟨d, hd⟩ : ∃ d, d = topB (s.data.toList.drop (k1 + 1)) := ⟨_, rfl⟩
    have HDA : Hid (dashes (s.data.toList.drop k1) ↔ (c = 45 ∧ d = 45)) := Lib.hid (by
      unfold dashes
      rw [List.drop_drop, ← hc, ← hd])
    have HP0 : Hid (∀ W, RD r s k1 W → Calls Tryd.prog 72 #[.pointer (some ⟨r, 0, none⟩), .int .i64 0] W fun e w' => e = .returned (byte c) ∧ Below W.heap.size W w') := Lib.hid (fun W h => by rw [hc]; exact peek0 r s k1 W h HS.out HK1.out.2)
    have HP1 : Hid (∀ W, RD r s k1 W → Calls Tryd.prog 72 #[.pointer (some ⟨r, 0, none⟩), .int .i64 1] W fun e w' => e = .returned (byte d) ∧ Below W.heap.size W w') := Lib.hid (fun W h => by rw [hd]; exact peek1 r s k1 W h HS.out HK1.out.2)
    clear hc hd
    by_cases h45 : c = 45
    · subst h45
      by_cases h46 : d = 45
      · subst h46
        have hda := HDA.out.2 ⟨rfl, rfl⟩
        obtain ⟨q, hq⟩ : ∃ q, q = runL lineB (s.data.toList.drop k1) := ⟨_, rfl⟩
        have HQ2 : Hid (2 ≤ q) := Lib.hid (by rw [hq]; exact dashes_line hda)
        have HQ : Hid (k1 + q ≤ s.size) := Lib.hid (by
          have := runL_le lineB (s.data.toList.drop k1)
          rw [List.length_drop, bytes_list, ← hq] at this
          have := HK1.out
          omega)
        have HT : Hid (k1 + q + skipL (s.data.toList.drop (k1 + q)) = k + skipL (s.data.toList.drop k)) := Lib.hid (by
          have h1 := HSK.out
          rw [if_pos hda, ← hq] at h1
          have h2 := HSUM.out
          omega)
        have HW3 : Hid (∀ W, RD r s k1 W → Calls Tryd.prog 70 #[.pointer (some ⟨r, 0, none⟩), .func (.func 73) #[] #[]] W fun e w' => e = .returned (str ((s.data.toList.drop k1).take q)) ∧ RD r s (k1 + q) w' ∧ W.grownBy w' (some r)) := Lib.hid (fun W h => by
          rw [hq]; exact whileW lineB 73 (fun _ _ => by kernel_rfl) lineW r s k1 W h HS.out HK1.out.2)
        clear hq hda
        go_wp2_with fail
        refine (HP0.out _ HR1.out).mono ?_
        rintro e w2 ⟨rfl, hb2⟩
        have HR2 := Lib.hid (HR1.out.later hb2)
        have HG2 := Lib.hid (grown_trans HG1.out (below_grown hb2))
        clear hb2
        go_wp2_with fail
        refine (HP1.out _ HR2.out).mono ?_
        rintro e w3 ⟨rfl, hb3⟩
        have HR3 := Lib.hid (HR2.out.later hb3)
        have HG3 := Lib.hid (grown_trans HG2.out (below_grown hb3))
        clear hb3
        go_wp2_with fail
        refine (HW3.out _ HR3.out).mono ?_
        rintro e w4 ⟨rfl, hr4, hg4⟩
        have HR4 := Lib.hid hr4
        have HG4 := Lib.hid (grown_trans HG3.out hg4)
        clear hr4 hg4
        go_wp2_with fail
        go_step3
        refine ⟨rfl, _, _, _, _, _, _, _, _, _, _, _, _, k1 + q, rfl, HQ.out, HR4, HG4, HT⟩
      · have e1 : ((d.toNat : Int) != 45) = true := by
          have : d.toNat ≠ 45 := fun e => h46 (UInt8.toNat_inj.1 e)
          first | (simp; done) | (simp; omega)
        have HT : Hid (k1 = k + skipL (s.data.toList.drop k)) := Lib.hid (by
          have h1 := HSK.out
          rw [if_neg (fun e => h46 (HDA.out.1 e).2)] at h1
          have h2 := HSUM.out; omega)
        clear h46
        go_wp2_with fail
        refine (HP0.out _ HR1.out).mono ?_
        rintro e w2 ⟨rfl, hb2⟩
        have HR2 := Lib.hid (HR1.out.later hb2)
        have HG2 := Lib.hid (grown_trans HG1.out (below_grown hb2))
        clear hb2
        go_wp2_with fail
        refine (HP1.out _ HR2.out).mono ?_
        rintro e w3 ⟨rfl, hb3⟩
        have HR3 := Lib.hid (HR2.out.later hb3)
        have HG3 := Lib.hid (grown_trans HG2.out (below_grown hb3))
        clear hb3
        go_wp2_with fail
        simp only [Exit.jump]
        refine bodyPost_ret (v := .tuple #[]) (by simp [results, Tryd.results48, go_sem]) rfl ⟨rfl, by rw [← HT.out]; exact HR3.out, HG3.out⟩
    · have e1 : ((c.toNat : Int) != 45) = true := by
        have : c.toNat ≠ 45 := fun e => h45 (UInt8.toNat_inj.1 e)
        first | (simp; done) | (simp; omega)
      have HT : Hid (k1 = k + skipL (s.data.toList.drop k)) := Lib.hid (by
        have h1 := HSK.out
        rw [if_neg (fun e => h45 (HDA.out.1 e).1)] at h1
        have h2 := HSUM.out; omega)
      clear h45
      go_wp2_with fail
      refine (HP0.out _ HR1.out).mono ?_
      rintro e w2 ⟨rfl, hb2⟩
      have HR2 := Lib.hid (HR1.out.later hb2)
      have HG2 := Lib.hid (grown_trans HG1.out (below_grown hb2))
      clear hb2
      go_wp2_with fail
      simp only [Exit.jump]
      refine bodyPost_ret (v := .tuple #[]) (by simp [results, Tryd.results48, go_sem]) rfl ⟨rfl, by rw [← HT.out]; exact HR2.out, HG2.out⟩
  · rintro a' w' ⟨u2, u3, u4, u5, u6, u7, u8, u9, u10, u11, u12, u13, k', rfl, hk', HR, HG, HSUM⟩
    have HK := Lib.hid hk'
    clear hk'
    go_wp2_with fail
    refine (whileW blankB 71 (fun _ _ => by kernel_rfl) blankW r s k' w' HR.out HS.out HK.out).mono ?_
    rintro e w1 ⟨rfl, hr1, hg1⟩
    obtain ⟨k1, hk1⟩ : ∃ k1, k1 = k' + runL blankB (s.data.toList.drop k') := ⟨_, rfl⟩
    rw [← hk1] at hr1
    have HK1 : Hid (k' ≤ k1 ∧ k1 ≤ s.size) := Lib.hid (by
      have := runL_le blankB (s.data.toList.drop k')
      rw [List.length_drop, bytes_list] at this
      have := HK.out
      omega)
    have HSK : Hid (k' + skipL (s.data.toList.drop k') = if dashes (s.data.toList.drop k1) then k1 + runL lineB (s.data.toList.drop k1) + skipL (s.data.toList.drop (k1 + runL lineB (s.data.toList.drop k1))) else k1) := Lib.hid (by
      rw [skip_eq, List.drop_drop, ← hk1, List.drop_drop]
      split
      · omega
      · rw [hk1])
    have HR1 := Lib.hid hr1
    have HG1 := Lib.hid (grown_trans HG.out hg1)
    clear hr1 hg1 hk1
    obtain ⟨c, hc⟩ : ∃ c, c = topB (s.data.toList.drop k1) := ⟨_, rfl⟩
    obtain ⟨d, hd⟩ : ∃ d, d = topB (s.data.toList.drop (k1 + 1)) := ⟨_, rfl⟩
    have HDA : Hid (dashes (s.data.toList.drop k1) ↔ (c = 45 ∧ d = 45)) := Lib.hid (by
      unfold dashes
      rw [List.drop_drop, ← hc, ← hd])
    have HP0 : Hid (∀ W, RD r s k1 W → Calls Tryd.prog 72 #[.pointer (some ⟨r, 0, none⟩), .int .i64 0] W fun e w' => e = .returned (byte c) ∧ Below W.heap.size W w') := Lib.hid (fun W h => by rw [hc]; exact peek0 r s k1 W h HS.out HK1.out.2)
    have HP1 : Hid (∀ W, RD r s k1 W → Calls Tryd.prog 72 #[.pointer (some ⟨r, 0, none⟩), .int .i64 1] W fun e w' => e = .returned (byte d) ∧ Below W.heap.size W w') := Lib.hid (fun W h => by rw [hd]; exact peek1 r s k1 W h HS.out HK1.out.2)
    clear hc hd
    by_cases h45 : c = 45
    · subst h45
      by_cases h46 : d = 45
      · subst h46
        have hda := HDA.out.2 ⟨rfl, rfl⟩
        obtain ⟨q, hq⟩ : ∃ q, q = runL lineB (s.data.toList.drop k1) := ⟨_, rfl⟩
        have HQ2 : Hid (2 ≤ q) := Lib.hid (by rw [hq]; exact dashes_line hda)
        have HQ : Hid (k1 + q ≤ s.size) := Lib.hid (by
          have := runL_le lineB (s.data.toList.drop k1)
          rw [List.length_drop, bytes_list, ← hq] at this
          have := HK1.out
          omega)
        have HT : Hid (k1 + q + skipL (s.data.toList.drop (k1 + q)) = k + skipL (s.data.toList.drop k)) := Lib.hid (by
          have h1 := HSK.out
          rw [if_pos hda, ← hq] at h1
          have h2 := HSUM.out
          omega)
        have HW3 : Hid (∀ W, RD r s k1 W → Calls Tryd.prog 70 #[.pointer (some ⟨r, 0, none⟩), .func (.func 73) #[] #[]] W fun e w' => e = .returned (str ((s.data.toList.drop k1).take q)) ∧ RD r s (k1 + q) w' ∧ W.grownBy w' (some r)) := Lib.hid (fun W h => by
          rw [hq]; exact whileW lineB 73 (fun _ _ => by kernel_rfl) lineW r s k1 W h HS.out HK1.out.2)
        clear hq hda
        go_wp2_with fail
        refine (HP0.out _ HR1.out).mono ?_
        rintro e w2 ⟨rfl, hb2⟩
        have HR2 := Lib.hid (HR1.out.later hb2)
        have HG2 := Lib.hid (grown_trans HG1.out (below_grown hb2))
        clear hb2
        go_wp2_with fail
        refine (HP1.out _ HR2.out).mono ?_
        rintro e w3 ⟨rfl, hb3⟩
        have HR3 := Lib.hid (HR2.out.later hb3)
        have HG3 := Lib.hid (grown_trans HG2.out (below_grown hb3))
        clear hb3
        go_wp2_with fail
        refine (HW3.out _ HR3.out).mono ?_
        rintro e w4 ⟨rfl, hr4, hg4⟩
        have HR4 := Lib.hid hr4
        have HG4 := Lib.hid (grown_trans HG3.out hg4)
        clear hr4 hg4
        go_wp2_with fail
        go_step3
        refine ⟨rfl, ⟨_, _, _, _, _, _, _, _, _, _, _, _, k1 + q, rfl, HQ.out, HR4, HG4, HT⟩, ?_⟩
        have h2 := HQ.out
        have h3 := HQ2.out
        have h4 := HK1.out
        rw [leftR_at HR4.out, leftR_at HR.out]
        omega
      · have e1 : ((d.toNat : Int) != 45) = true := by
          have : d.toNat ≠ 45 := fun e => h46 (UInt8.toNat_inj.1 e)
          first | (simp; done) | (simp; omega)
        have HT : Hid (k1 = k + skipL (s.data.toList.drop k)) := Lib.hid (by
          have h1 := HSK.out
          rw [if_neg (fun e => h46 (HDA.out.1 e).2)] at h1
          have h2 := HSUM.out; omega)
        clear h46
        go_wp2_with fail
        refine (HP0.out _ HR1.out).mono ?_
        rintro e w2 ⟨rfl, hb2⟩
        have HR2 := Lib.hid (HR1.out.later hb2)
        have HG2 := Lib.hid (grown_trans HG1.out (below_grown hb2))
        clear hb2
        go_wp2_with fail
        refine (HP1.out _ HR2.out).mono ?_
        rintro e w3 ⟨rfl, hb3⟩
        have HR3 := Lib.hid (HR2.out.later hb3)
        have HG3 := Lib.hid (grown_trans HG2.out (below_grown hb3))
        clear hb3
        go_wp2_with fail
        simp only [Exit.jump]
        refine bodyPost_ret (v := .tuple #[]) (by simp [results, Tryd.results48, go_sem]) rfl ⟨rfl, by rw [← HT.out]; exact HR3.out, HG3.out⟩
    · have e1 : ((c.toNat : Int) != 45) = true := by
        have : c.toNat ≠ 45 := fun e => h45 (UInt8.toNat_inj.1 e)
        first | (simp; done) | (simp; omega)
      have HT : Hid (k1 = k + skipL (s.data.toList.drop k)) := Lib.hid (by
        have h1 := HSK.out
        rw [if_neg (fun e => h45 (HDA.out.1 e).1)] at h1
        have h2 := HSUM.out; omega)
      clear h45
      go_wp2_with fail
      refine (HP0.out _ HR1.out).mono ?_
      rintro e w2 ⟨rfl, hb2⟩
      have HR2 := Lib.hid (HR1.out.later hb2)
      have HG2 := Lib.hid (grown_trans HG1.out (below_grown hb2))
      clear hb2
      go_wp2_with fail
      simp only [Exit.jump]
      refine bodyPost_ret (v := .tuple #[]) (by simp [results, Tryd.results48, go_sem]) rfl ⟨rfl, by rw [← HT.out]; exact HR2.out, HG2.out⟩
end Go.Proofs.YtghfaeapgghhlaaDoor.Dt
