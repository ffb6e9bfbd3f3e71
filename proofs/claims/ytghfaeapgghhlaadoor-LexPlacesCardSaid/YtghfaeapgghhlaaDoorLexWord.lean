/-
  The walk of the reader's word: a word of the language, or a name.
-/
import Derived.Test.YtghfaeapgghhlaaDoorLexTok
namespace Go.Proofs.YtghfaeapgghhlaaDoor.Dt
open Go.RowKit Go.Proofs.YtghfaeapgghhlaaDoor.By

theorem wrap_k (k : Nat) (h : k ≤ 1000000) : wrap64 (k : Int) = (k : Int) := by unfold wrap64; omega
set_option maxRecDepth 100000 in
set_option maxHeartbeats 8000000 in
theorem wordW (w0 : World) (r : Nat) (s : ByteArray) (k : Nat) (w : World) (hx : Env w0 r w) (h : RD r s k w) (hs : s.size ≤ 1000000) (hk : k ≤ s.size) :
    Calls Tryd.prog 78 #[.pointer (some ⟨r, 0, none⟩)] w fun e w' => e = .returned (outV (wordOne (s.data.toList.drop k))) ∧ RD r s (k + lenO (wordOne (s.data.toList.drop k))) w' ∧ w.grownBy w' (some r) := by
  obtain ⟨l, hl⟩ : ∃ l, l = s.data.toList.drop k := ⟨_, rfl⟩
  have hll : l.length = s.size - k := by rw [hl, List.length_drop, bytes_list]
  have hne : w.heap.size ≠ r := by have := h.lt; omega
  have HP0 : Hid (∀ W, RD r s k W → Calls Tryd.prog 72 #[.pointer (some ⟨r, 0, none⟩), .int .i64 0] W fun e w' => e = .returned (byte (topB l)) ∧ Below W.heap.size W w') := Lib.hid (fun W h => by rw [hl]; exact peek0 r s k W h hs hk)
  have HWW : Hid (∀ W, RD r s k W → Calls Tryd.prog 70 #[.pointer (some ⟨r, 0, none⟩), .func (.func 50) #[] #[]] W fun e w' => e = .returned (str (l.take (runL wordB l))) ∧ RD r s (k + runL wordB l) w' ∧ W.grownBy w' (some r)) := Lib.hid (fun W h => by rw [hl]; exact whileW wordB 50 (fun _ _ => by kernel_rfl) inWordW r s k W h hs hk)
  have HWN : Hid (∀ W, RD r s k W → Calls Tryd.prog 70 #[.pointer (some ⟨r, 0, none⟩), .func (.func 108) #[] #[]] W fun e w' => e = .returned (str (l.take (runL nameB l))) ∧ RD r s (k + runL nameB l) w' ∧ W.grownBy w' (some r)) := Lib.hid (fun W h => by rw [hl]; exact whileW nameB 108 (fun _ _ => by kernel_rfl) nameW r s k W h hs hk)
  have HPN : Hid (∀ W, RD r s (k + runL nameB l) W → Calls Tryd.prog 72 #[.pointer (some ⟨r, 0, none⟩), .int .i64 0] W fun e w' => e = .returned (byte (topB (l.drop (runL nameB l)))) ∧ Below W.heap.size W w') := Lib.hid (fun W h => by
    have h1 := runL_le nameB l
    have h2 := peek0 r s (k + runL nameB l) W h hs (by omega)
    rw [← List.drop_drop, ← hl] at h2
    exact h2)
  rw [← hl]
  have HL := Lib.hid hll
  have HNE := Lib.hid hne
  have HX := Lib.hid hx
  have HS := Lib.hid hs
  have HK := Lib.hid hk
  have HG0 : Hid (w.grownBy (w.alloc (.cells #[.int .u8 0, .string ⟨#[]⟩, .int .u64 0, .int .i64 0] 48)) (some r)) := Lib.hid (below_grown ((Below.refl _ _).alloc (Nat.le_refl _) _))
  have HR0 : Hid (RD r s k (w.alloc (.cells #[.int .u8 0, .string ⟨#[]⟩, .int .u64 0, .int .i64 0] 48))) := Lib.hid (h.later ((Below.refl _ _).alloc (Nat.le_refl _) _))
  have HB0 : Hid (TBox w.heap.size (w.alloc (.cells #[.int .u8 0, .string ⟨#[]⟩, .int .u64 0, .int .i64 0] 48))) := Lib.hid (tBox_new _ _)
  clear hl hll hne hx h hs hk
  go_enter Tryd.func78, Tryd.ntmps78
  go_wp2_with fail
  generalize w.alloc (.cells #[.int .u8 0, .string ⟨#[]⟩, .int .u64 0, .int .i64 0] 48) = w1 at *
  refine (HP0.out _ HR0.out).mono ?_
  rintro e w2 ⟨rfl, hb2⟩
  have HR2 := Lib.hid (HR0.out.later hb2)
  have HB2 := Lib.hid (HB0.out.later hb2)
  have HG2 := Lib.hid (grown_trans HG0.out (below_grown hb2))
  clear hb2
  obtain ⟨b, hb⟩ : ∃ b, b = w.heap.size := ⟨_, rfl⟩
  rw [← hb] at HB2 HNE ⊢
  have HBE := Lib.hid (Nat.le_of_eq hb.symm)
  clear hb HB0 HR0 HG0
  by_cases hc : capB (topB l) = true
  · have HC1 : Hid (∀ W, Calls Tryd.prog 77 #[byte (topB l)] W fun e w' => e = .returned (.bool true) ∧ W = w') := Lib.hid (fun W => by have := capW (topB l) W; rwa [hc] at this)
    obtain ⟨m, hm⟩ : ∃ m, m = runL wordB l := ⟨_, rfl⟩
    obtain ⟨t, ht⟩ : ∃ t, t = l.take m := ⟨_, rfl⟩
    rw [← hm, ← ht] at HWW
    have HONE : Hid (wordOne l = if t ∈ wordsL then .tok 1 t 0 m else .bad 6 0) := Lib.hid (by unfold wordOne; rw [if_pos hc, ← hm, ← ht])
    have htl : t.length = m := by rw [ht, hm]; exact take_len_le (runL_le wordB l)
    have hmb : k + m ≤ 1000000 := by
      have h1 := runL_le wordB l
      have h2 := HL.out
      have h3 := HS.out
      have h4 := HK.out
      rw [hm]; omega
    have HTL := Lib.hid htl
    have HMB := Lib.hid hmb
    clear hm ht htl hmb hc
    go_wp2_with fail
    refine (HC1.out _).mono ?_
    rintro e w3 ⟨rfl, rfl⟩
    go_wp2_with fail
    refine (HWW.out _ HR2.out).mono ?_
    rintro e w3 ⟨rfl, hr3, hg3⟩
    have HR3 := Lib.hid hr3
    have HB3 := Lib.hid (HB2.out.grown hg3 HNE.out)
    have HG3 := Lib.hid (grown_trans HG2.out hg3)
    clear hr3 hg3
    go_wp2_with fail
    refine (wordsW w3 (HX.out.grown HG3.out).lx).mono ?_
    rintro e w4 ⟨A, rfl, ha, hb4⟩
    have HA := Lib.hid ha
    have HR4 := Lib.hid (HR3.out.later hb4)
    have HB4 := Lib.hid (HB3.out.later hb4)
    have HG4 := Lib.hid (grown_trans HG3.out (below_grown hb4))
    clear ha hb4
    by_cases hmem : t ∈ wordsL
    · have HF : Hid (∀ W, StrsAt A wordsL W → Calls Tryd.prog 107 #[.slice (some ⟨A, 0, none⟩) 43 43, .string ⟨t.toArray⟩] W fun e w' => ∃ I : Int, e = .returned (.tuple #[.int .i64 I, .bool true]) ∧ Below W.heap.size W w') := Lib.hid (fun W h => by
        have := findW A ⟨t.toArray⟩ W h
        rwa [show decide ((⟨t.toArray⟩ : ByteArray).data.toList ∈ wordsL) = true from decide_eq_true hmem] at this)
      have HONE : Hid (wordOne l = .tok 1 t 0 m) := Lib.hid (by rw [HONE.out, if_pos hmem])
      clear hmem
      go_wp2_with fail
      refine (HF.out _ HA.out).mono ?_
      rintro e w5 ⟨I, rfl, hb5⟩
      have HR5 := Lib.hid (HR4.out.later hb5)
      have HB5 := Lib.hid (HB4.out.later hb5)
      have HG5 := Lib.hid (grown_trans HG4.out (below_grown hb5))
      clear hb5
      obtain ⟨c0, c1, c2, c3, f0, f1, f2, f3⟩ := HB5.out
      go_wp2_with fail
      obtain ⟨q0, q1, q2, q3⟩ := filled4 w5 b (.int .u8 1) (.string ⟨t.toArray⟩) (.int .u64 0) (.int .i64 0) HB5.out _ rfl
      rw [HONE.out]
      refine bodyPost_ret (v := .tuple #[Tk.val ⟨1, ⟨t.toArray⟩, 0, 0⟩, .int .i64 0]) (by simp [results, Tryd.results78, go_sem, q0, q1, q2, q3, Tk.val]) rfl ⟨rfl, HR5.out.box _ _ _ _ HNE.out, grown_box HG5.out _ _ _ _ HBE.out⟩
    · have HF : Hid (∀ W, StrsAt A wordsL W → Calls Tryd.prog 107 #[.slice (some ⟨A, 0, none⟩) 43 43, .string ⟨t.toArray⟩] W fun e w' => ∃ I : Int, e = .returned (.tuple #[.int .i64 I, .bool false]) ∧ Below W.heap.size W w') := Lib.hid (fun W h => by
        have := findW A ⟨t.toArray⟩ W h
        rwa [show decide ((⟨t.toArray⟩ : ByteArray).data.toList ∈ wordsL) = false from decide_eq_false hmem] at this)
      have HONE : Hid (wordOne l = .bad 6 0) := Lib.hid (by rw [HONE.out, if_neg hmem])
      clear hmem
      go_wp2_with fail
      refine (HF.out _ HA.out).mono ?_
      rintro e w5 ⟨I, rfl, hb5⟩
      have HR5 := Lib.hid (HR4.out.later hb5)
      have HB5 := Lib.hid (HB4.out.later hb5)
      have HG5 := Lib.hid (grown_trans HG4.out (below_grown hb5))
      clear hb5
      obtain ⟨c0, c1, c2, c3, f0, f1, f2, f3⟩ := HB5.out
      obtain ⟨d0, d1, g1⟩ := HR5.out
      have hz : (⟨t.toArray⟩ : ByteArray).size = m := HTL.out
      have hbk := wrap_k k (by have := HMB.out; omega)
      go_upto_region 6 with fail
      have HR6 := Lib.hid (HR5.out.set k)
      have HB6 := Lib.hid (HB5.out.else (r := r) (i := 1) (u := .int .i64 (k : Int)) HNE.out)
      have HG6 := Lib.hid (grown_trans HG5.out (grown_set w5 r 1 (.int .i64 (k : Int))))
      clear c0 c1 c2 c3 f0 f1 f2 f3 d0 d1 g1 hz hbk
      generalize w5.setCell ⟨r, 1, none⟩ (.int .i64 (k : Int)) = w6 at *
      obtain ⟨c0, c1, c2, c3, f0, f1, f2, f3⟩ := HB6.out
      go_wp2_with fail
      obtain ⟨q0, q1, q2, q3⟩ := filled4 w6 b (.int .u8 0) (.string ⟨#[]⟩) (.int .u64 0) (.int .i64 0) HB6.out _ rfl
      rw [HONE.out]
      refine bodyPost_ret (v := .tuple #[T0.val, .int .i64 6]) (by simp [results, Tryd.results78, go_sem, q0, q1, q2, q3, Tk.val, T0]; try rfl) rfl ⟨rfl, HR6.out.box _ _ _ _ HNE.out, grown_box HG6.out _ _ _ _ HBE.out⟩
  · have HC1 : Hid (∀ W, Calls Tryd.prog 77 #[byte (topB l)] W fun e w' => e = .returned (.bool false) ∧ W = w') := Lib.hid (fun W => by have := capW (topB l) W; rwa [show capB (topB l) = false by simpa using hc] at this)
    obtain ⟨m, hm⟩ : ∃ m, m = runL nameB l := ⟨_, rfl⟩
    obtain ⟨t, ht⟩ : ∃ t, t = l.take m := ⟨_, rfl⟩
    obtain ⟨c, hcc⟩ : ∃ c, c = topB (l.drop m) := ⟨_, rfl⟩
    rw [← hm, ← ht] at HWN
    rw [← hm, ← hcc] at HPN
    have HONE : Hid (wordOne l = if capB c then .bad 6 m else if 32 < m then .bad 3 0 else .tok 2 t 0 m) := Lib.hid (by unfold wordOne; rw [if_neg hc, ← hm, ← ht, ← hcc])
    have htl : t.length = m := by rw [ht, hm]; exact take_len_le (runL_le nameB l)
    have hmb : k + m ≤ 1000000 := by
      have h1 := runL_le nameB l
      have h2 := HL.out
      have h3 := HS.out
      have h4 := HK.out
      rw [hm]; omega
    have HTL := Lib.hid htl
    have HMB := Lib.hid hmb
    clear hm ht htl hmb hc hcc
    go_wp2_with fail
    refine (HC1.out _).mono ?_
    rintro e w3 ⟨rfl, rfl⟩
    go_wp2_with fail
    refine (HWN.out _ HR2.out).mono ?_
    rintro e w3 ⟨rfl, hr3, hg3⟩
    have HR3 := Lib.hid hr3
    have HB3 := Lib.hid (HB2.out.grown hg3 HNE.out)
    have HG3 := Lib.hid (grown_trans HG2.out hg3)
    clear hr3 hg3
    go_wp2_with fail
    refine (HPN.out _ HR3.out).mono ?_
    rintro e w4 ⟨rfl, hb4⟩
    have HR4 := Lib.hid (HR3.out.later hb4)
    have HB4 := Lib.hid (HB3.out.later hb4)
    have HG4 := Lib.hid (grown_trans HG3.out (below_grown hb4))
    clear hb4
    have HC2 := Lib.hid (capW c)
    obtain ⟨c0, c1, c2, c3, f0, f1, f2, f3⟩ := HB4.out
    cases hcp : capB c with
    | true =>
      rw [hcp] at HC2 HONE
      have HONE : Hid (wordOne l = .bad 6 m) := Lib.hid (by rw [HONE.out, if_pos rfl])
      clear hcp
      go_wp2_with fail
      refine (HC2.out _).mono ?_
      rintro e w5 ⟨rfl, rfl⟩
      go_wp2_with fail
      obtain ⟨q0, q1, q2, q3⟩ := filled4 w4 b (.int .u8 0) (.string ⟨#[]⟩) (.int .u64 0) (.int .i64 0) HB4.out _ rfl
      rw [HONE.out]
      refine bodyPost_ret (v := .tuple #[T0.val, .int .i64 6]) (by simp [results, Tryd.results78, go_sem, q0, q1, q2, q3, Tk.val, T0]; try rfl) rfl ⟨rfl, HR4.out.box _ _ _ _ HNE.out, grown_box HG4.out _ _ _ _ HBE.out⟩
    | false =>
      rw [hcp] at HC2 HONE
      have hz : (⟨t.toArray⟩ : ByteArray).size = m := HTL.out
      clear hcp
      by_cases h32 : 32 < m
      · have HONE : Hid (wordOne l = .bad 3 0) := Lib.hid (by rw [HONE.out, if_neg (by decide), if_pos h32])
        have i1 : (32 : Int) < (m : Int) := by omega
        have HR5 := HR4
        have HB5 := HB4
        have HG5 := HG4
        clear c0 c1 c2 c3 f0 f1 f2 f3 h32
        go_wp2_with fail
        refine (HC2.out _).mono ?_
        rintro e w5 ⟨rfl, rfl⟩
        obtain ⟨d0, d1, g1⟩ := HR5.out
        have c0 : True := trivial
        have c1 : True := trivial
        have c2 : True := trivial
        have c3 : True := trivial
        have f0 : True := trivial
        have f1 : True := trivial
        have f2 : True := trivial
        have f3 : True := trivial
        have hbk := wrap_k k (by have := HMB.out; omega)
        go_upto_region 13 with fail
        have HR6 := Lib.hid (HR5.out.set k)
        have HB6 := Lib.hid (HB5.out.else (r := r) (i := 1) (u := .int .i64 (k : Int)) HNE.out)
        have HG6 := Lib.hid (grown_trans HG5.out (grown_set w4 r 1 (.int .i64 (k : Int))))
        clear c0 c1 c2 c3 f0 f1 f2 f3 d0 d1 g1 hz hbk
        generalize w4.setCell ⟨r, 1, none⟩ (.int .i64 (k : Int)) = w6 at *
        obtain ⟨c0, c1, c2, c3, f0, f1, f2, f3⟩ := HB6.out
        go_wp2_with fail
        obtain ⟨q0, q1, q2, q3⟩ := filled4 w6 b (.int .u8 0) (.string ⟨#[]⟩) (.int .u64 0) (.int .i64 0) HB6.out _ rfl
        rw [HONE.out]
        refine bodyPost_ret (v := .tuple #[T0.val, .int .i64 3]) (by simp [results, Tryd.results78, go_sem, q0, q1, q2, q3, Tk.val, T0]; try rfl) rfl ⟨rfl, HR6.out.box _ _ _ _ HNE.out, grown_box HG6.out _ _ _ _ HBE.out⟩
      · have HONE : Hid (wordOne l = .tok 2 t 0 m) := Lib.hid (by rw [HONE.out, if_neg (by decide), if_neg h32])
        have i1 : ¬ (32 : Int) < (m : Int) := by omega
        clear h32
        go_wp2_with fail
        refine (HC2.out _).mono ?_
        rintro e w5 ⟨rfl, rfl⟩
        go_wp2_with fail
        obtain ⟨q0, q1, q2, q3⟩ := filled4 w4 b (.int .u8 2) (.string ⟨t.toArray⟩) (.int .u64 0) (.int .i64 0) HB4.out _ rfl
        rw [HONE.out]
        refine bodyPost_ret (v := .tuple #[Tk.val ⟨2, ⟨t.toArray⟩, 0, 0⟩, .int .i64 0]) (by simp [results, Tryd.results78, go_sem, q0, q1, q2, q3, Tk.val]) rfl ⟨rfl, HR4.out.box _ _ _ _ HNE.out, grown_box HG4.out _ _ _ _ HBE.out⟩
end Go.Proofs.YtghfaeapgghhlaaDoor.Dt
