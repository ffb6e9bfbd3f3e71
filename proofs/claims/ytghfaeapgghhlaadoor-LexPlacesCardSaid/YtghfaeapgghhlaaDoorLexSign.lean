/-
  The walk of the reader's sign.
-/
import Derived.Test.YtghfaeapgghhlaaDoorLexQ
namespace Go.Proofs.YtghfaeapgghhlaaDoor.Dt
open Go.RowKit Go.Proofs.YtghfaeapgghhlaaDoor.By

theorem signs_at : ∀ k : Fin 256, (Lib.indexByte [40, 41, 44, 46, 42, 43, 45, 47, 37, 61, 60, 62, 59] (UInt8.ofNat k.val) < 0 ↔ UInt8.ofNat k.val ∉ signsL) := by decide +kernel
def signI (c : UInt8) : Int := Lib.indexByte [40, 41, 44, 46, 42, 43, 45, 47, 37, 61, 60, 62, 59] c
theorem signI_neg (c : UInt8) : signI c < 0 ↔ c ∉ signsL := by
  have h2 := signs_at ⟨c.toNat, c.toNat_lt⟩
  simp only [UInt8.ofNat_toNat] at h2
  exact h2
theorem signByte (c : UInt8) (w : World) : Calls Tryd.prog 61 #[.string ⟨#[40, 41, 44, 46, 42, 43, 45, 47, 37, 61, 60, 62, 59]⟩, byte c] w fun e w' => e = .returned (.int .i64 (signI c)) ∧ w = w' := by
  refine (Tryd.strings_IndexByte _ _ w).mono fun e w' h => ?_
  obtain ⟨rfl, rfl⟩ := h
  have e : ((c.toNat : Int)).toNat.toUInt8 = c := by simp
  rw [e]
  exact ⟨rfl, rfl⟩
set_option maxRecDepth 100000 in
set_option maxHeartbeats 8000000 in
theorem signW (r : Nat) (s : ByteArray) (k : Nat) (w : World) (h : RD r s k w) (hs : s.size ≤ 1000000) (hk : k < s.size) :
    Calls Tryd.prog 74 #[.pointer (some ⟨r, 0, none⟩)] w fun e w' => e = .returned (outV (signOne (s.data.toList.drop k))) ∧ RD r s (k + lenO (signOne (s.data.toList.drop k))) w' ∧ w.grownBy w' (some r) := by
  obtain ⟨l, hl⟩ : ∃ l, l = s.data.toList.drop k := ⟨_, rfl⟩
  have hll : l.length = s.size - k := by rw [hl, List.length_drop, bytes_list]
  have hne : w.heap.size ≠ r := by have := h.lt; omega
  obtain ⟨t, ht⟩ : ∃ t, t = l.take 2 := ⟨_, rfl⟩
  obtain ⟨m, hm⟩ : ∃ m, m = t.length := ⟨_, rfl⟩
  have hm2 : m = min 2 (s.size - k) := by rw [hm, ht, List.length_take, hll]
  have hcut : (.string (s.extract k (k + m)) : Value) = str t := by
    have h1 : l.take m = l.take 2 := by rw [List.take_eq_take_iff, hm2]; omega
    rw [cut_list, ← hl, h1, ht]
  have hone : (.string (s.extract k (k + 1)) : Value) = str (l.take 1) := by rw [cut_list, ← hl]
  have htop : topB l = s[k] := by rw [hl]; exact bytes_get s k hk
  have HONE : Hid (signOne l = if t ∈ twosL then .tok 6 t 0 2 else if s[k] ∈ signsL then .tok 6 (l.take 1) 0 1 else .bad 6 0) := Lib.hid (by unfold signOne; rw [← ht, htop])
  rw [← hl]
  have hw2 := wrapI ((k : Int) + 2) (by omega) (by omega)
  have hw1 := wrapI ((k : Int) + 1) (by omega) (by omega)
  have hw0 := wrapI (k : Int) (by omega) (by omega)
  have hw3 := wrapK ((k : Int) + 2) (by omega) (by omega)
  have hw4 := wrapK (k : Int) (by omega) (by omega)
  have HW4 := Lib.hid hw4
  have HW2 := Lib.hid hw2
  have HW1 := Lib.hid hw1
  have HW0 := Lib.hid hw0
  have HW3 := Lib.hid hw3
  clear hw2 hw1 hw0 hw3 hw4
  have hmi : min ((k : Int) + 2) (s.size : Int) = (k : Int) + (m : Int) := by omega
  have j0 : (0 : Int) ≤ (k : Int) := by omega
  have j1 : (k : Int) ≤ (k : Int) + (m : Int) := by omega
  have j2 : (k : Int) + (m : Int) ≤ (s.size : Int) := by omega
  have j3 : (k : Int) < (s.size : Int) := by omega
  have j4 : (k : Int) + 1 ≤ (s.size : Int) := by omega
  have HM2 : Hid (t ∈ twosL → m = 2) := Lib.hid (fun hx => by
    rw [hm]
    simp only [twosL, List.mem_cons, List.not_mem_nil, or_false] at hx
    rcases hx with rfl | rfl | rfl | rfl <;> rfl)
  have HNE := Lib.hid hne
  have HC := Lib.hid hcut
  have HO := Lib.hid hone
  have HMI := Lib.hid hmi
  have HG0 : Hid (w.grownBy (w.alloc (.cells #[.int .u8 0, .string ⟨#[]⟩, .int .u64 0, .int .i64 0] 48)) (some r)) := Lib.hid (below_grown ((Below.refl _ _).alloc (Nat.le_refl _) _))
  have HR0 : Hid (RD r s k (w.alloc (.cells #[.int .u8 0, .string ⟨#[]⟩, .int .u64 0, .int .i64 0] 48))) := Lib.hid (h.later ((Below.refl _ _).alloc (Nat.le_refl _) _))
  have HB0 : Hid (TBox w.heap.size (w.alloc (.cells #[.int .u8 0, .string ⟨#[]⟩, .int .u64 0, .int .i64 0] 48))) := Lib.hid (tBox_new _ _)
  clear hl hll hne h hs hm hm2 ht hcut hone htop hmi
  go_enter Tryd.func74, Tryd.ntmps74
  go_upto_region 1 with fail
  generalize w.alloc (.cells #[.int .u8 0, .string ⟨#[]⟩, .int .u64 0, .int .i64 0] 48) = w1 at *
  obtain ⟨b, hb⟩ : ∃ b, b = w.heap.size := ⟨_, rfl⟩
  rw [← hb] at HB0 HNE ⊢
  have HBE := Lib.hid (Nat.le_of_eq hb.symm)
  clear hb
  go_cut [4] (fun v wx => v = str t ∧ Hid (Below w1.heap.size w1 wx))
  case first =>
    have hmi := HMI.out
    have hw3 := HW3.out
    obtain ⟨d0, d1, g1⟩ := HR0.out
    go_quiet (fail)
    go_wp2_with fail
    go_meet
    exact ⟨HC.out, Lib.hid (drewN_below (Below.refl _ _) _)⟩
  case rest =>
    rename World => w2
    obtain ⟨rfl, HBW⟩ := hcut
    have HR2 := Lib.hid (HR0.out.later HBW.out)
    have HB2 := Lib.hid (HB0.out.later HBW.out)
    have HG2 := Lib.hid (grown_trans HG0.out (below_grown HBW.out))
    clear HR0 HB0 HG0 HBW
    by_cases hx : t ∈ twosL
    · have hy := hx
      simp only [twosL, List.mem_cons, List.not_mem_nil, or_false] at hy
      rcases hy with rfl | rfl | rfl | rfl
      · have HONE : Hid (signOne l = .tok 6 [60, 62] 0 2) := Lib.hid (by rw [HONE.out, if_pos (by decide)])
        have hw2 := HW2.out
        obtain ⟨d0, d1, g1⟩ := HR2.out
        clear hx HM2
        go_upto_region 8 with fail
        have e1 : ((k + 2 : Nat) : Int) = (k : Int) + 2 := by omega
        have HR6 := Lib.hid (HR2.out.set (k + 2))
        have HB6 := Lib.hid (HB2.out.else (r := r) (i := 1) (u := .int .i64 ((k + 2 : Nat) : Int)) HNE.out)
        have HG6 := Lib.hid (grown_trans HG2.out (grown_set w2 r 1 (.int .i64 ((k + 2 : Nat) : Int))))
        rw [e1] at HR6 HB6 HG6
        clear d0 d1 g1 hw2 e1
        generalize w2.setCell ⟨r, 1, none⟩ (.int .i64 ((k : Int) + 2)) = w6 at *
        obtain ⟨c0, c1, c2, c3, f0, f1, f2, f3⟩ := HB6.out
        go_wp2_with fail
        obtain ⟨q0, q1, q2, q3⟩ := filled4 w6 b (.int .u8 6) (.string ⟨#[60, 62]⟩) (.int .u64 0) (.int .i64 0) HB6.out _ rfl
        rw [HONE.out]
        refine bodyPost_ret (v := .tuple #[Tk.val ⟨6, ⟨([60, 62] : List UInt8).toArray⟩, 0, 0⟩, .int .i64 0]) (by simp [results, Tryd.results74, go_sem, q0, q1, q2, q3, Tk.val]) rfl ⟨rfl, HR6.out.box _ _ _ _ HNE.out, grown_box HG6.out _ _ _ _ HBE.out⟩
      · have HONE : Hid (signOne l = .tok 6 [60, 61] 0 2) := Lib.hid (by rw [HONE.out, if_pos (by decide)])
        have hw2 := HW2.out
        obtain ⟨d0, d1, g1⟩ := HR2.out
        clear hx HM2
        go_upto_region 8 with fail
        have e1 : ((k + 2 : Nat) : Int) = (k : Int) + 2 := by omega
        have HR6 := Lib.hid (HR2.out.set (k + 2))
        have HB6 := Lib.hid (HB2.out.else (r := r) (i := 1) (u := .int .i64 ((k + 2 : Nat) : Int)) HNE.out)
        have HG6 := Lib.hid (grown_trans HG2.out (grown_set w2 r 1 (.int .i64 ((k + 2 : Nat) : Int))))
        rw [e1] at HR6 HB6 HG6
        clear d0 d1 g1 hw2 e1
        generalize w2.setCell ⟨r, 1, none⟩ (.int .i64 ((k : Int) + 2)) = w6 at *
        obtain ⟨c0, c1, c2, c3, f0, f1, f2, f3⟩ := HB6.out
        go_wp2_with fail
        obtain ⟨q0, q1, q2, q3⟩ := filled4 w6 b (.int .u8 6) (.string ⟨#[60, 61]⟩) (.int .u64 0) (.int .i64 0) HB6.out _ rfl
        rw [HONE.out]
        refine bodyPost_ret (v := .tuple #[Tk.val ⟨6, ⟨([60, 61] : List UInt8).toArray⟩, 0, 0⟩, .int .i64 0]) (by simp [results, Tryd.results74, go_sem, q0, q1, q2, q3, Tk.val]) rfl ⟨rfl, HR6.out.box _ _ _ _ HNE.out, grown_box HG6.out _ _ _ _ HBE.out⟩
      · have HONE : Hid (signOne l = .tok 6 [62, 61] 0 2) := Lib.hid (by rw [HONE.out, if_pos (by decide)])
        have hw2 := HW2.out
        obtain ⟨d0, d1, g1⟩ := HR2.out
        clear hx HM2
        go_upto_region 8 with fail
        have e1 : ((k + 2 : Nat) : Int) = (k : Int) + 2 := by omega
        have HR6 := Lib.hid (HR2.out.set (k + 2))
        have HB6 := Lib.hid (HB2.out.else (r := r) (i := 1) (u := .int .i64 ((k + 2 : Nat) : Int)) HNE.out)
        have HG6 := Lib.hid (grown_trans HG2.out (grown_set w2 r 1 (.int .i64 ((k + 2 : Nat) : Int))))
        rw [e1] at HR6 HB6 HG6
        clear d0 d1 g1 hw2 e1
        generalize w2.setCell ⟨r, 1, none⟩ (.int .i64 ((k : Int) + 2)) = w6 at *
        obtain ⟨c0, c1, c2, c3, f0, f1, f2, f3⟩ := HB6.out
        go_wp2_with fail
        obtain ⟨q0, q1, q2, q3⟩ := filled4 w6 b (.int .u8 6) (.string ⟨#[62, 61]⟩) (.int .u64 0) (.int .i64 0) HB6.out _ rfl
        rw [HONE.out]
        refine bodyPost_ret (v := .tuple #[Tk.val ⟨6, ⟨([62, 61] : List UInt8).toArray⟩, 0, 0⟩, .int .i64 0]) (by simp [results, Tryd.results74, go_sem, q0, q1, q2, q3, Tk.val]) rfl ⟨rfl, HR6.out.box _ _ _ _ HNE.out, grown_box HG6.out _ _ _ _ HBE.out⟩
      · have HONE : Hid (signOne l = .tok 6 [124, 124] 0 2) := Lib.hid (by rw [HONE.out, if_pos (by decide)])
        have hw2 := HW2.out
        obtain ⟨d0, d1, g1⟩ := HR2.out
        clear hx HM2
        go_upto_region 8 with fail
        have e1 : ((k + 2 : Nat) : Int) = (k : Int) + 2 := by omega
        have HR6 := Lib.hid (HR2.out.set (k + 2))
        have HB6 := Lib.hid (HB2.out.else (r := r) (i := 1) (u := .int .i64 ((k + 2 : Nat) : Int)) HNE.out)
        have HG6 := Lib.hid (grown_trans HG2.out (grown_set w2 r 1 (.int .i64 ((k + 2 : Nat) : Int))))
        rw [e1] at HR6 HB6 HG6
        clear d0 d1 g1 hw2 e1
        generalize w2.setCell ⟨r, 1, none⟩ (.int .i64 ((k : Int) + 2)) = w6 at *
        obtain ⟨c0, c1, c2, c3, f0, f1, f2, f3⟩ := HB6.out
        go_wp2_with fail
        obtain ⟨q0, q1, q2, q3⟩ := filled4 w6 b (.int .u8 6) (.string ⟨#[124, 124]⟩) (.int .u64 0) (.int .i64 0) HB6.out _ rfl
        rw [HONE.out]
        refine bodyPost_ret (v := .tuple #[Tk.val ⟨6, ⟨([124, 124] : List UInt8).toArray⟩, 0, 0⟩, .int .i64 0]) (by simp [results, Tryd.results74, go_sem, q0, q1, q2, q3, Tk.val]) rfl ⟨rfl, HR6.out.box _ _ _ _ HNE.out, grown_box HG6.out _ _ _ _ HBE.out⟩
    · have n1 : (t == [60, 62]) = false := by rw [beq_eq_false_iff_ne]; rintro rfl; exact hx (by decide)
      have n2 : (t == [60, 61]) = false := by rw [beq_eq_false_iff_ne]; rintro rfl; exact hx (by decide)
      have n3 : (t == [62, 61]) = false := by rw [beq_eq_false_iff_ne]; rintro rfl; exact hx (by decide)
      have n4 : (t == [124, 124]) = false := by rw [beq_eq_false_iff_ne]; rintro rfl; exact hx (by decide)
      have HONE : Hid (signOne l = if s[k] ∈ signsL then .tok 6 (l.take 1) 0 1 else .bad 6 0) := Lib.hid (by rw [HONE.out, if_neg hx])
      have HSB := Lib.hid (signByte s[k])
      clear hx HM2 HC HMI
      go_upto_region 9 with fail
      clear n1 n2 n3 n4
      obtain ⟨I, hI⟩ : ∃ I, I = signI s[k] := ⟨_, rfl⟩
      have HI : Hid (I < 0 ↔ s[k] ∉ signsL) := Lib.hid (by rw [hI]; exact signI_neg _)
      rw [← hI] at HSB
      clear hI
      go_cut [50] (fun v wx => v = .bool (decide (I < 0)) ∧ Hid (Below w2.heap.size w2 wx))
      case first =>
        obtain ⟨d0, d1, g1⟩ := HR2.out
        have l0 := lat_cell d0
        have l1 := lat_cell d1
        refine wp_region_later (by kernel_rfl) (by kernel_rfl) ?_
        repeat (go_big_quiet_step ((go_at_call 61; exact lat_calls_same (HSB.out _))))
        refine wpQuiet_nil ?_
        refine later_out (fun w3 hb3 => ?_)
        have HB3 := Lib.hid hb3
        clear l0 l1 d0 d1 g1 hb3
        go_wp2_with fail
        go_meet
        exact ⟨rfl, HB3⟩
      case rest =>
        rename World => w3
        obtain ⟨rfl, HBW⟩ := hcut
        have HR3 := Lib.hid (HR2.out.later HBW.out)
        have HB3 := Lib.hid (HB2.out.later HBW.out)
        have HG3 := Lib.hid (grown_trans HG2.out (below_grown HBW.out))
        clear HR2 HB2 HG2 HBW HSB
        by_cases hm : s[k] ∈ signsL
        · have HONE : Hid (signOne l = .tok 6 (l.take 1) 0 1) := Lib.hid (by rw [HONE.out, if_pos hm])
          have hi : decide (I < 0) = false := decide_eq_false (fun h => HI.out.1 h hm)
          rw [hi]
          obtain ⟨d0, d1, g1⟩ := HR3.out
          have hw1 := HW1.out
          clear hm hi
          go_upto_region 12 with fail
          have e1 : ((k + 1 : Nat) : Int) = (k : Int) + 1 := by omega
          have HR6 := Lib.hid (HR3.out.set (k + 1))
          have HB6 := Lib.hid (HB3.out.else (r := r) (i := 1) (u := .int .i64 ((k + 1 : Nat) : Int)) HNE.out)
          have HG6 := Lib.hid (grown_trans HG3.out (grown_set w3 r 1 (.int .i64 ((k + 1 : Nat) : Int))))
          rw [e1] at HR6 HB6 HG6
          clear d0 d1 g1 hw1
          generalize w3.setCell ⟨r, 1, none⟩ (.int .i64 ((k : Int) + 1)) = w6 at *
          obtain ⟨d0, d1, g1⟩ := HR6.out
          rw [e1] at d1
          have l0 := lat_cell d0
          have l1 := lat_cell d1
          have hw0 := HW0.out
          have hw4 := HW4.out
          refine wp_region_later_tail 15 (by kernel_rfl) (by kernel_rfl) ?_
          simp only [List.take_succ_cons, List.take_zero, List.drop_succ_cons, List.drop_zero]
          repeat (go_big_quiet_step (fail))
          refine wpQuiet_nil ?_
          refine later_out (fun w7 hb7 => ?_)
          have HR7 := Lib.hid (HR6.out.later hb7)
          have HB7 := Lib.hid (HB6.out.later hb7)
          have HG7 := Lib.hid (grown_trans HG6.out (below_grown hb7))
          clear l0 l1 d0 d1 g1 hb7 hw0 hw4 e1
          obtain ⟨c0, c1, c2, c3, f0, f1, f2, f3⟩ := HB7.out
          go_wp2_with fail
          obtain ⟨q0, q1, q2, q3⟩ := filled4 w7 b (.int .u8 6) (.string (s.extract k (k + 1))) (.int .u64 0) (.int .i64 0) HB7.out _ rfl
          rw [HONE.out]
          refine bodyPost_ret (v := .tuple #[Tk.val ⟨6, s.extract k (k + 1), 0, 0⟩, .int .i64 0]) (by simp [results, Tryd.results74, go_sem, q0, q1, q2, q3, Tk.val]) rfl ⟨?_, HR7.out.box _ _ _ _ HNE.out, grown_box HG7.out _ _ _ _ HBE.out⟩
          show Ending.returned (.tuple #[.agg #[.int .u8 6, .string (s.extract k (k + 1)), .int .u64 0, .int .i64 0], .int .i64 0]) = .returned (.tuple #[.agg #[.int .u8 6, str (l.take 1), .int .u64 0, .int .i64 0], .int .i64 0])
          rw [HO.out]
        · have HONE : Hid (signOne l = .bad 6 0) := Lib.hid (by rw [HONE.out, if_neg hm])
          have hi : decide (I < 0) = true := decide_eq_true (HI.out.2 hm)
          rw [hi]
          obtain ⟨c0, c1, c2, c3, f0, f1, f2, f3⟩ := HB3.out
          clear hm hi
          go_wp2_with fail
          obtain ⟨q0, q1, q2, q3⟩ := filled4 w3 b (.int .u8 0) (.string ⟨#[]⟩) (.int .u64 0) (.int .i64 0) HB3.out _ rfl
          rw [HONE.out]
          refine bodyPost_ret (v := .tuple #[T0.val, .int .i64 6]) (by simp [results, Tryd.results74, go_sem, q0, q1, q2, q3, Tk.val, T0]; try rfl) rfl ⟨rfl, HR3.out.box _ _ _ _ HNE.out, grown_box HG3.out _ _ _ _ HBE.out⟩
end Go.Proofs.YtghfaeapgghhlaaDoor.Dt
