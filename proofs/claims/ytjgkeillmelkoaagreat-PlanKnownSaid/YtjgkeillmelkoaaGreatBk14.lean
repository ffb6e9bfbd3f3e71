import Derived.Test.YtjgkeillmelkoaaGreatBk13
import Derived.Test.YtjgkeillmelkoaaGreatBk12
import Derived.Test.YtjgkeillmelkoaaGreatBk11
import Derived.Test.YtjgkeillmelkoaaGreatBk07
import Derived.Test.YtjgkeillmelkoaaGreatBk04
namespace Go.Proofs.YtjgkeillmelkoaaGreat.Dt
open Go.RowKit Go.Proofs.YtjgkeillmelkoaaGreat.By

/-- A token, the place behind it, an error and its place. -/
structure RT where
  t : Tk
  z : Int
  e : Int
  b : Int
def refT (b : Nat) : One → RT
  | .tok k s n m => ⟨⟨k, ⟨s.toArray⟩, n, (b : Int)⟩, ((b + m : Nat) : Int), 0, 0⟩
  | .bad e m => ⟨⟨0, ⟨#[]⟩, 0, 0⟩, 0, (e : Int), ((b + m : Nat) : Int)⟩
theorem refV_eq (b : Nat) (o : One) : refV b o = .tuple #[.agg #[.int .u8 ((refT b o).t.k : Int), .string (refT b o).t.s, .int .u64 ((refT b o).t.n : Int), .int .i64 (refT b o).t.a], .int .i64 (refT b o).z, .agg #[.int .i64 (refT b o).e, .int .i64 (refT b o).b]] := by cases o <;> rfl
theorem twos_cells : #[.string ⟨#[60, 62]⟩, .string ⟨#[60, 61]⟩, .string ⟨#[62, 61]⟩, .string ⟨#[124, 124]⟩] = (twosL.map str).toArray := by kernel_rfl
def signs1 : List (List UInt8) := signsL.map fun c => [c]
theorem signs_cells : #[.string ⟨#[40]⟩, .string ⟨#[41]⟩, .string ⟨#[44]⟩, .string ⟨#[46]⟩, .string ⟨#[42]⟩, .string ⟨#[43]⟩, .string ⟨#[45]⟩, .string ⟨#[47]⟩, .string ⟨#[37]⟩, .string ⟨#[61]⟩, .string ⟨#[60]⟩, .string ⟨#[62]⟩, .string ⟨#[59]⟩] = (signs1.map str).toArray := by kernel_rfl
theorem signs1_mem (c : UInt8) : [c] ∈ signs1 ↔ c ∈ signsL := by
  unfold signs1
  simp
set_option maxRecDepth 100000 in
set_option maxHeartbeats 16000000 in
theorem refOneW (s : ByteArray) (k : Nat) (x : Int) (hx : x = (k : Int)) (w : World) (hs : s.size ≤ 1000000) (hk : k < s.size) :
    Calls Tryz.prog 46 #[.string s, .int .i64 x] w fun e w' => e = .returned (refV k (oneL (s.data.toList.drop k))) ∧ Below w.heap.size w w' := by
  subst hx
  obtain ⟨l, hl⟩ : ∃ l, l = s.data.toList.drop k := ⟨_, rfl⟩
  have hll : l.length = s.size - k := by rw [hl, List.length_drop, bytes_list]
  obtain ⟨b0, hb0, hdr⟩ : ∃ c, s[k] = c ∧ s.data.toList.drop k = c :: s.data.toList.drop (k + 1) := ⟨_, rfl, drop_cons s hk⟩
  have hcn : (s[k]).toNat = b0.toNat := by rw [hb0]
  have htop : topB l = b0 := by rw [hl, hdr]; rfl
  obtain ⟨d, hd⟩ : ∃ d, d = topB (l.drop 1) := ⟨_, rfl⟩
  have HAT : Hid (∀ W, Calls Tryz.prog 48 #[.string s, .int .i64 ((k : Int) + 1)] W fun e w' => e = .returned (byte d) ∧ W = w') := Lib.hid (fun W => by rw [hd, hl, List.drop_drop]; exact refAtW s (k + 1) W hs _ (by omega))
  rw [← hl, refV_eq]
  obtain ⟨V, hV⟩ : ∃ V, V = refT k (oneL l) := ⟨_, rfl⟩
  have hv2 := refV_eq k (oneL l)
  rw [← hV] at hv2 ⊢
  obtain ⟨⟨tk, ts, tn, ta⟩, tz, te, tb⟩ := V
  have HV := Lib.hid hv2
  have HC0 := Lib.hid htop
  have HD := Lib.hid hd.symm
  have HLL := Lib.hid hll
  have HL := Lib.hid hl
  have HS := Lib.hid hs
  have HK := Lib.hid hk
  have HW1 := Lib.hid (wrapI ((k : Int) + 1) (by omega) (by omega))
  have HW2 := Lib.hid (wrapI ((k : Int) + 2) (by omega) (by omega))
  have i0 : (0 : Int) ≤ (k : Int) := by omega
  have i1 : (k : Int) < (s.size : Int) := by omega
  clear hs hdr hl hll htop hb0 hd hv2 hV
  simp only
  have HB0 := Lib.hid (rb_new w)
  go_enter Tryz.func46, Tryz.ntmps46
  go_upto_region 1 with fail
  generalize ((w.alloc (.cells #[.int .u8 0, .string ⟨#[]⟩, .int .u64 0, .int .i64 0] 114)).alloc (.cells #[.int .i64 0, .int .i64 0] 70)) = w1 at *
  obtain ⟨c, hc⟩ : ∃ c, c = w.heap.size + 1 := ⟨_, rfl⟩
  rw [← hc]
  have HC := Lib.hid hc
  clear hc
  go_upto_region 2 with fail
  clear i0 i1 hcn
  by_cases h39 : b0 = 39
  · subst h39
    have HQT : Hid (∀ W, Calls Tryz.prog 76 #[.string s, .int .i64 (k : Int)] W fun e w' => e = .returned (.tuple #[.agg #[.int .u8 (tk : Int), .string ts, .int .u64 (tn : Int), .int .i64 ta], .int .i64 tz, .agg #[.int .i64 te, .int .i64 tb]]) ∧ Below W.heap.size W w') := Lib.hid (fun W => by
      have h1 : oneL l = textOne l := by
        unfold oneL
        rw [if_pos HC0.out]
      have h2 := HV.out
      rw [h1] at h2
      rw [← h2, HL.out]
      exact refTextW s k _ rfl W HS.out HK.out)
    go_wp2_with fail
    refine (HQT.out _).mono ?_
    rintro e w9 ⟨rfl, hb9⟩
    have HR9 := Lib.hid (HB0.out.later hb9)
    clear hb9
    obtain ⟨hbt, hbs, hbc, hcb⟩ := HR9.out.fin HC.out
    have HSIX := Lib.hid (filled6 w9 w.heap.size c hbc (.int .u8 (tk : Int)) (.string ts) (.int .u64 (tn : Int)) (.int .i64 ta) (.int .i64 te) (.int .i64 tb) hbt hbs _ rfl)
    obtain ⟨c0, c1, c2, c3, f0, f1, f2, f3⟩ := hbt
    have s0 := (hbs 0 _ rfl).1
    have s1 := (hbs 1 _ rfl).1
    have t0 := (hbs 0 _ rfl).2
    have t1 := (hbs 1 _ rfl).2
    clear hbs
    go_wp2_with fail
    obtain ⟨q0, q1, q2, q3, p0, p1⟩ := HSIX.out
    refine bodyPost_ret (v := .tuple #[.agg #[.int .u8 (tk : Int), .string ts, .int .u64 (tn : Int), .int .i64 ta], .int .i64 tz, .agg #[.int .i64 te, .int .i64 tb]]) (by simp [results, Tryz.results46, go_sem, q0, q1, q2, q3, p0, p1]) rfl ⟨rfl, below6 HR9.out.bl (Nat.le_refl _) (by rw [HC.out]; omega)⟩
  · have e39 : ((b0.toNat : Int) == 39) = false := by
      have : b0.toNat ≠ 39 := fun e => h39 (UInt8.toNat_inj.1 e)
      first | (simp; done) | (simp; omega)
    have H39 : Hid (¬ topB l = 39) := Lib.hid (by rw [HC0.out]; exact h39)
    clear h39
    go_upto_region 4 with fail
    obtain ⟨B, hB⟩ : ∃ B, B = decide (b0 = 120 ∧ d = 39) := ⟨_, rfl⟩
    have HBB := Lib.hid hB
    clear hB e39
    go_cut [20] (fun v wx => v = .bool B ∧ w1 = wx)
    case first =>
      have hw1 := HW1.out
      by_cases h120 : b0 = 120
      · subst h120
        by_cases hd : d = 39
        · subst hd
          obtain rfl : B = true := by rw [HBB.out]; rfl
          go_wp2_with fail
          refine (HAT.out _).mono ?_
          rintro e w3 ⟨rfl, rfl⟩
          go_wp2_with fail
          go_meet
          exact ⟨rfl, rfl⟩
        · obtain rfl : B = false := by rw [HBB.out]; exact decide_eq_false (fun e => hd e.2)
          have e1 : ((d.toNat : Int) == 39) = false := by
            have : d.toNat ≠ 39 := fun e => hd (UInt8.toNat_inj.1 e)
            first | (simp; done) | (simp; omega)
          clear hd
          go_wp2_with fail
          refine (HAT.out _).mono ?_
          rintro e w3 ⟨rfl, rfl⟩
          go_wp2_with fail
          go_meet
          exact ⟨rfl, rfl⟩
      · obtain rfl : B = false := by rw [HBB.out]; exact decide_eq_false (fun e => h120 e.1)
        have e1 : ((b0.toNat : Int) == 120) = false := by
          have : b0.toNat ≠ 120 := fun e => h120 (UInt8.toNat_inj.1 e)
          first | (simp; done) | (simp; omega)
        clear h120
        go_wp2_with fail
        go_meet
        exact ⟨rfl, rfl⟩
    case rest =>
      obtain ⟨rfl, rfl⟩ := hcut
      have HBT : Hid ((topB l = 120 ∧ topB (l.drop 1) = 39) ↔ B = true) := Lib.hid (by rw [HC0.out, HD.out, HBB.out]; exact decide_eq_true_iff.symm)
      clear HBB
      cases B with
      | true =>
        have HQB : Hid (∀ W, Calls Tryz.prog 77 #[.string s, .int .i64 (k : Int)] W fun e w' => e = .returned (.tuple #[.agg #[.int .u8 (tk : Int), .string ts, .int .u64 (tn : Int), .int .i64 ta], .int .i64 tz, .agg #[.int .i64 te, .int .i64 tb]]) ∧ Below W.heap.size W w') := Lib.hid (fun W => by
          have h1 : oneL l = blobOne l := by
            unfold oneL
            rw [if_neg H39.out, if_pos (HBT.out.2 rfl)]
          have h2 := HV.out
          rw [h1] at h2
          rw [← h2, HL.out]
          exact refBlobW s k _ rfl W HS.out (by
            have h5 := (HBT.out.2 rfl).2
            rw [HL.out, List.drop_drop] at h5
            rcases Nat.lt_or_ge (k + 1) s.size with h6 | h6
            · exact h6
            · rw [bytes_end s (k + 1) h6] at h5; exact absurd h5 (by decide)))
        go_wp2_with fail
        refine (HQB.out _).mono ?_
        rintro e w9 ⟨rfl, hb9⟩
        have HR9 := Lib.hid (HB0.out.later hb9)
        clear hb9
        obtain ⟨hbt, hbs, hbc, hcb⟩ := HR9.out.fin HC.out
        have HSIX := Lib.hid (filled6 w9 w.heap.size c hbc (.int .u8 (tk : Int)) (.string ts) (.int .u64 (tn : Int)) (.int .i64 ta) (.int .i64 te) (.int .i64 tb) hbt hbs _ rfl)
        obtain ⟨c0, c1, c2, c3, f0, f1, f2, f3⟩ := hbt
        have s0 := (hbs 0 _ rfl).1
        have s1 := (hbs 1 _ rfl).1
        have t0 := (hbs 0 _ rfl).2
        have t1 := (hbs 1 _ rfl).2
        clear hbs
        go_wp2_with fail
        obtain ⟨q0, q1, q2, q3, p0, p1⟩ := HSIX.out
        refine bodyPost_ret (v := .tuple #[.agg #[.int .u8 (tk : Int), .string ts, .int .u64 (tn : Int), .int .i64 ta], .int .i64 tz, .agg #[.int .i64 te, .int .i64 tb]]) (by simp [results, Tryz.results46, go_sem, q0, q1, q2, q3, p0, p1]) rfl ⟨rfl, below6 HR9.out.bl (Nat.le_refl _) (by rw [HC.out]; omega)⟩
      | false =>
        have H120 : Hid (¬ (topB l = 120 ∧ topB (l.drop 1) = 39)) := Lib.hid (fun e => absurd (HBT.out.1 e) (by decide))
        clear HBT
        go_upto_region 6 with fail
        obtain ⟨S, hS⟩ : ∃ S, S = smallB b0 := ⟨_, rfl⟩
        obtain ⟨P, hP⟩ : ∃ P, P = capB b0 := ⟨_, rfl⟩
        have HSM : Hid (∀ W, Calls Tryz.prog 78 #[byte b0] W fun e w' => e = .returned (.bool S) ∧ W = w') := Lib.hid (fun W => by rw [hS]; exact refSmallW b0 W)
        have HCP : Hid (∀ W, Calls Tryz.prog 79 #[byte b0] W fun e w' => e = .returned (.bool P) ∧ W = w') := Lib.hid (fun W => by rw [hP]; exact refCapW b0 W)
        have HSP : Hid ((smallB (topB l) || capB (topB l)) = (S || P)) := Lib.hid (by rw [HC0.out, hS, hP])
        clear hS hP
        go_cut [36] (fun v wx => v = .bool (S || P) ∧ w1 = wx)
        case first =>
          cases S with
          | true =>
            go_wp2_with fail
            refine (HSM.out _).mono ?_
            rintro e w5 ⟨rfl, rfl⟩
            go_wp2_with fail
            go_meet
            exact ⟨rfl, rfl⟩
          | false =>
            cases P with
            | true =>
              go_wp2_with fail
              refine (HSM.out _).mono ?_
              rintro e w5 ⟨rfl, rfl⟩
              go_wp2_with fail
              refine (HCP.out _).mono ?_
              rintro e w5 ⟨rfl, rfl⟩
              go_wp2_with fail
              go_meet
              exact ⟨rfl, rfl⟩
            | false =>
              go_wp2_with fail
              refine (HSM.out _).mono ?_
              rintro e w5 ⟨rfl, rfl⟩
              go_wp2_with fail
              refine (HCP.out _).mono ?_
              rintro e w5 ⟨rfl, rfl⟩
              go_wp2_with fail
              go_meet
              exact ⟨rfl, rfl⟩
        case rest =>
          obtain ⟨rfl, rfl⟩ := hcut
          obtain ⟨X, hX⟩ : ∃ X, X = (S || P) := ⟨_, rfl⟩
          rw [← hX] at HSP ⊢
          clear hX HSM HCP
          cases X with
          | true =>
            have HWD : Hid (∀ W, Calls Tryz.prog 80 #[.string s, .int .i64 (k : Int)] W fun e w' => e = .returned (.tuple #[.agg #[.int .u8 (tk : Int), .string ts, .int .u64 (tn : Int), .int .i64 ta], .int .i64 tz, .agg #[.int .i64 te, .int .i64 tb]]) ∧ Below W.heap.size W w') := Lib.hid (fun W => by
              have h1 : oneL l = wordOne l := by
                unfold oneL
                rw [if_neg H39.out, if_neg H120.out, if_pos HSP.out]
              have h2 := HV.out
              rw [h1] at h2
              rw [← h2, HL.out]
              exact refWordsFnW s k _ rfl W HS.out HK.out)
            go_wp2_with fail
            refine (HWD.out _).mono ?_
            rintro e w9 ⟨rfl, hb9⟩
            have HR9 := Lib.hid (HB0.out.later hb9)
            clear hb9
            obtain ⟨hbt, hbs, hbc, hcb⟩ := HR9.out.fin HC.out
            have HSIX := Lib.hid (filled6 w9 w.heap.size c hbc (.int .u8 (tk : Int)) (.string ts) (.int .u64 (tn : Int)) (.int .i64 ta) (.int .i64 te) (.int .i64 tb) hbt hbs _ rfl)
            obtain ⟨c0, c1, c2, c3, f0, f1, f2, f3⟩ := hbt
            have s0 := (hbs 0 _ rfl).1
            have s1 := (hbs 1 _ rfl).1
            have t0 := (hbs 0 _ rfl).2
            have t1 := (hbs 1 _ rfl).2
            clear hbs
            go_wp2_with fail
            obtain ⟨q0, q1, q2, q3, p0, p1⟩ := HSIX.out
            refine bodyPost_ret (v := .tuple #[.agg #[.int .u8 (tk : Int), .string ts, .int .u64 (tn : Int), .int .i64 ta], .int .i64 tz, .agg #[.int .i64 te, .int .i64 tb]]) (by simp [results, Tryz.results46, go_sem, q0, q1, q2, q3, p0, p1]) rfl ⟨rfl, below6 HR9.out.bl (Nat.le_refl _) (by rw [HC.out]; omega)⟩
          | false =>
            obtain ⟨D, hD⟩ : ∃ D, D = digB b0 := ⟨_, rfl⟩
            have HDG : Hid (∀ W, Calls Tryz.prog 81 #[byte b0] W fun e w' => e = .returned (.bool D) ∧ W = w') := Lib.hid (fun W => by rw [hD]; exact refDigW b0 W)
            have HDD : Hid (digB (topB l) = D) := Lib.hid (by rw [HC0.out, hD])
            clear hD
            go_wp2_with fail
            refine (HDG.out _).mono ?_
            rintro e w5 ⟨rfl, rfl⟩
            cases D with
            | true =>
              have HNU : Hid (∀ W, Calls Tryz.prog 82 #[.string s, .int .i64 (k : Int)] W fun e w' => e = .returned (.tuple #[.agg #[.int .u8 (tk : Int), .string ts, .int .u64 (tn : Int), .int .i64 ta], .int .i64 tz, .agg #[.int .i64 te, .int .i64 tb]]) ∧ Below W.heap.size W w') := Lib.hid (fun W => by
                have h1 : oneL l = numOne l := by
                  unfold oneL
                  rw [if_neg H39.out, if_neg H120.out, if_neg (by rw [HSP.out]; decide), if_pos HDD.out]
                have h2 := HV.out
                rw [h1] at h2
                rw [← h2, HL.out]
                exact refNumberW s k _ rfl W HS.out HK.out (by rw [← HL.out]; exact HDD.out))
              go_wp2_with fail
              refine (HNU.out _).mono ?_
              rintro e w9 ⟨rfl, hb9⟩
              have HR9 := Lib.hid (HB0.out.later hb9)
              clear hb9
              obtain ⟨hbt, hbs, hbc, hcb⟩ := HR9.out.fin HC.out
              have HSIX := Lib.hid (filled6 w9 w.heap.size c hbc (.int .u8 (tk : Int)) (.string ts) (.int .u64 (tn : Int)) (.int .i64 ta) (.int .i64 te) (.int .i64 tb) hbt hbs _ rfl)
              obtain ⟨c0, c1, c2, c3, f0, f1, f2, f3⟩ := hbt
              have s0 := (hbs 0 _ rfl).1
              have s1 := (hbs 1 _ rfl).1
              have t0 := (hbs 0 _ rfl).2
              have t1 := (hbs 1 _ rfl).2
              clear hbs
              go_wp2_with fail
              obtain ⟨q0, q1, q2, q3, p0, p1⟩ := HSIX.out
              refine bodyPost_ret (v := .tuple #[.agg #[.int .u8 (tk : Int), .string ts, .int .u64 (tn : Int), .int .i64 ta], .int .i64 tz, .agg #[.int .i64 te, .int .i64 tb]]) (by simp [results, Tryz.results46, go_sem, q0, q1, q2, q3, p0, p1]) rfl ⟨rfl, below6 HR9.out.bl (Nat.le_refl _) (by rw [HC.out]; omega)⟩
            | false =>
              have HONE : Hid (oneL l = if l.take 2 ∈ twosL then .tok 6 (l.take 2) 0 2 else if b0 ∈ signsL then .tok 6 (l.take 1) 0 1 else .bad 6 0) := Lib.hid (by
                unfold oneL
                rw [if_neg H39.out, if_neg H120.out, if_neg (by rw [HSP.out]; decide), if_neg (by rw [HDD.out]; decide)]
                unfold signOne
                rw [HC0.out])
              have HT1 : Hid (l.take 1 = [b0]) := Lib.hid (by
                have h1 := HC0.out
                cases hh : l with
                | nil => have h2 := HLL.out; have h3 := HK.out; rw [hh] at h2; simp at h2; omega
                | cons a b => rw [hh] at h1; have h4 : a = b0 := h1; rw [h4]; rfl)
              have HCUT1 : Hid ((.string (s.extract k (k + 1)) : Value) = str [b0]) := Lib.hid (by rw [cut_list, ← HL.out, HT1.out])
              have HIN2 : Hid (Calls Tryz.prog 83 #[.slice (some ⟨w1.heap.size, 0, none⟩) 4 4, str (l.take 2)] (w1.alloc (.cells #[.string ⟨#[60, 62]⟩, .string ⟨#[60, 61]⟩, .string ⟨#[62, 61]⟩, .string ⟨#[124, 124]⟩] 9)) fun e w' => e = .returned (.bool (decide (l.take 2 ∈ twosL))) ∧ (w1.alloc (.cells #[.string ⟨#[60, 62]⟩, .string ⟨#[60, 61]⟩, .string ⟨#[62, 61]⟩, .string ⟨#[124, 124]⟩] 9)) = w') := Lib.hid (refInW w1.heap.size twosL 4 (by decide) (by decide) ⟨(l.take 2).toArray⟩ _ (strs_new w1 twosL _ _ twos_cells))
              go_upto_region 10 with fail
              obtain ⟨B, hB⟩ : ∃ B, B = decide (l.take 2 ∈ twosL) := ⟨_, rfl⟩
              have HBB := Lib.hid hB
              rw [← hB] at HIN2
              clear hB
              go_cut [71] (fun v wx => v = .bool B ∧ Hid (Below w1.heap.size w1 wx) ∧ (B = true → k + 2 ≤ s.size))
              case first =>
                have hw2 := HW2.out
                by_cases h2s : k + 2 ≤ s.size
                · have e2 : decide ((k : Int) + 2 ≤ (s.size : Int)) = true := decide_eq_true (by omega)
                  have j0 : (0 : Int) ≤ (k : Int) := by omega
                  have j1 : (k : Int) ≤ (k : Int) + 2 := by omega
                  have j2 : (k : Int) + 2 ≤ (s.size : Int) := by omega
                  have hcut : (.string (s.extract k (k + 2)) : Value) = str (l.take 2) := by rw [cut_list, ← HL.out]
                  have H2S := Lib.hid h2s
                  clear h2s
                  go_wp2_with fail
                  first
                  | refine HIN2.out.mono ?_
                  | (trace_state; fail)
                  rintro e w3 ⟨rfl, rfl⟩
                  go_wp2_with fail
                  go_meet
                  exact ⟨rfl, Lib.hid ((Below.refl _ _).alloc (Nat.le_refl _) _), fun _ => H2S.out⟩
                · have e2 : decide ((k : Int) + 2 ≤ (s.size : Int)) = false := decide_eq_false (by omega)
                  obtain rfl : B = false := by
                    rw [HBB.out]
                    refine decide_eq_false (fun h => h2s ?_)
                    have h1 : (l.take 2).length = 2 := by
                      revert h
                      generalize l.take 2 = y
                      intro h
                      simp only [twosL, List.mem_cons, List.not_mem_nil, or_false] at h
                      rcases h with rfl | rfl | rfl | rfl <;> rfl
                    rw [List.length_take, HLL.out] at h1
                    omega
                  clear h2s
                  go_wp2_with fail
                  go_meet
                  exact ⟨rfl, Lib.hid (Below.refl _ _), fun h => absurd h (by decide)⟩
              case rest =>
                rename World => wx
                obtain ⟨rfl, hbe, h2⟩ := hcut
                have HB1 := Lib.hid (HB0.out.later hbe.out)
                clear hbe HIN2
                cases B with
                | true =>
                  have HBT : Hid (l.take 2 ∈ twosL) := Lib.hid (of_decide_eq_true HBB.out.symm)
                  have H2S := Lib.hid (h2 rfl)
                  clear h2 HBB
                  have hw2 := HW2.out
                  have j0 : (0 : Int) ≤ (k : Int) := by omega
                  have j1 : (k : Int) ≤ (k : Int) + 2 := by omega
                  have j2 : (k : Int) + 2 ≤ (s.size : Int) := by have := H2S.out; omega
                  have hcut : (.string (s.extract k (k + 2)) : Value) = str (l.take 2) := by rw [cut_list, ← HL.out]
                  obtain ⟨hbt, hbs, hbc, hcb⟩ := HB1.out.fin HC.out
                  have HSIX := Lib.hid (filled6 wx w.heap.size c hbc (.int .u8 6) (str (l.take 2)) (.int .u64 0) (.int .i64 (k : Int)) (.int .i64 0) (.int .i64 0) hbt hbs _ rfl)
                  obtain ⟨c0, c1, c2, c3, f0, f1, f2, f3⟩ := hbt
                  have s0 := (hbs 0 _ rfl).1
                  have s1 := (hbs 1 _ rfl).1
                  have t0 := (hbs 0 _ rfl).2
                  have t1 := (hbs 1 _ rfl).2
                  clear hbs
                  go_wp2_with fail
                  obtain ⟨q0, q1, q2, q3, p0, p1⟩ := HSIX.out
                  refine bodyPost_ret (v := .tuple #[.agg #[.int .u8 6, str (l.take 2), .int .u64 0, .int .i64 (k : Int)], .int .i64 ((k : Int) + 2), .agg #[.int .i64 0, .int .i64 0]]) (by simp [results, Tryz.results46, go_sem, q0, q1, q2, q3, p0, p1]; exact HW2.out) rfl ⟨(by rw [← HV.out, HONE.out, if_pos HBT.out]; exact refV_tok (by rfl) (by rfl) (by simp) rfl), below6 HB1.out.bl (Nat.le_refl _) (by rw [HC.out]; omega)⟩
                | false =>
                  have HBF : Hid (¬ l.take 2 ∈ twosL) := Lib.hid (of_decide_eq_false HBB.out.symm)
                  clear h2 HBB
                  have hw1 := HW1.out
                  have j0 : (0 : Int) ≤ (k : Int) := by omega
                  have j1 : (k : Int) ≤ (k : Int) + 1 := by omega
                  have j2 : (k : Int) + 1 ≤ (s.size : Int) := by have := HK.out; omega
                  have hcut := HCUT1.out
                  have HIN3 : Hid (Calls Tryz.prog 83 #[.slice (some ⟨wx.heap.size, 0, none⟩) 13 13, str [b0]] (wx.alloc (.cells #[.string ⟨#[40]⟩, .string ⟨#[41]⟩, .string ⟨#[44]⟩, .string ⟨#[46]⟩, .string ⟨#[42]⟩, .string ⟨#[43]⟩, .string ⟨#[45]⟩, .string ⟨#[47]⟩, .string ⟨#[37]⟩, .string ⟨#[61]⟩, .string ⟨#[60]⟩, .string ⟨#[62]⟩, .string ⟨#[59]⟩] 9)) fun e w' => e = .returned (.bool (decide ([b0] ∈ signs1))) ∧ (wx.alloc (.cells #[.string ⟨#[40]⟩, .string ⟨#[41]⟩, .string ⟨#[44]⟩, .string ⟨#[46]⟩, .string ⟨#[42]⟩, .string ⟨#[43]⟩, .string ⟨#[45]⟩, .string ⟨#[47]⟩, .string ⟨#[37]⟩, .string ⟨#[61]⟩, .string ⟨#[60]⟩, .string ⟨#[62]⟩, .string ⟨#[59]⟩] 9)) = w') := Lib.hid (refInW wx.heap.size signs1 13 (by decide) (by decide) ⟨#[b0]⟩ _ (strs_new wx signs1 _ _ signs_cells))
                  obtain ⟨B, hB⟩ : ∃ B, B = decide ([b0] ∈ signs1) := ⟨_, rfl⟩
                  have HBB := Lib.hid hB
                  rw [← hB] at HIN3
                  clear hB
                  go_upto_region 12 with fail
                  go_cut [88] (fun v wz => v = .bool B ∧ Hid (Below wx.heap.size wx wz))
                  case first =>
                    go_wp2_with fail
                    refine HIN3.out.mono ?_
                    rintro e w3 ⟨rfl, rfl⟩
                    go_wp2_with fail
                    go_meet
                    exact ⟨rfl, Lib.hid ((Below.refl _ _).alloc (Nat.le_refl _) _)⟩
                  case rest =>
                    rename World => wz
                    obtain ⟨rfl, hbe⟩ := hcut
                    have HB2 := Lib.hid (HB1.out.later hbe.out)
                    clear hbe HIN3
                    cases B with
                    | true =>
                      have HBT : Hid (b0 ∈ signsL) := Lib.hid ((signs1_mem b0).1 (of_decide_eq_true HBB.out.symm))
                      clear HBB
                      obtain ⟨hbt, hbs, hbc, hcb⟩ := HB2.out.fin HC.out
                      have HSIX := Lib.hid (filled6 wz w.heap.size c hbc (.int .u8 6) (str [b0]) (.int .u64 0) (.int .i64 (k : Int)) (.int .i64 0) (.int .i64 0) hbt hbs _ rfl)
                      obtain ⟨c0, c1, c2, c3, f0, f1, f2, f3⟩ := hbt
                      have s0 := (hbs 0 _ rfl).1
                      have s1 := (hbs 1 _ rfl).1
                      have t0 := (hbs 0 _ rfl).2
                      have t1 := (hbs 1 _ rfl).2
                      clear hbs
                      go_wp2_with fail
                      obtain ⟨q0, q1, q2, q3, p0, p1⟩ := HSIX.out
                      refine bodyPost_ret (v := .tuple #[.agg #[.int .u8 6, str [b0], .int .u64 0, .int .i64 (k : Int)], .int .i64 ((k : Int) + 1), .agg #[.int .i64 0, .int .i64 0]]) (by simp [results, Tryz.results46, go_sem, q0, q1, q2, q3, p0, p1]; exact HW1.out) rfl ⟨(by rw [← HV.out, HONE.out, if_neg HBF.out, if_pos HBT.out, HT1.out]; exact refV_tok (by rfl) (by rfl) (by simp) rfl), below6 HB2.out.bl (Nat.le_refl _) (by rw [HC.out]; omega)⟩
                    | false =>
                      have HBN : Hid (¬ b0 ∈ signsL) := Lib.hid (fun h => absurd ((signs1_mem b0).2 h) (of_decide_eq_false HBB.out.symm))
                      clear HBB
                      have HONE := Lib.hid (show oneL l = .bad 6 0 by rw [HONE.out, if_neg HBF.out, if_neg HBN.out])
                      go_wp2_with fail
                      refine (refBadW 6 ((k : Int)) wz).mono ?_
                      rintro e w9 ⟨rfl, hb9⟩
                      have HR9 := Lib.hid (HB2.out.later hb9)
                      clear hb9
                      obtain ⟨hbt, hbs, hbc, hcb⟩ := HR9.out.fin HC.out
                      have HSIX := Lib.hid (filled6 w9 w.heap.size c hbc (.int .u8 0) (.string ⟨#[]⟩) (.int .u64 0) (.int .i64 0) (.int .i64 6) (.int .i64 ((k : Int))) hbt hbs _ rfl)
                      obtain ⟨c0, c1, c2, c3, f0, f1, f2, f3⟩ := hbt
                      have s0 := (hbs 0 _ rfl).1
                      have s1 := (hbs 1 _ rfl).1
                      have t0 := (hbs 0 _ rfl).2
                      have t1 := (hbs 1 _ rfl).2
                      clear hbs
                      go_wp2_with fail
                      obtain ⟨q0, q1, q2, q3, p0, p1⟩ := HSIX.out
                      refine bodyPost_ret (v := .tuple #[.agg #[.int .u8 0, .string ⟨#[]⟩, .int .u64 0, .int .i64 0], .int .i64 0, .agg #[.int .i64 6, .int .i64 ((k : Int))]]) (by simp [results, Tryz.results46, go_sem, q0, q1, q2, q3, p0, p1]) rfl ⟨(by rw [← HV.out, HONE.out]; exact refV_bad rfl (by simp)), below6 HR9.out.bl (Nat.le_refl _) (by rw [HC.out]; omega)⟩
end Go.Proofs.YtjgkeillmelkoaaGreat.Dt
namespace Go.Proofs.YtjgkeillmelkoaaGreat.Dt
open Go.RowKit Go.Proofs.YtjgkeillmelkoaaGreat.By

/-- The loop's world: the spot's box, the tokens so far. -/
structure RL (w : World) (v : Value) (O : List Tk) (W : World) : Prop where
  bx : Box w.heap.size [.int .i64 0, .int .i64 0] W
  own : OwnT W (w.heap.size + 1) v O
  bl : Below w.heap.size w W
  sz : w.heap.size + 1 ≤ W.heap.size
theorem RL.later {w : World} {v : Value} {O : List Tk} {W W' : World} (h : RL w v O W) (hb : Below W.heap.size W W') : RL w v O W' :=
  ⟨h.bx.later hb, h.own.below hb, next h.bl hb, Nat.le_trans h.sz hb.size⟩
theorem RL.app {w : World} {v v' : Value} {O O' : List Tk} {W W' : World} (h : RL w v O W) (hb : Below (w.heap.size + 1) W W') (hz : W.heap.size ≤ W'.heap.size) (ho : OwnT W' (w.heap.size + 1) v' O') : RL w v' O' W' := by
  have hc : ∀ j i, j < w.heap.size + 1 → W'.cell? ⟨j, i, none⟩ = W.cell? ⟨j, i, none⟩ := fun j i hj => hb.cell (p := ⟨j, i, none⟩) hj
  have hf : ∀ j i, j < w.heap.size + 1 → W'.frozen? ⟨j, i, none⟩ = W.frozen? ⟨j, i, none⟩ := fun j i hj => hb.frozen (p := ⟨j, i, none⟩) hj
  refine ⟨fun i u hu => ⟨(hc _ _ (by omega)).trans (h.bx i u hu).1, (hf _ _ (by omega)).trans (h.bx i u hu).2⟩, ho, ?_, Nat.le_trans h.sz hz⟩
  exact ⟨hb.os.trans h.bl.os, hb.tape.trans h.bl.tape, hb.output.trans h.bl.output, Nat.le_trans h.bl.size hz, fun k hk => (hb.block k (by omega)).trans (h.bl.block k hk)⟩
set_option maxRecDepth 100000 in
set_option maxHeartbeats 32000000 in
theorem refToksW (s : ByteArray) (w : World) (hs : s.size ≤ 1000000) :
    Calls Tryz.prog 30 #[.string s] w fun e w' => toksPost (toksL s.data.toList) e w' ∧ Below w.heap.size w w' := by
  have HS := Lib.hid hs
  have hb1 : Box w.heap.size [.int .i64 0, .int .i64 0] (w.alloc (.cells #[.int .i64 0, .int .i64 0] 70)) := by
    intro i u hu
    rcases i with _ | _ | i <;> simp at hu <;> subst hu <;> exact ⟨by go_simp, by go_simp⟩
  have hl1 : Below w.heap.size w (w.alloc (.cells #[.int .i64 0, .int .i64 0] 70)) := (Below.refl _ _).alloc (Nat.le_refl _) _
  have HL0 : Hid (RL w (.slice none 0 0) [] (w.alloc (.cells #[.int .i64 0, .int .i64 0] 70))) := Lib.hid ⟨hb1, OwnT.nil _ _, hl1, by simp⟩
  clear hb1 hl1 hs
  by_cases hlong : 4096 < s.size
  · have HT : Hid (toksL s.data.toList = .inl (3, 4096)) := Lib.hid (by rw [toksL_eq, if_pos (by rw [bytes_list]; exact hlong)])
    have i1 : (4096 : Int) < (s.size : Int) := by omega
    clear hlong
    go_enter Tryz.func30, Tryz.ntmps30
    go_upto_region 1 with fail
    generalize (w.alloc (.cells #[.int .i64 0, .int .i64 0] 70)) = w1 at *
    have c0 := (HL0.out.bx 0 _ rfl).1
    have c1 := (HL0.out.bx 1 _ rfl).1
    have f0 := (HL0.out.bx 0 _ rfl).2
    have f1 := (HL0.out.bx 1 _ rfl).2
    go_wp2_with fail
    obtain ⟨q0, q1⟩ := filled2 w1 w.heap.size (.int .i64 3) (.int .i64 4096) HL0.out.bx _ rfl
    refine bodyPost_ret (v := .tuple #[.slice none 0 0, .agg #[.int .i64 3, .int .i64 4096]]) (by simp [results, Tryz.results30, go_sem, q0, q1]) rfl ⟨?_, ?_⟩
    · rw [HT.out]; rfl
    · exact below_set (below_set HL0.out.bl (Nat.le_refl _)) (Nat.le_refl _)
  · have HT : Hid (toksL s.data.toList = tk 0 s.data.toList) := Lib.hid (by rw [toksL_eq, if_neg (by rw [bytes_list]; exact hlong)])
    have i1 : ¬ (4096 : Int) < (s.size : Int) := by omega
    clear hlong
    rw [HT.out]
    clear HT
    obtain ⟨R, hR⟩ : ∃ R, R = tk 0 s.data.toList := ⟨_, rfl⟩
    have HR := Lib.hid hR
    rw [← hR]
    clear hR
    go_enter Tryz.func30, Tryz.ntmps30
    go_upto_region 1 with fail
    generalize (w.alloc (.cells #[.int .i64 0, .int .i64 0] 70)) = w1 at *
    go_wp2_with fail
    refine (refSkipW s 0 _ rfl w1 HS.out (Nat.zero_le _)).mono ?_
    rintro e w3 ⟨rfl, rfl⟩
    go_wp2_with fail
    clear i1
    go_loopg [4, 5] (s.size + 1 - (0 + skipL (s.data.toList.drop 0))) (fun gk ov iv wr => ∃ (p : Nat) (O : List Tk), iv = .int .i64 (p : Int) ∧ gk = s.size + 1 - p ∧ p ≤ s.size ∧ Hid (RL w ov O wr) ∧ Hid (R = cT O (tk p (s.data.toList.drop p))) ∧ Hid (skipL (s.data.toList.drop p) = 0) ∧ Hid (O.length ≤ p))
    case atStart =>
      refine ⟨0 + skipL (s.data.toList.drop 0), [], by rw [List.drop_zero, Nat.zero_add], rfl, ?_, HL0, Lib.hid ?_, Lib.hid ?_, Lib.hid (Nat.zero_le _)⟩
      · have := skip_le _ (s.data.toList.drop 0) (Nat.le_refl _)
        rw [List.length_drop, bytes_list] at this
        omega
      · rw [HR.out, tk_skip, List.drop_zero, Nat.zero_add]
        cases tk (skipL s.data.toList) (s.data.toList.drop (skipL s.data.toList)) <;> rfl
      · rw [List.drop_zero, Nat.zero_add]; exact skip_idem _
    case round =>
      obtain ⟨p, O, rfl, rfl, hp, HL, HT, HSK, HOL⟩ := hrel
      have HP := Lib.hid hp
      obtain ⟨ao, co, rfl⟩ := HL.out.own.shape
      by_cases hlt : p < s.size
      · have j1 : (p : Int) < (s.size : Int) := by omega
        have hne : s.data.toList.drop p ≠ [] := by
          intro e
          have := congrArg List.length e
          rw [List.length_drop, bytes_list] at this
          simp at this; omega
        have HNE := Lib.hid hne
        have HST : Hid (R = cT O (stepT p (s.data.toList.drop p) tk)) := Lib.hid (by rw [HT.out, tk_step hne HSK.out])
        have HLT := Lib.hid hlt
        clear hp hlt hne
        have HTK := fun W => refOneW s p _ rfl W HS.out HLT.out
        cases ho : oneL (s.data.toList.drop p) with
        | bad er m =>
          rw [ho] at HTK
          have HTK : Hid (∀ W, Calls Tryz.prog 46 #[.string s, .int .i64 (p : Int)] W fun e w' => e = .returned (.tuple #[.agg #[.int .u8 0, .string ⟨#[]⟩, .int .u64 0, .int .i64 0], .int .i64 0, .agg #[.int .i64 (er : Int), .int .i64 ((p : Int) + (m : Int))]]) ∧ Below W.heap.size W w') := Lib.hid HTK
          have HRS : Hid (R = .inl (er, p + m)) := Lib.hid (by rw [HST.out, cT_bad O ho])
          have her := (one_bad HNE.out ho).2
          have e2 : ((er : Int) != 0) = true := by first | (simp; done) | (simp; omega)
          clear ho her
          go_wp2_with fail
          refine (HTK.out _).mono ?_
          rintro e w4 ⟨rfl, hb4⟩
          have HL4 := Lib.hid (HL.out.later hb4)
          have HL5 := Lib.hid (HL4.out.later (((Below.refl _ w4).alloc (Nat.le_refl _) (.cells #[.int .u8 0, .string ⟨#[]⟩, .int .u64 0, .int .i64 0] 114)).trans (((Below.refl _ _).alloc (Nat.le_refl _) (.cells #[.int .i64 (er : Int), .int .i64 ((p : Int) + (m : Int))] 70)).mono (by simp))))
          clear hb4 HL
          go_upto_region 7 with fail
          have b0 : ((w4.alloc (.cells #[.int .u8 0, .string ⟨#[]⟩, .int .u64 0, .int .i64 0] 114)).alloc (.cells #[.int .i64 (er : Int), .int .i64 ((p : Int) + (m : Int))] 70)).cell? ⟨w4.heap.size + 1, 0, none⟩ = some (.int .i64 (er : Int)) := by go_simp
          have b1 : ((w4.alloc (.cells #[.int .u8 0, .string ⟨#[]⟩, .int .u64 0, .int .i64 0] 114)).alloc (.cells #[.int .i64 (er : Int), .int .i64 ((p : Int) + (m : Int))] 70)).cell? ⟨w4.heap.size + 1, 1, none⟩ = some (.int .i64 ((p : Int) + (m : Int))) := by go_simp
          generalize ((w4.alloc (.cells #[.int .u8 0, .string ⟨#[]⟩, .int .u64 0, .int .i64 0] 114)).alloc (.cells #[.int .i64 (er : Int), .int .i64 ((p : Int) + (m : Int))] 70)) = w5 at *
          have HB1 := Lib.hid b1
          clear b1
          go_upto_region 8 with fail
          have l0 := lat_cell b0
          have l1 := lat_cell HB1.out
          refine wp_region_later_tail 2 (by kernel_rfl) (by kernel_rfl) ?_
          simp only [List.take_succ_cons, List.take_zero, List.drop_succ_cons, List.drop_zero]
          repeat (go_big_quiet_step (fail))
          refine wpQuiet_nil ?_
          refine later_out (fun w7 hb7 => ?_)
          have HL7 := Lib.hid (HL5.out.later hb7)
          clear l0 l1 b0 hb7
          have c0 := (HL7.out.bx 0 _ rfl).1
          have c1 := (HL7.out.bx 1 _ rfl).1
          have f0 := (HL7.out.bx 0 _ rfl).2
          have f1 := (HL7.out.bx 1 _ rfl).2
          go_wp2_with fail
          obtain ⟨q0, q1⟩ := filled2 w7 w.heap.size (.int .i64 (er : Int)) (.int .i64 ((p : Int) + (m : Int))) HL7.out.bx _ rfl
          refine bodyPost_ret (v := .tuple #[.slice none 0 0, .agg #[.int .i64 (er : Int), .int .i64 ((p : Int) + (m : Int))]]) (by simp [results, Tryz.results30, go_sem, q0, q1]) rfl ⟨?_, ?_⟩
          · rw [HRS.out]; first | rfl | (show _ = Ending.returned (.tuple #[.slice none 0 0, .agg #[.int .i64 _, .int .i64 ((p + m : Nat) : Int)]]); push_cast; rfl)
          · exact below_set (below_set HL7.out.bl (Nat.le_refl _)) (Nat.le_refl _)
        | tok k st n m =>
          rw [ho] at HTK
          have HTK : Hid (∀ W, Calls Tryz.prog 46 #[.string s, .int .i64 (p : Int)] W fun e w' => e = .returned (.tuple #[.agg #[.int .u8 (k : Int), .string ⟨st.toArray⟩, .int .u64 (n : Int), .int .i64 (p : Int)], .int .i64 ((p : Int) + (m : Int)), .agg #[.int .i64 0, .int .i64 0]]) ∧ Below W.heap.size W w') := Lib.hid HTK
          have hlen := one_len HNE.out ho
          rw [List.length_drop, bytes_list] at hlen
          have HLEN := Lib.hid hlen
          obtain ⟨D, hD⟩ : ∃ D, D = wordB (topB (s.data.toList.drop (p + m))) := ⟨_, rfl⟩
          obtain ⟨c, hc⟩ : ∃ c, c = topB (s.data.toList.drop (p + m)) := ⟨_, rfl⟩
          have HAT : Hid (∀ W, Calls Tryz.prog 48 #[.string s, .int .i64 ((p : Int) + (m : Int))] W fun e w' => e = .returned (byte c) ∧ W = w') := Lib.hid (fun W => by rw [hc]; exact refAtW s (p + m) W HS.out _ (by omega))
          have HWD : Hid (∀ W, Calls Tryz.prog 47 #[byte c] W fun e w' => e = .returned (.bool D) ∧ W = w') := Lib.hid (fun W => by rw [hD, ← hc]; exact refWordW c W)
          obtain ⟨B, hB⟩ : ∃ B, B = decide (k ≠ 6 ∧ D = true) := ⟨_, rfl⟩
          have HBB := Lib.hid hB
          rw [hD] at hB
          have HRW1 : Hid (B = true → R = .inl (6, p + m)) := Lib.hid (fun h => by
            rw [hB] at h
            have h1 := of_decide_eq_true h
            rw [HST.out, cT_word O ho (by rw [List.drop_drop]; exact h1)])
          have HRW2 : Hid (B = false → R = cT (O ++ [⟨k, ⟨st.toArray⟩, n, (p : Int)⟩]) (tk (p + m) (s.data.toList.drop (p + m)))) := Lib.hid (fun h => by
            rw [hB] at h
            have h1 := of_decide_eq_false h
            rw [HST.out, cT_step O ho (by rw [List.drop_drop]; exact h1), List.drop_drop])
          clear ho hlen hB hD hc
          go_wp2_with fail
          refine (HTK.out _).mono ?_
          rintro e w4 ⟨rfl, hb4⟩
          have HL4 := Lib.hid (HL.out.later hb4)
          have HL5 := Lib.hid (HL4.out.later (((Below.refl _ w4).alloc (Nat.le_refl _) (.cells #[.int .u8 (k : Int), .string ⟨st.toArray⟩, .int .u64 (n : Int), .int .i64 (p : Int)] 114)).trans (((Below.refl _ _).alloc (Nat.le_refl _) (.cells #[.int .i64 0, .int .i64 0] 70)).mono (by simp))))
          clear hb4 HL
          go_upto_region 7 with fail
          have b0 : ((w4.alloc (.cells #[.int .u8 (k : Int), .string ⟨st.toArray⟩, .int .u64 (n : Int), .int .i64 (p : Int)] 114)).alloc (.cells #[.int .i64 0, .int .i64 0] 70)).cell? ⟨w4.heap.size + 1, 0, none⟩ = some (.int .i64 0) := by go_simp
          have y0 : ((w4.alloc (.cells #[.int .u8 (k : Int), .string ⟨st.toArray⟩, .int .u64 (n : Int), .int .i64 (p : Int)] 114)).alloc (.cells #[.int .i64 0, .int .i64 0] 70)).cell? ⟨w4.heap.size, 0, none⟩ = some (.int .u8 (k : Int)) := by go_simp
          have y1 : ((w4.alloc (.cells #[.int .u8 (k : Int), .string ⟨st.toArray⟩, .int .u64 (n : Int), .int .i64 (p : Int)] 114)).alloc (.cells #[.int .i64 0, .int .i64 0] 70)).cell? ⟨w4.heap.size, 1, none⟩ = some (.string ⟨st.toArray⟩) := by go_simp
          have y2 : ((w4.alloc (.cells #[.int .u8 (k : Int), .string ⟨st.toArray⟩, .int .u64 (n : Int), .int .i64 (p : Int)] 114)).alloc (.cells #[.int .i64 0, .int .i64 0] 70)).cell? ⟨w4.heap.size, 2, none⟩ = some (.int .u64 (n : Int)) := by go_simp
          have y3 : ((w4.alloc (.cells #[.int .u8 (k : Int), .string ⟨st.toArray⟩, .int .u64 (n : Int), .int .i64 (p : Int)] 114)).alloc (.cells #[.int .i64 0, .int .i64 0] 70)).cell? ⟨w4.heap.size, 3, none⟩ = some (.int .i64 (p : Int)) := by go_simp
          generalize ((w4.alloc (.cells #[.int .u8 (k : Int), .string ⟨st.toArray⟩, .int .u64 (n : Int), .int .i64 (p : Int)] 114)).alloc (.cells #[.int .i64 0, .int .i64 0] 70)) = w5 at *
          generalize w4.heap.size = b at *
          have HY0 := Lib.hid y0
          have HY1 := Lib.hid y1
          have HY2 := Lib.hid y2
          have HY3 := Lib.hid y3
          clear y1 y2 y3 HL4
          go_upto_region 9 with fail
          go_cut [38] (fun v wx => v = .bool B ∧ w5 = wx)
          case first =>
            by_cases hk6 : k = 6
            · obtain rfl : B = false := by rw [HBB.out]; exact decide_eq_false (fun e => e.1 hk6)
              have e1 : ((k : Int) != 6) = false := by first | (simp; done) | (simp; omega)
              clear hk6
              go_wp2_with fail
              go_meet
              exact ⟨rfl, rfl⟩
            · have e1 : ((k : Int) != 6) = true := by first | (simp; done) | (simp; omega)
              obtain rfl : B = D := by rw [HBB.out]; cases D <;> simp [hk6]
              clear hk6
              go_wp2_with fail
              refine (HAT.out _).mono ?_
              rintro e w6 ⟨rfl, rfl⟩
              go_wp2_with fail
              refine (HWD.out _).mono ?_
              rintro e w6 ⟨rfl, rfl⟩
              go_wp2_with fail
              go_meet
              exact ⟨rfl, rfl⟩
          case rest =>
            obtain ⟨rfl, rfl⟩ := hcut
            clear b0
            cases B with
            | true =>
              have HRS := Lib.hid (HRW1.out rfl)
              clear y0
              have c0 := (HL5.out.bx 0 _ rfl).1
              have c1 := (HL5.out.bx 1 _ rfl).1
              have f0 := (HL5.out.bx 0 _ rfl).2
              have f1 := (HL5.out.bx 1 _ rfl).2
              go_wp2_with fail
              obtain ⟨q0, q1⟩ := filled2 w5 w.heap.size (.int .i64 6) (.int .i64 ((p : Int) + (m : Int))) HL5.out.bx _ rfl
              refine bodyPost_ret (v := .tuple #[.slice none 0 0, .agg #[.int .i64 6, .int .i64 ((p : Int) + (m : Int))]]) (by simp [results, Tryz.results30, go_sem, q0, q1]) rfl ⟨?_, ?_⟩
              · rw [HRS.out]; first | rfl | (show _ = Ending.returned (.tuple #[.slice none 0 0, .agg #[.int .i64 _, .int .i64 ((p + m : Nat) : Int)]]); push_cast; rfl)
              · exact below_set (below_set HL5.out.bl (Nat.le_refl _)) (Nat.le_refl _)
            | false =>
              have HRS := Lib.hid (HRW2.out rfl)
              have y1 := HY1.out
              have y2 := HY2.out
              have y3 := HY3.out
              have hsrc := reads_T w5 (w.heap.size + 1) ⟨k, ⟨st.toArray⟩, n, (p : Int)⟩ HL5.out.sz _ rfl
              have HSRC := Lib.hid hsrc
              clear hsrc
              go_wp2_with (at_builtin; refine wpList_append_reads rfl (.tmp 41) (.tmp 43) 84 rfl (w.heap.size + 1) 114 4 40 elT _ O.length (tCells O) rfl (World.ownsRow.alloc HL5.out.own _) _ 1 _ rfl HSRC.out (by simp [Value.oneCell']) (by have := HOL.out; have := HP.out; have := HS.out; unfold maxLen; omega) (by have := HOL.out; have := HP.out; have := HS.out; omega) (by have := HL5.out.sz; simp; omega) ?_; intro v' w7 hown7 hgrow7 hbel7; have HL7 := Lib.hid (HL5.out.app (W' := w7) (((Below.refl _ w5).alloc HL5.out.sz (.cells #[.int .u8 (k : Int), .string ⟨st.toArray⟩, .int .u64 (n : Int), .int .i64 (p : Int)] 114)).trans hbel7) (by have := hbel7.size; simp at this; omega) (OwnT.snoc (x := ⟨k, ⟨st.toArray⟩, n, (p : Int)⟩) hown7)); clear hown7 hgrow7 hbel7)
              refine (refSkipW s (p + m) _ (by push_cast; rfl) w7 HS.out (by have := HLEN.out; omega)).mono ?_
              rintro e w8 ⟨rfl, rfl⟩
              clear y0 y1 y2 y3
              have HSL : Hid (skipL (s.data.toList.drop (p + m)) ≤ s.size - (p + m)) := Lib.hid (by
                have := skip_le _ (s.data.toList.drop (p + m)) (Nat.le_refl _)
                rwa [List.length_drop, bytes_list] at this)
              go_wp2_with fail
              go_roundg (s.size + 1 - (p + m + skipL (s.data.toList.drop (p + m))))
              case measure => have h1 := HLEN.out; have h2 := HLT.out; omega
              case rel =>
                refine ⟨p + m + skipL (s.data.toList.drop (p + m)), _, (by first | rfl | (push_cast; rfl)), rfl, ?_, HL7, Lib.hid ?_, Lib.hid ?_, Lib.hid ?_⟩
                · have h1 := HSL.out; have h2 := HLEN.out; have h3 := HLT.out; omega
                · rw [HRS.out, tk_skip, List.drop_drop]
                · rw [← List.drop_drop]; exact skip_idem _
                · have h1 := HOL.out; have h2 := HLEN.out; simp; omega
      · obtain rfl : p = s.size := by omega
        have HRS : Hid (R = .inr O) := Lib.hid (by
          rw [HT.out, drop_end s (Nat.le_refl _), tk_nil]
          show Sum.inr (O ++ []) = _
          rw [List.append_nil])
        have c0 := (HL.out.bx 0 _ rfl).1
        have c1 := (HL.out.bx 1 _ rfl).1
        have f0 := (HL.out.bx 0 _ rfl).2
        have f1 := (HL.out.bx 1 _ rfl).2
        clear hlt hp
        go_wp2_with fail
        obtain ⟨q0, q1⟩ := filled2 wr w.heap.size (.int .i64 0) (.int .i64 0) HL.out.bx _ rfl
        refine bodyPost_ret (v := .tuple #[.slice ao O.length co, .agg #[.int .i64 0, .int .i64 0]]) (by simp [results, Tryz.results30, go_sem, q0, q1]) rfl ⟨?_, ?_⟩
        · rw [HRS.out]
          exact ⟨_, rfl, OwnT.at_ (ownsRow_setCell_below (ownsRow_setCell_below HL.out.own (by show w.heap.size < w.heap.size + 1; omega) _) (by show w.heap.size < w.heap.size + 1; omega) _)⟩
        · exact below_set (below_set HL.out.bl (Nat.le_refl _)) (Nat.le_refl _)
end Go.Proofs.YtjgkeillmelkoaaGreat.Dt
namespace Go.Proofs.YtjgkeillmelkoaaGreat.Dt
open Go.RowKit Go.Proofs.YtjgkeillmelkoaaGreat.By

end Go.Proofs.YtjgkeillmelkoaaGreat.Dt
