import Derived.Test.YtjgkeillmelkoaaGreatBk11
import Derived.Test.YtjgkeillmelkoaaGreatBk14
import Derived.Test.YtjgkeillmelkoaaGreatBk09
namespace Go.Proofs.YtjgkeillmelkoaaGreat.Dt
open Go.RowKit Go.Proofs.YtjgkeillmelkoaaGreat.By

theorem rout_iff (o : One) (ts : ByteArray) (tk tn n : Nat) (ta : Int) (hb : ∀ e m, o = .bad e m → e ≠ 0) : o = .tok tk ts.data.toList tn n ↔ ((refT 0 o).e = 0 ∧ (refT 0 o).z = (n : Int) ∧ (⟨(refT 0 o).t.k, (refT 0 o).t.s, (refT 0 o).t.n, ta⟩ : Tk) = ⟨tk, ts, tn, ta⟩) := by
  cases o with
  | tok k s m j =>
    simp only [refT, One.tok.injEq, Tk.mk.injEq, true_and, and_true]
    constructor
    · rintro ⟨rfl, rfl, rfl, rfl⟩
      exact ⟨by simp, rfl, ByteArray.ext Array.toArray_toList, rfl⟩
    · rintro ⟨h, rfl, rfl, rfl⟩
      exact ⟨rfl, rfl, rfl, Int.ofNat.inj (by simpa using h)⟩
  | bad e m =>
    have := hb e m rfl
    simp only [refT]
    constructor
    · intro h; cases h
    · rintro ⟨h, _⟩; omega
set_option maxRecDepth 100000 in
set_option maxHeartbeats 16000000 in
theorem refWriteW (rv : Value) (l : List Tk) (w : World) (h : TksAt w rv l) (ho : ∀ t ∈ l, t.n < 18446744073709551616) (hs : ∀ t ∈ l, t.s.size ≤ 100000) (hl : l.length ≤ 1000) :
    Calls Tryz.prog 94 #[rv] w fun e w' => e = .returned (.tuple #[str (writeL l).1, .int .i64 ((writeL l).2 : Int)]) ∧ Below w.heap.size w w' := by
  obtain ⟨ar, cr, rfl⟩ := h.shape
  have HROW := Lib.hid h
  have HC := Lib.hid (tks_cap2 h).2
  have HL := Lib.hid hl
  have HO := Lib.hid ho
  have HZ := Lib.hid hs
  clear h hl ho hs
  obtain ⟨R, hR⟩ : ∃ R, R = writeL l := ⟨_, rfl⟩
  rw [← hR]
  have HR := Lib.hid hR
  clear hR
  go_enter Tryz.func94, Tryz.ntmps94
  go_wp2_with fail
  go_loopg [4, 5] l.length (fun gk ov iv wr => ∃ (k : Nat) (A : ByteArray), ov = .string A ∧ iv = .int .i64 (k : Int) ∧ gk = l.length - k ∧ k ≤ l.length ∧ Hid (Below w.heap.size w wr) ∧ Hid (A.data.toList = joinL ((l.take k).map textT)) ∧ Hid (A.size ≤ 200000 * k) ∧ Hid (∀ t ∈ l.take k, okT t))
  case atStart => exact ⟨0, ⟨#[]⟩, rfl, rfl, rfl, Nat.zero_le _, Lib.hid (Below.refl _ _), Lib.hid rfl, Lib.hid (Nat.zero_le _), Lib.hid (by simp)⟩
  case round =>
    obtain ⟨k, A, rfl, rfl, rfl, hkl, HBEL, HAC, HAS, HALL⟩ := hrel
    by_cases hlt : k < l.length
    · obtain ⟨t, hy⟩ : ∃ t, l[k]? = some t := ⟨l[k], by simp⟩
      have ilt : (k : Int) < (l.length : Int) := by omega
      have ilt0 : (0 : Int) ≤ (k : Int) := by omega
      have icp : (k : Int) < (cr : Int) := by have := HC.out; omega
      have HLT := Lib.hid hlt
      have hmem : t ∈ l := List.mem_of_getElem? hy
      have HTK : Hid (l.take (k + 1) = l.take k ++ [t]) := Lib.hid (by
        have e : l[k] = t := by rw [List.getElem?_eq_getElem hlt] at hy; exact Option.some.inj hy
        rw [List.take_succ_eq_append_getElem hlt]; exact congrArg (fun x => l.take k ++ [x]) e)
      have HN := Lib.hid (HO.out t hmem)
      have HZZ := Lib.hid (HZ.out t hmem)
      obtain ⟨b, o, rfl, hbz, d0, d1, d2, d3⟩ := at4 (HROW.out.below HBEL.out) hy
      obtain ⟨S, hS⟩ : ∃ S : ByteArray, S = ⟨(refTx t).toArray⟩ := ⟨_, rfl⟩
      have HSE := Lib.hid hS
      have HTX : Hid (∀ W, Calls Tryz.prog 102 #[.agg #[.int .u8 (t.k : Int), .string t.s, .int .u64 (t.n : Int), .int .i64 t.a]] W fun e w' => e = .returned (.string S) ∧ Below W.heap.size W w') := Lib.hid (fun W => by rw [hS]; exact refTxW t.k t.n t.s t.a W HN.out HZZ.out)
      have HBAD : Hid (¬ okT t → R = ([], 2)) := Lib.hid (fun h => by rw [HR.out]; exact write_bad hmem h)
      have HOKT : Hid (okT t ↔ S.data.toList ≠ [] ∧ oneL S.data.toList = .tok t.k t.s.data.toList t.n S.size) := Lib.hid (by rw [hS]; exact refTx_ok t)
      have HSZ : Hid (S.size ≤ 100100) := Lib.hid (by rw [hS]; exact refTx_len HZZ.out HN.out)
      have HST : Hid (okT t → S.data.toList = textT t) := Lib.hid (fun h => by rw [hS]; exact refTx_of h)
      have HD := Lib.hid (And.intro d0 (And.intro d1 (And.intro d2 d3)))
      obtain ⟨tk, ts, tn, ta⟩ := t
      clear hy hlt hkl hbz hmem hS
      go_wp2_with fail
      clear d0 d1 d2 d3
      refine (HTX.out wr).mono ?_
      rintro e w4 ⟨rfl, hb4⟩
      have HB4 := Lib.hid (next HBEL.out hb4)
      have HD4 := Lib.hid (And.intro ((hb4.cell (cell_lt HD.out.1)).trans HD.out.1) (And.intro ((hb4.cell (cell_lt HD.out.2.1)).trans HD.out.2.1) (And.intro ((hb4.cell (cell_lt HD.out.2.2.1)).trans HD.out.2.2.1) ((hb4.cell (cell_lt HD.out.2.2.2)).trans HD.out.2.2.2))))
      clear hb4 HD HTX
      go_upto_region 6 with fail
      by_cases hS0 : S = ⟨#[]⟩
      · subst hS0
        have HRS : Hid (R = ([], 2)) := Lib.hid (HBAD.out (fun h => (HOKT.out.1 h).1 rfl))
        go_wp2_with fail
        go_ret2
        exact ⟨by rw [HRS.out]; rfl, HB4.out⟩
      have hSl : S.data.toList ≠ [] := fun e => hS0 (ByteArray.ext (by rw [← Array.toArray_toList (xs := S.data), e]))
      have es1 : (S.toList == []) = false := by rw [ByteArray.toList_eq]; simpa using hSl
      have es2 : (S.toList == (⟨#[]⟩ : ByteArray).toList) = false := by rw [str_eq]; simpa using hS0
      have HSL := Lib.hid hSl
      have hpos : 0 < S.size := by rw [← bytes_list]; exact List.length_pos_iff.2 hSl
      have hone := fun W => refOneW S 0 0 rfl W (by have := HSZ.out; omega) hpos
      rw [List.drop_zero, refV_eq] at hone
      obtain ⟨U, hU⟩ : ∃ U, U = refT 0 (oneL S.data.toList) := ⟨_, rfl⟩
      rw [← hU] at hone
      have hiff : okT ⟨tk, ts, tn, ta⟩ ↔ (U.e = 0 ∧ U.z = (S.size : Int) ∧ (⟨U.t.k, U.t.s, U.t.n, ta⟩ : Tk) = ⟨tk, ts, tn, ta⟩) := by
        rw [HOKT.out, rout_iff (oneL S.data.toList) ts tk tn S.size ta (fun e m h => (one_bad HSL.out h).2), ← hU]
        exact ⟨fun h => h.2, fun h => ⟨HSL.out, h⟩⟩
      obtain ⟨⟨uk, us, un, ua⟩, uz, ue, ub⟩ := U
      simp only at hone hiff
      have HONE := Lib.hid hone
      obtain ⟨B, hB⟩ : ∃ B, B = decide (¬ okT ⟨tk, ts, tn, ta⟩) := ⟨_, rfl⟩
      have HBB : Hid (B = decide (¬ (ue = 0 ∧ uz = (S.size : Int) ∧ (⟨uk, us, un, ta⟩ : Tk) = ⟨tk, ts, tn, ta⟩))) := Lib.hid (by rw [hB]; exact decide_eq_decide.2 (not_congr hiff))
      have HBT : Hid (B = true → R = ([], 2)) := Lib.hid (fun h => HBAD.out (of_decide_eq_true (hB ▸ h)))
      have HBF : Hid (B = false → okT ⟨tk, ts, tn, ta⟩) := Lib.hid (fun h => Classical.byContradiction (of_decide_eq_false (hB ▸ h)))
      clear hS0 hSl hpos hone hU hiff hB HOKT
      go_upto_region 8 with fail
      clear es1 es2
      go_wp2_with fail
      refine (HONE.out w4).mono ?_
      rintro e w5 ⟨rfl, hb5⟩
      have hb8 : Below w5.heap.size w5 ((w5.alloc (.cells #[.int .u8 (uk : Int), .string us, .int .u64 (un : Int), .int .i64 ua] 114)).alloc (.cells #[.int .i64 ue, .int .i64 ub] 70)) := ((Below.refl _ _).alloc (Nat.le_refl _) _).alloc (by simp) _
      have hb9 : Below w5.heap.size w5 (((w5.alloc (.cells #[.int .u8 (uk : Int), .string us, .int .u64 (un : Int), .int .i64 ua] 114)).alloc (.cells #[.int .i64 ue, .int .i64 ub] 70)).setCell ⟨w5.heap.size, 3, none⟩ (.int .i64 ta)) := below_set hb8 (Nat.le_refl _)
      have HB9 := Lib.hid (next (next HB4.out hb5) hb9)
      have hbt := hb5.trans (hb9.mono hb5.size)
      have y3 := ((hb5.trans (hb8.mono hb5.size)).cell (cell_lt HD4.out.2.2.2)).trans HD4.out.2.2.2
      have HY9 := Lib.hid (And.intro ((hbt.cell (cell_lt HD4.out.1)).trans HD4.out.1) (And.intro ((hbt.cell (cell_lt HD4.out.2.1)).trans HD4.out.2.1) (And.intro ((hbt.cell (cell_lt HD4.out.2.2.1)).trans HD4.out.2.2.1) ((hbt.cell (cell_lt HD4.out.2.2.2)).trans HD4.out.2.2.2))))
      clear hb5 hb8 hb9 hbt
      go_upto_region 9 with fail
      have g0 : ((w5.alloc (.cells #[.int .u8 (uk : Int), .string us, .int .u64 (un : Int), .int .i64 ua] 114)).alloc (.cells #[.int .i64 ue, .int .i64 ub] 70)).cell? ⟨w5.heap.size, 0, none⟩ = some (.int .u8 (uk : Int)) := by go_simp
      have g1 : ((w5.alloc (.cells #[.int .u8 (uk : Int), .string us, .int .u64 (un : Int), .int .i64 ua] 114)).alloc (.cells #[.int .i64 ue, .int .i64 ub] 70)).cell? ⟨w5.heap.size, 1, none⟩ = some (.string us) := by go_simp
      have g2 : ((w5.alloc (.cells #[.int .u8 (uk : Int), .string us, .int .u64 (un : Int), .int .i64 ua] 114)).alloc (.cells #[.int .i64 ue, .int .i64 ub] 70)).cell? ⟨w5.heap.size, 2, none⟩ = some (.int .u64 (un : Int)) := by go_simp
      have g3 : ((w5.alloc (.cells #[.int .u8 (uk : Int), .string us, .int .u64 (un : Int), .int .i64 ua] 114)).alloc (.cells #[.int .i64 ue, .int .i64 ub] 70)).cell? ⟨w5.heap.size, 3, none⟩ = some (.int .i64 ua) := by go_simp
      have q3 : ((w5.alloc (.cells #[.int .u8 (uk : Int), .string us, .int .u64 (un : Int), .int .i64 ua] 114)).alloc (.cells #[.int .i64 ue, .int .i64 ub] 70)).frozen? ⟨w5.heap.size, 3, none⟩ = false := by go_simp
      have p0 : ((w5.alloc (.cells #[.int .u8 (uk : Int), .string us, .int .u64 (un : Int), .int .i64 ua] 114)).alloc (.cells #[.int .i64 ue, .int .i64 ub] 70)).cell? ⟨w5.heap.size + 1, 0, none⟩ = some (.int .i64 ue) := by go_simp
      have HP0 : Hid ((((w5.alloc (.cells #[.int .u8 (uk : Int), .string us, .int .u64 (un : Int), .int .i64 ua] 114)).alloc (.cells #[.int .i64 ue, .int .i64 ub] 70)).setCell ⟨w5.heap.size, 3, none⟩ (.int .i64 ta)).cell? ⟨w5.heap.size + 1, 0, none⟩ = some (.int .i64 ue)) := Lib.hid ((set_other _ _ _ _ _ _ (fun e => by have := e.1; omega)).trans p0)
      clear p0
      generalize ((w5.alloc (.cells #[.int .u8 (uk : Int), .string us, .int .u64 (un : Int), .int .i64 ua] 114)).alloc (.cells #[.int .i64 ue, .int .i64 ub] 70)) = w8 at *
      generalize w5.heap.size + 1 = bs at *
      generalize w5.heap.size = bu at *
      have HG0 := Lib.hid g0
      have HG1 := Lib.hid g1
      have HG2 := Lib.hid g2
      clear g0 g1 g2
      go_upto_region 10 with fail
      have z0 : (w8.setCell ⟨bu, 3, none⟩ (.int .i64 ta)).cell? ⟨bu, 0, none⟩ = some (.int .u8 (uk : Int)) := (set_else3 _ bu 3 0 _ (by decide)).trans HG0.out
      have z1 : (w8.setCell ⟨bu, 3, none⟩ (.int .i64 ta)).cell? ⟨bu, 1, none⟩ = some (.string us) := (set_else3 _ bu 3 1 _ (by decide)).trans HG1.out
      have z2 : (w8.setCell ⟨bu, 3, none⟩ (.int .i64 ta)).cell? ⟨bu, 2, none⟩ = some (.int .u64 (un : Int)) := (set_else3 _ bu 3 2 _ (by decide)).trans HG2.out
      have z3 : (w8.setCell ⟨bu, 3, none⟩ (.int .i64 ta)).cell? ⟨bu, 3, none⟩ = some (.int .i64 ta) := set_same3 w8 ⟨bu, 3, none⟩ _ _ g3
      clear g3 q3 y3
      generalize w8.setCell ⟨bu, 3, none⟩ (.int .i64 ta) = w9 at *
      have HZ4 := Lib.hid (And.intro z0 (And.intro z1 (And.intro z2 z3)))
      clear z0 z1 z2 z3 HG0 HG1 HG2
      go_cut [51] (fun v wx => v = .bool B ∧ Hid (Below w9.heap.size w9 wx))
      case first =>
        have p0 := HP0.out
        have l5 := lat_cell p0
        have iw := wrapK (k : Int) ilt0 (by have h1 := HLT.out; have h2 := HL.out; omega)
        by_cases hc : ue = 0
        · by_cases hp : uz = (S.size : Int)
          · obtain ⟨z0, z1, z2, z3⟩ := HZ4.out
            obtain ⟨y0, y1, y2, y3⟩ := HY9.out
            have hq : ∀ W, (binOp .neq 114 (.agg #[.int .u8 (uk : Int), .string us, .int .u64 (un : Int), .int .i64 ta]) (.agg #[.int .u8 (tk : Int), .string ts, .int .u64 (tn : Int), .int .i64 ta])).run Tryz.prog W = .ok (.bool B) W := neq_toldT ⟨uk, us, un, ta⟩ ⟨tk, ts, tn, ta⟩ B (by rw [HBB.out]; simp [hc, hp])
            subst hc hp
            have l0 := lat_cell z0
            have l1 := lat_cell z1
            have l2 := lat_cell z2
            have l3 := lat_cell z3
            have r0 := lat_cell y0
            have r1 := lat_cell y1
            have r2 := lat_cell y2
            have r3 := lat_cell y3
            refine wp_region_later (by kernel_rfl) (by kernel_rfl) ?_
            repeat (go_big_quiet_step (fail))
            refine wpQuiet_nil ?_
            refine later_out (fun w10 hb10 => ?_)
            have HB10 := Lib.hid hb10
            clear l0 l1 l2 l3 l5 r0 r1 r2 r3 hb10 hq iw
            go_wp2_with fail
            go_meet
            exact ⟨rfl, HB10⟩
          · obtain rfl : B = true := by rw [HBB.out]; simp [hp]
            have e1 : (uz == (S.size : Int)) = false := by first | (simp; done) | (simp; omega)
            have e2 : (uz != (S.size : Int)) = true := by first | (simp; done) | (simp; omega)
            subst hc
            clear hp
            refine wp_region_later (by kernel_rfl) (by kernel_rfl) ?_
            repeat (go_big_quiet_step (fail))
            refine wpQuiet_nil ?_
            refine later_out (fun w10 hb10 => ?_)
            have HB10 := Lib.hid hb10
            clear l5 hb10 iw
            go_wp2_with fail
            go_meet
            exact ⟨rfl, HB10⟩
        · obtain rfl : B = true := by rw [HBB.out]; simp [hc]
          have e1 : (ue == 0) = false := by first | (simp; done) | (simp; omega)
          have e2 : (ue != 0) = true := by first | (simp; done) | (simp; omega)
          clear hc
          refine wp_region_later (by kernel_rfl) (by kernel_rfl) ?_
          repeat (go_big_quiet_step (fail))
          refine wpQuiet_nil ?_
          refine later_out (fun w10 hb10 => ?_)
          have HB10 := Lib.hid hb10
          clear l5 hb10 iw
          go_wp2_with fail
          go_meet
          exact ⟨rfl, HB10⟩
      case rest =>
        rename World => w10
        obtain ⟨rfl, hb10⟩ := hcut
        have HB10 := Lib.hid (next HB9.out hb10.out)
        clear hb10 HB9 HP0 HY9 HZ4
        cases B with
        | true =>
          have HRS := Lib.hid (HBT.out rfl)
          go_wp2_with fail
          go_ret2
          exact ⟨by rw [HRS.out]; rfl, HB10.out⟩
        | false =>
          have HOK := Lib.hid (HBF.out rfl)
          have HKK : Hid (wrap64 ((k : Int) + 1) = ((k + 1 : Nat) : Int)) := Lib.hid (by have h1 := HLT.out; have h2 := HL.out; unfold wrap64; omega)
          have HALN : Hid (∀ x ∈ l.take (k + 1), okT x) := Lib.hid (by
            rw [HTK.out]
            intro x hx
            rcases List.mem_append.1 hx with h | h
            · exact HALL.out x h
            · simp at h; subst h; exact HOK.out)
          have HJN : Hid (joinL ((l.take (k + 1)).map textT) = if k = 0 then S.data.toList else A.data.toList ++ [32] ++ S.data.toList) := Lib.hid (by
            rw [HTK.out, List.map_append, HST.out HOK.out, HAC.out]
            show joinL (_ ++ [textT _]) = _
            rw [joinL_snoc]
            have h1 := HLT.out
            by_cases hk0 : k = 0
            · subst hk0; simp
            · rw [if_neg hk0, if_neg (by intro e; have h2 := congrArg List.length e; rw [List.length_map, List.length_take, List.length_nil] at h2; omega)])
          by_cases hk0 : k = 0
          · have i0 : ¬ (0 : Int) < (k : Int) := by omega
            obtain ⟨Z, hZ⟩ : ∃ Z : ByteArray, Z = A ++ S := ⟨_, rfl⟩
            have hA0 : A.size = 0 := by have := HAS.out; rw [hk0] at this; omega
            have hc1 : ∀ W, (Op.stringOp .add A S).run Tryz.prog W = .ok (.string Z) W := fun W => by rw [hZ]; exact run_string_add_sum (P := Tryz.prog) W _ _ (by have := HSZ.out; omega)
            have HZL : Hid (Z.data.toList = joinL ((l.take (k + 1)).map textT)) := Lib.hid (by
              have hAl : A.data.toList = [] := List.eq_nil_of_length_eq_zero (by rw [bytes_list]; exact hA0)
              rw [HJN.out, if_pos hk0, hZ, ByteArray.data_append, Array.toList_append, hAl, List.nil_append])
            have HZS : Hid (Z.size ≤ 200000 * (k + 1)) := Lib.hid (by rw [hZ, ByteArray.size_append]; have := HSZ.out; omega)
            clear hk0 hZ hA0
            go_wp2_with fail
            clear hc1
            go_roundg (l.length - (k + 1))
            case measure => exact Nat.sub_lt_sub_left HLT.out (Nat.lt_succ_self _)
            case rel => exact ⟨k + 1, Z, rfl, by first | exact congrArg (Value.int .i64) HKK.out | (simp; done) | (simp; exact HKK.out), rfl, HLT.out, HB10, HZL, HZS, HALN⟩
          · have i0 : (0 : Int) < (k : Int) := by omega
            obtain ⟨Y, hY⟩ : ∃ Z : ByteArray, Z = A ++ ⟨#[32]⟩ := ⟨_, rfl⟩
            obtain ⟨Z, hZ⟩ : ∃ Z : ByteArray, Z = Y ++ S := ⟨_, rfl⟩
            have hYs : Y.size ≤ 200000 * k + 1 := by rw [hY, ByteArray.size_append]; have := HAS.out; show A.size + 1 ≤ _; omega
            have hkl : k ≤ 1000 := by have h1 := HLT.out; have h2 := HL.out; omega
            have hc0 : ∀ W, (Op.stringOp .add A ⟨#[32]⟩).run Tryz.prog W = .ok (.string Y) W := fun W => by rw [hY]; exact run_string_add_sum (P := Tryz.prog) W _ _ (by have := HAS.out; show A.size + 1 ≤ _; omega)
            have hc1 : ∀ W, (Op.stringOp .add Y S).run Tryz.prog W = .ok (.string Z) W := fun W => by rw [hZ]; exact run_string_add_sum (P := Tryz.prog) W _ _ (by have := HSZ.out; omega)
            have HZL : Hid (Z.data.toList = joinL ((l.take (k + 1)).map textT)) := Lib.hid (by
              rw [HJN.out, if_neg hk0, hZ, hY, ByteArray.data_append, ByteArray.data_append, Array.toList_append, Array.toList_append])
            have HZS : Hid (Z.size ≤ 200000 * (k + 1)) := Lib.hid (by rw [hZ, ByteArray.size_append]; have := HSZ.out; omega)
            clear hk0 hZ hY hYs hkl
            go_wp2_with fail
            clear hc0 hc1
            go_roundg (l.length - (k + 1))
            case measure => exact Nat.sub_lt_sub_left HLT.out (Nat.lt_succ_self _)
            case rel => exact ⟨k + 1, Z, rfl, by first | exact congrArg (Value.int .i64) HKK.out | (simp; done) | (simp; exact HKK.out), rfl, HLT.out, HB10, HZL, HZS, HALN⟩
    · obtain rfl : k = l.length := by omega
      have i1 : ¬ (l.length : Int) < (l.length : Int) := by omega
      have hall := HALL.out
      have hac := HAC.out
      rw [List.take_length] at hall hac
      have HRS : Hid (R = (joinL (l.map textT), 0)) := Lib.hid (by rw [HR.out]; exact write_ok hall)
      have HAE : Hid (str (joinL (l.map textT)) = .string A) := Lib.hid (by rw [← hac])
      clear hlt hkl hall hac
      go_wp2_with fail
      go_ret2
      exact ⟨by rw [HRS.out, HAE.out]; rfl, HBEL.out⟩
end Go.Proofs.YtjgkeillmelkoaaGreat.Dt
namespace Go.Proofs.YtjgkeillmelkoaaGreat.Dt
open Go.RowKit Go.Proofs.YtjgkeillmelkoaaGreat.By

attribute [local go_sem ↓] veilSt_tk
attribute [local go_sem] run_tkSt run_tkNew okRow4 Value.oneCell'

theorem rowT_new (W : World) (l : List Tk) (cs : Array Value) (h : cs = (tCells l).toArray) : TksAt (W.alloc (.cells cs 114)) (.slice (some ⟨W.heap.size, 0, none⟩) l.length l.length) l := by
  subst h
  refine ⟨_, _, rfl, Nat.le_refl _, fun i x hx => ⟨W.heap.size, 0, rfl, fun j u hu => ?_⟩⟩
  rw [Nat.zero_add]
  exact cell_new W _ _ _ u (tCells_get l i x hx j u hu)
/-- Write at a row that was made for it. -/
theorem refWriteN (l : List Tk) (cs : Array Value) (h : cs = (tCells l).toArray) (ho : ∀ t ∈ l, t.n < 18446744073709551616) (hs : ∀ t ∈ l, t.s.size ≤ 100000) (hl : l.length ≤ 1000) (w : World) :
    Calls Tryz.prog 94 #[.slice (some ⟨w.heap.size, 0, none⟩) l.length l.length] (w.alloc (.cells cs 114)) fun e w' => e = .returned (.tuple #[.string (baL (writeL l).1), .int .i64 ((writeL l).2 : Int)]) ∧ Below w.heap.size w w' :=
  (refWriteW _ l _ (rowT_new w l cs h) ho hs hl).mono fun _ _ ⟨h1, h2⟩ => ⟨h1, next ((Below.refl _ w).alloc (Nat.le_refl _) _) h2⟩
set_option maxRecDepth 100000 in
set_option maxHeartbeats 4000000 in
theorem isNameW (s : ByteArray) (hs : s.size ≤ 100000) : IsNmW s := by
  intro w
  have hR := refWriteN [⟨2, s, 0, 0⟩] #[.int .u8 2, .string s, .int .u64 0, .int .i64 0] rfl (by simp) (by simpa using hs) (by simp) w
  have he : isNm s = decide ((writeL [⟨2, s, 0, 0⟩]).2 = 0) := rfl
  rw [he]
  generalize writeL [⟨2, s, 0, 0⟩] = R at *
  obtain ⟨R1, n⟩ := R
  have e1 : ((n : Int) == 0) = decide (n = 0) := by rw [Bool.eq_iff_iff]; simp
  generalize decide (n = 0) = B at *
  have HR := Lib.hid hR
  clear hR hs he
  go_enter Tryz.func90, Tryz.ntmps90
  go_wp2_with fail
  refine HR.out.mono ?_
  rintro e2 w2 ⟨rfl, hb2⟩
  have HB := Lib.hid hb2
  clear hb2 HR
  go_wp2_with fail
  go_ret
  exact ⟨rfl, HB.out⟩

theorem litR_0 (n : Int) (s : ByteArray) : litR ⟨0, n, s⟩ = (WNULL, decide (n = 0 ∧ s = B0)) := by unfold litR; simp
theorem cell_al {w : World} {a : Addr} {v : Value} (o : Obj) (h : w.cell? a = some v) : (w.alloc o).cell? a = some v := (((Below.refl _ w).alloc (Nat.le_refl _) o).cell (cell_lt h)).trans h
theorem emp_eq (s : ByteArray) : s.toList.isEmpty = decide (s = B0) := by
  by_cases h : s = B0
  · subst h
    rw [ByteArray.toList_eq]; rfl
  · rw [ne_of h, decide_eq_false h]
theorem box3 (w : World) (t : TypeId) (a b c : Value) : (w.alloc (.cells #[a, b, c] t)).cell? ⟨w.heap.size, 0, none⟩ = some a ∧ (w.alloc (.cells #[a, b, c] t)).cell? ⟨w.heap.size, 1, none⟩ = some b ∧ (w.alloc (.cells #[a, b, c] t)).cell? ⟨w.heap.size, 2, none⟩ = some c :=
  have h := row_alloc w t #[a, b, c]
  ⟨h.cell (i := 0) rfl, h.cell (i := 1) rfl, h.cell (i := 2) rfl⟩
set_option maxRecDepth 100000 in
set_option maxHeartbeats 8000000 in
theorem literalW (v : V) (hk : v.k < 256) (hn : -9223372036854775808 ≤ v.n ∧ v.n < 9223372036854775808) (hs : v.s.size ≤ 100000) (w : World) : Calls Tryz.prog 93 #[v.val] w fun e w' =>
    e = .returned (.tuple #[.string (litR v).1, .bool (litR v).2]) ∧ Below w.heap.size w w' := by
  obtain ⟨k, n, s⟩ := v
  have hk : k < 256 := hk
  have hs : s.size ≤ 100000 := hs
  have hn : -9223372036854775808 ≤ n ∧ n < 9223372036854775808 := hn
  show Calls Tryz.prog 93 #[.agg #[.int .u8 (k : Int), .int .i64 n, .string s]] w _
  obtain ⟨K, hK⟩ : ∃ K : Int, K = (k : Int) := ⟨_, rfl⟩
  obtain ⟨R, hR⟩ : ∃ R, R = litR ⟨k, n, s⟩ := ⟨_, rfl⟩
  rw [← hK, ← hR]
  have HK := Lib.hid hK
  have HR := Lib.hid hR
  clear hK hR
  have hb1 : Below w.heap.size w (w.alloc (.cells #[.int .u8 K, .int .i64 n, .string s] 42)) := (Below.refl _ _).alloc (Nat.le_refl _) _
  obtain ⟨c0, c1, c2⟩ := box3 w 42 (.int .u8 K) (.int .i64 n) (.string s)
  have HB := Lib.hid hb1
  clear hb1
  go_enter Tryz.func93, Tryz.ntmps93
  go_upto_region 1 with fail
  generalize w.alloc (.cells #[.int .u8 K, .int .i64 n, .string s] 42) = w1 at *
  have HQ := Lib.hid HB.out.size
  by_cases h0 : k = 0
  · subst h0
    obtain rfl : K = 0 := HK.out
    rw [litR_0] at HR
    have heq : ∀ W, (binOp .eql 42 (.agg #[.int .u8 0, .int .i64 n, .string s]) (.agg #[.int .u8 0, .int .i64 0, .string ⟨#[]⟩])).run Tryz.prog W = .ok (.bool (decide (n = 0 ∧ s = B0))) W :=
      fun W => eq_told ⟨0, n, s⟩ V00 (decide (n = 0 ∧ s = B0)) (by simp [V00, V.mk.injEq]) W
    generalize decide (n = 0 ∧ s = B0) = B at *
    have d0 := cell_al (.cells #[.int .u8 2, .string s, .int .u64 0, .int .i64 0] 114) c0
    have d1 := cell_al (.cells #[.int .u8 2, .string s, .int .u64 0, .int .i64 0] 114) c1
    have d2 := cell_al (.cells #[.int .u8 2, .string s, .int .u64 0, .int .i64 0] 114) c2
    have HT := Lib.hid (row_alloc w1 114 #[.int .u8 2, .string s, .int .u64 0, .int .i64 0])
    have HB2 := Lib.hid (HB.out.alloc HQ.out (.cells #[.int .u8 2, .string s, .int .u64 0, .int .i64 0] 114))
    go_upto_region 2 with fail
    generalize w1.alloc (.cells #[.int .u8 2, .string s, .int .u64 0, .int .i64 0] 114) = w2 at *
    clear c0 c1 c2 HB
    have l0 := lat_cell d0
    have l1 := lat_cell d1
    have l2 := lat_cell d2
    go_upto_region 3 with fail
    refine wp_region_later (by kernel_rfl) (by kernel_rfl) ?_
    repeat (go_big_quiet_step (fail))
    refine wpQuiet_nil ?_
    refine later_out (fun w3 hb3 => ?_)
    go_wp2_with fail
    go_ret2
    exact ⟨by rw [HR.out]; rfl, next HB2.out hb3⟩
  · have e0 : (K == 0) = false := by rw [HK.out]; simp; omega
    by_cases h1 : k = 1
    · subst h1
      obtain rfl : K = 1 := HK.out
      have d0 := cell_al (.cells #[.int .u8 3, .string s, .int .u64 0, .int .i64 0] 114) c0
      have d1 := cell_al (.cells #[.int .u8 3, .string s, .int .u64 0, .int .i64 0] 114) c1
      have d2 := cell_al (.cells #[.int .u8 3, .string s, .int .u64 0, .int .i64 0] 114) c2
      have HT := Lib.hid (row_alloc w1 114 #[.int .u8 3, .string s, .int .u64 0, .int .i64 0])
      have HB2 := Lib.hid (HB.out.alloc HQ.out (.cells #[.int .u8 3, .string s, .int .u64 0, .int .i64 0] 114))
      go_upto_region 2 with fail
      generalize w1.alloc (.cells #[.int .u8 3, .string s, .int .u64 0, .int .i64 0] 114) = w2 at *
      clear c0 c1 c2 HB
      by_cases hneg : n < 0
      · have e1 : litR ⟨1, n, s⟩ = (baL (writeL [⟨6, BMINUS, 0, 0⟩, ⟨3, B0, (-n).toNat, 0⟩]).1, decide (s = B0)) := by unfold litR; simp [hneg]
        rw [e1] at HR
        have hneg2 : IntKind.u64.wrap (-(IntKind.u64.wrap n)) = (((-n).toNat : Nat) : Int) := by rw [IntKind.wrap_u64, IntKind.wrap_u64]; omega
        obtain ⟨N, hN⟩ : ∃ N, N = (-n).toNat := ⟨_, rfl⟩
        rw [← hN] at hneg2 HR
        have HC := Lib.hid (refWriteN [⟨6, BMINUS, 0, 0⟩, ⟨3, B0, N, 0⟩] #[.int .u8 6, .string ⟨#[45]⟩, .int .u64 0, .int .i64 0, .int .u8 3, .string ⟨#[]⟩, .int .u64 (N : Int), .int .i64 0] rfl (by simp; omega) (by simp; decide) (by simp) w2)
        clear hn hk hs hN
        go_wp2_with fail
        refine HC.out.mono ?_
        rintro e3 w3 ⟨rfl, hb3⟩
        have l2 := lat_cell ((hb3.cell (cell_lt d2)).trans d2)
        have HB3 := Lib.hid (next HB2.out hb3)
        have es := emp_eq s
        clear hb3 HC
        go_upto_region 6 with fail
        refine wp_region_later (by kernel_rfl) (by kernel_rfl) ?_
        repeat (go_big_quiet_step (fail))
        refine wpQuiet_nil ?_
        refine later_out (fun w4 hb4 => ?_)
        go_wp2_with fail
        go_ret2
        exact ⟨by rw [HR.out]; rfl, next HB3.out hb4⟩
      · have e1 : litR ⟨1, n, s⟩ = (baL (writeL [⟨3, s, n.toNat, 0⟩]).1, decide ((writeL [⟨3, s, n.toNat, 0⟩]).2 = 0)) := by unfold litR; simp [hneg]
        rw [e1] at HR
        have hpos : IntKind.u64.wrap n = ((n.toNat : Nat) : Int) := by rw [IntKind.wrap_u64]; omega
        obtain ⟨N, hN⟩ : ∃ N, N = n.toNat := ⟨_, rfl⟩
        rw [← hN] at hpos HR
        have hC : ∀ W : World, Calls Tryz.prog 94 #[.slice (some ⟨W.heap.size, 0, none⟩) 1 1] (W.alloc (.cells #[.int .u8 3, .string s, .int .u64 (N : Int), .int .i64 0] 114)) fun e w' => e = .returned (.tuple #[.string (baL (writeL [⟨3, s, N, 0⟩]).1), .int .i64 ((writeL [⟨3, s, N, 0⟩]).2 : Int)]) ∧ Below W.heap.size W w' :=
          fun W => refWriteN [⟨3, s, N, 0⟩] _ rfl (by simp; omega) (by simpa using hs) (by simp) W
        generalize writeL [⟨3, s, N, 0⟩] = L at *
        obtain ⟨L1, L2⟩ := L
        have e2 : ((L2 : Int) == 0) = decide (L2 = 0) := by rw [Bool.eq_iff_iff]; simp
        generalize decide (L2 = 0) = B at *
        have HC := Lib.hid hC
        clear hn hk hs hN hC
        go_upto_region 8 with fail
        have hR4 := HT.out.b (n := 4) rfl
        go_upto_region 11 with fail
        clear hR4
        have HR5 := Lib.hid (HT.out.set #[.int .u8 3, .string s, .int .u64 (N : Int), .int .i64 0])
        have HB3 := Lib.hid (below_setRow' HB2.out HQ.out #[.int .u8 3, .string s, .int .u64 (N : Int), .int .i64 0])
        generalize w2.setRow w1.heap.size #[.int .u8 3, .string s, .int .u64 (N : Int), .int .i64 0] = w3 at *
        have q0 := HR5.out.cell (i := 0) (v := .int .u8 3) rfl
        have q1 := HR5.out.cell (i := 1) (v := .string s) rfl
        have q2 := HR5.out.cell (i := 2) (v := .int .u64 (N : Int)) rfl
        have q3 := HR5.out.cell (i := 3) (v := .int .i64 0) rfl
        clear d0 d1 d2
        go_wp2_with fail
        refine (HC.out w3).mono ?_
        rintro e4 w4 ⟨rfl, hb4⟩
        have HB4 := Lib.hid (next HB3.out hb4)
        clear hb4 HC q0 q1 q2 q3
        go_wp2_with fail
        go_ret2
        exact ⟨by rw [HR.out]; rfl, HB4.out⟩
    · have ek : (K == 1) = false := by rw [HK.out]; simp; omega
      obtain ⟨K2, hK2⟩ : ∃ K2, K2 = IntKind.u8.wrap (K + 2) := ⟨_, rfl⟩
      have HK2 := Lib.hid hK2
      have hK3 := hK2.symm
      clear hK2
      have d0 := cell_al (.cells #[.int .u8 K2, .string s, .int .u64 0, .int .i64 0] 114) c0
      have d1 := cell_al (.cells #[.int .u8 K2, .string s, .int .u64 0, .int .i64 0] 114) c1
      have d2 := cell_al (.cells #[.int .u8 K2, .string s, .int .u64 0, .int .i64 0] 114) c2
      have HT := Lib.hid (row_alloc w1 114 #[.int .u8 K2, .string s, .int .u64 0, .int .i64 0])
      have HB2 := Lib.hid (HB.out.alloc HQ.out (.cells #[.int .u8 K2, .string s, .int .u64 0, .int .i64 0] 114))
      go_upto_region 2 with fail
      generalize w1.alloc (.cells #[.int .u8 K2, .string s, .int .u64 0, .int .i64 0] 114) = w2 at *
      clear c0 c1 c2 HB
      by_cases h3 : n ≠ 0 ∨ 3 < k
      · have e1 : litR ⟨k, n, s⟩ = (B0, false) := by unfold litR; simp [h0, h1]; omega
        rw [e1] at HR
        by_cases hn0 : n = 0
        · subst hn0
          have hk3 : (3 : Int) < K := by rw [HK.out]; omega
          clear hk hs hn h3
          go_wp2_with fail
          go_ret2
          exact ⟨by rw [HR.out]; rfl, HB2.out⟩
        · have en : (n != 0) = true := by simp [hn0]
          clear hk hs hn h3
          go_wp2_with fail
          go_ret2
          exact ⟨by rw [HR.out]; rfl, HB2.out⟩
      · obtain rfl : n = 0 := by omega
        have e1 : litR ⟨k, 0, s⟩ = (baL (writeL [⟨k + 2, s, 0, 0⟩]).1, decide ((writeL [⟨k + 2, s, 0, 0⟩]).2 = 0)) := by unfold litR; simp [h0, h1]; omega
        rw [e1] at HR
        have hk3 : ¬ (3 : Int) < K := by rw [HK.out]; omega
        have hk2 : K2 = ((k + 2 : Nat) : Int) := by rw [HK2.out, HK.out, IntKind.wrap_u8]; omega
        obtain ⟨M, hM⟩ : ∃ M, M = k + 2 := ⟨_, rfl⟩
        have hk4 : M < 256 := by omega
        rw [← hM] at hk2 HR
        subst hk2
        have hC : ∀ W : World, Calls Tryz.prog 94 #[.slice (some ⟨W.heap.size, 0, none⟩) 1 1] (W.alloc (.cells #[.int .u8 (M : Int), .string s, .int .u64 0, .int .i64 0] 114)) fun e w' => e = .returned (.tuple #[.string (baL (writeL [⟨M, s, 0, 0⟩]).1), .int .i64 ((writeL [⟨M, s, 0, 0⟩]).2 : Int)]) ∧ Below W.heap.size W w' :=
          fun W => refWriteN [⟨M, s, 0, 0⟩] _ rfl (by simp) (by simpa using hs) (by simp) W
        generalize writeL [⟨M, s, 0, 0⟩] = L at *
        obtain ⟨L1, L2⟩ := L
        have e2 : ((L2 : Int) == 0) = decide (L2 = 0) := by rw [Bool.eq_iff_iff]; simp
        generalize decide (L2 = 0) = B at *
        have HC := Lib.hid hC
        have q0 := HT.out.cell (i := 0) (v := .int .u8 (M : Int)) rfl
        have q1 := HT.out.cell (i := 1) (v := .string s) rfl
        have q2 := HT.out.cell (i := 2) (v := .int .u64 0) rfl
        have q3 := HT.out.cell (i := 3) (v := .int .i64 0) rfl
        clear hn hk hs hC hM hk4 h3 hK3
        go_wp2_with fail
        refine (HC.out w2).mono ?_
        rintro e4 w4 ⟨rfl, hb4⟩
        have HB4 := Lib.hid (next HB2.out hb4)
        clear hb4 HC q0 q1 q2 q3
        go_wp2_with fail
        go_ret2
        exact ⟨by rw [HR.out]; rfl, HB4.out⟩
end Go.Proofs.YtjgkeillmelkoaaGreat.Dt
