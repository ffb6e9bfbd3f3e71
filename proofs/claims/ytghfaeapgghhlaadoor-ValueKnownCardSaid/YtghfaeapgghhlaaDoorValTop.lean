/-
  The walk of value.Read: any text, the value whose literal it is.
-/
import Derived.Test.YtghfaeapgghhlaaDoorValRead
namespace Go.Proofs.YtghfaeapgghhlaaDoor.Dt
open Go.RowKit Go.Proofs.YtghfaeapgghhlaaDoor.By

theorem prefix2 (l : List UInt8) (a b : UInt8) : Lib.hasPrefix l [a, b] = decide (l.head? = some a ∧ l[1]? = some b) := by
  unfold Lib.hasPrefix
  rcases l with _ | ⟨c, _ | ⟨d, l⟩⟩
  · simp [List.isPrefixOf]
  · simp [List.isPrefixOf]
  · by_cases h1 : a = c
    · by_cases h2 : b = d
      · subst h1 h2; simp [List.isPrefixOf]
      · have h3 : ¬ d = b := fun e => h2 e.symm
        simp [List.isPrefixOf, h2, h3]
    · have h3 : ¬ c = a := fun e => h1 e.symm
      simp [List.isPrefixOf, h1, h3]
theorem prefix1 (l : List UInt8) (a : UInt8) : Lib.hasPrefix l [a] = decide (l.head? = some a) := by
  unfold Lib.hasPrefix
  rcases l with _ | ⟨c, l⟩
  · simp [List.isPrefixOf]
  · by_cases h1 : a = c
    · subst h1; simp [List.isPrefixOf]
    · have h3 : ¬ c = a := fun e => h1 e.symm
      simp [List.isPrefixOf, h1, h3]
theorem suffix1 (l : List UInt8) (a : UInt8) : Lib.hasSuffix l [a] = decide (l.getLast? = some a) := by
  have := prefix1 l.reverse a
  rw [List.head?_reverse] at this
  exact this

theorem extract_mid (s : ByteArray) : (s.extract 2 (s.size - 1)).data.toList = (s.data.toList.drop 2).dropLast := by
  rw [ByteArray.data_extract, Array.toList_extract, List.extract_eq_take_drop, List.dropLast_eq_take, List.length_drop, bytes_list]
  congr 1
theorem unq_len : ∀ (m : Nat) (l t : List UInt8), l.length ≤ m → unq l = some t → t.length ≤ l.length := fun m l t h1 h2 => by
  have := quoteL_unq m l t h1 h2
  have h3 : ∀ x : List UInt8, x.length ≤ (quoteL x).length := fun x => by
    induction x with
    | nil => exact Nat.le_refl _
    | cons c x ih => simp only [quoteL]; split <;> simp only [List.length_cons] <;> omega
  have h4 := h3 t
  rw [this] at h4
  exact h4
theorem textS_len {l t : List UInt8} (h : textS l = some t) : t.length ≤ l.length := by
  unfold textS at h
  by_cases hx : l.length < 2 ∨ l.head? ≠ some 39 ∨ l.getLast? ≠ some 39
  · rw [if_pos hx] at h; cases h
  · rw [if_neg hx] at h
    have := unq_len _ _ _ (Nat.le_refl _) h
    rw [List.length_dropLast, List.length_drop] at this
    omega
/-- The beginnings and the end, asked one behind the other. -/
theorem blobF_parts (s : ByteArray) (p q : Bool) (hp : p = decide (s.data.toList.head? = some 120 ∧ s.data.toList[1]? = some 39)) (hq : q = decide (s.data.toList.getLast? = some 39)) :
    blobF s.data.toList ↔ (p = true ∧ q = true ∧ 2 < s.size) := by
  subst hp hq
  unfold blobF
  rw [bytes_list]
  simp only [decide_eq_true_eq]
  constructor
  · rintro ⟨h1, h2, h3, h4⟩; exact ⟨⟨h2, h3⟩, h4, h1⟩
  · rintro ⟨⟨h2, h3⟩, h4, h1⟩; exact ⟨h1, h2, h3, h4⟩
theorem hasP2 (s : ByteArray) (W : World) : Calls Tryd.prog 38 #[.string s, .string ⟨#[120, 39]⟩] W fun e w' => e = .returned (.bool (decide (s.data.toList.head? = some 120 ∧ s.data.toList[1]? = some 39))) ∧ w' = W := by
  refine (Tryd.strings_HasPrefix s ⟨#[120, 39]⟩ W).mono fun e w' h => ?_
  obtain ⟨rfl, rfl⟩ := h
  exact ⟨by rw [← prefix2], rfl⟩
theorem hasP1 (s : ByteArray) (W : World) : Calls Tryd.prog 38 #[.string s, .string ⟨#[39]⟩] W fun e w' => e = .returned (.bool (decide (s.data.toList.head? = some 39))) ∧ w' = W := by
  refine (Tryd.strings_HasPrefix s ⟨#[39]⟩ W).mono fun e w' h => ?_
  obtain ⟨rfl, rfl⟩ := h
  exact ⟨by rw [← prefix1], rfl⟩
theorem hasS1 (s : ByteArray) (W : World) (hs : s.size ≤ 1000000) : Calls Tryd.prog 39 #[.string s, .string ⟨#[39]⟩] W fun e w' => e = .returned (.bool (decide (s.data.toList.getLast? = some 39))) ∧ w' = W := by
  refine (Tryd.strings_HasSuffix s ⟨#[39]⟩ W (by omega)).mono fun e w' h => ?_
  obtain ⟨rfl, rfl⟩ := h
  exact ⟨by rw [← suffix1], rfl⟩

set_option maxRecDepth 100000 in
set_option maxHeartbeats 8000000 in
theorem readW (s : ByteArray) (w : World) (hw : LW w) (hs : s.size ≤ 1000000) :
    Calls Tryd.prog 16 #[.string s] w fun e w' => e = .returned (.tuple #[(readS s.data.toList).1.val, .int .i64 ((readS s.data.toList).2 : Int)]) ∧ Below w.heap.size w w' := by
  have HW := Lib.hid hw
  have HS := Lib.hid hs
  obtain ⟨R, hR⟩ : ∃ R, R = readS s.data.toList := ⟨_, rfl⟩
  rw [← hR]
  have HR := Lib.hid hR
  clear hw hs hR
  go_enter Tryd.func16, Tryd.ntmps16
  go_upto_block 0 with fail
  have HBR : Hid (ResBox w.heap.size ((w.alloc (.cells #[.int .u8 0, .int .i64 0, .string ⟨#[]⟩] 27)).alloc (.cells #[.int .u8 0, .int .i64 0, .string ⟨#[]⟩] 27))) := Lib.hid (by constructor <;> go_simp)
  have HBX : Hid (Box (w.heap.size + 1) [.int .u8 0, .int .i64 0, .string ⟨#[]⟩] ((w.alloc (.cells #[.int .u8 0, .int .i64 0, .string ⟨#[]⟩] 27)).alloc (.cells #[.int .u8 0, .int .i64 0, .string ⟨#[]⟩] 27))) := Lib.hid (by
    intro i u hu
    rcases i with _ | _ | _ | i <;> simp at hu <;> subst hu <;> exact ⟨by go_simp, by go_simp⟩)
  have HB2 : Hid (Below w.heap.size w ((w.alloc (.cells #[.int .u8 0, .int .i64 0, .string ⟨#[]⟩] 27)).alloc (.cells #[.int .u8 0, .int .i64 0, .string ⟨#[]⟩] 27))) := Lib.hid (((Below.refl _ _).alloc (Nat.le_refl _) _).alloc (by simp) _)
  generalize (w.alloc (.cells #[.int .u8 0, .int .i64 0, .string ⟨#[]⟩] 27)).alloc (.cells #[.int .u8 0, .int .i64 0, .string ⟨#[]⟩] 27) = W2 at *
  go_cut [5] (fun okv wx => ∃ (ok : Bool) (u : V), okv = .bool ok ∧ Hid (¬ s.data.toList = [78, 85, 76, 76] ∧ rawS s.data.toList = (if ok = true then some u else none) ∧ (ok = true → ¬ badV u ∧ u.k < 256 ∧ u.s.size ≤ 1000000)) ∧ Hid (ResBox w.heap.size wx) ∧ Hid (Box (w.heap.size + 1) u.cells wx) ∧ Hid (Below w.heap.size w wx))
  case first =>
    by_cases hN : s.data.toList = [78, 85, 76, 76]
    · have HR : Hid (R = (V0, 0)) := Lib.hid (by rw [HR.out]; unfold readS; rw [if_pos hN])
      have hN' : (s.toList == [78, 85, 76, 76]) = true := by rw [ByteArray.toList_eq, hN]; rfl
      have hc := HBR.out
      obtain ⟨c0, c1, c2, f0, f1, f2⟩ := hc
      have hx := HBX.out
      obtain ⟨x0, g0⟩ := hx 0 _ rfl
      obtain ⟨x1, g1⟩ := hx 1 _ rfl
      obtain ⟨x2, g2⟩ := hx 2 _ rfl
      have hz1 : w.heap.size + 1 < W2.heap.size := hx.lt
      clear hN hx
      go_wp2_with fail
      obtain ⟨q0, q1, q2⟩ := filled3 W2 w.heap.size _ _ _ (.int .u8 0) (.int .i64 0) (.string ⟨#[]⟩) c0 c1 c2
      refine bodyPost_ret (v := .tuple #[V0.val, .int .i64 0]) (by simp [results, Tryd.results16, go_sem, q0, q1, q2, V0]; try rfl) rfl ⟨by rw [HR.out]; rfl, ?_⟩
      exact below_set (below_set (below_set HB2.out (Nat.le_refl _)) (Nat.le_refl _)) (Nat.le_refl _)
    · have hN' : (s.toList == [78, 85, 76, 76]) = false := by rw [ByteArray.toList_eq]; simpa using hN
      have HN := Lib.hid hN
      clear hN
      go_upto_region 6 with fail
      obtain ⟨B, hB⟩ : ∃ B, B = decide (blobF s.data.toList) := ⟨_, rfl⟩
      have HBL := Lib.hid hB
      clear hB
      go_cut [19] (fun c wx => c = .bool B ∧ W2 = wx)
      case first =>
        obtain ⟨p, hp⟩ : ∃ p, p = decide (s.data.toList.head? = some 120 ∧ s.data.toList[1]? = some 39) := ⟨_, rfl⟩
        obtain ⟨q, hq⟩ : ∃ q, q = decide (s.data.toList.getLast? = some 39) := ⟨_, rfl⟩
        have HBF := Lib.hid (blobF_parts s p q hp hq)
        have HP2 := Lib.hid (hasP2 s W2)
        have HS1 := Lib.hid (hasS1 s W2 HS.out)
        rw [← hp] at HP2
        rw [← hq] at HS1
        clear hp hq
        cases p with
        | false =>
          have hb : B = false := by rw [HBL.out]; exact decide_eq_false fun h => by have := HBF.out.1 h; simp at this
          subst hb
          go_wp2_with fail
          refine HP2.out.mono ?_
          rintro e w1 ⟨rfl, rfl⟩
          go_wp2_with fail
          go_meet
          exact ⟨rfl, rfl⟩
        | true =>
          cases q with
          | false =>
            have hb : B = false := by rw [HBL.out]; exact decide_eq_false fun h => by have := HBF.out.1 h; simp at this
            subst hb
            go_wp2_with fail
            refine HP2.out.mono ?_
            rintro e w1 ⟨rfl, rfl⟩
            go_wp2_with fail
            refine HS1.out.mono ?_
            rintro e w1 ⟨rfl, rfl⟩
            go_wp2_with fail
            go_meet
            exact ⟨rfl, rfl⟩
          | true =>
            by_cases hz : 2 < s.size
            · have hb : B = true := by rw [HBL.out]; exact decide_eq_true (HBF.out.2 ⟨rfl, rfl, hz⟩)
              have hz' : (2 : Int) < (s.size : Int) := by omega
              subst hb
              clear hz
              go_wp2_with fail
              refine HP2.out.mono ?_
              rintro e w1 ⟨rfl, rfl⟩
              go_wp2_with fail
              refine HS1.out.mono ?_
              rintro e w1 ⟨rfl, rfl⟩
              go_wp2_with fail
              go_meet
              exact ⟨rfl, rfl⟩
            · have hb : B = false := by rw [HBL.out]; exact decide_eq_false fun h => hz (HBF.out.1 h).2.2
              have hz' : decide ((2 : Int) < (s.size : Int)) = false := decide_eq_false (by omega)
              subst hb
              clear hz
              go_wp2_with fail
              refine HP2.out.mono ?_
              rintro e w1 ⟨rfl, rfl⟩
              go_wp2_with fail
              refine HS1.out.mono ?_
              rintro e w1 ⟨rfl, rfl⟩
              go_wp2_with fail
              go_meet
              exact ⟨by first | rfl | rw [hz'], rfl⟩
      case rest =>
        obtain ⟨rfl, rfl⟩ := hcut
        obtain ⟨x0, g0⟩ := HBX.out 0 _ rfl
        obtain ⟨x1, g1⟩ := HBX.out 1 _ rfl
        obtain ⟨x2, g2⟩ := HBX.out 2 _ rfl
        cases B with
        | true =>
          have hbl : blobF s.data.toList := of_decide_eq_true HBL.out.symm
          have hs3 : 3 ≤ s.size := by rw [← bytes_list]; exact hbl.1
          have hw1 : wrap64 ((s.size : Int) - 1) = ((s.size - 1 : Nat) : Int) := by have := HS.out; unfold wrap64; omega
          have hle1 : (2 : Int) ≤ ((s.size - 1 : Nat) : Int) := by omega
          have hle2 : ((s.size - 1 : Nat) : Int) ≤ (s.size : Int) := by omega
          have HE := Lib.hid (extract_mid s)
          have HBF := Lib.hid hbl
          have HES : Hid ((s.extract 2 (s.size - 1)).size ≤ 1000000) := Lib.hid (by rw [ByteArray.size_extract]; have := HS.out; omega)
          clear hbl hs3
          have hbw : ∀ W, Calls Tryd.prog 40 #[.string (s.extract 2 (s.size - 1))] W fun e w' => e = .returned (.tuple #[str ((unhex (s.data.toList.drop 2).dropLast).getD []), .bool (unhex (s.data.toList.drop 2).dropLast).isSome]) ∧ Below W.heap.size W w' := fun W => by
            rw [← HE.out]; exact blobW (s.extract 2 (s.size - 1)) W HES.out
          have hraw : rawS s.data.toList = (unhex (s.data.toList.drop 2).dropLast).map fun t => (⟨3, 0, ⟨t.toArray⟩⟩ : V) := by unfold rawS; rw [if_pos HBF.out]
          cases hu : unhex (s.data.toList.drop 2).dropLast with
          | none =>
            rw [hu] at hbw hraw
            have HRAW := Lib.hid hraw
            have HBW := Lib.hid hbw
            clear hu hbw hraw
            go_wp2_with fail
            have HBR3 : Hid (ResBox w.heap.size (W2.setCell ⟨w.heap.size + 1, 0, none⟩ (.int .u8 3))) := Lib.hid (ResBox.else HBR.out (by omega))
            have HBX3 : Hid (Box (w.heap.size + 1) [.int .u8 3, .int .i64 0, .string ⟨#[]⟩] (W2.setCell ⟨w.heap.size + 1, 0, none⟩ (.int .u8 3))) := Lib.hid (HBX.out.set (i := 0) (u := .int .u8 3) (by simp))
            have HB3 : Hid (Below w.heap.size w (W2.setCell ⟨w.heap.size + 1, 0, none⟩ (.int .u8 3))) := Lib.hid (below_set HB2.out (by omega))
            generalize (W2.setCell ⟨w.heap.size + 1, 0, none⟩ (.int .u8 3)) = W3 at *
            refine (HBW.out W3).mono ?_
            rintro e w4 ⟨rfl, hb4⟩
            have HBR4 := Lib.hid (HBR3.out.later hb4)
            have HBX4 := Lib.hid (HBX3.out.later hb4)
            have HB4 := Lib.hid (next HB3.out hb4)
            obtain ⟨y0, k0⟩ := HBX4.out 0 _ rfl
            obtain ⟨y1, k1⟩ := HBX4.out 1 _ rfl
            obtain ⟨y2, k2⟩ := HBX4.out 2 _ rfl
            clear hb4 x0 x1 x2 g0 g1 g2
            go_wp2_with fail
            go_meet
            exact ⟨false, ⟨3, 0, ⟨#[]⟩⟩, rfl, Lib.hid ⟨HN.out, HRAW.out, fun h => by cases h⟩, Lib.hid (ResBox.else HBR4.out (by omega)), Lib.hid (HBX4.out.set (i := 2) (u := .string ⟨#[]⟩) (by simp)), Lib.hid (below_set HB4.out (by omega))⟩
          | some t =>
            have htl : t.length ≤ 1000000 := by have := unhex_length hu; rw [← HE.out, bytes_list] at this; have := HES.out; omega
            rw [hu] at hbw hraw
            have HTL := Lib.hid htl
            have HRAW := Lib.hid hraw
            have HBW := Lib.hid hbw
            clear hu hbw hraw htl
            go_wp2_with fail
            have HBR3 : Hid (ResBox w.heap.size (W2.setCell ⟨w.heap.size + 1, 0, none⟩ (.int .u8 3))) := Lib.hid (ResBox.else HBR.out (by omega))
            have HBX3 : Hid (Box (w.heap.size + 1) [.int .u8 3, .int .i64 0, .string ⟨#[]⟩] (W2.setCell ⟨w.heap.size + 1, 0, none⟩ (.int .u8 3))) := Lib.hid (HBX.out.set (i := 0) (u := .int .u8 3) (by simp))
            have HB3 : Hid (Below w.heap.size w (W2.setCell ⟨w.heap.size + 1, 0, none⟩ (.int .u8 3))) := Lib.hid (below_set HB2.out (by omega))
            generalize (W2.setCell ⟨w.heap.size + 1, 0, none⟩ (.int .u8 3)) = W3 at *
            refine (HBW.out W3).mono ?_
            rintro e w4 ⟨rfl, hb4⟩
            have HBR4 := Lib.hid (HBR3.out.later hb4)
            have HBX4 := Lib.hid (HBX3.out.later hb4)
            have HB4 := Lib.hid (next HB3.out hb4)
            obtain ⟨y0, k0⟩ := HBX4.out 0 _ rfl
            obtain ⟨y1, k1⟩ := HBX4.out 1 _ rfl
            obtain ⟨y2, k2⟩ := HBX4.out 2 _ rfl
            clear hb4 x0 x1 x2 g0 g1 g2
            go_wp2_with fail
            go_meet
            exact ⟨true, ⟨3, 0, ⟨t.toArray⟩⟩, rfl, Lib.hid ⟨HN.out, HRAW.out, fun _ => ⟨not_bad23 (.inr rfl) _, by show 3 < 256; decide, HTL.out⟩⟩, Lib.hid (ResBox.else HBR4.out (by omega)), Lib.hid (HBX4.out.set (i := 2) (u := .string ⟨t.toArray⟩) (by simp)), Lib.hid (below_set HB4.out (by omega))⟩
        | false =>
          have hnb : ¬ blobF s.data.toList := of_decide_eq_false HBL.out.symm
          have HNB := Lib.hid hnb
          clear hnb
          have hp1 : ∀ W, Calls Tryd.prog 38 #[.string s, .string ⟨#[39]⟩] W fun e w' => e = .returned (.bool (decide (s.data.toList.head? = some 39))) ∧ w' = W := fun W => hasP1 s W
          by_cases hq : s.data.toList.head? = some 39
          · have hraw : rawS s.data.toList = (textS s.data.toList).map fun t => (⟨2, 0, ⟨t.toArray⟩⟩ : V) := by unfold rawS; rw [if_neg HNB.out, if_pos hq]
            rw [decide_eq_true hq] at hp1
            have HP1 := Lib.hid hp1
            have hbw : ∀ W, Calls Tryd.prog 41 #[.string s] W fun e w' => e = .returned (.tuple #[str ((textS s.data.toList).getD []), .bool (textS s.data.toList).isSome]) ∧ Below W.heap.size W w' := fun W => textW s W HS.out
            clear hp1 hq
            cases hu : textS s.data.toList with
            | none =>
              rw [hu] at hbw hraw
              have HRAW := Lib.hid hraw
              have HBW := Lib.hid hbw
              clear hu hbw hraw
              go_wp2_with fail
              refine (HP1.out _).mono ?_
              rintro e w1 ⟨rfl, rfl⟩
              go_wp2_with fail
              have HBR3 : Hid (ResBox w.heap.size (w1.setCell ⟨w.heap.size + 1, 0, none⟩ (.int .u8 2))) := Lib.hid (ResBox.else HBR.out (by omega))
              have HBX3 : Hid (Box (w.heap.size + 1) [.int .u8 2, .int .i64 0, .string ⟨#[]⟩] (w1.setCell ⟨w.heap.size + 1, 0, none⟩ (.int .u8 2))) := Lib.hid (HBX.out.set (i := 0) (u := .int .u8 2) (by simp))
              have HB3 : Hid (Below w.heap.size w (w1.setCell ⟨w.heap.size + 1, 0, none⟩ (.int .u8 2))) := Lib.hid (below_set HB2.out (by omega))
              generalize (w1.setCell ⟨w.heap.size + 1, 0, none⟩ (.int .u8 2)) = W3 at *
              refine (HBW.out W3).mono ?_
              rintro e w4 ⟨rfl, hb4⟩
              have HBR4 := Lib.hid (HBR3.out.later hb4)
              have HBX4 := Lib.hid (HBX3.out.later hb4)
              have HB4 := Lib.hid (next HB3.out hb4)
              obtain ⟨y0, k0⟩ := HBX4.out 0 _ rfl
              obtain ⟨y1, k1⟩ := HBX4.out 1 _ rfl
              obtain ⟨y2, k2⟩ := HBX4.out 2 _ rfl
              clear hb4 x0 x1 x2 g0 g1 g2
              go_wp2_with fail
              go_meet
              exact ⟨false, ⟨2, 0, ⟨#[]⟩⟩, rfl, Lib.hid ⟨HN.out, HRAW.out, fun h => by cases h⟩, Lib.hid (ResBox.else HBR4.out (by omega)), Lib.hid (HBX4.out.set (i := 2) (u := .string ⟨#[]⟩) (by simp)), Lib.hid (below_set HB4.out (by omega))⟩
            | some t =>
              have htl : t.length ≤ 1000000 := by have := textS_len hu; rw [bytes_list] at this; have := HS.out; omega
              rw [hu] at hbw hraw
              have HTL := Lib.hid htl
              have HRAW := Lib.hid hraw
              have HBW := Lib.hid hbw
              clear hu hbw hraw htl
              go_wp2_with fail
              refine (HP1.out _).mono ?_
              rintro e w1 ⟨rfl, rfl⟩
              go_wp2_with fail
              have HBR3 : Hid (ResBox w.heap.size (w1.setCell ⟨w.heap.size + 1, 0, none⟩ (.int .u8 2))) := Lib.hid (ResBox.else HBR.out (by omega))
              have HBX3 : Hid (Box (w.heap.size + 1) [.int .u8 2, .int .i64 0, .string ⟨#[]⟩] (w1.setCell ⟨w.heap.size + 1, 0, none⟩ (.int .u8 2))) := Lib.hid (HBX.out.set (i := 0) (u := .int .u8 2) (by simp))
              have HB3 : Hid (Below w.heap.size w (w1.setCell ⟨w.heap.size + 1, 0, none⟩ (.int .u8 2))) := Lib.hid (below_set HB2.out (by omega))
              generalize (w1.setCell ⟨w.heap.size + 1, 0, none⟩ (.int .u8 2)) = W3 at *
              refine (HBW.out W3).mono ?_
              rintro e w4 ⟨rfl, hb4⟩
              have HBR4 := Lib.hid (HBR3.out.later hb4)
              have HBX4 := Lib.hid (HBX3.out.later hb4)
              have HB4 := Lib.hid (next HB3.out hb4)
              obtain ⟨y0, k0⟩ := HBX4.out 0 _ rfl
              obtain ⟨y1, k1⟩ := HBX4.out 1 _ rfl
              obtain ⟨y2, k2⟩ := HBX4.out 2 _ rfl
              clear hb4 x0 x1 x2 g0 g1 g2
              go_wp2_with fail
              go_meet
              exact ⟨true, ⟨2, 0, ⟨t.toArray⟩⟩, rfl, Lib.hid ⟨HN.out, HRAW.out, fun _ => ⟨not_bad23 (.inl rfl) _, by show 2 < 256; decide, HTL.out⟩⟩, Lib.hid (ResBox.else HBR4.out (by omega)), Lib.hid (HBX4.out.set (i := 2) (u := .string ⟨t.toArray⟩) (by simp)), Lib.hid (below_set HB4.out (by omega))⟩
          · have hraw : rawS s.data.toList = (numS s.data.toList).map fun n => (⟨1, n, ByteArray.empty⟩ : V) := by unfold rawS; rw [if_neg HNB.out, if_neg hq]
            rw [decide_eq_false hq] at hp1
            have HP1 := Lib.hid hp1
            have HRAW := Lib.hid hraw
            clear hp1 hq hraw
            go_wp2_with fail
            refine (HP1.out _).mono ?_
            rintro e w1 ⟨rfl, rfl⟩
            go_wp2_with fail
            have HBR3 : Hid (ResBox w.heap.size (w1.setCell ⟨w.heap.size + 1, 0, none⟩ (.int .u8 1))) := Lib.hid (ResBox.else HBR.out (by omega))
            have HBX3 : Hid (Box (w.heap.size + 1) [.int .u8 1, .int .i64 0, .string ⟨#[]⟩] (w1.setCell ⟨w.heap.size + 1, 0, none⟩ (.int .u8 1))) := Lib.hid (HBX.out.set (i := 0) (u := .int .u8 1) (by simp))
            have HB3 : Hid (Below w.heap.size w (w1.setCell ⟨w.heap.size + 1, 0, none⟩ (.int .u8 1))) := Lib.hid (below_set HB2.out (by omega))
            generalize (w1.setCell ⟨w.heap.size + 1, 0, none⟩ (.int .u8 1)) = W3 at *
            refine (integerW s W3 (HW.out.later HB3.out) HS.out).mono ?_
            rintro e w4 ⟨⟨n, ok, rfl, hn⟩, hb4⟩
            have HBR4 := Lib.hid (HBR3.out.later hb4)
            have HBX4 := Lib.hid (HBX3.out.later hb4)
            have HB4 := Lib.hid (next HB3.out hb4)
            obtain ⟨y0, k0⟩ := HBX4.out 0 _ rfl
            obtain ⟨y1, k1⟩ := HBX4.out 1 _ rfl
            obtain ⟨y2, k2⟩ := HBX4.out 2 _ rfl
            clear hb4 x0 x1 x2 g0 g1 g2
            have HNN := Lib.hid hn
            clear hn
            go_wp2_with fail
            go_meet
            exact ⟨ok, ⟨1, n, ByteArray.empty⟩, rfl, Lib.hid ⟨HN.out, by rw [HRAW.out, HNN.out]; cases ok <;> rfl, fun _ => ⟨not_bad1 n, by show 1 < 256; decide, Nat.zero_le _⟩⟩, Lib.hid (ResBox.else HBR4.out (by omega)), Lib.hid (HBX4.out.set (i := 1) (u := .int .i64 n) (by simp)), Lib.hid (below_set HB4.out (by omega))⟩
  case rest =>
    obtain ⟨ok, u, rfl, HU, HBR', HBX', HB'⟩ := hcut
    obtain ⟨c0, c1, c2, f0, f1, f2⟩ := HBR'.out
    obtain ⟨x0, g0⟩ := HBX'.out 0 _ rfl
    obtain ⟨x1, g1⟩ := HBX'.out 1 _ rfl
    obtain ⟨x2, g2⟩ := HBX'.out 2 _ rfl
    have hz1 : w.heap.size + 1 < wc.heap.size := HBX'.out.lt
    cases ok with
    | false =>
      have HRR : Hid (R = (V0, 6)) := Lib.hid (by rw [HR.out]; unfold readS; rw [if_neg HU.out.1, HU.out.2.1]; rfl)
      go_wp2_with fail
      obtain ⟨q0, q1, q2⟩ := filled3 wc w.heap.size _ _ _ (.int .u8 0) (.int .i64 0) (.string ⟨#[]⟩) c0 c1 c2
      refine bodyPost_ret (v := .tuple #[V0.val, .int .i64 6]) (by simp [results, Tryd.results16, go_sem, q0, q1, q2, V0]; try rfl) rfl ⟨by rw [HRR.out]; rfl, ?_⟩
      exact below_set (below_set (below_set HB'.out (Nat.le_refl _)) (Nat.le_refl _)) (Nat.le_refl _)
    | true =>
      have hu := HU.out.2.2 rfl
      have hcs : readS s.data.toList = if 1000 < u.s.size then (V0, 3) else (u, 0) := by unfold readS; rw [if_neg HU.out.1, HU.out.2.1]; rfl
      have hck : checkV u = if 1000 < u.s.size then 3 else 0 := by unfold checkV; rw [if_neg hu.1]
      have HCK : Hid (∀ W, Calls Tryd.prog 14 #[u.val] W fun e w' => e = .returned (.int .i64 (checkV u : Int)) ∧ Below W.heap.size W w') := Lib.hid (fun W => check u W hu.2.1 (by have := hu.2.2; omega))
      by_cases hl : 1000 < u.s.size
      · rw [if_pos hl] at hcs hck
        have HRR : Hid (R = (V0, 3)) := Lib.hid (by rw [HR.out, hcs])
        rw [hck] at HCK
        clear hu hcs hck hl
        go_wp2_with fail
        refine (HCK.out _).mono ?_
        rintro e w5 ⟨rfl, hb5⟩
        obtain ⟨c0', c1', c2', f0', f1', f2'⟩ := HBR'.out.later hb5
        have HB5 := Lib.hid (next HB'.out hb5)
        have hz5 : w.heap.size + 1 < w5.heap.size := (HBX'.out.later hb5).lt
        clear hb5 c0 c1 c2 f0 f1 f2 x0 x1 x2 g0 g1 g2
        go_wp2_with fail
        obtain ⟨q0, q1, q2⟩ := filled3 w5 w.heap.size _ _ _ (.int .u8 0) (.int .i64 0) (.string ⟨#[]⟩) c0' c1' c2'
        refine bodyPost_ret (v := .tuple #[V0.val, .int .i64 3]) (by simp [results, Tryd.results16, go_sem, q0, q1, q2, V0]; try rfl) rfl ⟨by rw [HRR.out]; rfl, ?_⟩
        exact below_set (below_set (below_set HB5.out (Nat.le_refl _)) (Nat.le_refl _)) (Nat.le_refl _)
      · rw [if_neg hl] at hcs hck
        have HRR : Hid (R = (u, 0)) := Lib.hid (by rw [HR.out, hcs])
        rw [hck] at HCK
        clear hu hcs hck hl
        go_wp2_with fail
        refine (HCK.out _).mono ?_
        rintro e w5 ⟨rfl, hb5⟩
        obtain ⟨c0', c1', c2', f0', f1', f2'⟩ := HBR'.out.later hb5
        have HB5 := Lib.hid (next HB'.out hb5)
        have hx5 := HBX'.out.later hb5
        obtain ⟨x0', g0'⟩ := hx5 0 _ rfl
        obtain ⟨x1', g1'⟩ := hx5 1 _ rfl
        obtain ⟨x2', g2'⟩ := hx5 2 _ rfl
        have hz5 : w.heap.size + 1 < w5.heap.size := hx5.lt
        clear hb5 hx5 c0 c1 c2 f0 f1 f2 x0 x1 x2 g0 g1 g2
        go_wp2_with fail
        obtain ⟨q0, q1, q2⟩ := filled3 w5 w.heap.size _ _ _ (.int .u8 (u.k : Int)) (.int .i64 u.n) (.string u.s) c0' c1' c2'
        refine bodyPost_ret (v := .tuple #[u.val, .int .i64 0]) (by simp [results, Tryd.results16, go_sem, q0, q1, q2]; try rfl) rfl ⟨by rw [HRR.out]; rfl, ?_⟩
        exact below_set (below_set (below_set HB5.out (Nat.le_refl _)) (Nat.le_refl _)) (Nat.le_refl _)
end Go.Proofs.YtghfaeapgghhlaaDoor.Dt
