/-
  The walk of the reference's Read.
-/
import Derived.Test.YthiajonjleambaaDoorRefRead
namespace Go.Proofs.YthiajonjleambaaDoor.Dt
open Go.RowKit Go.Proofs.YthiajonjleambaaDoor.By

def mid2 (l : List UInt8) : List UInt8 := (l.drop 2).dropLast
theorem mid2_length (s : ByteArray) : (mid2 s.data.toList).length = s.size - 3 := by
  unfold mid2
  rw [List.length_dropLast, List.length_drop, bytes_list]; omega
theorem mid2_get (s : ByteArray) {k : Nat} (h1 : 2 ≤ k) (h2 : k + 1 < s.size) : (mid2 s.data.toList)[k - 2]? = some s[k] := by
  unfold mid2
  rw [List.getElem?_dropLast, if_pos (by rw [List.length_drop, bytes_list]; omega), List.getElem?_drop, show 2 + (k - 2) = k by omega, List.getElem?_eq_getElem (by rw [bytes_list]; omega)]
  rfl
theorem mid2_at (s : ByteArray) {k : Nat} (h1 : 2 ≤ k) (h2 : k + 2 < s.size) : (mid2 s.data.toList).drop (k - 2) = s[k] :: s[k + 1] :: (mid2 s.data.toList).drop k := by
  have hl := mid2_length s
  have g1 := mid2_get s h1 (show k + 1 < s.size by omega)
  have g2 := mid2_get s (k := k + 1) (by omega) (by omega)
  rw [List.drop_eq_getElem_cons (by omega), List.drop_eq_getElem_cons (by omega)]
  have e1 : k - 2 + 1 + 1 = k := by omega
  have e2 : k + 1 - 2 = k - 2 + 1 := by omega
  rw [e2, List.getElem?_eq_getElem (by omega)] at g2
  rw [List.getElem?_eq_getElem (by omega)] at g1
  rw [e1, Option.some.inj g1, Option.some.inj g2]
theorem mid2_end (s : ByteArray) {k : Nat} (h : s.size ≤ k + 1) : (mid2 s.data.toList).drop (k - 2) = [] := List.drop_eq_nil_of_le (by rw [mid2_length]; omega)
/-- What is no blob's form and stands in no quotes is a number's text or none. -/
theorem rawS_rest (s : ByteArray) (hb : ¬ (blobF s.data.toList ∧ s.size % 2 = 1)) (hq : ¬ (2 ≤ s.size ∧ s.data.toList.head? = some 39 ∧ s.data.toList.getLast? = some 39)) :
    rawS s.data.toList = (numS s.data.toList).map fun n => (⟨1, n, ByteArray.empty⟩ : V) := by
  unfold rawS
  by_cases h1 : blobF s.data.toList
  · rw [if_pos h1]
    have hn : numS s.data.toList = none := by
      cases h : numS s.data.toList with
      | none => rfl
      | some n =>
        obtain ⟨c, hc, hc2⟩ := numS_head h
        rw [h1.2.1] at hc
        have := congrArg UInt8.toNat (Option.some.inj hc)
        have h120 : (120 : UInt8).toNat = 120 := rfl
        omega
    have hu : unhex (s.data.toList.drop 2).dropLast = none := by
      cases h : unhex (s.data.toList.drop 2).dropLast with
      | none => rfl
      | some t =>
        have h3 := unhex_length h
        have h4 := mid2_length s
        unfold mid2 at h4
        have h5 : 3 ≤ s.size := by have := h1.1; rwa [bytes_list] at this
        exact absurd ⟨h1, by omega⟩ hb
    rw [hn, hu]; rfl
  · rw [if_neg h1]
    by_cases h2 : s.data.toList.head? = some 39
    · rw [if_pos h2]
      have hn : numS s.data.toList = none := by
        cases h : numS s.data.toList with
        | none => rfl
        | some n =>
          obtain ⟨c, hc, hc2⟩ := numS_head h
          rw [h2] at hc
          have := congrArg UInt8.toNat (Option.some.inj hc)
          have h39 : (39 : UInt8).toNat = 39 := rfl
          omega
      have ht : textS s.data.toList = none := by
        unfold textS
        rw [if_pos]
        rw [bytes_list]
        by_cases h3 : s.size < 2
        · exact .inl h3
        · exact .inr (.inr fun h4 => hq ⟨by omega, h2, h4⟩)
      rw [hn, ht]; rfl
    · rw [if_neg h2]
theorem last_of (s : ByteArray) (h : 0 < s.size) (c : UInt8) : s.data.toList.getLast? = some c ↔ s[s.size - 1]'(by omega) = c := by rw [last_at s h]; simp
theorem head_of (s : ByteArray) (h : 0 < s.size) (c : UInt8) : s.data.toList.head? = some c ↔ s[0] = c := by rw [head_at s h]; simp
theorem snd_of (s : ByteArray) (h : 1 < s.size) (c : UInt8) : s.data.toList[1]? = some c ↔ s[1] = c := by
  rw [List.getElem?_eq_getElem (by rw [bytes_list]; exact h)]
  simp only [Option.some.injEq]
  exact Iff.rfl
theorem byte_mod (x : UInt8) : (x.toNat : Int) % 256 = (x.toNat : Int) := by have := x.toNat_lt; omega
theorem byte_ne {c : UInt8} {n : Nat} (hn : n < 256) (h : ¬ c = UInt8.ofNat n) : ((c.toNat : Int) == (n : Int)) = false := by
  have : c.toNat ≠ n := fun e => h (UInt8.toNat_inj.1 (by rw [e, UInt8.toNat_ofNat', Nat.mod_eq_of_lt hn]))
  simp; omega

set_option maxRecDepth 100000 in
set_option maxHeartbeats 16000000 in
theorem refReadW (s : ByteArray) (w : World) (hs : s.size ≤ 1000000) :
    Calls Tryd.prog 19 #[.string s] w fun e w' => e = .returned (.tuple #[(readS s.data.toList).1.val, .int .i64 ((readS s.data.toList).2 : Int)]) ∧ Below w.heap.size w w' := by
  have HS := Lib.hid hs
  obtain ⟨R, hR⟩ : ∃ R, R = readS s.data.toList := ⟨_, rfl⟩
  rw [← hR]
  have HR := Lib.hid hR
  clear hs hR
  have HBR : Hid (ResBox w.heap.size (w.alloc (.cells #[.int .u8 0, .int .i64 0, .string ⟨#[]⟩] 23))) := Lib.hid (resBox_new w _)
  have HB1 : Hid (Below w.heap.size w (w.alloc (.cells #[.int .u8 0, .int .i64 0, .string ⟨#[]⟩] 23))) := Lib.hid ((Below.refl _ _).alloc (Nat.le_refl _) _)
  have HZ : Hid ((w.alloc (.cells #[.int .u8 0, .int .i64 0, .string ⟨#[]⟩] 23)).heap.size = w.heap.size + 1) := Lib.hid (by simp)
  by_cases hN : s.data.toList = [78, 85, 76, 76]
  · have HRR : Hid (R = (V0, 0)) := Lib.hid (by rw [HR.out]; unfold readS; rw [if_pos hN])
    have hN' : (s.toList == [78, 85, 76, 76]) = true := by rw [ByteArray.toList_eq, hN]; rfl
    clear hN
    go_enter Tryd.func19, Tryd.ntmps19
    go_wp2_with fail
    refine bodyPost_ret (v := .tuple #[V0.val, .int .i64 0]) (by simp [results, Tryd.results19, go_sem, V0]; try rfl) rfl ⟨by rw [HRR.out]; rfl, ?_⟩
    exact HB1.out
  · have hN' : (s.toList == [78, 85, 76, 76]) = false := by rw [ByteArray.toList_eq]; simpa using hN
    have HN := Lib.hid hN
    clear hN
    have HRD : Hid (R = match rawS s.data.toList with | none => (V0, 6) | some v => if 1000 < v.s.size then (V0, 3) else (v, 0)) := Lib.hid (by rw [HR.out]; unfold readS; rw [if_neg HN.out]; cases rawS s.data.toList <;> rfl)
    go_enter Tryd.func19, Tryd.ntmps19
    go_upto_region 3 with fail
    generalize w.alloc (.cells #[.int .u8 0, .int .i64 0, .string ⟨#[]⟩] 23) = W1 at *
    obtain ⟨B, hB⟩ : ∃ B, B = decide (blobF s.data.toList ∧ s.size % 2 = 1) := ⟨_, rfl⟩
    have HBL := Lib.hid hB
    clear hB
    go_cut [41] (fun c wx => c = .bool B ∧ W1 = wx)
    case first =>
      by_cases z1 : 3 ≤ s.size
      · have j1 : (3 : Int) ≤ (s.size : Int) := by omega
        have i0 : (0 : Int) < (s.size : Int) := by omega
        have i1 : (1 : Int) < (s.size : Int) := by omega
        have l0 : 0 < s.size := by omega
        have l1 : 1 < s.size := by omega
        have i9 : s.size - 1 < s.size := by omega
        have ii9 : ((s.size - 1 : Nat) : Int) < (s.size : Int) := by omega
        have w9 : wrap64 ((s.size : Int) - 1) = ((s.size - 1 : Nat) : Int) := by have := HS.out; unfold wrap64; omega
        have q0 := head_of s l0 120
        have q1 := snd_of s l1 39
        have q9 := last_of s l0 39
        have hbf : blobF s.data.toList ↔ (s[0] = 120 ∧ s[1] = 39 ∧ s[s.size - 1] = 39) := by
          unfold blobF
          rw [q0, q1, q9, bytes_list]
          exact ⟨fun h => h.2, fun h => ⟨z1, h⟩⟩
        have HBF := Lib.hid hbf
        clear q0 q1 q9 hbf z1
        by_cases h0 : s[0] = 120
        · have e0 : (((s[0]).toNat : Int) == 120) = true := by rw [h0]; rfl
          by_cases h1 : s[1] = 39
          · have e1 : (((s[1]).toNat : Int) == 39) = true := by rw [h1]; rfl
            by_cases h9 : s[s.size - 1] = 39
            · have e9 : (((s[s.size - 1]).toNat : Int) == 39) = true := by rw [h9]; rfl
              by_cases hm : s.size % 2 = 1
              · have em : (((s.size : Int) % 2) == 1) = true := by simp; omega
                have em' : ((s.size : Int) % 2) = 1 := by omega
                have hb : B = true := by rw [HBL.out]; exact decide_eq_true ⟨HBF.out.2 ⟨h0, h1, h9⟩, hm⟩
                subst hb
                clear h0 h1 h9 hm
                go_wp2_with fail
                go_meet
                exact ⟨rfl, rfl⟩
              · have em : (((s.size : Int) % 2) == 1) = false := by simp; omega
                have hb : B = false := by rw [HBL.out]; exact decide_eq_false (fun h => hm h.2)
                subst hb
                clear h0 h1 h9 hm
                go_wp2_with fail
                go_meet
                exact ⟨by first | rfl | rw [em], rfl⟩
            · have e9 : (((s[s.size - 1]).toNat : Int) == 39) = false := byte_ne (n := 39) (by decide) h9
              have hb : B = false := by rw [HBL.out]; exact decide_eq_false (fun h => h9 (HBF.out.1 h.1).2.2)
              subst hb
              clear h0 h1 h9
              go_wp2_with fail
              go_meet
              exact ⟨rfl, rfl⟩
          · have e1 : (((s[1]).toNat : Int) == 39) = false := byte_ne (n := 39) (by decide) h1
            have hb : B = false := by rw [HBL.out]; exact decide_eq_false (fun h => h1 (HBF.out.1 h.1).2.1)
            subst hb
            clear h0 h1
            go_wp2_with fail
            go_meet
            exact ⟨rfl, rfl⟩
        · have e0 : (((s[0]).toNat : Int) == 120) = false := byte_ne (n := 120) (by decide) h0
          have hb : B = false := by rw [HBL.out]; exact decide_eq_false (fun h => h0 (HBF.out.1 h.1).1)
          subst hb
          clear h0
          go_wp2_with fail
          go_meet
          exact ⟨rfl, rfl⟩
      · have j1 : ¬ (3 : Int) ≤ (s.size : Int) := by omega
        have j1' : decide ((3 : Int) ≤ (s.size : Int)) = false := decide_eq_false j1
        have hb : B = false := by rw [HBL.out]; exact decide_eq_false (fun h => z1 (by have := h.1.1; rwa [bytes_list] at this))
        subst hb
        clear z1
        go_wp2_with fail
        go_meet
        exact ⟨by first | rfl | rw [j1'], rfl⟩
    case rest =>
      obtain ⟨rfl, rfl⟩ := hcut
      cases B with
      | true =>
        have hbb := of_decide_eq_true HBL.out.symm
        have hraw : rawS s.data.toList = (unhex (mid2 s.data.toList)).map fun t => (⟨3, 0, ⟨t.toArray⟩⟩ : V) := by unfold rawS; rw [if_pos hbb.1]; rfl
        have hs3 : 3 ≤ s.size := by have := hbb.1.1; rwa [bytes_list] at this
        have HRAW := Lib.hid hraw
        have HS3 := Lib.hid hs3
        have HODD : Hid (s.size % 2 = 1) := Lib.hid hbb.2
        obtain ⟨T, hT⟩ : ∃ T, T = unhex (mid2 s.data.toList) := ⟨_, rfl⟩
        have HT := Lib.hid hT
        rw [← hT] at HRAW
        clear hbb hraw hs3 hT
        go_wp2_with fail
        go_loopg [4, 5] s.size (fun gk ov iv wr => ∃ (k : Nat) (L : List UInt8), iv = .int .i64 (k : Int) ∧ gk = s.size + 2 - k ∧ 2 ≤ k ∧ k + 1 ≤ s.size ∧ Hid (T = (unhex ((mid2 s.data.toList).drop (k - 2))).map (L ++ ·)) ∧ Hid (OwnB wr W1.heap.size 5 ov L) ∧ Hid (Below w.heap.size w wr) ∧ Hid (Below W1.heap.size W1 wr) ∧ Hid (L.length ≤ k) ∧ Hid (k % 2 = 0))
        case atStart => exact ⟨2, [], rfl, rfl, Nat.le_refl _, HS3.out, Lib.hid (by rw [HT.out]; simp), Lib.hid (OwnB.nil _ _ _), HB1, Lib.hid (Below.refl _ _), Lib.hid (Nat.zero_le _), Lib.hid rfl⟩
        case round =>
          obtain ⟨k, L, rfl, rfl, hk2, hk, HTK, HOWN, HBW, HBQ, HLEN, HEV⟩ := hrel
          obtain ⟨ao, co, rfl⟩ := HOWN.out.shape
          have HBRR := Lib.hid (HBR.out.later HBQ.out)
          obtain ⟨j, hj⟩ : ∃ j, j = k + 1 := ⟨_, rfl⟩
          have hk1 : wrap64 ((k : Int) + 1) = (j : Int) := by have := HS.out; unfold wrap64; omega
          by_cases hlt : j < s.size
          · have ilt2 : (j : Int) < (s.size : Int) := by omega
            have klt : k < s.size := by omega
            have ilt : (k : Int) < (s.size : Int) := by omega
            have hlt3 : k + 2 < s.size := by have := HEV.out; have := HODD.out; omega
            have hdr := mid2_at s hk2 hlt3
            have HK2 : Hid (wrap64 ((k : Int) + 2) = ((k + 2 : Nat) : Int)) := Lib.hid (by have := HS.out; unfold wrap64; omega)
            obtain ⟨c, hc⟩ : ∃ c, s[k] = c := ⟨_, rfl⟩
            obtain ⟨d, hd⟩ : ∃ d, s[j] = d := ⟨_, rfl⟩
            have hcn : (s[k]).toNat = c.toNat := by rw [hc]
            have hdn : (s[j]).toNat = d.toNat := by rw [hd]
            have hd' : s[k + 1] = d := by subst hj; exact hd
            rw [hc, hd'] at hdr
            have HDR := Lib.hid hdr
            have HLT3 := Lib.hid hlt3
            clear hc hd hdr hk hd' hlt3 hj hk2
            cases hqc : hexV c with
            | none =>
              have HF : Hid (R = (V0, 6)) := Lib.hid (by rw [HRD.out, HRAW.out, HTK.out, HDR.out]; simp [unhex, hqc])
              have HDC : Hid (∀ W, Calls Tryd.prog 34 #[byte c] W fun e w' => e = .returned (.int .i64 (-1)) ∧ W = w') := Lib.hid (fun W => by rw [← hexI_none hqc]; exact refDigitW c W)
              have HDD := Lib.hid (refDigitW d)
              generalize hexI d = Z at *
              clear hqc
              go_wp2_with fail
              refine (HDC.out _).mono ?_
              rintro e w1 ⟨rfl, rfl⟩
              go_wp2_with fail
              refine (HDD.out _).mono ?_
              rintro e w1 ⟨rfl, rfl⟩
              obtain ⟨c0, c1, c2, f0, f1, f2⟩ := HBRR.out
              go_wp2_with fail
              obtain ⟨q0, q1, q2⟩ := filled3 wr w.heap.size _ _ _ (.int .u8 0) (.int .i64 0) (.string ⟨#[]⟩) c0 c1 c2
              refine bodyPost_ret (v := .tuple #[V0.val, .int .i64 6]) (by simp [results, Tryd.results19, go_sem, q0, q1, q2, V0]; try rfl) rfl ⟨by rw [HF.out]; rfl, ?_⟩
              exact below_set (below_set (below_set HBW.out (Nat.le_refl _)) (Nat.le_refl _)) (Nat.le_refl _)
            | some a =>
              have HDC : Hid (∀ W, Calls Tryd.prog 34 #[byte c] W fun e w' => e = .returned (.int .i64 (a : Int)) ∧ W = w') := Lib.hid (fun W => by rw [← hexI_some hqc]; exact refDigitW c W)
              have hp1 : ¬ (a : Int) < 0 := by omega
              cases hqd : hexV d with
              | none =>
                have HF : Hid (R = (V0, 6)) := Lib.hid (by rw [HRD.out, HRAW.out, HTK.out, HDR.out]; simp [unhex, hqc, hqd])
                have HDD : Hid (∀ W, Calls Tryd.prog 34 #[byte d] W fun e w' => e = .returned (.int .i64 (-1)) ∧ W = w') := Lib.hid (fun W => by rw [← hexI_none hqd]; exact refDigitW d W)
                clear hqc hqd
                go_wp2_with fail
                refine (HDC.out _).mono ?_
                rintro e w1 ⟨rfl, rfl⟩
                go_wp2_with fail
                refine (HDD.out _).mono ?_
                rintro e w1 ⟨rfl, rfl⟩
                obtain ⟨c0, c1, c2, f0, f1, f2⟩ := HBRR.out
                go_wp2_with fail
                obtain ⟨q0, q1, q2⟩ := filled3 wr w.heap.size _ _ _ (.int .u8 0) (.int .i64 0) (.string ⟨#[]⟩) c0 c1 c2
                refine bodyPost_ret (v := .tuple #[V0.val, .int .i64 6]) (by simp [results, Tryd.results19, go_sem, q0, q1, q2, V0]; try rfl) rfl ⟨by rw [HF.out]; rfl, ?_⟩
                exact below_set (below_set (below_set HBW.out (Nat.le_refl _)) (Nat.le_refl _)) (Nat.le_refl _)
              | some b =>
                have HDD : Hid (∀ W, Calls Tryd.prog 34 #[byte d] W fun e w' => e = .returned (.int .i64 (b : Int)) ∧ W = w') := Lib.hid (fun W => by rw [← hexI_some hqd]; exact refDigitW d W)
                have ha := (hexC_hexV hqc).2
                have hb := (hexC_hexV hqd).2
                obtain ⟨x, hx⟩ : ∃ x : UInt8, x = UInt8.ofNat (16 * a + b) := ⟨_, rfl⟩
                have hxn : x.toNat = 16 * a + b := by rw [hx, UInt8.toNat_ofNat', Nat.mod_eq_of_lt (by omega)]
                have HNX : Hid (T = (unhex ((mid2 s.data.toList).drop (k + 2 - 2))).map ((L ++ [x]) ++ ·)) := Lib.hid (by
                  rw [HTK.out, HDR.out, hx, Nat.add_sub_cancel]
                  simp only [unhex, hqc, hqd, Option.map_map]
                  congr 1
                  funext x
                  simp)
                have hp2 : ¬ (b : Int) < 0 := by omega
                have a1 : wrap64 (16 * (a : Int)) = 16 * (a : Int) := by unfold wrap64; omega
                have a2 : wrap64 (16 * (a : Int) + (b : Int)) = (x.toNat : Int) := by unfold wrap64; omega
                have a3 := byte_mod x
                clear hqc hqd ha hb hx hxn
                go_wp2_with fail
                refine (HDC.out _).mono ?_
                rintro e w1 ⟨rfl, rfl⟩
                go_wp2_with fail
                refine (HDD.out _).mono ?_
                rintro e w1 ⟨rfl, rfl⟩
                go_wp2_with (at_builtin; refine wpList_append_x rfl (.tmp 65) (.tmp 71) 43 rfl W1.heap.size 5 Num.elem_u8 _ L rfl (.inl (HOWN.out.alloc _)) _ [x] rfl (reads_cells wr.heap.size [x] (fun i hi => by rcases i with _ | i; (go_simp); (simp at hi))) (by simp) (by have := HLEN.out; have := HS.out; have := HLT3.out; simp; omega) (by have := HBQ.out.size; simp; omega) ?_; intro v' w9 hown hbel; have HBQ9 := Lib.hid ((HBQ.out.alloc HBQ.out.size (.cells #[byte x] 5)).trans hbel); have HBW9 := Lib.hid ((HBW.out.alloc HBW.out.size (.cells #[byte x] 5)).trans (hbel.mono HB1.out.size)); have HO9 := Lib.hid hown; clear hown hbel)
                go_roundg (s.size + 2 - (k + 2))
                case measure => have := HLT3.out; omega
                case rel => exact ⟨k + 2, _, by first | exact congrArg (Value.int .i64) HK2.out | (simp; exact HK2.out), rfl, by omega, HLT3.out, HNX, HO9, HBW9, HBQ9, Lib.hid (by have := HLEN.out; simp; omega), Lib.hid (by have := HEV.out; omega)⟩
          · have ilt : ¬ (j : Int) < (s.size : Int) := by omega
            have hres : T = some L := by rw [HTK.out, mid2_end s (by omega)]; simp [unhex]
            have HRES : Hid (rawS s.data.toList = some ⟨3, 0, ⟨L.toArray⟩⟩) := Lib.hid (by rw [HRAW.out, hres]; rfl)
            have hcv2 := convX (P := Tryd.prog) 43 5 9 Tryd.underlying43 Tryd.underlying5 Tryd.underlying9 (.inl HOWN.out)
            clear hlt hk hres hk2 hj
            go_wp2_with fail
            refine (toldW ⟨3, 0, ⟨L.toArray⟩⟩ wr).mono ?_
            rintro e w5 ⟨rfl, hb5⟩
            obtain ⟨c0, c1, c2, f0, f1, f2⟩ := HBRR.out.later hb5
            have HB5 := Lib.hid (next HBW.out hb5)
            clear hb5
            by_cases hl : 1000 < (ByteArray.mk L.toArray).size
            · have HF : Hid (R = (V0, 3)) := Lib.hid (by rw [HRD.out, HRES.out]; exact if_pos hl)
              rw [if_pos hl]
              clear hl
              go_wp2_with fail
              obtain ⟨q0, q1, q2⟩ := filled3 w5 w.heap.size _ _ _ (.int .u8 0) (.int .i64 0) (.string ByteArray.empty) c0 c1 c2
              refine bodyPost_ret (v := .tuple #[V0.val, .int .i64 3]) (by simp [results, Tryd.results19, go_sem, q0, q1, q2, V0]; try rfl) rfl ⟨by rw [HF.out]; rfl, ?_⟩
              exact below_set (below_set (below_set HB5.out (Nat.le_refl _)) (Nat.le_refl _)) (Nat.le_refl _)
            · have HF : Hid (R = (⟨3, 0, ⟨L.toArray⟩⟩, 0)) := Lib.hid (by rw [HRD.out, HRES.out]; exact if_neg hl)
              rw [if_neg hl]
              clear hl
              go_wp2_with fail
              obtain ⟨q0, q1, q2⟩ := filled3 w5 w.heap.size _ _ _ (.int .u8 3) (.int .i64 0) (.string ⟨L.toArray⟩) c0 c1 c2
              refine bodyPost_ret (v := .tuple #[V.val ⟨3, 0, ⟨L.toArray⟩⟩, .int .i64 0]) (by simp [results, Tryd.results19, go_sem, q0, q1, q2]; try rfl) rfl ⟨by rw [HF.out]; rfl, ?_⟩
              exact below_set (below_set (below_set HB5.out (Nat.le_refl _)) (Nat.le_refl _)) (Nat.le_refl _)
      | false =>
        have hnb : ¬ (blobF s.data.toList ∧ s.size % 2 = 1) := of_decide_eq_false HBL.out.symm
        have HNBF := Lib.hid hnb
        clear hnb
        go_upto_region 14 with fail
        obtain ⟨Q, hQ⟩ : ∃ Q, Q = decide (2 ≤ s.size ∧ s.data.toList.head? = some 39 ∧ s.data.toList.getLast? = some 39) := ⟨_, rfl⟩
        have HQ := Lib.hid hQ
        clear hQ
        go_cut [94] (fun c wx => c = .bool Q ∧ W1 = wx)
        case first =>
          by_cases z1 : 2 ≤ s.size
          · have j1 : (2 : Int) ≤ (s.size : Int) := by omega
            have i0 : (0 : Int) < (s.size : Int) := by omega
            have l0 : 0 < s.size := by omega
            have i9 : s.size - 1 < s.size := by omega
            have ii9 : ((s.size - 1 : Nat) : Int) < (s.size : Int) := by omega
            have w9 : wrap64 ((s.size : Int) - 1) = ((s.size - 1 : Nat) : Int) := by have := HS.out; unfold wrap64; omega
            have q0 := head_of s l0 39
            have q9 := last_of s l0 39
            by_cases h0 : s[0] = 39
            · have e0 : (((s[0]).toNat : Int) == 39) = true := by rw [h0]; rfl
              by_cases h9 : s[s.size - 1] = 39
              · have e9 : (((s[s.size - 1]).toNat : Int) == 39) = true := by rw [h9]; rfl
                have hb : Q = true := by rw [HQ.out]; exact decide_eq_true ⟨z1, q0.2 h0, q9.2 h9⟩
                subst hb
                clear h0 h9 q0 q9 z1
                go_wp2_with fail
                go_meet
                exact ⟨rfl, rfl⟩
              · have e9 : (((s[s.size - 1]).toNat : Int) == 39) = false := byte_ne (n := 39) (by decide) h9
                have hb : Q = false := by rw [HQ.out]; exact decide_eq_false (fun h => h9 (q9.1 h.2.2))
                subst hb
                clear h0 h9 q0 q9 z1
                go_wp2_with fail
                go_meet
                exact ⟨rfl, rfl⟩
            · have e0 : (((s[0]).toNat : Int) == 39) = false := byte_ne (n := 39) (by decide) h0
              have hb : Q = false := by rw [HQ.out]; exact decide_eq_false (fun h => h0 (q0.1 h.2.1))
              subst hb
              clear h0 q0 q9 z1
              go_wp2_with fail
              go_meet
              exact ⟨rfl, rfl⟩
          · have j1 : ¬ (2 : Int) ≤ (s.size : Int) := by omega
            have j1' : decide ((2 : Int) ≤ (s.size : Int)) = false := decide_eq_false j1
            have hb : Q = false := by rw [HQ.out]; exact decide_eq_false (fun h => z1 h.1)
            subst hb
            clear z1
            go_wp2_with fail
            go_meet
            exact ⟨by first | rfl | rw [j1'], rfl⟩
        case rest =>
          obtain ⟨rfl, rfl⟩ := hcut
          cases Q with
          | true =>
            have hq := of_decide_eq_true HQ.out.symm
            have hraw : rawS s.data.toList = (unq (midL s.data.toList)).map fun t => (⟨2, 0, ⟨t.toArray⟩⟩ : V) := by
              unfold rawS
              rw [if_neg (fun h => by have h1 := h.2.1; rw [hq.2.1] at h1; exact absurd (Option.some.inj h1) (by decide)), if_pos hq.2.1]
              unfold textS
              rw [if_neg (by rw [bytes_list]; rintro (h | h | h); (omega); (exact h hq.2.1); (exact h hq.2.2))]
              rfl
            have HRAW := Lib.hid hraw
            have HS2 := Lib.hid hq.1
            have hw9 : wrap64 ((s.size : Int) - 1) = ((s.size - 1 : Nat) : Int) := by have := HS.out; unfold wrap64; omega
            obtain ⟨T, hT⟩ : ∃ T, T = unq (midL s.data.toList) := ⟨_, rfl⟩
            have HT := Lib.hid hT
            rw [← hT] at HRAW
            clear hq hraw hT
            go_wp2_with fail
            go_loopg [8, 9] s.size (fun gk ov iv wr => ∃ (k : Nat) (L : List UInt8), iv = .int .i64 (k : Int) ∧ gk = s.size + 1 - k ∧ 1 ≤ k ∧ k + 1 ≤ s.size ∧ Hid (T = (unq ((midL s.data.toList).drop (k - 1))).map (L ++ ·)) ∧ Hid (OwnB wr W1.heap.size 5 ov L) ∧ Hid (Below w.heap.size w wr) ∧ Hid (Below W1.heap.size W1 wr) ∧ Hid (L.length ≤ k))
            case atStart => exact ⟨1, [], rfl, rfl, Nat.le_refl _, HS2.out, Lib.hid (by rw [HT.out]; simp), Lib.hid (OwnB.nil _ _ _), HB1, Lib.hid (Below.refl _ _), Lib.hid (Nat.zero_le _)⟩
            case round =>
              obtain ⟨k, L, rfl, rfl, hk1, hk2, HTK, HOWN, HBW, HBQ, HLEN⟩ := hrel
              obtain ⟨ao, co, rfl⟩ := HOWN.out.shape
              have HBRR := Lib.hid (HBR.out.later HBQ.out)
              by_cases hlt : k + 1 < s.size
              · have ilt : (k : Int) < ((s.size - 1 : Nat) : Int) := by omega
                have klt : k < s.size := by omega
                have kilt : (k : Int) < (s.size : Int) := by omega
                have hdr := midL_at s hk1 hlt
                obtain ⟨c, hc⟩ : ∃ c, s[k] = c := ⟨_, rfl⟩
                have hcn : (s[k]).toNat = c.toNat := by rw [hc]
                rw [hc] at hdr
                have HDR := Lib.hid hdr
                have HLT := Lib.hid hlt
                obtain ⟨j, hj⟩ : ∃ j, j = k + 1 := ⟨_, rfl⟩
                have hkj : wrap64 ((k : Int) + 1) = (j : Int) := by have := HS.out; unfold wrap64; omega
                have jlt : j < s.size := by omega
                have jilt : (j : Int) < (s.size : Int) := by omega
                have HJ := Lib.hid hj
                by_cases h39 : c = 39
                · have hne : ((c.toNat : Int) == 39) = true := by rw [h39]; rfl
                  have HC := Lib.hid h39
                  by_cases hend : k + 2 < s.size
                  · have jne : ¬ ((s.size - 1 : Nat) : Int) ≤ (j : Int) := by omega
                    have hdr2 := midL_at s (k := j) (by omega) (by omega)
                    obtain ⟨d, hd⟩ : ∃ d, s[j] = d := ⟨_, rfl⟩
                    have hdn : (s[j]).toNat = d.toNat := by rw [hd]
                    have HDR2 : Hid ((midL s.data.toList).drop k = d :: (midL s.data.toList).drop (k + 1)) := Lib.hid (by
                      rw [hd, show j - 1 = k by omega] at hdr2
                      rw [hdr2, hj])
                    by_cases hd39 : d = 39
                    · have dne : ((d.toNat : Int) != 39) = false := by rw [hd39]; rfl
                      have HNX : Hid (T = (unq ((midL s.data.toList).drop (k + 2 - 1))).map ((L ++ [d]) ++ ·)) := Lib.hid (by
                        rw [HTK.out, HDR.out, HDR2.out, hd39, HC.out, unq_quote, Option.map_map, show k + 2 - 1 = k + 1 by omega]
                        congr 1
                        funext x
                        simp)
                      have HEND := Lib.hid hend
                      have hjk2 : wrap64 ((j : Int) + 1) = ((k + 2 : Nat) : Int) := by have := HS.out; unfold wrap64; omega
                      have HJK2 := Lib.hid hjk2
                      clear hk1 hk2 hlt hdr hc hend hdr2 hd hd39 h39 hj hjk2
                      go_wp2_with (at_builtin; refine wpList_append_x rfl (.tmp 122) (.tmp 126) 43 rfl W1.heap.size 5 Num.elem_u8 _ L rfl (.inl (HOWN.out.alloc _)) _ [d] rfl (reads_cells wr.heap.size [d] (fun i hi => by rcases i with _ | i; (go_simp); (simp at hi))) (by simp) (by have := HLEN.out; have := HS.out; have := HLT.out; simp; omega) (by have := HBQ.out.size; simp; omega) ?_; intro v' w9 hown hbel; have HBQ9 := Lib.hid ((HBQ.out.alloc HBQ.out.size (.cells #[byte d] 5)).trans hbel); have HBW9 := Lib.hid ((HBW.out.alloc HBW.out.size (.cells #[byte d] 5)).trans (hbel.mono HB1.out.size)); have HO9 := Lib.hid hown; clear hown hbel)
                      go_roundg (s.size + 1 - (k + 2))
                      case measure => have := HLT.out; omega
                      case rel => exact ⟨k + 2, _, by first | exact congrArg (Value.int .i64) HJK2.out | (simp; exact HJK2.out), rfl, by omega, HEND.out, HNX, HO9, HBW9, HBQ9, Lib.hid (by have := HLEN.out; simp; omega)⟩
                    · have dne : ((d.toNat : Int) != 39) = true := by
                        have : d.toNat ≠ 39 := fun e => hd39 (UInt8.toNat_inj.1 e)
                        simp; omega
                      have HF : Hid (R = (V0, 6)) := Lib.hid (by
                        have : T = none := by rw [HTK.out, HDR.out, HDR2.out, HC.out]; simp [unq, hd39]
                        rw [HRD.out, HRAW.out, this]; rfl)
                      clear hk1 hk2 hlt hdr hc hend hdr2 hd hd39 h39 hj
                      obtain ⟨c0, c1, c2, f0, f1, f2⟩ := HBRR.out
                      go_wp2_with fail
                      obtain ⟨q0, q1, q2⟩ := filled3 wr w.heap.size _ _ _ (.int .u8 0) (.int .i64 0) (.string ⟨#[]⟩) c0 c1 c2
                      refine bodyPost_ret (v := .tuple #[V0.val, .int .i64 6]) (by simp [results, Tryd.results19, go_sem, q0, q1, q2, V0]; try rfl) rfl ⟨by rw [HF.out]; rfl, ?_⟩
                      exact below_set (below_set (below_set HBW.out (Nat.le_refl _)) (Nat.le_refl _)) (Nat.le_refl _)
                  · have jne : ((s.size - 1 : Nat) : Int) ≤ (j : Int) := by omega
                    have HF : Hid (R = (V0, 6)) := Lib.hid (by
                      have : T = none := by rw [HTK.out, HDR.out, show (midL s.data.toList).drop k = [] from midL_end s (k := k + 1) (by omega), HC.out]; rfl
                      rw [HRD.out, HRAW.out, this]; rfl)
                    clear hk1 hk2 hlt hdr hc hend h39 hj
                    obtain ⟨c0, c1, c2, f0, f1, f2⟩ := HBRR.out
                    go_wp2_with fail
                    obtain ⟨q0, q1, q2⟩ := filled3 wr w.heap.size _ _ _ (.int .u8 0) (.int .i64 0) (.string ⟨#[]⟩) c0 c1 c2
                    refine bodyPost_ret (v := .tuple #[V0.val, .int .i64 6]) (by simp [results, Tryd.results19, go_sem, q0, q1, q2, V0]; try rfl) rfl ⟨by rw [HF.out]; rfl, ?_⟩
                    exact below_set (below_set (below_set HBW.out (Nat.le_refl _)) (Nat.le_refl _)) (Nat.le_refl _)
                · have hne : ((c.toNat : Int) == 39) = false := byte_ne (n := 39) (by decide) h39
                  have HNX : Hid (T = (unq ((midL s.data.toList).drop (k + 1 - 1))).map ((L ++ [c]) ++ ·)) := Lib.hid (by
                    rw [HTK.out, HDR.out, unq_other h39, Option.map_map, Nat.add_sub_cancel]
                    congr 1
                    funext x
                    simp)
                  clear hk1 hk2 hlt hdr hc h39 hj
                  go_wp2_with (at_builtin; refine wpList_append_x rfl (.tmp 122) (.tmp 126) 43 rfl W1.heap.size 5 Num.elem_u8 _ L rfl (.inl (HOWN.out.alloc _)) _ [c] rfl (reads_cells wr.heap.size [c] (fun i hi => by rcases i with _ | i; (go_simp); (simp at hi))) (by simp) (by have := HLEN.out; have := HS.out; have := HLT.out; simp; omega) (by have := HBQ.out.size; simp; omega) ?_; intro v' w9 hown hbel; have HBQ9 := Lib.hid ((HBQ.out.alloc HBQ.out.size (.cells #[byte c] 5)).trans hbel); have HBW9 := Lib.hid ((HBW.out.alloc HBW.out.size (.cells #[byte c] 5)).trans (hbel.mono HB1.out.size)); have HO9 := Lib.hid hown; clear hown hbel)
                  go_roundg (s.size + 1 - (k + 1))
                  case measure => have := HLT.out; omega
                  case rel => exact ⟨k + 1, _, by first | exact congrArg (Value.int .i64) (by rw [hkj, HJ.out]) | (simp; rw [hkj, HJ.out]; simp) | (rw [← HJ.out]; first | rfl | (simp; exact hkj)), rfl, by omega, HLT.out, HNX, HO9, HBW9, HBQ9, Lib.hid (by have := HLEN.out; simp; omega)⟩
              · have ilt : ¬ (k : Int) < ((s.size - 1 : Nat) : Int) := by omega
                have hres : T = some L := by rw [HTK.out, midL_end s (by omega)]; simp [unq]
                have HRES : Hid (rawS s.data.toList = some ⟨2, 0, ⟨L.toArray⟩⟩) := Lib.hid (by rw [HRAW.out, hres]; rfl)
                have hcv2 := convX (P := Tryd.prog) 43 5 9 Tryd.underlying43 Tryd.underlying5 Tryd.underlying9 (.inl HOWN.out)
                clear hk1 hk2 hlt hres
                go_wp2_with fail
                refine (toldW ⟨2, 0, ⟨L.toArray⟩⟩ wr).mono ?_
                rintro e w5 ⟨rfl, hb5⟩
                obtain ⟨c0, c1, c2, f0, f1, f2⟩ := HBRR.out.later hb5
                have HB5 := Lib.hid (next HBW.out hb5)
                clear hb5
                by_cases hl : 1000 < (ByteArray.mk L.toArray).size
                · have HF : Hid (R = (V0, 3)) := Lib.hid (by rw [HRD.out, HRES.out]; exact if_pos hl)
                  rw [if_pos hl]
                  clear hl
                  go_wp2_with fail
                  obtain ⟨q0, q1, q2⟩ := filled3 w5 w.heap.size _ _ _ (.int .u8 0) (.int .i64 0) (.string ByteArray.empty) c0 c1 c2
                  refine bodyPost_ret (v := .tuple #[V0.val, .int .i64 3]) (by simp [results, Tryd.results19, go_sem, q0, q1, q2, V0]; try rfl) rfl ⟨by rw [HF.out]; rfl, ?_⟩
                  exact below_set (below_set (below_set HB5.out (Nat.le_refl _)) (Nat.le_refl _)) (Nat.le_refl _)
                · have HF : Hid (R = (⟨2, 0, ⟨L.toArray⟩⟩, 0)) := Lib.hid (by rw [HRD.out, HRES.out]; exact if_neg hl)
                  rw [if_neg hl]
                  clear hl
                  go_wp2_with fail
                  obtain ⟨q0, q1, q2⟩ := filled3 w5 w.heap.size _ _ _ (.int .u8 2) (.int .i64 0) (.string ⟨L.toArray⟩) c0 c1 c2
                  refine bodyPost_ret (v := .tuple #[V.val ⟨2, 0, ⟨L.toArray⟩⟩, .int .i64 0]) (by simp [results, Tryd.results19, go_sem, q0, q1, q2]; try rfl) rfl ⟨by rw [HF.out]; rfl, ?_⟩
                  exact below_set (below_set (below_set HB5.out (Nat.le_refl _)) (Nat.le_refl _)) (Nat.le_refl _)
          | false =>
            have hraw := rawS_rest s HNBF.out (of_decide_eq_false HQ.out.symm)
            have HRAW := Lib.hid hraw
            clear hraw
            go_wp2_with fail
            refine (refNumberW s W1 HS.out).mono ?_
            rintro e w4 ⟨⟨n, ok, rfl, hn⟩, hb4⟩
            have HBRR := Lib.hid (HBR.out.later hb4)
            have HBW := Lib.hid (next HB1.out hb4)
            clear hb4
            cases ok with
            | false =>
              have HF : Hid (R = (V0, 6)) := Lib.hid (by rw [HRD.out, HRAW.out, hn]; rfl)
              clear hn
              obtain ⟨c0, c1, c2, f0, f1, f2⟩ := HBRR.out
              go_wp2_with fail
              obtain ⟨q0, q1, q2⟩ := filled3 w4 w.heap.size _ _ _ (.int .u8 0) (.int .i64 0) (.string ⟨#[]⟩) c0 c1 c2
              refine bodyPost_ret (v := .tuple #[V0.val, .int .i64 6]) (by simp [results, Tryd.results19, go_sem, q0, q1, q2, V0]; try rfl) rfl ⟨by rw [HF.out]; rfl, ?_⟩
              exact below_set (below_set (below_set HBW.out (Nat.le_refl _)) (Nat.le_refl _)) (Nat.le_refl _)
            | true =>
              have HF : Hid (R = (⟨1, n, ByteArray.empty⟩, 0)) := Lib.hid (by rw [HRD.out, HRAW.out, hn]; rfl)
              clear hn
              obtain ⟨c0, c1, c2, f0, f1, f2⟩ := HBRR.out
              go_wp2_with fail
              obtain ⟨q0, q1, q2⟩ := filled3 w4 w.heap.size _ _ _ (.int .u8 1) (.int .i64 n) (.string ⟨#[]⟩) c0 c1 c2
              refine bodyPost_ret (v := .tuple #[V.val ⟨1, n, ByteArray.empty⟩, .int .i64 0]) (by simp [results, Tryd.results19, go_sem, q0, q1, q2]; try rfl) rfl ⟨by rw [HF.out]; rfl, ?_⟩
              exact below_set (below_set (below_set HBW.out (Nat.le_refl _)) (Nat.le_refl _)) (Nat.le_refl _)
end Go.Proofs.YthiajonjleambaaDoor.Dt
