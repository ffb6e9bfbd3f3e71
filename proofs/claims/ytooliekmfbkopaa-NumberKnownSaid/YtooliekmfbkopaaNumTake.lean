/-
  The walk of number.Take.
-/
import Derived.Test.YtooliekmfbkopaaNum
namespace Go.Proofs.Ytooliekmfbkopaa.Num
open Go.RowKit Go.Proofs.Ytooliekmfbkopaa.By

set_option maxHeartbeats 1000000 in
set_option maxRecDepth 100000 in
theorem take (s : ByteArray) (w : World) (hs : s.size ≤ maxLen) :
    Calls Try.prog 33 #[.string s] w fun e w' => e = .returned (.tuple #[.int .u64 (takeR s.data.toList).1, .int .i64 (takeR s.data.toList).2.1, .int .i64 (takeR s.data.toList).2.2]) ∧ Below w.heap.size w w' := by
  unfold maxLen at hs
  obtain ⟨t, ht⟩ : ∃ t : ByteArray, t = if s.size ≤ 9 then s else s.extract 0 9 := ⟨_, rfl⟩
  obtain ⟨cap, w1, hcv, hb1, hz1, hc1⟩ := bytes_of (P := Try.prog) w 9 38 5 t ty_str cv_u8 ty_u8
  have htl : Hid (t.data.toList = s.data.toList.take 9) := by
    unfold Hid
    subst ht
    split
    · rw [List.take_of_length_le (by simpa using by assumption)]
    · simp
  have ht9 : t.size ≤ 9 := by
    have := congrArg List.length htl.out
    simp at this; omega
  have hts : t.size ≤ s.size := by
    have := congrArg List.length htl.out
    simp at this; omega
  obtain ⟨l, hl⟩ : ∃ l, l = s.data.toList := ⟨_, rfl⟩
  rw [← hl] at htl ⊢
  have HLs := Lib.hid hl; clear hl
  have HC := Lib.hid hc1; clear hc1
  have hs9 : s.size ≤ 9 → t.size = s.size := by
    intro h; have := congrArg List.length htl.out; rw [HLs.out] at this; simp at this; omega
  have hs9' : 9 < s.size → t.size = 9 := by
    intro h; have := congrArg List.length htl.out; rw [HLs.out] at this; simp at this; omega
  have HT := Lib.hid ht; clear ht
  have H9 := Lib.hid hs9; clear hs9
  have H9' := Lib.hid hs9'; clear hs9'
  rcases Nat.lt_or_ge 9 s.size with h9 | h9
  all_goals
    go_enter Try.func33, Try.ntmps33
    go_wp2_with fail
    go_step3
    go_wp2_with fail
    go_step3
    go_wp2_with fail
    first
      | rw [show convert 9 38 (Value.string (s.extract 0 9)) = convert 9 38 (Value.string t) from by rw [HT.out, if_neg (by omega)], hcv]
      | rw [show convert 9 38 (Value.string s) = convert 9 38 (Value.string t) from by rw [HT.out, if_pos (by omega)], hcv]
    go_wp2_with fail
    go_loop [5, 6, 16] (fun nv sv iv => ∃ (m k : Nat), nv = .int .u64 (m : Int) ∧ sv = .int .i64 (k : Int) ∧ iv = .int .i64 (k : Int) ∧ k ≤ t.size ∧ k ≤ 8 ∧ Hid (m < 128 ^ k) ∧ Hid (tk (l.drop k) m k = tk l 0 0) ∧ Hid (0 < k → 128 ≤ (l.getD (k - 1) 0).toNat)) (fun _ _ iv => (9 - intOf iv).toNat)
    case atStart =>
      exact ⟨0, 0, rfl, rfl, rfl, by omega, by omega, by unfold Hid; omega, rfl, fun h => absurd h (by omega)⟩
    case round =>
      obtain ⟨m, k, rfl, rfl, rfl, hk, hk8, hm, htk, hlast⟩ := hrel
      by_cases hkt : k < t.size
      · have hcell : w1.cell? ⟨w.heap.size, k, none⟩ = some (byte t[k]) := HC.out k hkt
        obtain ⟨c, hc⟩ : ∃ c, c = t[k] := ⟨_, rfl⟩
        rw [← hc] at hcell
        have hlc : l[k]? = some c := by
          have h1 : t.data.toList[k]? = some c := by
            rw [hc, Array.getElem?_toList, Array.getElem?_eq_getElem hkt]; rfl
          rw [htl.out] at h1
          simpa [show k < 9 by omega] using h1
        have hidx : s.size = l.length := by rw [HLs.out]; simp
        have hkl : k < l.length := (List.getElem?_eq_some_iff.1 hlc).1
        have HCc := Lib.hid hlc; clear hc hlc
        by_cases h8 : k = 8
        · subst h8
          clear hidx hkl
          go_wp2_with fail
          rw [take_8 m c hm.out]
          refine (size _ _ (by have := hm.out; have := c.toNat_lt; omega)).mono ?_
          rintro e w2 ⟨rfl, rfl⟩
          have hfin := takeR_8 htk.out HCc.out
          by_cases hL : (putL (m * 256 + c.toNat)).length = 9
          · rw [if_pos hL] at hfin
            have HF := Lib.hid hfin; clear hfin
            have hb : (((putL (m * 256 + c.toNat)).length : Int) != 9) = false := by simp [hL]
            clear hL
            go_wp2_with fail
            rw [Exit.noGoto_ret]
            go_ret3
            exact ⟨by rw [HF.out]; rfl, hb1⟩
          · rw [if_neg hL] at hfin
            have HF := Lib.hid hfin; clear hfin
            have hb : (((putL (m * 256 + c.toNat)).length : Int) != 9) = true := by simp; omega
            clear hL
            go_wp2_with fail
            rw [Exit.noGoto_ret]
            go_ret3
            exact ⟨by rw [HF.out]; rfl, hb1⟩
        · by_cases hc128 : c.toNat < 128
          · have hfin := takeR_lo htk.out HCc.out (by omega) hc128
            clear hidx hkl
            have HFI := Lib.hid hfin; clear hfin
            obtain ⟨hks, hsk⟩ := get_bytes s l HLs.out k c HCc.out
            have hsk' : ((s[k]'hks).toNat : Int) < 128 := by rw [hsk]; omega
            have hz : ((k : Int) + 1 == 0) = false := by simp; omega
            clear hsk
            go_wp2_with fail
            rw [take_7 m c (pow_le8 hm.out hk8) hc128]
            refine (size _ _ (by have := pow_le8 hm.out hk8; have := c.toNat_lt; omega)).mono ?_
            rintro e w2 ⟨rfl, rfl⟩
            have hfin := HFI.out
            by_cases hL : (putL (m * 128 + c.toNat)).length = k + 1
            · rw [if_pos hL] at hfin
              have HF := Lib.hid hfin; clear hfin
              have hb : (((putL (m * 128 + c.toNat)).length : Int) != (k : Int) + 1) = false := by simp [hL]
              clear hL
              go_wp2_with fail
              rw [Exit.noGoto_ret]
              go_ret3
              exact ⟨by rw [HF.out]; rfl, hb1⟩
            · rw [if_neg hL] at hfin
              have HF := Lib.hid hfin; clear hfin
              have hb : (((putL (m * 128 + c.toNat)).length : Int) != (k : Int) + 1) = true := by simp; omega
              clear hL
              go_wp2_with fail
              rw [Exit.noGoto_ret]
              go_ret3
              exact ⟨by rw [HF.out]; rfl, hb1⟩
          · obtain ⟨g1, g2, g3⟩ := tk_go htk.out HCc.out (by omega) hc128 hm.out
            have G1 := Lib.hid g1
            have G2 := Lib.hid g2
            have G3 := Lib.hid g3
            clear hidx hkl g1 g2 g3
            go_wp2_with fail
            go_round
            case rel =>
              exact ⟨m * 128 + c.toNat % 128, k + 1, by rw [take_7a m c (pow_le8 hm.out hk8)], by go_num, by go_num, by omega, by omega, G2, G1, fun _ => G3.out⟩
            case measure => simp [intOf]; omega
      · have hts9 : t.size ≠ 9 := by omega
        have hsz : t.size = s.size := H9.out (by
          rcases Nat.lt_or_ge 9 s.size with h | h
          · exact absurd (H9'.out h) hts9
          · omega)
        have hlen : s.size = l.length := by rw [HLs.out]; simp
        have hfin := takeR_short htk.out (by omega)
        have HF := Lib.hid hfin; clear hfin
        have hk1 : k ≤ s.size := by omega
        have hk2 : s.size ≤ k := by omega
        by_cases hk0 : k = 0
        · subst hk0
          clear hlen hsz
          go_wp2_with fail
          go_ret3
          exact ⟨by rw [HF.out]; rfl, hb1⟩
        · have hlc : l[k - 1]? = some (l.getD (k - 1) 0) := by
            rw [List.getD, List.getElem?_eq_getElem (by omega)]; rfl
          obtain ⟨hks, hsk⟩ := get_bytes s l HLs.out (k - 1) _ hlc
          have hsk' : 128 ≤ ((s[k - 1]'hks).toNat : Int) := by rw [hsk]; have := hlast.out (by omega); omega
          clear hsk hlc hlen hsz
          go_wp2_with fail
          all_goals
            try rw [Exit.noGoto_ret]
            go_ret3
            exact ⟨by rw [HF.out]; rfl, hb1⟩
end Go.Proofs.Ytooliekmfbkopaa.Num
