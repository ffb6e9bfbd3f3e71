/-
  The walks of the reference on numbers.
-/
import Derived.Test.YtooliekmfbkopaaNum
import Derived.Test.YtooliekmfbkopaaOwn
namespace Go.Proofs.Ytooliekmfbkopaa.Num
open Go.RowKit Go.Proofs.Ytooliekmfbkopaa.By

theorem elem_u8 : Elem Try.prog 38 5 1 1 where
  slice := cv_u8
  info := by
    have h : (Try.prog.info? 5).map (fun i => (i.zero, i.size, i.bytes)) = some (some (.int .u8 0), 1, 1) := by kernel_rfl
    obtain ⟨i, hi, h1, h2, h3⟩ := info_parts h
    exact ⟨i, _, hi, h1, h2, h3, rfl⟩
  pos := by decide

set_option maxHeartbeats 400000 in
theorem digits (n : Nat) (k : Nat) (w : World) (hn : n < 18446744073709551616) (hk : k ≤ 1000) :
    Calls Try.prog 45 #[.int .u64 (n : Int), .int .i64 (k : Int)] w fun e w' => ∃ v, e = .returned v ∧ OwnB w' w.heap.size 5 v ((dg n k).map UInt8.ofNat) ∧ Below w.heap.size w w' := by
  have H := Lib.hid hn; clear hn
  obtain ⟨B, hB⟩ : ∃ B, B = w.heap.size := ⟨_, rfl⟩
  rw [← hB]
  have HB := Lib.hid hB; clear hB
  go_enter Try.func45, Try.ntmps45
  go_wp2_with fail
  go_loopw [0, 5] (fun nv ov wr => ∃ (m : Nat) (L : List UInt8), nv = .int .u64 (m : Int) ∧ OwnB wr B 5 ov L ∧ Hid ((dg m (k - L.length)).map UInt8.ofNat ++ L = (dg n k).map UInt8.ofNat) ∧ m ≤ n ∧ Below B w wr) (fun nv ov _ => (intOf nv).toNat + (k - lenOf ov))
  case atStart => exact ⟨n, [], rfl, OwnB.nil _ _ _, by unfold Hid; simp, Nat.le_refl _, Below.refl _ _⟩
  case round =>
    obtain ⟨m, L, rfl, hown, hp, hmn, hbel⟩ := hrel
    obtain ⟨a, c, rfl⟩ := hown.shape
    have hL : L.length ≤ 1010 := by
      have h1 := congrArg List.length hp.out
      have h2 := dg_len_64 n k H.out
      simp at h1; omega
    have hBr : B ≤ wr.heap.size := by have := hbel.size; have := HB.out; omega
    by_cases hgo : 0 < m ∨ L.length < k
    · have hstep : Hid ((dg (m / 128) (k - (L.length + 1))).map UInt8.ofNat ++ (UInt8.ofNat (m % 128) :: L) = (dg n k).map UInt8.ofNat) := by
        unfold Hid
        rw [← hp.out, dg_step m (k - L.length) (by omega)]
        simp [Nat.sub_sub]
      have hbyte : Hid (Value.int .u8 ((m : Int) % 128) = byte (UInt8.ofNat (m % 128))) := by
        unfold Hid
        simp only [byte, UInt8.toNat_ofNat']
        congr 1; omega
      have hor : m ≤ 0 ∧ L.length < k ∨ 0 < m := by omega
      have hw : IntKind.u64.wrap ((m : Int) / 128) = (m : Int) / 128 := u64_in (m / 128) (by have := H.out; omega)
      have hmeas : m / 128 + (k - (L.length + 1)) < m + (k - L.length) := by omega
      clear hgo
      rcases hor with ⟨h0, h1⟩ | h0
      all_goals
        go_wp2_with (at_builtin; refine wpList_append_reads rfl (.tmp 17) (.tmp 18) 38 rfl B 5 1 1 elem_u8 _ 1 [Value.int .u8 ((m : Int) % 128)] rfl (own_one wr B 5 _ hBr) _ L.length (L.map byte) rfl (hown.alloc _).reads (oneCell_bytes L) (by unfold maxLen; omega) (by omega) (by simp; omega) ?_; intro v' w2 hown2 hgrow2 hbel2)
        have hown' : OwnB w2 B 5 v' (UInt8.ofNat (m % 128) :: L) := ownB_of hown2 (by simp; omega) (by rw [hbyte.out]; rfl)
        have hl2 := hown'.lenOf
        have HL2 := Lib.hid hl2; clear hl2
        have hb2 : Below B w w2 := (hbel.alloc hBr _).trans hbel2
        clear hown2 hgrow2 hown hp
        go_wp2_with fail
        go_roundw
        case rel => exact ⟨m / 128, UInt8.ofNat (m % 128) :: L, by go_num, hown', hstep, by omega, hb2⟩
        case measure =>
          rw [HL2.out]
          simp only [intOf, lenOf, List.length_cons]
          omega
    · have hm : m ≤ 0 := by omega
      have hk' : k ≤ L.length := by omega
      clear hgo
      go_wp2_with fail
      go_ret
      have hp' := hp.out
      rw [show m = 0 by omega, show k - L.length = 0 by omega, dg_zero] at hp'
      refine ⟨_, rfl, ?_, hbel⟩
      rw [← hp']
      exact hown

set_option maxHeartbeats 400000 in
theorem fixed (n : Nat) (k : Nat) (w : World) (hn : n < 18446744073709551616) (hk : k ≤ 1000) :
    Calls Try.prog 41 #[.int .u64 (n : Int), .int .i64 (k : Int)] w fun e w' => e = .returned (str (be k n)) ∧ Below w.heap.size w w' := by
  have H := Lib.hid hn; clear hn
  obtain ⟨B, hB⟩ : ∃ B, B = w.heap.size := ⟨_, rfl⟩
  rw [← hB]
  have HB := Lib.hid hB; clear hB
  go_enter Try.func41, Try.ntmps41
  go_wp2_with fail
  go_loopw [0, 5] (fun nv ov wr => ∃ (m : Nat) (L : List UInt8), nv = .int .u64 (m : Int) ∧ OwnB wr B 5 ov L ∧ Hid (be (k - L.length) m ++ L = be k n) ∧ L.length ≤ k ∧ m ≤ n ∧ Below B w wr) (fun _ ov _ => k - lenOf ov)
  case atStart => exact ⟨n, [], rfl, OwnB.nil _ _ _, by unfold Hid; simp, Nat.zero_le _, Nat.le_refl _, Below.refl _ _⟩
  case round =>
    obtain ⟨m, L, rfl, hown, hp, hL, hmn, hbel⟩ := hrel
    obtain ⟨a, c, rfl⟩ := hown.shape
    have hBr : B ≤ wr.heap.size := by have := hbel.size; have := HB.out; omega
    by_cases hgo : L.length < k
    · have hstep : Hid (be (k - (L.length + 1)) (m / 256) ++ (UInt8.ofNat (m % 256) :: L) = be k n) := by
        unfold Hid
        rw [← hp.out, show k - L.length = (k - (L.length + 1)) + 1 by omega, be]
        simp
      have hbyte : Hid (Value.int .u8 ((m : Int) % 256) = byte (UInt8.ofNat (m % 256))) := by
        unfold Hid
        simp only [byte, UInt8.toNat_ofNat']
        congr 1; omega
      have hw : IntKind.u64.wrap ((m : Int) / 256) = (m : Int) / 256 := u64_in (m / 256) (by have := H.out; omega)
      go_wp2_with (at_builtin; refine wpList_append_reads rfl (.tmp 13) (.tmp 14) 38 rfl B 5 1 1 elem_u8 _ 1 [Value.int .u8 ((m : Int) % 256)] rfl (own_one wr B 5 _ hBr) _ L.length (L.map byte) rfl (hown.alloc _).reads (oneCell_bytes L) (by unfold maxLen; omega) (by omega) (by simp; omega) ?_; intro v' w2 hown2 hgrow2 hbel2)
      have hown' : OwnB w2 B 5 v' (UInt8.ofNat (m % 256) :: L) := ownB_of hown2 (by simp; omega) (by rw [hbyte.out]; rfl)
      have hl2 := hown'.lenOf
      have HL2 := Lib.hid hl2; clear hl2
      have hb2 : Below B w w2 := (hbel.alloc hBr _).trans hbel2
      clear hown2 hgrow2 hown hp
      go_wp2_with fail
      go_roundw
      case rel => exact ⟨m / 256, UInt8.ofNat (m % 256) :: L, by go_num, hown', hstep, by simp; omega, by omega, hb2⟩
      case measure =>
        rw [HL2.out]
        simp only [lenOf, List.length_cons]
        omega
    · have hcv := conv_own 38 5 9 cv_u8 ty_u8 ty_str hown
      go_wp2_with fail
      go_ret
      have hp' := hp.out
      rw [show k - L.length = 0 by omega, be, List.nil_append] at hp'
      exact ⟨congrArg (fun l => Ending.returned (str l)) hp', hbel⟩

theorem value (s : ByteArray) (w : World) (hs : s.size ≤ 8) :
    Calls Try.prog 44 #[.string s] w fun e w' => e = .returned (.int .u64 (val s.data.toList)) ∧ w = w' := by
  go_enter Try.func44, Try.ntmps44
  go_wp2_with fail
  go_loop [3, 4] (fun nv iv => ∃ (k : Nat), nv = .int .u64 (val (s.data.toList.take k)) ∧ iv = .int .i64 (k : Int) ∧ k ≤ s.size) (fun _ iv => s.size - (intOf iv).toNat)
  case atStart => exact ⟨0, rfl, rfl, Nat.zero_le _⟩
  case round =>
    obtain ⟨k, rfl, rfl, hk⟩ := hrel
    by_cases hlt : k < s.size
    · have hg : s.data.toList[k]? = some s[k] := by rw [Array.getElem?_toList, Array.getElem?_eq_getElem hlt]; rfl
      have hstep := val_snoc (s.data.toList.take k) s[k]
      rw [← take_snoc hg] at hstep
      have hb := val_lt (s.data.toList.take (k + 1))
      have hb' : val (s.data.toList.take (k + 1)) < 256 ^ 8 := Nat.lt_of_lt_of_le hb (Nat.pow_le_pow_right (by omega) (by simp; omega))
      have hw : Hid (IntKind.u64.wrap (IntKind.u64.wrap (256 * (val (s.data.toList.take k) : Int)) + IntKind.u64.wrap (s[k].toNat : Int)) = (val (s.data.toList.take (k + 1)) : Int)) := by
        unfold Hid
        rw [IntKind.wrap_u64, IntKind.wrap_u64, IntKind.wrap_u64]
        omega
      clear hb hb' hstep hg
      go_wp2_with fail
      go_round
      case rel => exact ⟨k + 1, by rw [hw.out], by go_num, by omega⟩
      case measure => simp [intOf]; omega
    · go_wp2_with fail
      go_ret
      rw [List.take_of_length_le (by simp; omega)]
      exact ⟨rfl, rfl⟩

set_option maxHeartbeats 400000 in
theorem refPut_small (n : Nat) (w : World) (hn : n < 72057594037927936) :
    Calls Try.prog 20 #[.int .u64 (n : Int)] w fun e w' => e = .returned (str (putL n)) ∧ Below w.heap.size w w' := by
  have hb : (n : Int) < 72057594037927936 ↔ True := ⟨fun _ => trivial, fun _ => by omega⟩
  have H := Lib.hid hn; clear hn
  obtain ⟨B, hB⟩ : ∃ B, B = w.heap.size := ⟨_, rfl⟩
  rw [← hB]
  have HB := Lib.hid hB; clear hB
  go_enter Try.func20, Try.ntmps20
  go_wp2_with fail
  refine (digits n 1 _ (by have := H.out; omega) (by omega)).mono ?_
  rintro e w1 ⟨v, rfl, hown, hbel⟩
  obtain ⟨D, hD⟩ : ∃ D, D = dg n 1 := ⟨_, rfl⟩
  have hDl : 1 ≤ D.length := by rw [hD, dg_step n 1 (Or.inr (by omega))]; simp
  have hDm : D.length ≤ 20 := by rw [hD]; have := dg_len_64 n 1 (by have := H.out; omega); omega
  have hDlt : Hid (∀ d ∈ D, d < 128) := by rw [hD]; exact dg_lt _ n 1 (Nat.le_refl _)
  rw [← hD, ← marked_zero] at hown
  obtain ⟨g, c, rfl, hg, hgs⟩ := hown.some (by rw [marked_length]; omega)
  rw [marked_length] at hown ⊢
  have HD := Lib.hid hD; clear hD
  rw [← HB.out] at hg hbel hown
  clear hb
  go_wp2_with fail
  go_loopw [4] (fun iv wr => ∃ (k : Nat), iv = .int .i64 (k : Int) ∧ k + 1 ≤ D.length ∧ OwnB wr B 5 (.slice (some ⟨g, 0, none⟩) D.length c) (marked D k) ∧ Below B w wr) (fun iv _ => D.length - (intOf iv).toNat)
  case atStart => exact ⟨0, rfl, hDl, hown, hbel⟩
  case round =>
    obtain ⟨k, rfl, hk, hown', hbel'⟩ := hrel
    by_cases hlt : k + 1 < D.length
    · have hd : D[k]'(by omega) < 128 := hDlt.out _ (List.getElem_mem _)
      have hm := marked_at D k (by omega)
      have hms := marked_set D k (by omega)
      obtain ⟨d, hdd⟩ : ∃ d, d = D[k]'(by omega) := ⟨_, rfl⟩
      rw [← hdd] at hd hm hms
      have hcell : wr.cell? ⟨g, k, none⟩ = some (.int .u8 (d : Int)) := by
        rw [hown'.cell hm]; simp only [byte, UInt8.toNat_ofNat']; congr 2; omega
      have hfree := hown'.free k
      have hst := hown'.stored k (hi d)
      rw [hms] at hst
      have hbyte : Hid (byte (hi d) = .int .u8 ((d : Int) + 128)) := by
        unfold Hid
        simp only [byte, hi, UInt8.toNat_ofNat']; congr 1; omega
      have HST : Hid (OwnB (wr.setCell ⟨g, k, none⟩ (.int .u8 ((d : Int) + 128))) B 5 (.slice (some ⟨g, 0, none⟩) D.length c) (marked D (k + 1))) := by
        unfold Hid
        rw [hbyte.out] at hst
        exact hst
      clear hst hms hm hdd hown hown'
      go_wp2_with fail
      go_roundw
      case rel => exact ⟨k + 1, by go_num, by omega, HST.out, hbel'.setCell hg _⟩
      case measure => simp [intOf]; omega
    · have hcv := conv_own 38 5 9 cv_u8 ty_u8 ty_str hown'
      rw [show k = D.length - 1 by omega] at hcv
      have hfin : marked D (D.length - 1) = putL n := by rw [HD.out]; exact putL_small n H.out
      rw [hfin] at hcv
      clear hfin hown hown'
      go_wp2_with fail
      go_ret
      exact ⟨rfl, hbel'⟩

set_option maxHeartbeats 400000 in
theorem refPut_large (n : Nat) (w : World) (hn : 72057594037927936 ≤ n) (hn' : n < 18446744073709551616) :
    Calls Try.prog 20 #[.int .u64 (n : Int)] w fun e w' => e = .returned (str (putL n)) ∧ Below w.heap.size w w' := by
  have hb : (n : Int) < 72057594037927936 ↔ False := ⟨fun h => by omega, False.elim⟩
  have H := Lib.hid hn; clear hn
  have H' := Lib.hid hn'; clear hn'
  obtain ⟨B, hB⟩ : ∃ B, B = w.heap.size := ⟨_, rfl⟩
  rw [← hB]
  have HB := Lib.hid hB; clear hB
  have hw : IntKind.u64.wrap ((n : Int) / 256) = ((n / 256 : Nat) : Int) := by rw [← u64_in (n / 256) (by have := H'.out; omega)]; congr 1
  have hw2 : IntKind.u64.wrap ((n : Int) / 256) = ((n : Int) / 256) := by rw [hw]; omega
  clear hw
  go_enter Try.func20, Try.ntmps20
  go_wp2_with fail
  refine (digits (n / 256) 8 _ (by have := H'.out; omega) (by omega)).mono ?_
  rintro e w1 ⟨v, rfl, hown, hbel⟩
  obtain ⟨D, hD⟩ : ∃ D, D = dg (n / 256) 8 := ⟨_, rfl⟩
  have hDm : D.length = 8 := by rw [hD]; exact (dg_len 8 (n / 256) (by have := H'.out; omega)).2
  have hDlt : Hid (∀ d ∈ D, d < 128) := by rw [hD]; exact dg_lt _ (n / 256) 8 (Nat.le_refl _)
  rw [← hD, ← marked_zero] at hown
  obtain ⟨g, c, rfl, hg, hgs⟩ := hown.some (by rw [marked_length]; omega)
  rw [marked_length] at hown ⊢
  have HD := Lib.hid hD; clear hD
  have HDm := Lib.hid hDm
  have hDm1 : D.length ≤ 8 := by omega
  have hDm2 : 8 ≤ D.length := by omega
  clear hDm
  rw [← HB.out] at hg hbel hown
  clear hb
  go_wp2_with fail
  go_loopw [6] (fun iv wr => ∃ (k : Nat), iv = .int .i64 (k : Int) ∧ k ≤ D.length ∧ OwnB wr B 5 (.slice (some ⟨g, 0, none⟩) D.length c) (marked D k) ∧ Below B w wr) (fun iv _ => D.length - (intOf iv).toNat)
  case atStart => exact ⟨0, rfl, Nat.zero_le _, hown, hbel⟩
  case round =>
    obtain ⟨k, rfl, hk, hown', hbel'⟩ := hrel
    by_cases hlt : k < D.length
    · have hd : D[k] < 128 := hDlt.out _ (List.getElem_mem _)
      have hm := marked_at D k (by omega)
      have hms := marked_set D k (by omega)
      obtain ⟨d, hdd⟩ : ∃ d, d = D[k] := ⟨_, rfl⟩
      rw [← hdd] at hd hm hms
      have hcell : wr.cell? ⟨g, k, none⟩ = some (.int .u8 (d : Int)) := by
        rw [hown'.cell hm]; simp only [byte, UInt8.toNat_ofNat']; congr 2; omega
      have hfree := hown'.free k
      have hst := hown'.stored k (hi d)
      rw [hms] at hst
      have hbyte : Hid (byte (hi d) = .int .u8 ((d : Int) + 128)) := by
        unfold Hid
        simp only [byte, hi, UInt8.toNat_ofNat']; congr 1; omega
      have HST : Hid (OwnB (wr.setCell ⟨g, k, none⟩ (.int .u8 ((d : Int) + 128))) B 5 (.slice (some ⟨g, 0, none⟩) D.length c) (marked D (k + 1))) := by
        unfold Hid
        rw [hbyte.out] at hst
        exact hst
      clear hst hms hm hdd hown hown'
      go_wp2_with fail
      go_roundw
      case rel => exact ⟨k + 1, by go_num, by omega, HST.out, hbel'.setCell hg _⟩
      case measure => simp [intOf]; omega
    · have hk8 : k = D.length := by omega
      subst hk8
      have hBr : B ≤ wr.heap.size := by have := hbel'.size; have := HB.out; omega
      have hbyte : Hid (Value.int .u8 ((n : Int) % 256) = byte (UInt8.ofNat (n % 256))) := by
        unfold Hid
        simp only [byte, UInt8.toNat_ofNat']
        congr 1; omega
      have hsrc : Reads (wr.alloc (.cells #[Value.int .u8 ((n : Int) % 256)] 5)) 1 (.slice (some ⟨wr.heap.size, 0, none⟩) 1 1) 1 [Value.int .u8 ((n : Int) % 256)] := reads_of_owns (own_one wr B 5 _ hBr)
      have hlen := marked_length D D.length
      have HL := Lib.hid hlen; clear hlen
      clear hown
      go_wp2_with (at_builtin; refine wpList_append_reads rfl (.tmp 45) (.tmp 49) 38 rfl B 5 1 1 elem_u8 _ (marked D D.length).length ((marked D D.length).map byte) rfl (hown'.alloc _) _ 1 [Value.int .u8 ((n : Int) % 256)] rfl hsrc (by rw [hbyte.out]; exact oneCell_bytes [_]) (by unfold maxLen; rw [HL.out]; omega) (by rw [HL.out]; omega) (by simp; omega) ?_; intro v' w2 hown2 hgrow2 hbel2)
      have hown3 : OwnB w2 B 5 v' (putL n) := ownB_of hown2 (by rw [← putL_large n H.out, ← HD.out]; simp) (by rw [hbyte.out, ← putL_large n H.out, ← HD.out]; simp)
      have hcv := conv_own 38 5 9 cv_u8 ty_u8 ty_str hown3
      have hb2 : Below B w w2 := (hbel'.alloc hBr _).trans hbel2
      clear hown2 hgrow2 hown' hown3
      rw [hcv]
      go_wp2_with fail
      go_ret
      exact ⟨rfl, hb2⟩

theorem refPut (n : Nat) (w : World) (h : n < 18446744073709551616) :
    Calls Try.prog 20 #[.int .u64 (n : Int)] w fun e w' => e = .returned (str (putL n)) ∧ Below w.heap.size w w' := by
  rcases Nat.lt_or_ge n 72057594037927936 with h1 | h1
  · exact refPut_small n w h1
  · exact refPut_large n w h1 h
end Go.Proofs.Ytooliekmfbkopaa.Num
