/-
  The walks of the reference on numbers: those that the keys come to.
-/
import Derived.Test.YtclkpbokngamiaaDoorKNum
import Derived.Test.YtclkpbokngamiaaDoorOwn
namespace Go.Proofs.YtclkpbokngamiaaDoor.Num
open Go.RowKit Go.Proofs.YtclkpbokngamiaaDoor.By

theorem elem_u8 : Elem Tryd.prog 47 5 1 1 where
  slice := cv_u8
  info := by
    have h : (Tryd.prog.info? 5).map (fun i => (i.zero, i.size, i.bytes)) = some (some (.int .u8 0), 1, 1) := by kernel_rfl
    obtain ⟨i, hi, h1, h2, h3⟩ := info_parts h
    exact ⟨i, _, hi, h1, h2, h3, rfl⟩
  pos := by decide

set_option maxHeartbeats 400000 in
theorem fixed (n : Nat) (k : Nat) (w : World) (hn : n < 18446744073709551616) (hk : k ≤ 1000) :
    Calls Tryd.prog 47 #[.int .u64 (n : Int), .int .i64 (k : Int)] w fun e w' => e = .returned (str (be k n)) ∧ Below w.heap.size w w' := by
  have H := Lib.hid hn; clear hn
  obtain ⟨B, hB⟩ : ∃ B, B = w.heap.size := ⟨_, rfl⟩
  rw [← hB]
  have HB := Lib.hid hB; clear hB
  go_enter Tryd.func47, Tryd.ntmps47
  go_wp2_with fail
  go_loopw [0, 5] (fun nv ov wr => ∃ (m : Nat) (L : List UInt8), nv = .int .u64 (m : Int) ∧ OwnB wr B 5 ov L ∧ Hid (be (k - L.length) m ++ L = be k n) ∧ L.length ≤ k ∧ m ≤ n ∧ Below B w wr) (fun _ ov _ => k - lenOf ov)
  case atStart => exact ⟨n, [], rfl, OwnB.nil _ _ _, by unfold Hid; simp, Nat.zero_le _, Nat.le_refl _, Below.refl _ _⟩
  case round =>
    obtain ⟨m, L, rfl, hown, hp, hL, hmn, hbel⟩ := hrel
    obtain ⟨a, c, rfl⟩ := hown.shape
    have hBr : B ≤ wr.heap.size := by have := hbel.size; have := HB.out; omega
    by_cases hgo : L.length < k
    · have hstep : Hid (be (k - (L.length + 1)) (m / 256) ++ (UInt8.ofNat (m % 256) :: L) = be k n) := by
        unfold Hid
        rw [← hp.out, show k - L.length = (k - (L.length + 1)) + 1 by omega, be]
        simp
      have hbyte : Hid (Value.int .u8 ((m : Int) % 256) = byte (UInt8.ofNat (m % 256))) := by
        unfold Hid
        simp only [byte, UInt8.toNat_ofNat']
        congr 1; omega
      have hw : IntKind.u64.wrap ((m : Int) / 256) = (m : Int) / 256 := u64_in (m / 256) (by have := H.out; omega)
      go_wp2_with (at_builtin; refine wpList_append_reads rfl (.tmp 13) (.tmp 14) 47 rfl B 5 1 1 elem_u8 _ 1 [Value.int .u8 ((m : Int) % 256)] rfl (own_one wr B 5 _ hBr) _ L.length (L.map byte) rfl (hown.alloc _).reads (oneCell_bytes L) (by unfold maxLen; omega) (by omega) (by simp; omega) ?_; intro v' w2 hown2 hgrow2 hbel2)
      have hown' : OwnB w2 B 5 v' (UInt8.ofNat (m % 256) :: L) := ownB_of hown2 (by simp; omega) (by rw [hbyte.out]; rfl)
      have hl2 := hown'.lenOf
      have HL2 := Lib.hid hl2; clear hl2
      have hb2 : Below B w w2 := (hbel.alloc hBr _).trans hbel2
      clear hown2 hgrow2 hown hp
      go_wp2_with fail
      go_roundw
      case rel => exact ⟨m / 256, UInt8.ofNat (m % 256) :: L, by go_num, hown', hstep, by simp; omega, by omega, hb2⟩
      case measure =>
        rw [HL2.out]
        simp only [lenOf, List.length_cons]
        omega
    · have hcv := conv_own 47 5 9 cv_u8 ty_u8 ty_str hown
      go_wp2_with fail
      go_ret
      have hp' := hp.out
      rw [show k - L.length = 0 by omega, be, List.nil_append] at hp'
      exact ⟨congrArg (fun l => Ending.returned (str l)) hp', hbel⟩

theorem value (s : ByteArray) (w : World) (hs : s.size ≤ 8) :
    Calls Tryd.prog 39 #[.string s] w fun e w' => e = .returned (.int .u64 (val s.data.toList)) ∧ w = w' := by
  go_enter Tryd.func39, Tryd.ntmps39
  go_wp2_with fail
  go_loop [3, 4] (fun nv iv => ∃ (k : Nat), nv = .int .u64 (val (s.data.toList.take k)) ∧ iv = .int .i64 (k : Int) ∧ k ≤ s.size) (fun _ iv => s.size - (intOf iv).toNat)
  case atStart => exact ⟨0, rfl, rfl, Nat.zero_le _⟩
  case round =>
    obtain ⟨k, rfl, rfl, hk⟩ := hrel
    by_cases hlt : k < s.size
    · have hg : s.data.toList[k]? = some s[k] := by rw [Array.getElem?_toList, Array.getElem?_eq_getElem hlt]; rfl
      have hstep := val_snoc (s.data.toList.take k) s[k]
      rw [← take_snoc hg] at hstep
      have hb := val_lt (s.data.toList.take (k + 1))
      have hb' : val (s.data.toList.take (k + 1)) < 256 ^ 8 := Nat.lt_of_lt_of_le hb (Nat.pow_le_pow_right (by omega) (by simp; omega))
      have hw : Hid (IntKind.u64.wrap (IntKind.u64.wrap (256 * (val (s.data.toList.take k) : Int)) + IntKind.u64.wrap (s[k].toNat : Int)) = (val (s.data.toList.take (k + 1)) : Int)) := by
        unfold Hid
        rw [IntKind.wrap_u64, IntKind.wrap_u64, IntKind.wrap_u64]
        omega
      clear hb hb' hstep hg
      go_wp2_with fail
      go_round
      case rel => exact ⟨k + 1, by rw [hw.out], by go_num, by omega⟩
      case measure => simp [intOf]; omega
    · go_wp2_with fail
      go_ret
      rw [List.take_of_length_le (by simp; omega)]
      exact ⟨rfl, rfl⟩

end Go.Proofs.YtclkpbokngamiaaDoor.Num
