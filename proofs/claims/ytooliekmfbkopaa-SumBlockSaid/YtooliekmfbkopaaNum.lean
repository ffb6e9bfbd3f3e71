/-
  The walks of package number.
-/
import Derived.Test.YtooliekmfbkopaaProg
import Derived.Test.YtooliekmfbkopaaBytes
import Derived.Test.YtooliekmfbkopaaNumSpec
import Derived.Outline
import Derived.Deep.QuietTactic
import Derived.Lib.Hide
import Derived.BigQuiet
namespace Go.Proofs.Ytooliekmfbkopaa.Num
open Go.RowKit Go.Proofs.Ytooliekmfbkopaa.By

theorem cv_u8 : Try.prog.underlying 38 = some (.slice 5) := by kernel_rfl
theorem ty_u8 : Try.prog.underlying 5 = some (.int .u8) := by kernel_rfl
theorem ty_str : Try.prog.underlying 9 = some .string := by kernel_rfl

theorem four (n : Int) (w : World) (h0 : 0 ≤ n) :
    Calls Try.prog 37 #[.int .u32 n] w fun e w' => e = .returned (str (be4 n.toNat)) ∧ Below w.heap.size w w' := by
  have hcv := conv_new (P := Try.prog) w 38 5 9 cv_u8 ty_u8 ty_str #[Value.int IntKind.u8 (n / 16777216 % 256), Value.int IntKind.u8 (n / 65536 % 256), Value.int IntKind.u8 (n / 256 % 256), Value.int IntKind.u8 (n % 256)] 71 0 4 4 (be4 n.toNat) rfl (by
    intro i hi
    obtain ⟨n, rfl⟩ := Int.eq_ofNat_of_zero_le h0
    simp only [be4_length] at hi
    match i, hi with
    | 0, _ => simp [byte, be4]
    | 1, _ => simp [byte, be4]
    | 2, _ => simp [byte, be4]
    | 3, _ => simp [byte, be4])
  go_enter Try.func37, Try.ntmps37
  go_wp2
  go_ret
  exact ⟨rfl, (Below.refl _ _).alloc (Nat.le_refl _) _⟩

theorem takeFour_short (s : ByteArray) (w : World) (h : s.data.toList.length < 4) :
    Calls Try.prog 42 #[.string s] w fun e w' => e = .returned (.tuple #[.int .u32 0, .int .i64 10]) ∧ ∃ n, w' = w.drewN n := by
  have hs : s.size < 4 := by simpa using h
  go_enter Try.func42, Try.ntmps42
  go_wp2
  go_ret2
  exact ⟨rfl, 0, rfl⟩

theorem takeFour_ok (s : ByteArray) (w : World) (h : 4 ≤ s.data.toList.length) :
    Calls Try.prog 42 #[.string s] w fun e w' => e = .returned (.tuple #[.int .u32 (val4 s.data.toList), .int .i64 0]) ∧ ∃ n, w' = w.drewN n := by
  have hs : 4 ≤ s.size := by simpa using h
  have hv : ∀ h0 h1 h2 h3, (val4 s.data.toList : Int) = bits .or .u32 (bits .or .u32 (bits .or .u32 (((s[0]'h0).toNat : Int) % 4294967296 * 16777216 % 4294967296) (((s[1]'h1).toNat : Int) % 4294967296 * 65536 % 4294967296)) (((s[2]'h2).toNat : Int) % 4294967296 * 256 % 4294967296)) (((s[3]'h3).toNat : Int) % 4294967296) := by
    intro h0 h1 h2 h3
    rw [four_bytes, ← getD_bytes s 0 h0, ← getD_bytes s 1 h1, ← getD_bytes s 2 h2, ← getD_bytes s 3 h3]
    rfl
  clear h
  have i0 : 0 < s.size := by omega
  have i1 : (1 : Int) < (s.size : Int) := by omega
  have i2 : (2 : Int) < (s.size : Int) := by omega
  have i3 : (3 : Int) < (s.size : Int) := by omega
  generalize (val4 s.data.toList : Int) = v at *
  have H := Lib.hid hv; clear hv
  go_enter Try.func42, Try.ntmps42
  go_wp2
  go_quiet (fail)
  go_wp2
  go_ret2
  exact ⟨by rw [H.out]; rfl, _, rfl⟩

set_option maxHeartbeats 400000 in
theorem eight (n : Int) (w : World) (h0 : 0 ≤ n) (h1 : n < 18446744073709551616) :
    Calls Try.prog 36 #[.int .u64 n] w fun e w' => e = .returned (str (be8 n.toNat)) ∧ Below w.heap.size w w' := by
  have H1 := Lib.hid h1; clear h1
  go_enter Try.func36, Try.ntmps36
  go_wp2_with fail
  refine (four _ _ (by omega)).mono ?_
  rintro e w1 ⟨rfl, hb1⟩
  go_wp2_with fail
  refine (four _ _ (by omega)).mono ?_
  rintro e w2 ⟨rfl, hb2⟩
  have hadd := run_string_add_sum (P := Try.prog) w2 ⟨(be4 (n / 4294967296 % 4294967296).toNat).toArray⟩ ⟨(be4 (n % 4294967296).toNat).toArray⟩ (by show 4 + 4 ≤ 9223372036854775807; omega)
  go_wp2_with fail
  go_ret
  have he : (⟨(be4 (n / 4294967296 % 4294967296).toNat).toArray⟩ : ByteArray) ++ ⟨(be4 (n % 4294967296).toNat).toArray⟩ = ⟨(be8 n.toNat).toArray⟩ := by
    rw [ByteArray.mk_append_mk, be8_eq n h0 H1.out]
  exact ⟨congrArg (fun x => Ending.returned (Value.string x)) he, hb1.trans (hb2.mono hb1.size)⟩

theorem takeEight_short (s : ByteArray) (w : World) (h : s.data.toList.length < 8) :
    Calls Try.prog 43 #[.string s] w fun e w' => e = .returned (.tuple #[.int .u64 0, .int .i64 10]) ∧ ∃ n, w' = w.drewN n := by
  have hs : s.size < 8 := by simpa using h
  go_enter Try.func43, Try.ntmps43
  go_wp2
  go_ret2
  exact ⟨rfl, 0, rfl⟩

theorem takeEight_ok (s : ByteArray) (w : World) (h : 8 ≤ s.data.toList.length) :
    Calls Try.prog 43 #[.string s] w fun e w' => e = .returned (.tuple #[.int .u64 (val8 s.data.toList), .int .i64 0]) ∧ ∃ n, w' = w.drewN n := by
  have hs : 8 ≤ s.size := by simpa using h
  go_enter Try.func43, Try.ntmps43
  go_wp2_with fail
  refine (takeFour_ok s _ (by omega)).mono ?_
  rintro e w' ⟨rfl, n1, rfl⟩
  go_wp2_with fail
  refine (takeFour_ok _ _ (by simp; omega)).mono ?_
  rintro e w' ⟨rfl, n2, rfl⟩
  go_wp2_with fail
  go_ret2
  have hd : List.take (s.size - 4) (List.drop 4 s.data.toList) = List.drop 4 s.data.toList := List.take_of_length_le (by simp)
  have he : bits .or .u64 (IntKind.u64.wrap (IntKind.u64.wrap (val4 s.data.toList : Int) * 4294967296)) (IntKind.u64.wrap (val4 (List.take (s.size - 4) (List.drop 4 s.data.toList)) : Int)) = (val8 s.data.toList : Int) := by
    rw [hd, eight_bytes _ _ (val4_lt _) (val4_lt _)]; rfl
  exact ⟨congrArg (fun x => Ending.returned (.tuple #[.int .u64 x, .int .i64 0])) he, _, rfl⟩

theorem arr9 : Try.prog.underlying 63 = some (.array (Try.prog.arrayLen 63) (Try.prog.elem 63)) := by kernel_rfl
theorem arr9_len : Try.prog.arrayLen 63 = 9 := by kernel_rfl
theorem arr9_size (w : World) : (sizeOf (Try.prog.elem 63)).run Try.prog w = .ok 1 w := by kernel_rfl

theorem put_start (n : Nat) (h : n < 18446744073709551616) : #[Value.int IntKind.u8 0, Value.int IntKind.u8 0, Value.int IntKind.u8 0, Value.int IntKind.u8 0, Value.int IntKind.u8 0, Value.int IntKind.u8 0, Value.int IntKind.u8 0, Value.int IntKind.u8 0,
    Value.int IntKind.u8 (bits BinOp.and IntKind.u64 (n : Int) 127 % 256)] = cellsOf (List.replicate 8 0 ++ [UInt8.ofNat (n % 128)]) := by
  rw [and_127 n h]; rfl

theorem put_set (k : Nat) (L : List UInt8) (b : UInt8) (h : 1 ≤ k) : (List.replicate k 0 ++ L).set (k - 1) b = List.replicate (k - 1) 0 ++ b :: L := by
  obtain ⟨j, rfl⟩ : ∃ j, k = j + 1 := ⟨k - 1, by omega⟩
  simp only [Nat.add_sub_cancel]
  rw [List.replicate_succ', List.append_assoc, List.set_append_right _ _ (by simp)]
  simp

theorem put_start8 (n : Nat) : #[Value.int IntKind.u8 0, Value.int IntKind.u8 0, Value.int IntKind.u8 0, Value.int IntKind.u8 0, Value.int IntKind.u8 0, Value.int IntKind.u8 0, Value.int IntKind.u8 0, Value.int IntKind.u8 0,
    Value.int IntKind.u8 ((n : Int) % 256)] = cellsOf (List.replicate 8 0 ++ [UInt8.ofNat (n % 256)]) := by
  have e : ((n : Int) % 256) = ((UInt8.ofNat (n % 256)).toNat : Int) := by simp
  rw [e]; rfl

set_option maxHeartbeats 400000 in
theorem put_small (n : Nat) (w : World) (h : n < 72057594037927936) :
    Calls Try.prog 21 #[.int .u64 (n : Int)] w fun e w' => e = .returned (str (putL n)) ∧ Below w.heap.size w w' := by
  have hb : (72057594037927936 : Int) ≤ (n : Int) ↔ False := ⟨fun h' => by omega, False.elim⟩
  have H := Lib.hid h; clear h
  go_enter Try.func21, Try.ntmps21
  go_wp2_with fail
  clear hb
  go_loopw [0, 6] (fun nv av wr => ∃ (m k : Nat) (L : List UInt8), nv = .int .u64 (m : Int) ∧ av = .int .i64 (k : Int) ∧ 1 ≤ k ∧ k ≤ 8 ∧ k + L.length = 9 ∧ m < 128 ^ (k - 1) ∧ Hid ((dg m 0).map hi ++ L = putL n) ∧ wr = w.alloc (.cells (cellsOf (List.replicate k 0 ++ L)) 63)) (fun nv _ _ => (intOf nv).toNat)
  case atStart =>
    exact ⟨n / 128, 8, [UInt8.ofNat (n % 128)], by go_num, rfl, by omega, by omega, rfl, by have := H.out; omega, by unfold Hid putL; rw [if_pos H.out], by have := H.out; rw [put_start n (by omega)]⟩
  case round =>
    obtain ⟨m, k, L, rfl, rfl, hk, hk8, hL, hlt, hp, rfl⟩ := hrel
    have hcell : (cellsOf (List.replicate k 0 ++ L))[k - 1]? = some (byte ((List.replicate k 0 ++ L)[k - 1]'(by simp; omega))) := cellsOf_get _ _ _
    by_cases hm : 0 < m
    · obtain ⟨h2, hlt', hp'⟩ := put_step hm hk hlt hp.out
      have HP := Lib.hid hp'
      have HL := Lib.hid hlt'
      clear hp hp' hlt hlt'
      go_wp2_with fail
      go_roundw
      case rel =>
        exact ⟨m / 128, k - 1, hi (m % 128) :: L, by go_num, by go_num, by omega, by omega, by simp; omega, HL.out, HP, by
          rw [hi_or, ← put_set k L _ hk, ← cellsOf_set]⟩
      case measure => simp [intOf]; omega
    · obtain rfl : m = 0 := by omega
      go_wp2_with fail
      rw [sliceAt_l _ 63 arr9 9 arr9_len (arr9_size _) w.heap.size k (by omega)]
      have hcv := conv_cells (P := Try.prog) w 38 5 9 cv_u8 ty_u8 ty_str 63 k (9 - k) (9 - k) (List.replicate k 0 ++ L) L (by omega) (by rw [List.drop_left' (by simp), List.take_of_length_le (by omega)])
      go_wp2_with fail
      go_ret
      have hp' := hp.out
      rw [dg_zero] at hp'
      exact ⟨congrArg (fun l => Ending.returned (str l)) hp', (Below.refl _ _).alloc (Nat.le_refl _) _⟩

set_option maxHeartbeats 400000 in
theorem put_large (n : Nat) (w : World) (h : 72057594037927936 ≤ n) (h' : n < 18446744073709551616) :
    Calls Try.prog 21 #[.int .u64 (n : Int)] w fun e w' => e = .returned (str (putL n)) ∧ Below w.heap.size w w' := by
  have hb : (72057594037927936 : Int) ≤ (n : Int) ↔ True := ⟨fun _ => trivial, fun _ => by omega⟩
  have H := Lib.hid h; clear h
  have H' := Lib.hid h'; clear h'
  go_enter Try.func21, Try.ntmps21
  go_wp2_with fail
  clear hb
  go_loopw [4, 5] (fun iv xv wr => ∃ (m k : Nat) (L : List UInt8), xv = .int .u64 (m : Int) ∧ iv = .int .i64 ((k : Int) - 1) ∧ k ≤ 8 ∧ k + L.length = 9 ∧ m < 128 ^ k ∧ Hid ((dg m k).map hi ++ L = putL n) ∧ wr = w.alloc (.cells (cellsOf (List.replicate k 0 ++ L)) 63)) (fun iv _ _ => (intOf iv + 1).toNat)
  case atStart =>
    exact ⟨n / 256, 8, [UInt8.ofNat (n % 256)], by go_num, rfl, by omega, rfl, by have := H'.out; omega, by unfold Hid putL; have := H.out; rw [if_neg (by omega)], by rw [put_start8 n]⟩
  case round =>
    obtain ⟨m, k, L, rfl, rfl, hk8, hL, hlt, hp, rfl⟩ := hrel
    by_cases hk : 1 ≤ k
    · have hcell : (cellsOf (List.replicate k 0 ++ L))[k - 1]? = some (byte ((List.replicate k 0 ++ L)[k - 1]'(by simp; omega))) := cellsOf_get _ _ _
      obtain ⟨hlt', hp'⟩ := put_step8 hk hlt hp.out
      have HP := Lib.hid hp'
      have HL := Lib.hid hlt'
      clear hp hp' hlt hlt'
      go_wp2_with fail
      go_roundw
      case rel =>
        exact ⟨m / 128, k - 1, hi (m % 128) :: L, by go_num, by go_num, by omega, by simp; omega, HL.out, HP, by
          rw [hi_or, ← put_set k L _ hk, ← cellsOf_set]⟩
      case measure => simp [intOf]; omega
    · obtain rfl : k = 0 := by omega
      obtain rfl : m = 0 := by omega
      go_wp2_with fail
      have hcv := conv_cells (P := Try.prog) w 38 5 9 cv_u8 ty_u8 ty_str 63 0 9 9 L L (by omega) (by rw [List.drop_zero, List.take_of_length_le (by omega)])
      rw [hcv]
      go_wp2_with fail
      go_ret
      have hp' := hp.out
      rw [dg_zero] at hp'
      exact ⟨congrArg (fun l => Ending.returned (str l)) hp', (Below.refl _ _).alloc (Nat.le_refl _) _⟩
theorem put (n : Nat) (w : World) (h : n < 18446744073709551616) :
    Calls Try.prog 21 #[.int .u64 (n : Int)] w fun e w' => e = .returned (str (putL n)) ∧ Below w.heap.size w w' := by
  rcases Nat.lt_or_ge n 72057594037927936 with h1 | h1
  · exact put_small n w h1
  · exact put_large n w h1 h

theorem size_small (n : Nat) (w : World) (h : n < 72057594037927936) :
    Calls Try.prog 22 #[.int .u64 (n : Int)] w fun e w' => e = .returned (.int .i64 (putL n).length) ∧ w = w' := by
  have hb : (72057594037927936 : Int) ≤ (n : Int) ↔ False := ⟨fun h' => by omega, False.elim⟩
  have h8 := putL_len_small n h
  have H8 := Lib.hid h8; clear h8
  clear h
  go_enter Try.func22, Try.ntmps22
  go_wp2_with fail
  go_loop [3, 4] (fun sv kv => ∃ (m j : Nat), kv = .int .u64 (m : Int) ∧ sv = .int .i64 (j : Int) ∧ 1 ≤ j ∧ Hid ((dg m 0).length + j = (putL n).length)) (fun _ kv => (intOf kv).toNat)
  case atStart =>
    exact ⟨n / 128, 1, by go_num, rfl, by omega, by unfold Hid; have := H8.out; omega⟩
  case round =>
    obtain ⟨m, j, rfl, rfl, hj, hp⟩ := hrel
    by_cases hm : 0 < m
    · have hp' := hp.out
      rw [dg_step m 0 (Or.inl hm)] at hp'
      simp only [List.length_append, List.length_singleton, Nat.zero_sub] at hp'
      have hj8 : j < 9 := by have := H8.out; omega
      have HP : Hid ((dg (m / 128) 0).length + (j + 1) = (putL n).length) := by unfold Hid; omega
      clear hp hp'
      go_wp2_with fail
      go_round
      case rel => exact ⟨m / 128, j + 1, by go_num, by go_num, by omega, HP⟩
      case measure => simp [intOf]; omega
    · obtain rfl : m = 0 := by omega
      have hp' := hp.out
      rw [dg_zero] at hp'
      have HP : Hid ((j : Int) = ((putL n).length : Int)) := by unfold Hid; simp at hp'; omega
      clear hp hp'
      go_wp2_with fail
      go_ret
      exact ⟨congrArg (fun x => Ending.returned (.int .i64 x)) HP.out, rfl⟩

theorem size_large (n : Nat) (w : World) (h : 72057594037927936 ≤ n) (h' : n < 18446744073709551616) :
    Calls Try.prog 22 #[.int .u64 (n : Int)] w fun e w' => e = .returned (.int .i64 (putL n).length) ∧ w = w' := by
  have hb : (72057594037927936 : Int) ≤ (n : Int) ↔ True := ⟨fun _ => trivial, fun _ => by omega⟩
  have h8 := putL_len_large n h h'
  have H8 := Lib.hid h8; clear h8
  clear h h'
  go_enter Try.func22, Try.ntmps22
  go_wp2_with fail
  go_loop [3, 4] (fun sv kv => ∃ (m j : Nat), kv = .int .u64 (m : Int) ∧ sv = .int .i64 (j : Int) ∧ 1 ≤ j ∧ j ≤ 9) (fun _ kv => (intOf kv).toNat)
  case atStart => exact ⟨n / 128, 1, by go_num, rfl, by omega, by omega⟩
  case round =>
    obtain ⟨m, j, rfl, rfl, hj, hj9⟩ := hrel
    by_cases hm : 0 < m ∧ j < 9
    · obtain ⟨hm, hj8⟩ := hm
      go_wp2_with fail
      go_round
      case rel => exact ⟨m / 128, j + 1, by go_num, by go_num, by omega, by omega⟩
      case measure => simp [intOf]; omega
    · rcases Nat.eq_zero_or_pos m with h0 | h0
      · subst h0
        clear hm
        go_wp2_with fail
        go_ret
        exact ⟨congrArg (fun x : Nat => Ending.returned (.int .i64 (x : Int))) H8.out.symm, rfl⟩
      · have h9 : ¬ j < 9 := by omega
        clear hm
        go_wp2_with fail
        go_ret
        exact ⟨congrArg (fun x : Nat => Ending.returned (.int .i64 (x : Int))) H8.out.symm, rfl⟩

theorem size (n : Nat) (w : World) (h : n < 18446744073709551616) :
    Calls Try.prog 22 #[.int .u64 (n : Int)] w fun e w' => e = .returned (.int .i64 (putL n).length) ∧ w = w' := by
  rcases Nat.lt_or_ge n 72057594037927936 with h1 | h1
  · exact size_small n w h1
  · exact size_large n w h1 h

end Go.Proofs.Ytooliekmfbkopaa.Num
