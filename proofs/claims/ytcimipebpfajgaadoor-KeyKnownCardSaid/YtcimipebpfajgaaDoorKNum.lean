/-
  The walks of (the lesser part of) package number.
-/
import Derived.Test.YtcimipebpfajgaaDoorProg
import Derived.Test.YtcimipebpfajgaaDoorU8T
import Derived.Test.YtcimipebpfajgaaDoorBytes
import Derived.Test.YtcimipebpfajgaaDoorNumSpec
import Derived.Outline
import Derived.Deep.QuietTactic
import Derived.Lib.Hide
import Derived.BigQuiet
namespace Go.Proofs.YtcimipebpfajgaaDoor.Num
open Go.RowKit Go.Proofs.YtcimipebpfajgaaDoor.By

theorem four (n : Int) (w : World) (h0 : 0 ≤ n) :
    Calls Tryd.prog 19 #[.int .u32 n] w fun e w' => e = .returned (str (be4 n.toNat)) ∧ Below w.heap.size w w' := by
  have hcv := conv_new (P := Tryd.prog) w 37 5 9 cv_u8 ty_u8 ty_str #[Value.int IntKind.u8 (n / 16777216 % 256), Value.int IntKind.u8 (n / 65536 % 256), Value.int IntKind.u8 (n / 256 % 256), Value.int IntKind.u8 (n % 256)] 64 0 4 4 (be4 n.toNat) rfl (by
    intro i hi
    obtain ⟨n, rfl⟩ := Int.eq_ofNat_of_zero_le h0
    simp only [be4_length] at hi
    match i, hi with
    | 0, _ => simp [byte, be4]
    | 1, _ => simp [byte, be4]
    | 2, _ => simp [byte, be4]
    | 3, _ => simp [byte, be4])
  go_enter Tryd.func19, Tryd.ntmps19
  go_wp2
  go_ret
  exact ⟨rfl, (Below.refl _ _).alloc (Nat.le_refl _) _⟩

theorem takeFour_short (s : ByteArray) (w : World) (h : s.data.toList.length < 4) :
    Calls Tryd.prog 27 #[.string s] w fun e w' => e = .returned (.tuple #[.int .u32 0, .int .i64 10]) ∧ ∃ n, w' = w.drewN n := by
  have hs : s.size < 4 := by simpa using h
  go_enter Tryd.func27, Tryd.ntmps27
  go_wp2
  go_ret2
  exact ⟨rfl, 0, rfl⟩

theorem takeFour_ok (s : ByteArray) (w : World) (h : 4 ≤ s.data.toList.length) :
    Calls Tryd.prog 27 #[.string s] w fun e w' => e = .returned (.tuple #[.int .u32 (val4 s.data.toList), .int .i64 0]) ∧ ∃ n, w' = w.drewN n := by
  have hs : 4 ≤ s.size := by simpa using h
  have hv : ∀ h0 h1 h2 h3, (val4 s.data.toList : Int) = bits .or .u32 (bits .or .u32 (bits .or .u32 (((s[0]'h0).toNat : Int) % 4294967296 * 16777216 % 4294967296) (((s[1]'h1).toNat : Int) % 4294967296 * 65536 % 4294967296)) (((s[2]'h2).toNat : Int) % 4294967296 * 256 % 4294967296)) (((s[3]'h3).toNat : Int) % 4294967296) := by
    intro h0 h1 h2 h3
    rw [four_bytes, ← getD_bytes s 0 h0, ← getD_bytes s 1 h1, ← getD_bytes s 2 h2, ← getD_bytes s 3 h3]
    rfl
  clear h
  have i0 : 0 < s.size := by omega
  have i1 : (1 : Int) < (s.size : Int) := by omega
  have i2 : (2 : Int) < (s.size : Int) := by omega
  have i3 : (3 : Int) < (s.size : Int) := by omega
  generalize (val4 s.data.toList : Int) = v at *
  have H := Lib.hid hv; clear hv
  go_enter Tryd.func27, Tryd.ntmps27
  go_wp2
  go_quiet (fail)
  go_wp2
  go_ret2
  exact ⟨by rw [H.out]; rfl, _, rfl⟩

set_option maxHeartbeats 400000 in
theorem eight (n : Int) (w : World) (h0 : 0 ≤ n) (h1 : n < 18446744073709551616) :
    Calls Tryd.prog 12 #[.int .u64 n] w fun e w' => e = .returned (str (be8 n.toNat)) ∧ Below w.heap.size w w' := by
  have H1 := Lib.hid h1; clear h1
  go_enter Tryd.func12, Tryd.ntmps12
  go_wp2_with fail
  refine (four _ _ (by omega)).mono ?_
  rintro e w1 ⟨rfl, hb1⟩
  go_wp2_with fail
  refine (four _ _ (by omega)).mono ?_
  rintro e w2 ⟨rfl, hb2⟩
  have hadd := run_string_add_sum (P := Tryd.prog) w2 ⟨(be4 (n / 4294967296 % 4294967296).toNat).toArray⟩ ⟨(be4 (n % 4294967296).toNat).toArray⟩ (by show 4 + 4 ≤ 9223372036854775807; omega)
  go_wp2_with fail
  go_ret
  have he : (⟨(be4 (n / 4294967296 % 4294967296).toNat).toArray⟩ : ByteArray) ++ ⟨(be4 (n % 4294967296).toNat).toArray⟩ = ⟨(be8 n.toNat).toArray⟩ := by
    rw [ByteArray.mk_append_mk, be8_eq n h0 H1.out]
  exact ⟨congrArg (fun x => Ending.returned (Value.string x)) he, hb1.trans (hb2.mono hb1.size)⟩

theorem takeEight_short (s : ByteArray) (w : World) (h : s.data.toList.length < 8) :
    Calls Tryd.prog 21 #[.string s] w fun e w' => e = .returned (.tuple #[.int .u64 0, .int .i64 10]) ∧ ∃ n, w' = w.drewN n := by
  have hs : s.size < 8 := by simpa using h
  go_enter Tryd.func21, Tryd.ntmps21
  go_wp2
  go_ret2
  exact ⟨rfl, 0, rfl⟩

theorem takeEight_ok (s : ByteArray) (w : World) (h : 8 ≤ s.data.toList.length) :
    Calls Tryd.prog 21 #[.string s] w fun e w' => e = .returned (.tuple #[.int .u64 (val8 s.data.toList), .int .i64 0]) ∧ ∃ n, w' = w.drewN n := by
  have hs : 8 ≤ s.size := by simpa using h
  go_enter Tryd.func21, Tryd.ntmps21
  go_wp2_with fail
  refine (takeFour_ok s _ (by omega)).mono ?_
  rintro e w' ⟨rfl, n1, rfl⟩
  go_wp2_with fail
  refine (takeFour_ok _ _ (by simp; omega)).mono ?_
  rintro e w' ⟨rfl, n2, rfl⟩
  go_wp2_with fail
  go_ret2
  have hd : List.take (s.size - 4) (List.drop 4 s.data.toList) = List.drop 4 s.data.toList := List.take_of_length_le (by simp)
  have he : bits .or .u64 (IntKind.u64.wrap (IntKind.u64.wrap (val4 s.data.toList : Int) * 4294967296)) (IntKind.u64.wrap (val4 (List.take (s.size - 4) (List.drop 4 s.data.toList)) : Int)) = (val8 s.data.toList : Int) := by
    rw [hd, eight_bytes _ _ (val4_lt _) (val4_lt _)]; rfl
  exact ⟨congrArg (fun x => Ending.returned (.tuple #[.int .u64 x, .int .i64 0])) he, _, rfl⟩
end Go.Proofs.YtcimipebpfajgaaDoor.Num
