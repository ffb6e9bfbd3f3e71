/-
  The walk of key.Put: any row, its key.
-/
import Derived.Test.YtcimipebpfajgaaDoorKeyB
import Derived.Test.YtcimipebpfajgaaDoorKeySpec
import Derived.Test.YtcimipebpfajgaaDoorMaxLen
import Derived.Test.YtcimipebpfajgaaDoorValueB
import Derived.Test.YtcimipebpfajgaaDoorKNum
import Derived.Deep.DeepCutAuto
import Derived.Laws.Bits64
import Derived.Laws.Concat
namespace Go.Proofs.YtcimipebpfajgaaDoor.Dt
open Go.RowKit Go.Proofs.YtcimipebpfajgaaDoor.By

theorem replaceW (s : ByteArray) (w : World) (hm : MaxAt w) (hs : s.size ≤ 1000000) :
    Calls Tryd.prog 13 #[.string s, .string ⟨#[0]⟩, .string ⟨#[0, 255]⟩] w fun e w' => e = .returned (str (esc s.data.toList)) ∧ Below w.heap.size w w' := by
  obtain ⟨m, hm⟩ := hm
  have hc : Lib.countB s ⟨#[0]⟩ ≤ s.size := by
    have := count_le s.data.toList
    rw [Array.length_toList] at this
    exact this
  have := Tryd.strings_ReplaceAll s ⟨#[0]⟩ ⟨#[0, 255]⟩ m w (by omega) hm (by decide) (by
    have e : (ByteArray.mk #[0, 255]).size = 2 := rfl
    rw [e]
    omega)
  refine this.mono fun e w' h => ⟨?_, h.2⟩
  rw [h.1]
  show Ending.returned (.string ⟨(Lib.replaceAll s.data.toList [0] [0, 255]).toArray⟩) = _
  rw [replaceAll_esc]
theorem allK_snoc {l : List V} {k : Nat} {v : V} (h : l[k]? = some v) : allK (l.take (k + 1)) = allK (l.take k) ++ oneK v := by
  obtain ⟨hk, rfl⟩ := List.getElem?_eq_some_iff.1 h
  rw [List.take_succ_eq_append_getElem hk]
  unfold allK
  rw [List.flatMap_append]
  simp
theorem all_snoc {p : V → Prop} {l : List V} {k : Nat} {v : V} (h : l[k]? = some v) (h1 : ∀ u ∈ l.take k, p u) (h2 : p v) : ∀ u ∈ l.take (k + 1), p u := by
  obtain ⟨hk, rfl⟩ := List.getElem?_eq_some_iff.1 h
  rw [List.take_succ_eq_append_getElem hk]
  intro u hu
  rcases List.mem_append.1 hu with hu | hu
  · exact h1 u hu
  · rw [List.mem_singleton.1 hu]; exact h2

/-- Two texts, one behind the other one. -/
theorem add_told (x y : ByteArray) (h : x.size + y.size ≤ 9223372036854775807) (S : ByteArray) (hS : S = x ++ y) (w : World) : (Op.stringOp .add x y).run Tryd.prog w = .ok (.string S) w := by
  subst hS
  exact run_string_add_sum (P := Tryd.prog) w x y h
theorem xor_top (a : Nat) (h : a < 9223372036854775808) : a ^^^ 9223372036854775808 = a + 9223372036854775808 := by
  have h1 := Nat.two_pow_add_eq_or_of_lt (i := 63) (b := a) (by simpa using h) 1
  have h2 : a ^^^ 2 ^ 63 = 2 ^ 63 ||| a := by
    apply Nat.eq_of_testBit_eq
    intro i
    rw [Nat.testBit_xor, Nat.testBit_or, Nat.testBit_two_pow]
    by_cases hi : 63 = i
    · subst hi
      have : a.testBit 63 = false := Nat.testBit_lt_two_pow (by simpa using h)
      simp [this]
    · simp [hi]
  rw [Nat.mul_one] at h1
  have : (9223372036854775808 : Nat) = 2 ^ 63 := by decide
  rw [this, h2, ← h1]
  omega
theorem xor_turn (n : Int) (h : -9223372036854775808 ≤ n ∧ n ≤ 9223372036854775807) : bits .xor .u64 (IntKind.u64.wrap n) 9223372036854775808 = (((n + 9223372036854775808).toNat : Nat) : Int) := by
  rw [IntKind.wrap_u64]
  obtain ⟨a, ha⟩ : ∃ a : Nat, n % 18446744073709551616 = (a : Int) := ⟨(n % 18446744073709551616).toNat, by omega⟩
  rw [ha, show (9223372036854775808 : Int) = ((9223372036854775808 : Nat) : Int) from rfl, bits_xor_u64_nat a _ (by omega) (by omega)]
  by_cases h0 : 0 ≤ n
  · rw [xor_top a (by omega)]; omega
  · obtain ⟨b, hb⟩ : ∃ b, b = a - 9223372036854775808 := ⟨_, rfl⟩
    have e : a = b ^^^ 9223372036854775808 := by rw [xor_top b (by omega)]; omega
    rw [e, Nat.xor_assoc, Nat.xor_self, Nat.xor_zero]
    omega
theorem turnK_lt {n : Int} (h : -9223372036854775808 ≤ n ∧ n ≤ 9223372036854775807) : ((turnK n : Nat) : Int) < 18446744073709551616 := by
  unfold turnK
  omega
theorem BuildB.lt {B b : Nat} {l : List UInt8} {w : World} (h : BuildB B b l w) : b < w.heap.size := by
  rcases h with ⟨_, v, hv, _⟩ | ⟨_, v, hv, _⟩ <;> exact (Array.getElem?_eq_some_iff.1 hv).1
set_option maxRecDepth 100000 in
set_option maxHeartbeats 8000000 in
theorem putW (rv : Value) (row : List V) (w : World) (hmax : MaxAt w) (hrow : VsAt w rv row) (hok : ∀ v ∈ row, v.ok) (hl : row.length ≤ 1000000) :
    Calls Tryd.prog 4 #[rv] w fun e w' => e = .returned (.tuple #[str (if errK row = 0 then allK row else []), .int .i64 (errK row : Int)]) ∧ Below w.heap.size w w' := by
  obtain ⟨ar, cr, rfl⟩ := hrow.shape
  have HMAX := Lib.hid hmax
  have HROW := Lib.hid hrow
  have HOK := Lib.hid hok
  have HL := Lib.hid hl
  have hb0 := buildB_new w.heap.size w (Nat.le_refl _)
  have HB0 := Lib.hid hb0
  have HBW := Lib.hid (show Below w.heap.size w (w.alloc (.cells #[.pointer none, .slice none 0 0] 39)) by go_grown)
  clear hmax hrow hok hl hb0
  obtain ⟨B, hB⟩ : ∃ B, B = w.heap.size := ⟨_, rfl⟩
  go_enter Tryd.func4, Tryd.ntmps4
  go_wp2_with fail
  generalize hW0 : w.alloc (.cells #[.pointer none, .slice none 0 0] 39) = w0 at *
  clear hW0
  go_loopg [10] row.length (fun gk i wr => ∃ k : Nat, i = .int .i64 (k : Int) ∧ gk = row.length - k ∧ k ≤ row.length ∧ Hid (Below w.heap.size w wr) ∧ Hid (BuildB w.heap.size w.heap.size (allK (row.take k)) wr) ∧ Hid (∀ u ∈ row.take k, checkV u = 0))
  case atStart => exact ⟨0, rfl, rfl, Nat.zero_le _, HBW, HB0, Lib.hid (fun u hu => by simp at hu)⟩
  case round =>
    obtain ⟨k, rfl, rfl, hkl, hbel, hbld, hall⟩ := hrel
    by_cases hlt : k < row.length
    · obtain ⟨v, hy⟩ : ∃ v, row[k]? = some v := ⟨row[k], by simp⟩
      have HVOK := Lib.hid (HOK.out v (List.mem_of_getElem? hy))
      obtain ⟨b, o, rfl, hbz, d0, d1, d2⟩ := at3 (HROW.out.below hbel.out) hy
      have HY := Lib.hid hy
      have ilt : (k : Int) < (row.length : Int) := by omega
      have HLT := Lib.hid hlt
      have HKK : Hid (wrap64 ((k : Int) + 1) = ((k + 1 : Nat) : Int)) := Lib.hid (by have := HL.out; unfold wrap64; omega)
      clear hy hlt
      go_wp2_with fail
      refine (check v _ HVOK.out.1 (by have := HVOK.out.2.2; omega)).mono ?_
      rintro e w2 ⟨rfl, hb2⟩
      have x0 := (cells_V wr w2 v 26 hb2).1
      have x1 := x0
      have x2 := x0
      have B2 := Lib.hid (next ((Below.refl _ wr).alloc (Nat.le_refl _) (.cells #[.int .u8 (v.k : Int), .int .i64 v.n, .string v.s] 26)) hb2)
      clear d0 d1 d2
      by_cases hc : checkV v = 0
      · have HC := Lib.hid hc
        rw [hc]
        have HBX := Lib.hid ((boxV_new v wr).later hb2)
        have BB2 := Lib.hid (next hbel.out B2.out)
        have HBL2 := Lib.hid (hbld.out.later B2.out)
        have HNE : Hid (wr.heap.size ≠ w.heap.size) := Lib.hid (by have := hbld.out.lt; omega)
        have HLEN : Hid ((allK (row.take k)).length ≤ 2003000000) := Lib.hid (by have := allK_len hall.out; have h2 := HL.out; rw [List.length_take] at this; omega)
        have HAL := Lib.hid (all_snoc HY.out hall.out hc)
        have hkd := kind_of hc
        obtain ⟨vk, vn, vs⟩ := v
        simp only at hkd x0 x1 x2
        clear hc hb2 B2 hbel hbld hall x0 x1 x2
        rcases hkd with ⟨rfl, rfl, rfl⟩ | ⟨rfl, rfl⟩ | ⟨rfl | rfl, rfl, hvs⟩
        · obtain ⟨x0, x1, x2⟩ := HBX.out.cells
          go_wp2_with fail
          have HOK1 : Hid (oneK (⟨0, 0, ByteArray.empty⟩ : V) = [1]) := Lib.hid (by rfl)
          refine (writeByte w.heap.size w.heap.size (allK (row.take k)) 1 w2 HBL2.out (by have := HLEN.out; omega) BB2.out.size).mono ?_
          rintro e w3 ⟨rfl, hbld3, hb3, hk3⟩
          have HX3 := Lib.hid (HBX.out.kept hk3 HNE.out)
          have BB3 := Lib.hid (BB2.out.trans hb3)
          have HBL3 := Lib.hid hbld3
          clear hbld3 hb3 hk3 HBL2 BB2 HBX
          obtain ⟨y0, y1, y2⟩ := HX3.out.cells
          go_wp2_with fail
          have HBN : Hid (BuildB w.heap.size w.heap.size (allK (row.take (k + 1))) w3) := Lib.hid (by rw [allK_snoc HY.out, HOK1.out]; exact HBL3.out)
          go_roundg (row.length - (k + 1))
          case measure => exact Nat.sub_lt_sub_left HLT.out (Nat.lt_succ_self _)
          case rel => exact ⟨k + 1, by first | rfl | exact congrArg (Value.int .i64) HKK.out, rfl, HLT.out, BB3, HBN, HAL⟩
        · obtain ⟨x0, x1, x2⟩ := HBX.out.cells
          have hx : bits .xor .u64 (IntKind.u64.wrap vn) 9223372036854775808 = ((turnK vn : Nat) : Int) := xor_turn vn HVOK.out.2.1
          go_wp2_with fail
          have HOK1 : Hid (oneK (⟨1, vn, ByteArray.empty⟩ : V) = 2 :: Num.be8 (turnK vn)) := Lib.hid (by rfl)
          refine (writeByte w.heap.size w.heap.size (allK (row.take k)) 2 w2 HBL2.out (by have := HLEN.out; omega) BB2.out.size).mono ?_
          rintro e w3 ⟨rfl, hbld3, hb3, hk3⟩
          have HX3 := Lib.hid (HBX.out.kept hk3 HNE.out)
          have BB3 := Lib.hid (BB2.out.trans hb3)
          have HBL3 := Lib.hid hbld3
          clear hbld3 hb3 hk3 HBL2 BB2 HBX
          obtain ⟨y0, y1, y2⟩ := HX3.out.cells
          go_wp2_with fail
          refine (Num.eight (turnK vn : Int) w3 (by omega) (turnK_lt HVOK.out.2.1)).mono ?_
          rintro e w4 ⟨rfl, hb4⟩
          have BB4 := Lib.hid (next BB3.out hb4)
          have HBL4 := Lib.hid (HBL3.out.later hb4)
          clear hb4 HBL3 BB3 y0 y1 y2 HX3
          go_wp2_with fail
          refine (writeString w.heap.size w.heap.size (allK (row.take k) ++ [2]) ⟨(Num.be8 (turnK vn)).toArray⟩ w4 HBL4.out (by have := HLEN.out; rw [str_size, Num.be8_length, List.length_append]; simp; omega) BB4.out.size).mono ?_
          rintro e w5 ⟨rfl, hbld5, hb5, _⟩
          have BB5 := Lib.hid (BB4.out.trans hb5)
          have HBN : Hid (BuildB w.heap.size w.heap.size (allK (row.take (k + 1))) w5) := Lib.hid (by rw [allK_snoc HY.out, HOK1.out]; simpa using hbld5)
          clear hbld5 hb5
          go_wp2_with fail
          go_roundg (row.length - (k + 1))
          case measure => exact Nat.sub_lt_sub_left HLT.out (Nat.lt_succ_self _)
          case rel => exact ⟨k + 1, by first | rfl | exact congrArg (Value.int .i64) HKK.out, rfl, HLT.out, BB5, HBN, HAL⟩
        · have HVS := Lib.hid hvs
          obtain ⟨x0, x1, x2⟩ := HBX.out.cells
          clear hvs
          obtain ⟨S, hS⟩ : ∃ S, S = (ByteArray.mk (esc vs.data.toList).toArray) ++ (ByteArray.mk #[0, 0]) := ⟨_, rfl⟩
          have hsz : (ByteArray.mk (esc vs.data.toList).toArray).size ≤ 2000 := by
            have h2 := HVS.out
            have h3 := (esc_len vs.data.toList).2
            have h4 : vs.data.toList.length = vs.size := Array.length_toList
            rw [str_size]
            omega
          have h5 : (ByteArray.mk #[0, 0]).size = 2 := rfl
          have hadd := add_told (ByteArray.mk (esc vs.data.toList).toArray) (ByteArray.mk #[0, 0]) (by omega) S hS
          have HSZ : Hid (S.size ≤ 2002) := Lib.hid (by rw [hS, ByteArray.size_append]; omega)
          have HSL : Hid (S.data.toList = esc vs.data.toList ++ [0, 0]) := Lib.hid (by rw [hS]; simp)
          clear hS hsz h5
          go_wp2_with fail
          have HOK1 : Hid (oneK (⟨2, 0, vs⟩ : V) = 3 :: (esc vs.data.toList ++ [0, 0])) := Lib.hid (by rfl)
          refine (writeByte w.heap.size w.heap.size (allK (row.take k)) 3 w2 HBL2.out (by have := HLEN.out; omega) BB2.out.size).mono ?_
          rintro e w3 ⟨rfl, hbld3, hb3, hk3⟩
          have HX3 := Lib.hid (HBX.out.kept hk3 HNE.out)
          have BB3 := Lib.hid (BB2.out.trans hb3)
          have HBL3 := Lib.hid hbld3
          clear hbld3 hb3 hk3 HBL2 BB2 HBX
          obtain ⟨y0, y1, y2⟩ := HX3.out.cells
          go_wp2_with fail
          refine (replaceW vs w3 (HMAX.out.later BB3.out) (by have := HVS.out; omega)).mono ?_
          rintro e w4 ⟨rfl, hb4⟩
          have BB4 := Lib.hid (next BB3.out hb4)
          have HBL4 := Lib.hid (HBL3.out.later hb4)
          clear hb4 HBL3 BB3 y0 y1 y2 HX3
          go_wp2_with fail
          refine (writeString w.heap.size w.heap.size (allK (row.take k) ++ [3]) S w4 HBL4.out (by have := HLEN.out; have h2 := HSZ.out; simp only [List.length_append, List.length_cons, List.length_nil]; omega) BB4.out.size).mono ?_
          rintro e w5 ⟨rfl, hbld5, hb5, _⟩
          have BB5 := Lib.hid (BB4.out.trans hb5)
          have HBN : Hid (BuildB w.heap.size w.heap.size (allK (row.take (k + 1))) w5) := Lib.hid (by rw [allK_snoc HY.out, HOK1.out]; have h := hbld5; rw [HSL.out] at h; simpa using h)
          clear hbld5 hb5
          go_wp2_with fail
          go_roundg (row.length - (k + 1))
          case measure => exact Nat.sub_lt_sub_left HLT.out (Nat.lt_succ_self _)
          case rel => exact ⟨k + 1, by first | rfl | exact congrArg (Value.int .i64) HKK.out, rfl, HLT.out, BB5, HBN, HAL⟩
        · have HVS := Lib.hid hvs
          obtain ⟨x0, x1, x2⟩ := HBX.out.cells
          clear hvs
          obtain ⟨S, hS⟩ : ∃ S, S = (ByteArray.mk (esc vs.data.toList).toArray) ++ (ByteArray.mk #[0, 0]) := ⟨_, rfl⟩
          have hsz : (ByteArray.mk (esc vs.data.toList).toArray).size ≤ 2000 := by
            have h2 := HVS.out
            have h3 := (esc_len vs.data.toList).2
            have h4 : vs.data.toList.length = vs.size := Array.length_toList
            rw [str_size]
            omega
          have h5 : (ByteArray.mk #[0, 0]).size = 2 := rfl
          have hadd := add_told (ByteArray.mk (esc vs.data.toList).toArray) (ByteArray.mk #[0, 0]) (by omega) S hS
          have HSZ : Hid (S.size ≤ 2002) := Lib.hid (by rw [hS, ByteArray.size_append]; omega)
          have HSL : Hid (S.data.toList = esc vs.data.toList ++ [0, 0]) := Lib.hid (by rw [hS]; simp)
          clear hS hsz h5
          go_wp2_with fail
          have HOK1 : Hid (oneK (⟨3, 0, vs⟩ : V) = 4 :: (esc vs.data.toList ++ [0, 0])) := Lib.hid (by rfl)
          refine (writeByte w.heap.size w.heap.size (allK (row.take k)) 4 w2 HBL2.out (by have := HLEN.out; omega) BB2.out.size).mono ?_
          rintro e w3 ⟨rfl, hbld3, hb3, hk3⟩
          have HX3 := Lib.hid (HBX.out.kept hk3 HNE.out)
          have BB3 := Lib.hid (BB2.out.trans hb3)
          have HBL3 := Lib.hid hbld3
          clear hbld3 hb3 hk3 HBL2 BB2 HBX
          obtain ⟨y0, y1, y2⟩ := HX3.out.cells
          go_wp2_with fail
          refine (replaceW vs w3 (HMAX.out.later BB3.out) (by have := HVS.out; omega)).mono ?_
          rintro e w4 ⟨rfl, hb4⟩
          have BB4 := Lib.hid (next BB3.out hb4)
          have HBL4 := Lib.hid (HBL3.out.later hb4)
          clear hb4 HBL3 BB3 y0 y1 y2 HX3
          go_wp2_with fail
          refine (writeString w.heap.size w.heap.size (allK (row.take k) ++ [4]) S w4 HBL4.out (by have := HLEN.out; have h2 := HSZ.out; simp only [List.length_append, List.length_cons, List.length_nil]; omega) BB4.out.size).mono ?_
          rintro e w5 ⟨rfl, hbld5, hb5, _⟩
          have BB5 := Lib.hid (BB4.out.trans hb5)
          have HBN : Hid (BuildB w.heap.size w.heap.size (allK (row.take (k + 1))) w5) := Lib.hid (by rw [allK_snoc HY.out, HOK1.out]; have h := hbld5; rw [HSL.out] at h; simpa using h)
          clear hbld5 hb5
          go_wp2_with fail
          go_roundg (row.length - (k + 1))
          case measure => exact Nat.sub_lt_sub_left HLT.out (Nat.lt_succ_self _)
          case rel => exact ⟨k + 1, by first | rfl | exact congrArg (Value.int .i64) HKK.out, rfl, HLT.out, BB5, HBN, HAL⟩
      · have hce : ((checkV v : Int) != 0) = true := by simp; omega
        have hres : errK row = checkV v := errK_take hall.out HY.out hc
        have hne : errK row ≠ 0 := by rw [hres]; exact hc
        have HRES := Lib.hid hres
        have HNE := Lib.hid hne
        clear hc hres hne
        clear hb2
        go_wp2_with fail
        refine bodyPost_ret (v := .tuple #[.string ⟨#[]⟩, .int .i64 (checkV v : Int)]) (by simp [results, Tryd.results4, go_sem]) rfl ⟨?_, next hbel.out B2.out⟩
        exact congrArg (fun q : Nat => Ending.returned (.tuple #[.string ⟨#[]⟩, .int .i64 (q : Int)])) HRES.out.symm
    · obtain rfl : k = row.length := by omega
      clear hlt
      have hb := hbld.out
      rw [List.take_length] at hb
      have ha : ∀ u ∈ row, checkV u = 0 := by have := hall.out; rwa [List.take_length] at this
      have HB := Lib.hid hb
      have HZ := Lib.hid (errK_zero.2 ha)
      clear hb ha
      go_wp2_with fail
      refine (builderString w.heap.size w.heap.size (allK row) wr HB.out hbel.out.size).mono ?_
      rintro e w2 ⟨rfl, hb2⟩
      have B2 := Lib.hid (hbel.out.trans hb2)
      clear hb2
      go_wp2_with fail
      refine bodyPost_ret (v := .tuple #[str (allK row), .int .i64 0]) (by simp [results, Tryd.results4, go_sem]) rfl ⟨?_, B2.out⟩
      first
        | rfl
        | exact absurd HZ.out (by assumption)
        | (rw [HZ.out, if_pos rfl]; rfl)
end Go.Proofs.YtcimipebpfajgaaDoor.Dt
