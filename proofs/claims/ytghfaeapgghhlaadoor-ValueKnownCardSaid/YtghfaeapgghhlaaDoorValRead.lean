/-
  The walks of value.integer, value.blob and value.Read.
-/
import Derived.Test.YtghfaeapgghhlaaDoorValText
import Derived.Test.YtghfaeapgghhlaaDoorHexI
namespace Go.Proofs.YtghfaeapgghhlaaDoor.Dt
open Go.RowKit Go.Proofs.YtghfaeapgghhlaaDoor.By

theorem str_beq (a b : ByteArray) : (a.toList == b.toList) = decide (a.data.toList = b.data.toList) := by
  rw [ByteArray.toList_eq, ByteArray.toList_eq, Bool.eq_iff_iff, beq_iff_eq, decide_eq_true_eq]

set_option maxRecDepth 100000 in
theorem integerW (s : ByteArray) (w : World) (hw : LW w) (hs : s.size ≤ 1000000) :
    Calls Tryd.prog 42 #[.string s] w fun e w' => (∃ (n : Int) (ok : Bool), e = .returned (.tuple #[.int .i64 n, .bool ok]) ∧ numS s.data.toList = if ok = true then some n else none) ∧ Below w.heap.size w w' := by
  have HW := Lib.hid hw
  have HS := Lib.hid hs
  clear hw hs
  go_enter Tryd.func42, Tryd.ntmps42
  go_wp2_with fail
  refine (parseW s w HW.out HS.out).mono ?_
  rintro e w1 ⟨⟨n, ev, ok, rfl, hnb, hy, hn⟩, hb1⟩
  have HB1 := Lib.hid hb1
  have HNB := Lib.hid hnb
  cases ok with
  | true =>
    obtain ⟨hp, rfl⟩ := hy rfl
    have HP := Lib.hid hp
    clear hy hn hnb hb1 hp
    by_cases he : Lib.itoa n = s.data.toList
    · have heq : ((⟨(Lib.itoa n).toArray⟩ : ByteArray).toList == s.toList) = true := by rw [str_beq]; simpa using he
      have HE := Lib.hid he
      clear he
      go_wp2_with fail
      refine (formatW n w1 (HW.out.later HB1.out) HNB.out.1 HNB.out.2).mono ?_
      rintro e w2 ⟨rfl, hb2⟩
      have HB2 := Lib.hid (next HB1.out hb2)
      clear hb2
      go_wp2_with fail
      refine bodyPost_ret (v := .tuple #[.int .i64 n, .bool true]) (by simp [results, Tryd.results42, go_sem]; exact HE.out.trans (ByteArray.toList_eq s).symm) rfl ⟨⟨n, true, rfl, ?_⟩, HB2.out⟩
      rw [if_pos rfl]
      exact (numS_iff _ _).2 ⟨HP.out, HE.out⟩
    · have heq : ((⟨(Lib.itoa n).toArray⟩ : ByteArray).toList == s.toList) = false := by rw [str_beq]; simpa using he
      have HE := Lib.hid he
      clear he
      go_wp2_with fail
      refine (formatW n w1 (HW.out.later HB1.out) HNB.out.1 HNB.out.2).mono ?_
      rintro e w2 ⟨rfl, hb2⟩
      have HB2 := Lib.hid (next HB1.out hb2)
      clear hb2
      go_wp2_with fail
      refine bodyPost_ret (v := .tuple #[.int .i64 n, .bool false]) (by simp [results, Tryd.results42, go_sem]; exact fun e => HE.out (e.trans (ByteArray.toList_eq s))) rfl ⟨⟨n, false, rfl, ?_⟩, HB2.out⟩
      rw [if_neg (by decide)]
      cases hq : numS s.data.toList with
      | none => rfl
      | some m =>
        obtain ⟨h1, h2⟩ := (numS_iff _ _).1 hq
        rw [HP.out] at h1
        injection h1 with h1
        subst h1
        exact absurd h2 HE.out
  | false =>
    obtain ⟨hp, t, p, rfl⟩ := hn rfl
    have HP := Lib.hid hp
    clear hy hn hnb hb1 hp
    go_wp2_with fail
    refine bodyPost_ret (v := .tuple #[.int .i64 n, .bool false]) (by simp [results, Tryd.results42, go_sem]) rfl ⟨⟨n, false, rfl, ?_⟩, HB1.out⟩
    rw [if_neg (by decide)]
    cases hq : numS s.data.toList with
    | none => rfl
    | some m => exact absurd ((numS_iff _ _).1 hq).1 (HP.out m)

/-- A digit's value, or -1. -/
theorem indexW (c : UInt8) (w : World) :
    Calls Tryd.prog 61 #[.string ⟨#[48, 49, 50, 51, 52, 53, 54, 55, 56, 57, 97, 98, 99, 100, 101, 102]⟩, .int .u8 (c.toNat : Int)] w fun e w' => e = .returned (.int .i64 (hexI c)) ∧ Below w.heap.size w w' := by
  refine (Tryd.strings_IndexByte _ _ w).mono fun e w' h => ?_
  obtain ⟨rfl, rfl⟩ := h
  refine ⟨?_, Below.refl _ _⟩
  have e1 : ((c.toNat : Int)).toNat.toUInt8 = c := by rw [Int.toNat_natCast]; exact UInt8.ofNat_toNat
  rw [e1]
  have := digit_at c
  congr 2
theorem drop_two (s : ByteArray) {k : Nat} (h : k + 1 < s.size) : s.data.toList.drop k = s[k] :: s[k + 1] :: s.data.toList.drop (k + 2) := by
  rw [List.drop_eq_getElem_cons (by rw [bytes_list]; omega), List.drop_eq_getElem_cons (by rw [bytes_list]; omega)]; rfl

set_option maxRecDepth 100000 in
set_option maxHeartbeats 8000000 in
theorem blobW (s : ByteArray) (w : World) (hs : s.size ≤ 1000000) :
    Calls Tryd.prog 40 #[.string s] w fun e w' => e = .returned (.tuple #[str ((unhex s.data.toList).getD []), .bool (unhex s.data.toList).isSome]) ∧ Below w.heap.size w w' := by
  have HS := Lib.hid hs
  obtain ⟨T, hT⟩ : ∃ T, T = unhex s.data.toList := ⟨_, rfl⟩
  rw [← hT]
  by_cases h2 : s.size % 2 = 0
  · have j2 : ((s.size : Int) % 2) = 0 := by omega
    have HT := Lib.hid hT
    have H2 := Lib.hid h2
    clear hT h2 hs
    go_enter Tryd.func40, Tryd.ntmps40
    go_wp2_with fail
    clear j2
    go_loopg [4, 5] s.size (fun gk ov iv wr => ∃ (k : Nat) (L : List UInt8), iv = .int .i64 (k : Int) ∧ gk = s.size - k ∧ k ≤ s.size ∧ Hid (T = (unhex (s.data.toList.drop k)).map (L ++ ·)) ∧ Hid (OwnB wr w.heap.size 5 ov L) ∧ Hid (Below w.heap.size w wr) ∧ Hid (L.length ≤ k) ∧ Hid (k % 2 = 0))
    case atStart => exact ⟨0, [], rfl, rfl, Nat.zero_le _, Lib.hid (by rw [HT.out]; simp), Lib.hid (OwnB.nil _ _ _), Lib.hid (Below.refl _ _), Lib.hid (Nat.zero_le _), Lib.hid rfl⟩
    case round =>
      obtain ⟨k, L, rfl, rfl, hk, HTK, HOWN, HBW, HLEN, HEV⟩ := hrel
      obtain ⟨ao, co, rfl⟩ := HOWN.out.shape
      by_cases hlt : k < s.size
      · have ilt : (k : Int) < (s.size : Int) := by omega
        have hlt2 : k + 1 < s.size := by have := HEV.out; have := H2.out; omega
        have hdr := drop_two s hlt2
        obtain ⟨j, hj⟩ : ∃ j, j = k + 1 := ⟨_, rfl⟩
        have jlt : j < s.size := by omega
        have ilt2 : (j : Int) < (s.size : Int) := by omega
        have hk1 : wrap64 ((k : Int) + 1) = (j : Int) := by have := HS.out; unfold wrap64; omega
        have HK2 : Hid (wrap64 ((k : Int) + 2) = ((k + 2 : Nat) : Int)) := Lib.hid (by have := HS.out; unfold wrap64; omega)
        obtain ⟨c, hc⟩ : ∃ c, s[k] = c := ⟨_, rfl⟩
        obtain ⟨d, hd⟩ : ∃ d, s[j] = d := ⟨_, rfl⟩
        have hcn : (s[k]).toNat = c.toNat := by rw [hc]
        have hdn : (s[j]).toNat = d.toNat := by rw [hd]
        have hd' : s[k + 1] = d := by subst hj; exact hd
        rw [hc, hd'] at hdr
        have HDR := Lib.hid hdr
        have HIC := Lib.hid (indexW c)
        have HID := Lib.hid (indexW d)
        have HLT2 := Lib.hid hlt2
        clear hc hd hdr hk hd' hlt2 hj
        go_upto_region 7 with fail
        refine wp_region_later (by kernel_rfl) (by kernel_rfl) ?_
        repeat (go_big_quiet_step ((go_at_call 61; first | exact lat_calls (HIC.out _) | exact lat_calls (HID.out _))))
        refine wpQuiet_nil ?_
        refine later_out (fun w2 hb2 => ?_)
        have HBW2 := Lib.hid (next HBW.out hb2)
        have HO2 := Lib.hid (HOWN.out.below hb2)
        clear hb2 HBW HOWN HIC HID hcn hdn
        cases hqc : hexV c with
        | none =>
          have HNX : Hid (T = none) := Lib.hid (by rw [HTK.out, HDR.out]; simp [unhex, hqc])
          rw [hexI_none hqc]
          clear hqc
          go_wp2_with fail
          refine bodyPost_ret (v := .tuple #[str [], .bool false]) (by simp [results, Tryd.results40, go_sem]) rfl ⟨by rw [HNX.out]; rfl, HBW2.out⟩
        | some a =>
          rw [hexI_some hqc]
          cases hqd : hexV d with
          | none =>
            have HNX : Hid (T = none) := Lib.hid (by rw [HTK.out, HDR.out]; simp [unhex, hqc, hqd])
            rw [hexI_none hqd]
            clear hqc hqd
            have hpos : ¬ (a : Int) < 0 := by omega
            go_wp2_with fail
            refine bodyPost_ret (v := .tuple #[str [], .bool false]) (by simp [results, Tryd.results40, go_sem]) rfl ⟨by rw [HNX.out]; rfl, HBW2.out⟩
          | some b =>
            rw [hexI_some hqd]
            have ha := (hexC_hexV hqc).2
            have hb := (hexC_hexV hqd).2
            have HNX : Hid (T = (unhex (s.data.toList.drop (k + 2))).map ((L ++ [UInt8.ofNat (16 * a + b)]) ++ ·)) := Lib.hid (by
              rw [HTK.out, HDR.out]
              simp only [unhex, hqc, hqd, Option.map_map]
              congr 1
              funext x
              simp)
            have hp1 : ¬ (a : Int) < 0 := by omega
            have hp2 : ¬ (b : Int) < 0 := by omega
            obtain ⟨x, hx⟩ : ∃ x : UInt8, x = UInt8.ofNat (16 * a + b) := ⟨_, rfl⟩
            have hxn : x.toNat = 16 * a + b := by rw [hx, UInt8.toNat_ofNat', Nat.mod_eq_of_lt (by omega)]
            have hor : bits BinOp.or IntKind.i64 ((a : Int) * 16) (b : Int) = (x.toNat : Int) := by rw [hxn]; exact or16 a b ha hb
            have hm : (x.toNat : Int) % 256 = (x.toNat : Int) := by omega
            have hw16 : wrap64 ((a : Int) * 16) = (a : Int) * 16 := by unfold wrap64; omega
            rw [← hx] at HNX
            clear hqc hqd ha hb hx hxn
            go_wp2_with (at_builtin; refine wpList_append_x rfl (.tmp 33) (.tmp 39) 55 rfl w.heap.size 5 Num.elem_u8 _ L rfl (.inl (HO2.out.alloc _)) _ [x] rfl (reads_cells w2.heap.size [x] (fun i hi => by rcases i with _ | i; (go_simp); (simp at hi))) (by simp) (by have := HLEN.out; have := HS.out; have := HLT2.out; simp; omega) (by have := HBW2.out.size; simp; omega) ?_; intro v' w9 hown hbel; have HBW9 := Lib.hid ((HBW2.out.alloc HBW2.out.size (.cells #[byte x] 5)).trans hbel); have HO9 := Lib.hid hown; clear hown hbel)
            go_roundg (s.size - (k + 2))
            case measure => have := HLT2.out; omega
            case rel => exact ⟨k + 2, _, by first | exact congrArg (Value.int .i64) HK2.out | (simp; exact HK2.out), rfl, HLT2.out, HNX, HO9, HBW9, Lib.hid (by have := HLEN.out; simp; omega), Lib.hid (by have := HEV.out; omega)⟩
      · have ilt : ¬ (k : Int) < (s.size : Int) := by omega
        have hres : T = some L := by rw [HTK.out, List.drop_eq_nil_of_le (by rw [bytes_list]; omega)]; simp [unhex]
        have HRES := Lib.hid hres
        have hcv2 := convX (P := Tryd.prog) 55 5 9 Tryd.underlying55 Tryd.underlying5 Tryd.underlying9 (.inl HOWN.out)
        clear hlt hk hres
        go_wp2_with fail
        refine bodyPost_ret (v := .tuple #[str L, .bool true]) (by simp [results, Tryd.results40, go_sem]) rfl ⟨by rw [HRES.out]; rfl, HBW.out⟩
  · have j2 : ¬ ((s.size : Int) % 2) = 0 := by omega
    have HT : Hid (T = none) := Lib.hid (by
      rw [hT]
      cases hu : unhex s.data.toList with
      | none => rfl
      | some t =>
        have := unhex_length hu
        rw [bytes_list] at this
        omega)
    clear hT h2 hs
    go_enter Tryd.func40, Tryd.ntmps40
    go_wp2_with fail
    refine bodyPost_ret (v := .tuple #[str [], .bool false]) (by simp [results, Tryd.results40, go_sem]) rfl ⟨by rw [HT.out]; rfl, Below.refl _ _⟩
end Go.Proofs.YtghfaeapgghhlaaDoor.Dt
