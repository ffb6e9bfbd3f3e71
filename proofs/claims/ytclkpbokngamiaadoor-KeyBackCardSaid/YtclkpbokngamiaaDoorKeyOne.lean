/-
  The walks of the reference's key of a value, and of a row.
-/
import Derived.Test.YtclkpbokngamiaaDoorKeyWorks
import Derived.Test.YtclkpbokngamiaaDoorValueC
namespace Go.Proofs.YtclkpbokngamiaaDoor.Dt
open Go.RowKit Go.Proofs.YtclkpbokngamiaaDoor.By

theorem esc_append : ∀ a b : List UInt8, esc (a ++ b) = esc a ++ esc b
  | [], _ => rfl
  | c :: a, b => by
    have := esc_append a b
    rw [List.cons_append, esc, esc]
    split <;> simp [this]
theorem esc_take {l : List UInt8} {j : Nat} {c : UInt8} (h : l[j]? = some c) : esc (l.take (j + 1)) = esc (l.take j) ++ if c = 0 then [0, 255] else [c] := by
  obtain ⟨hj, rfl⟩ := List.getElem?_eq_some_iff.1 h
  rw [List.take_succ_eq_append_getElem hj, esc_append]
  rfl
theorem turn_sum (n : Int) (h : -9223372036854775808 ≤ n ∧ n ≤ 9223372036854775807) : IntKind.u64.wrap (IntKind.u64.wrap n + 9223372036854775808) = ((turnK n : Nat) : Int) := by
  rw [IntKind.wrap_u64, IntKind.wrap_u64]
  unfold turnK
  omega
set_option maxRecDepth 100000 in
set_option maxHeartbeats 8000000 in
theorem oneW (v : V) (w : World) (hc : checkV v = 0) (hv : v.ok) : Calls Tryd.prog 32 #[v.val] w fun e w' => e = .returned (str (oneK v)) ∧ Below w.heap.size w w' := by
  have HV := Lib.hid hv
  have hkd := kind_of hc
  obtain ⟨vk, vn, vs⟩ := v
  simp only at hkd
  clear hc hv
  rcases hkd with ⟨rfl, rfl, rfl⟩ | ⟨rfl, rfl⟩ | ⟨rfl | rfl, rfl, hvs⟩
  · go_enter Tryd.func32, Tryd.ntmps32
    go_wp2_with fail
    go_ret
    exact ⟨rfl, by go_grown⟩
  · have hx := turn_sum vn HV.out.2.1
    obtain ⟨S, hS⟩ : ∃ S, S = (ByteArray.mk #[2]) ++ (ByteArray.mk (Num.be 8 (turnK vn)).toArray) := ⟨_, rfl⟩
    have hadd := add_told (ByteArray.mk #[2]) (ByteArray.mk (Num.be 8 (turnK vn)).toArray) (by have h1 := str_size (Num.be 8 (turnK vn)); rw [Num.be_length] at h1; have e : (ByteArray.mk #[2]).size = 1 := rfl; rw [e, h1]; decide) S hS
    have HRES : Hid (Value.string S = str (oneK ⟨1, vn, ByteArray.empty⟩)) := Lib.hid (by
      have e : oneK ⟨1, vn, ByteArray.empty⟩ = 2 :: Num.be 8 (turnK vn) := by rw [Num.be_eight]; rfl
      rw [hS, e]
      exact congrArg Value.string (ByteArray.mk_append_mk [2] (Num.be 8 (turnK vn))))
    clear hS
    go_enter Tryd.func32, Tryd.ntmps32
    go_wp2_with fail
    refine (Num.fixed (turnK vn) 8 _ (by have h := turnK_lt (n := vn) HV.out.2.1; omega) (by omega)).mono ?_
    rintro e w1 ⟨rfl, hb1⟩
    have HB1 := Lib.hid (next (show Below w.heap.size w (w.alloc (.cells #[.int .u8 1, .int .i64 vn, .string ⟨#[]⟩] 39)) by go_grown) hb1)
    clear hb1 hx
    go_wp2_with fail
    go_ret
    exact ⟨congrArg Ending.returned HRES.out, HB1.out⟩
  · have HVS := Lib.hid hvs
    clear hvs
    obtain ⟨l, hl⟩ : ∃ l, l = vs.data.toList := ⟨_, rfl⟩
    have hll : l.length = vs.size := by rw [hl]; exact Array.length_toList
    have HL := Lib.hid hl
    have HLL := Lib.hid hll
    have HRES : Hid (oneK ⟨2, 0, vs⟩ = 3 :: (esc l ++ [0, 0])) := Lib.hid (by rw [hl]; rfl)
    clear hl hll
    have hbx : Box w.heap.size [.int .u8 2, .int .i64 0, .string vs] ((w.alloc (.cells #[.int .u8 2, .int .i64 0, .string vs] 39)).alloc (.cells #[.int .u8 3] 5)) := fun i u hu => by
      rcases i with _ | _ | _ | i <;> simp at hu <;> subst hu <;> exact ⟨by go_simp, by go_simp⟩
    have hown : OwnB ((w.alloc (.cells #[.int .u8 2, .int .i64 0, .string vs] 39)).alloc (.cells #[.int .u8 3] 5)) (w.heap.size + 1) 5 (.slice (some ⟨w.heap.size + 1, 0, none⟩) 1 1) [3] := by
      have := own_one (w.alloc (.cells #[.int .u8 2, .int .i64 0, .string vs] 39)) (w.heap.size + 1) 5 (.int .u8 3) (by simp)
      simpa [OwnB, byte] using this
    have HBX := Lib.hid hbx
    have HOW0 := Lib.hid hown
    have HBL := Lib.hid (show Below w.heap.size w ((w.alloc (.cells #[.int .u8 2, .int .i64 0, .string vs] 39)).alloc (.cells #[.int .u8 3] 5)) by go_grown)
    have HZ : Hid (((w.alloc (.cells #[.int .u8 2, .int .i64 0, .string vs] 39)).alloc (.cells #[.int .u8 3] 5)).heap.size = w.heap.size + 2) := Lib.hid (by simp)
    clear hbx hown
    go_enter Tryd.func32, Tryd.ntmps32
    go_wp2_with fail
    generalize hW0 : ((w.alloc (.cells #[.int .u8 2, .int .i64 0, .string vs] 39)).alloc (.cells #[.int .u8 3] 5)) = w0 at *
    clear hW0
    go_loopg [3, 4] l.length (fun gk ov iv wr => ∃ j : Nat, iv = .int .i64 (j : Int) ∧ gk = l.length - j ∧ j ≤ l.length ∧ Hid (OwnB wr (w.heap.size + 1) 5 ov (3 :: esc (l.take j))) ∧ Hid (Below (w.heap.size + 1) w0 wr))
    case atStart => exact ⟨0, rfl, rfl, Nat.zero_le _, Lib.hid (by simpa [esc] using HOW0.out), Lib.hid (Below.refl _ _)⟩
    case round =>
      obtain ⟨j, rfl, rfl, hjl, HOWN, HBEL⟩ := hrel
      obtain ⟨ao, co, rfl⟩ := HOWN.out.shape
      have HBS : Hid (w.heap.size + 1 ≤ wr.heap.size) := Lib.hid (by have := HBEL.out.size; have := HZ.out; omega)
      have HXX := Lib.hid (HBX.out.below HBEL.out (by omega))
      have HBW := Lib.hid (HBL.out.trans (HBEL.out.mono (by omega)))
      obtain ⟨x0, -⟩ := HXX.out 0 _ rfl
      obtain ⟨x1, -⟩ := HXX.out 1 _ rfl
      obtain ⟨x2, -⟩ := HXX.out 2 _ rfl
      have HLEN : Hid ((3 :: esc (l.take j)).length ≤ 2010) := Lib.hid (by have h1 := (esc_len (l.take j)).2; have h2 := HLL.out; have h3 := HVS.out; rw [List.length_take] at h1; rw [List.length_cons]; omega)
      by_cases hlt : j < l.length
      · obtain ⟨d, hd⟩ : ∃ d, l[j]? = some d := ⟨l[j], by simp⟩
        obtain ⟨hi, hsd⟩ := get_bytes vs l HL.out j d hd
        have hii : (j : Int) < (vs.size : Int) := by omega
        have HJJ : Hid (wrap64 ((j : Int) + 1) = ((j + 1 : Nat) : Int)) := Lib.hid (by have := HLL.out; have := HVS.out; unfold wrap64; omega)
        have HLT := Lib.hid hlt
        have HES := Lib.hid (esc_take hd)
        clear hlt hjl hd
        by_cases h0 : d = 0
        · subst h0
          have hq : (((0 : UInt8).toNat : Int) == 0) = true := rfl
          go_wp2_with (at_builtin; first | (refine wpList_append_reads rfl (.tmp 29) (.tmp 34) 47 rfl (w.heap.size + 1) 5 1 1 Num.elem_u8 _ (3 :: esc (l.take j)).length ((3 :: esc (l.take j)).map byte) rfl (HOWN.out.alloc _) _ 1 [.int .u8 0] rfl (reads_of_owns (own_one wr (w.heap.size + 1) 5 _ HBS.out)) (fun u hu => by rw [List.mem_singleton.1 hu]; rfl) (by have := HLEN.out; unfold maxLen; omega) (by have := HLEN.out; omega) (by have := HBS.out; simp; omega) ?_; intro v2 w2 hown2 hgrow2 hbel2; obtain ⟨L2, hL2⟩ : ∃ L2, L2 = 3 :: esc (l.take j) ++ [(0 : UInt8)] := ⟨_, rfl⟩; have hO3 : OwnB w2 (w.heap.size + 1) 5 v2 L2 := (by rw [hL2]; exact ownB_of hown2 (by simp) (by simp [byte])); have HLEN3 : Hid (L2.length ≤ 2011) := Lib.hid (by have := HLEN.out; rw [hL2, List.length_append]; simp only [List.length_cons, List.length_nil] at *; omega); have HL2 := Lib.hid hL2; have HB3 := Lib.hid ((HBEL.out.alloc HBS.out _).trans hbel2); have hx2 := HBX.out.below HB3.out (by omega); obtain ⟨y0, -⟩ := hx2 0 _ rfl; obtain ⟨y1, -⟩ := hx2 1 _ rfl; obtain ⟨y2, -⟩ := hx2 2 _ rfl; have HBS2 : Hid (w.heap.size + 1 ≤ w2.heap.size) := Lib.hid (by have := HB3.out.size; have := HZ.out; omega); obtain ⟨ao, co, rfl⟩ := hO3.shape; have HO3 := Lib.hid hO3; clear hO3 hL2 hx2 hown2 hgrow2 hbel2 x0 x1 x2) | (refine wpList_append_reads rfl (.tmp 41) (.tmp 42) 47 rfl (w.heap.size + 1) 5 1 1 Num.elem_u8 _ (L2).length ((L2).map byte) rfl (HO3.out.alloc _) _ 1 [.int .u8 255] rfl (reads_of_owns (own_one w2 (w.heap.size + 1) 5 _ HBS2.out)) (fun u hu => by rw [List.mem_singleton.1 hu]; rfl) (by have := HLEN3.out; unfold maxLen; omega) (by have := HLEN3.out; omega) (by have := HBS2.out; simp; omega) ?_; intro v4 w4 hown4 hgrow4 hbel4; have HO4 : Hid (OwnB w4 (w.heap.size + 1) 5 v4 (3 :: esc (l.take (j + 1)))) := Lib.hid (ownB_of hown4 (by rw [HES.out, HL2.out]; simp) (by rw [HES.out, HL2.out]; simp [byte])); have HB4 := Lib.hid ((HB3.out.alloc HBS2.out _).trans hbel4); clear hown4 hgrow4 hbel4))
          go_roundg (l.length - (j + 1))
          case measure => exact Nat.sub_lt_sub_left HLT.out (Nat.lt_succ_self _)
          case rel => exact ⟨j + 1, by first | exact congrArg (Value.int .i64) HJJ.out | (simp; exact HJJ.out), rfl, HLT.out, HO4, HB4⟩
        · have hne : ((d.toNat : Int) == 0) = false := by
            have : d.toNat ≠ 0 := fun h => h0 (UInt8.toNat_inj.1 h)
            simp; omega
          go_wp2_with (at_builtin; refine wpList_append_reads rfl (.tmp 29) (.tmp 34) 47 rfl (w.heap.size + 1) 5 1 1 Num.elem_u8 _ (3 :: esc (l.take j)).length ((3 :: esc (l.take j)).map byte) rfl (HOWN.out.alloc _) _ 1 [.int .u8 (d.toNat : Int)] rfl (reads_of_owns (own_one wr (w.heap.size + 1) 5 _ HBS.out)) (fun u hu => by rw [List.mem_singleton.1 hu]; rfl) (by have := HLEN.out; unfold maxLen; omega) (by have := HLEN.out; omega) (by have := HBS.out; simp; omega) ?_; intro v2 w2 hown2 hgrow2 hbel2; obtain ⟨L2, hL2⟩ : ∃ L2, L2 = 3 :: esc (l.take j) ++ [d] := ⟨_, rfl⟩; have hO3 : OwnB w2 (w.heap.size + 1) 5 v2 L2 := (by rw [hL2]; exact ownB_of hown2 (by simp) (by simp [byte])); have HLEN3 : Hid (L2.length ≤ 2011) := Lib.hid (by have := HLEN.out; rw [hL2, List.length_append]; simp only [List.length_cons, List.length_nil] at *; omega); have HL2 := Lib.hid hL2; have HB3 := Lib.hid ((HBEL.out.alloc HBS.out _).trans hbel2); have hx2 := HBX.out.below HB3.out (by omega); obtain ⟨y0, -⟩ := hx2 0 _ rfl; obtain ⟨y1, -⟩ := hx2 1 _ rfl; obtain ⟨y2, -⟩ := hx2 2 _ rfl; have HBS2 : Hid (w.heap.size + 1 ≤ w2.heap.size) := Lib.hid (by have := HB3.out.size; have := HZ.out; omega); obtain ⟨ao, co, rfl⟩ := hO3.shape; have HO3 := Lib.hid hO3; clear hO3 hL2 hx2 hown2 hgrow2 hbel2 x0 x1 x2)
          have HO4 : Hid (OwnB w2 (w.heap.size + 1) 5 (.slice ao L2.length co) (3 :: esc (l.take (j + 1)))) := Lib.hid (by have h := HO3.out; rw [HES.out, if_neg h0]; have e := HL2.out; rw [List.cons_append] at e; rw [← e]; exact h)
          clear h0
          go_roundg (l.length - (j + 1))
          case measure => exact Nat.sub_lt_sub_left HLT.out (Nat.lt_succ_self _)
          case rel => exact ⟨j + 1, by first | exact congrArg (Value.int .i64) HJJ.out | (simp; exact HJJ.out), rfl, HLT.out, HO4, HB3⟩
      · obtain rfl : j = l.length := by omega
        have nlt : ¬ ((l.length : Int) < (vs.size : Int)) := by have := HLL.out; omega
        have ht : l.take l.length = l := List.take_length
        have hown := HOWN.out
        rw [ht] at hown
        have HOWL := Lib.hid hown
        have HLEN2 := HLEN
        rw [ht] at HLEN2
        clear hlt hjl hown HLEN
        have HLEN := HLEN2
        rw [ht]
        clear HLEN2 ht
        go_wp2_with (at_builtin; refine wpList_append_reads rfl (.tmp 44) (.tmp 45) 47 rfl (w.heap.size + 1) 5 1 1 Num.elem_u8 _ (3 :: esc l).length ((3 :: esc l).map byte) rfl (HOWL.out.alloc _) _ 2 [.int .u8 0, .int .u8 0] rfl (reads_of_owns (World.ownsRow_lit (base := w.heap.size + 1) wr #[.int .u8 0, .int .u8 0] 2 HBS.out (by unfold maxLen; omega) rfl)) (by simp [Value.oneCell']) (by have := HLEN.out; unfold maxLen; omega) (by have := HLEN.out; omega) (by have := HBS.out; simp; omega) ?_; intro v' w2 hown2 hgrow2 hbel2; have hO3 : OwnB w2 (w.heap.size + 1) 5 v' (3 :: (esc l ++ [0, 0])) := (ownB_of hown2 (by simp) (by simp [byte])); have hcv := conv_own 47 5 9 Num.cv_u8 Num.ty_u8 Num.ty_str hO3; have HB3 := Lib.hid ((HBW.out.alloc HBW.out.size _).trans (hbel2.mono (by omega))); clear hO3 hown2 hgrow2 hbel2)
        go_ret
        exact ⟨by rw [HRES.out]; rfl, HB3.out⟩
  · have HVS := Lib.hid hvs
    clear hvs
    obtain ⟨l, hl⟩ : ∃ l, l = vs.data.toList := ⟨_, rfl⟩
    have hll : l.length = vs.size := by rw [hl]; exact Array.length_toList
    have HL := Lib.hid hl
    have HLL := Lib.hid hll
    have HRES : Hid (oneK ⟨3, 0, vs⟩ = 4 :: (esc l ++ [0, 0])) := Lib.hid (by rw [hl]; rfl)
    clear hl hll
    have hbx : Box w.heap.size [.int .u8 3, .int .i64 0, .string vs] ((w.alloc (.cells #[.int .u8 3, .int .i64 0, .string vs] 39)).alloc (.cells #[.int .u8 4] 5)) := fun i u hu => by
      rcases i with _ | _ | _ | i <;> simp at hu <;> subst hu <;> exact ⟨by go_simp, by go_simp⟩
    have hown : OwnB ((w.alloc (.cells #[.int .u8 3, .int .i64 0, .string vs] 39)).alloc (.cells #[.int .u8 4] 5)) (w.heap.size + 1) 5 (.slice (some ⟨w.heap.size + 1, 0, none⟩) 1 1) [4] := by
      have := own_one (w.alloc (.cells #[.int .u8 3, .int .i64 0, .string vs] 39)) (w.heap.size + 1) 5 (.int .u8 4) (by simp)
      simpa [OwnB, byte] using this
    have HBX := Lib.hid hbx
    have HOW0 := Lib.hid hown
    have HBL := Lib.hid (show Below w.heap.size w ((w.alloc (.cells #[.int .u8 3, .int .i64 0, .string vs] 39)).alloc (.cells #[.int .u8 4] 5)) by go_grown)
    have HZ : Hid (((w.alloc (.cells #[.int .u8 3, .int .i64 0, .string vs] 39)).alloc (.cells #[.int .u8 4] 5)).heap.size = w.heap.size + 2) := Lib.hid (by simp)
    clear hbx hown
    go_enter Tryd.func32, Tryd.ntmps32
    go_wp2_with fail
    generalize hW0 : ((w.alloc (.cells #[.int .u8 3, .int .i64 0, .string vs] 39)).alloc (.cells #[.int .u8 4] 5)) = w0 at *
    clear hW0
    go_loopg [3, 4] l.length (fun gk ov iv wr => ∃ j : Nat, iv = .int .i64 (j : Int) ∧ gk = l.length - j ∧ j ≤ l.length ∧ Hid (OwnB wr (w.heap.size + 1) 5 ov (4 :: esc (l.take j))) ∧ Hid (Below (w.heap.size + 1) w0 wr))
    case atStart => exact ⟨0, rfl, rfl, Nat.zero_le _, Lib.hid (by simpa [esc] using HOW0.out), Lib.hid (Below.refl _ _)⟩
    case round =>
      obtain ⟨j, rfl, rfl, hjl, HOWN, HBEL⟩ := hrel
      obtain ⟨ao, co, rfl⟩ := HOWN.out.shape
      have HBS : Hid (w.heap.size + 1 ≤ wr.heap.size) := Lib.hid (by have := HBEL.out.size; have := HZ.out; omega)
      have HXX := Lib.hid (HBX.out.below HBEL.out (by omega))
      have HBW := Lib.hid (HBL.out.trans (HBEL.out.mono (by omega)))
      obtain ⟨x0, -⟩ := HXX.out 0 _ rfl
      obtain ⟨x1, -⟩ := HXX.out 1 _ rfl
      obtain ⟨x2, -⟩ := HXX.out 2 _ rfl
      have HLEN : Hid ((4 :: esc (l.take j)).length ≤ 2010) := Lib.hid (by have h1 := (esc_len (l.take j)).2; have h2 := HLL.out; have h3 := HVS.out; rw [List.length_take] at h1; rw [List.length_cons]; omega)
      by_cases hlt : j < l.length
      · obtain ⟨d, hd⟩ : ∃ d, l[j]? = some d := ⟨l[j], by simp⟩
        obtain ⟨hi, hsd⟩ := get_bytes vs l HL.out j d hd
        have hii : (j : Int) < (vs.size : Int) := by omega
        have HJJ : Hid (wrap64 ((j : Int) + 1) = ((j + 1 : Nat) : Int)) := Lib.hid (by have := HLL.out; have := HVS.out; unfold wrap64; omega)
        have HLT := Lib.hid hlt
        have HES := Lib.hid (esc_take hd)
        clear hlt hjl hd
        by_cases h0 : d = 0
        · subst h0
          have hq : (((0 : UInt8).toNat : Int) == 0) = true := rfl
          go_wp2_with (at_builtin; first | (refine wpList_append_reads rfl (.tmp 29) (.tmp 34) 47 rfl (w.heap.size + 1) 5 1 1 Num.elem_u8 _ (4 :: esc (l.take j)).length ((4 :: esc (l.take j)).map byte) rfl (HOWN.out.alloc _) _ 1 [.int .u8 0] rfl (reads_of_owns (own_one wr (w.heap.size + 1) 5 _ HBS.out)) (fun u hu => by rw [List.mem_singleton.1 hu]; rfl) (by have := HLEN.out; unfold maxLen; omega) (by have := HLEN.out; omega) (by have := HBS.out; simp; omega) ?_; intro v2 w2 hown2 hgrow2 hbel2; obtain ⟨L2, hL2⟩ : ∃ L2, L2 = 4 :: esc (l.take j) ++ [(0 : UInt8)] := ⟨_, rfl⟩; have hO3 : OwnB w2 (w.heap.size + 1) 5 v2 L2 := (by rw [hL2]; exact ownB_of hown2 (by simp) (by simp [byte])); have HLEN3 : Hid (L2.length ≤ 2011) := Lib.hid (by have := HLEN.out; rw [hL2, List.length_append]; simp only [List.length_cons, List.length_nil] at *; omega); have HL2 := Lib.hid hL2; have HB3 := Lib.hid ((HBEL.out.alloc HBS.out _).trans hbel2); have hx2 := HBX.out.below HB3.out (by omega); obtain ⟨y0, -⟩ := hx2 0 _ rfl; obtain ⟨y1, -⟩ := hx2 1 _ rfl; obtain ⟨y2, -⟩ := hx2 2 _ rfl; have HBS2 : Hid (w.heap.size + 1 ≤ w2.heap.size) := Lib.hid (by have := HB3.out.size; have := HZ.out; omega); obtain ⟨ao, co, rfl⟩ := hO3.shape; have HO3 := Lib.hid hO3; clear hO3 hL2 hx2 hown2 hgrow2 hbel2 x0 x1 x2) | (refine wpList_append_reads rfl (.tmp 41) (.tmp 42) 47 rfl (w.heap.size + 1) 5 1 1 Num.elem_u8 _ (L2).length ((L2).map byte) rfl (HO3.out.alloc _) _ 1 [.int .u8 255] rfl (reads_of_owns (own_one w2 (w.heap.size + 1) 5 _ HBS2.out)) (fun u hu => by rw [List.mem_singleton.1 hu]; rfl) (by have := HLEN3.out; unfold maxLen; omega) (by have := HLEN3.out; omega) (by have := HBS2.out; simp; omega) ?_; intro v4 w4 hown4 hgrow4 hbel4; have HO4 : Hid (OwnB w4 (w.heap.size + 1) 5 v4 (4 :: esc (l.take (j + 1)))) := Lib.hid (ownB_of hown4 (by rw [HES.out, HL2.out]; simp) (by rw [HES.out, HL2.out]; simp [byte])); have HB4 := Lib.hid ((HB3.out.alloc HBS2.out _).trans hbel4); clear hown4 hgrow4 hbel4))
          go_roundg (l.length - (j + 1))
          case measure => exact Nat.sub_lt_sub_left HLT.out (Nat.lt_succ_self _)
          case rel => exact ⟨j + 1, by first | exact congrArg (Value.int .i64) HJJ.out | (simp; exact HJJ.out), rfl, HLT.out, HO4, HB4⟩
        · have hne : ((d.toNat : Int) == 0) = false := by
            have : d.toNat ≠ 0 := fun h => h0 (UInt8.toNat_inj.1 h)
            simp; omega
          go_wp2_with (at_builtin; refine wpList_append_reads rfl (.tmp 29) (.tmp 34) 47 rfl (w.heap.size + 1) 5 1 1 Num.elem_u8 _ (4 :: esc (l.take j)).length ((4 :: esc (l.take j)).map byte) rfl (HOWN.out.alloc _) _ 1 [.int .u8 (d.toNat : Int)] rfl (reads_of_owns (own_one wr (w.heap.size + 1) 5 _ HBS.out)) (fun u hu => by rw [List.mem_singleton.1 hu]; rfl) (by have := HLEN.out; unfold maxLen; omega) (by have := HLEN.out; omega) (by have := HBS.out; simp; omega) ?_; intro v2 w2 hown2 hgrow2 hbel2; obtain ⟨L2, hL2⟩ : ∃ L2, L2 = 4 :: esc (l.take j) ++ [d] := ⟨_, rfl⟩; have hO3 : OwnB w2 (w.heap.size + 1) 5 v2 L2 := (by rw [hL2]; exact ownB_of hown2 (by simp) (by simp [byte])); have HLEN3 : Hid (L2.length ≤ 2011) := Lib.hid (by have := HLEN.out; rw [hL2, List.length_append]; simp only [List.length_cons, List.length_nil] at *; omega); have HL2 := Lib.hid hL2; have HB3 := Lib.hid ((HBEL.out.alloc HBS.out _).trans hbel2); have hx2 := HBX.out.below HB3.out (by omega); obtain ⟨y0, -⟩ := hx2 0 _ rfl; obtain ⟨y1, -⟩ := hx2 1 _ rfl; obtain ⟨y2, -⟩ := hx2 2 _ rfl; have HBS2 : Hid (w.heap.size + 1 ≤ w2.heap.size) := Lib.hid (by have := HB3.out.size; have := HZ.out; omega); obtain ⟨ao, co, rfl⟩ := hO3.shape; have HO3 := Lib.hid hO3; clear hO3 hL2 hx2 hown2 hgrow2 hbel2 x0 x1 x2)
          have HO4 : Hid (OwnB w2 (w.heap.size + 1) 5 (.slice ao L2.length co) (4 :: esc (l.take (j + 1)))) := Lib.hid (by have h := HO3.out; rw [HES.out, if_neg h0]; have e := HL2.out; rw [List.cons_append] at e; rw [← e]; exact h)
          clear h0
          go_roundg (l.length - (j + 1))
          case measure => exact Nat.sub_lt_sub_left HLT.out (Nat.lt_succ_self _)
          case rel => exact ⟨j + 1, by first | exact congrArg (Value.int .i64) HJJ.out | (simp; exact HJJ.out), rfl, HLT.out, HO4, HB3⟩
      · obtain rfl : j = l.length := by omega
        have nlt : ¬ ((l.length : Int) < (vs.size : Int)) := by have := HLL.out; omega
        have ht : l.take l.length = l := List.take_length
        have hown := HOWN.out
        rw [ht] at hown
        have HOWL := Lib.hid hown
        have HLEN2 := HLEN
        rw [ht] at HLEN2
        clear hlt hjl hown HLEN
        have HLEN := HLEN2
        rw [ht]
        clear HLEN2 ht
        go_wp2_with (at_builtin; refine wpList_append_reads rfl (.tmp 44) (.tmp 45) 47 rfl (w.heap.size + 1) 5 1 1 Num.elem_u8 _ (4 :: esc l).length ((4 :: esc l).map byte) rfl (HOWL.out.alloc _) _ 2 [.int .u8 0, .int .u8 0] rfl (reads_of_owns (World.ownsRow_lit (base := w.heap.size + 1) wr #[.int .u8 0, .int .u8 0] 2 HBS.out (by unfold maxLen; omega) rfl)) (by simp [Value.oneCell']) (by have := HLEN.out; unfold maxLen; omega) (by have := HLEN.out; omega) (by have := HBS.out; simp; omega) ?_; intro v' w2 hown2 hgrow2 hbel2; have hO3 : OwnB w2 (w.heap.size + 1) 5 v' (4 :: (esc l ++ [0, 0])) := (ownB_of hown2 (by simp) (by simp [byte])); have hcv := conv_own 47 5 9 Num.cv_u8 Num.ty_u8 Num.ty_str hO3; have HB3 := Lib.hid ((HBW.out.alloc HBW.out.size _).trans (hbel2.mono (by omega))); clear hO3 hown2 hgrow2 hbel2)
        go_ret
        exact ⟨by rw [HRES.out]; rfl, HB3.out⟩

set_option maxRecDepth 100000 in
set_option maxHeartbeats 8000000 in
theorem refPutW (rv : Value) (row : List V) (w : World) (hrow : VsAt w rv row) (hok : ∀ v ∈ row, v.ok) (hl : row.length ≤ 1000000) :
    Calls Tryd.prog 13 #[rv] w fun e w' => e = .returned (.tuple #[str (if errK row = 0 then allK row else []), .int .i64 (errK row : Int)]) ∧ Below w.heap.size w w' := by
  obtain ⟨ar, cr, rfl⟩ := hrow.shape
  have hcap : row.length ≤ cr := by
    obtain ⟨a', c', e, hc, _⟩ := hrow
    simp only [Value.slice.injEq] at e
    obtain ⟨_, _, rfl⟩ := e
    exact hc
  have HROW := Lib.hid hrow
  have HOK := Lib.hid hok
  have HL := Lib.hid hl
  obtain ⟨R, hR⟩ : ∃ R, R = Value.tuple #[str (if errK row = 0 then allK row else []), .int .i64 (errK row : Int)] := ⟨_, rfl⟩
  rw [← hR]
  have HR := Lib.hid hR
  clear hrow hok hl hR
  go_enter Tryd.func13, Tryd.ntmps13
  go_wp2_with fail
  go_loopg [4, 5] row.length (fun gk sv iv wr => ∃ k : Nat, sv = str (allK (row.take k)) ∧ iv = .int .i64 (k : Int) ∧ gk = row.length - k ∧ k ≤ row.length ∧ Hid (Below w.heap.size w wr) ∧ Hid (∀ u ∈ row.take k, checkV u = 0))
  case atStart => exact ⟨0, rfl, rfl, rfl, Nat.zero_le _, Lib.hid (Below.refl _ _), Lib.hid (fun u hu => by simp at hu)⟩
  case round =>
    obtain ⟨k, rfl, rfl, rfl, hkl, HBEL, HALL⟩ := hrel
    by_cases hlt : k < row.length
    · obtain ⟨v, hy⟩ : ∃ v, row[k]? = some v := ⟨row[k], by simp⟩
      have HVOK := Lib.hid (HOK.out v (List.mem_of_getElem? hy))
      obtain ⟨b, o, rfl, hbz, d0, d1, d2⟩ := at3 (HROW.out.below HBEL.out) hy
      have HY := Lib.hid hy
      have ilt : (k : Int) < (row.length : Int) := by omega
      have HLT := Lib.hid hlt
      have HKK : Hid (wrap64 ((k : Int) + 1) = ((k + 1 : Nat) : Int)) := Lib.hid (by have := HL.out; unfold wrap64; omega)
      clear hy hlt
      go_wp2_with fail
      refine (refCheck v _).mono ?_
      rintro e w2 ⟨rfl, hb2⟩
      have B2 := Lib.hid (next HBEL.out hb2)
      clear hb2 d0 d1 d2
      by_cases hc : checkV v = 0
      · have HC := Lib.hid hc
        have HLEN : Hid ((allK (row.take k)).length ≤ 2003000000) := Lib.hid (by have := allK_len HALL.out; have h2 := HL.out; rw [List.length_take] at this; omega)
        have HAL := Lib.hid (all_snoc HY.out HALL.out hc)
        obtain ⟨b', o', he', hbz2, d0, d1, d2⟩ := at3 (HROW.out.below B2.out) HY.out
        cases he'
        obtain ⟨S, hS⟩ : ∃ S, S = (ByteArray.mk (allK (row.take k)).toArray) ++ (ByteArray.mk (oneK v).toArray) := ⟨_, rfl⟩
        have hadd := add_told (ByteArray.mk (allK (row.take k)).toArray) (ByteArray.mk (oneK v).toArray) (by have h1 := str_size (allK (row.take k)); have h2 := str_size (oneK v); have h3 := oneK_len hc; have h4 := HLEN.out; rw [h1, h2]; omega) S hS
        have HSR : Hid (Value.string S = str (allK (row.take (k + 1)))) := Lib.hid (by
          rw [hS, allK_snoc HY.out]
          exact congrArg Value.string (ByteArray.mk_append_mk _ _))
        have hce : ((checkV v : Int) != 0) = false := by rw [hc]; rfl
        clear hc hS
        go_wp2_with fail
        refine (oneW v _ HC.out HVOK.out).mono ?_
        rintro e w3 ⟨rfl, hb3⟩
        have B3 := Lib.hid (next B2.out hb3)
        clear hb3 d0 d1 d2
        go_wp2_with fail
        go_roundg (row.length - (k + 1))
        case measure => exact Nat.sub_lt_sub_left HLT.out (Nat.lt_succ_self _)
        case rel => exact ⟨k + 1, HSR.out, by first | exact congrArg (Value.int .i64) HKK.out | (simp; exact HKK.out), rfl, HLT.out, B3, HAL⟩
      · have hce : ((checkV v : Int) != 0) = true := by simp; omega
        have hres : errK row = checkV v := errK_take HALL.out HY.out hc
        have HRES : Hid (R = .tuple #[.string ⟨#[]⟩, .int .i64 (checkV v : Int)]) := Lib.hid (by rw [HR.out, hres, if_neg hc]; try rfl)
        clear hc hres
        go_wp2_with fail
        refine bodyPost_ret (v := .tuple #[.string ⟨#[]⟩, .int .i64 (checkV v : Int)]) (by simp [results, Tryd.results13, go_sem]) rfl ⟨by rw [HRES.out], B2.out⟩
    · obtain rfl : k = row.length := by omega
      have ha : ∀ u ∈ row, checkV u = 0 := by have := HALL.out; rwa [List.take_length] at this
      have HRES : Hid (R = .tuple #[str (allK row), .int .i64 0]) := Lib.hid (by rw [HR.out, errK_zero.2 ha, if_pos rfl]; try rfl)
      rw [List.take_length]
      clear ha hlt hkl
      go_wp2_with fail
      refine bodyPost_ret (v := .tuple #[str (allK row), .int .i64 0]) (by simp [results, Tryd.results13, go_sem]) rfl ⟨by rw [HRES.out], HBEL.out⟩
end Go.Proofs.YtclkpbokngamiaaDoor.Dt
