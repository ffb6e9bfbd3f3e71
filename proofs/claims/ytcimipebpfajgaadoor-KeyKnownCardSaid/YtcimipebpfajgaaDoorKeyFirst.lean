/-
  The walk of key.first: any bytes: the value whose key stands ahead.
-/
import Derived.Test.YtcimipebpfajgaaDoorKeySpec2
import Derived.Test.YtcimipebpfajgaaDoorKeyPut
import Derived.Test.YtcimipebpfajgaaDoorKNumE
import Derived.Deep.DeepCutAuto
namespace Go.Proofs.YtcimipebpfajgaaDoor.Dt
open Go.RowKit Go.Proofs.YtcimipebpfajgaaDoor.By

theorem first_none {o : Option (V × Nat)} (h : o = none) (v : V) (n : Int) : FirstIs o v n false := by subst h; rfl
theorem first_some {o : Option (V × Nat)} {v : V} {n : Nat} (h : o = some (v, n)) : FirstIs o v (n : Int) true := by subst h; exact ⟨rfl, rfl, rfl⟩
theorem wrap_turn (m : Nat) (h : m < 18446744073709551616) : wrap64 (bits .xor .u64 (m : Int) 9223372036854775808) = (m : Int) - 9223372036854775808 := by
  have := xor_turn (wrap64 (m : Int)) (by unfold wrap64; omega)
  have e : IntKind.u64.wrap (wrap64 (m : Int)) = (m : Int) := by rw [IntKind.wrap_u64]; unfold wrap64; omega
  rw [e] at this
  rw [this]
  unfold wrap64
  omega
theorem Box.below {k B : Nat} {cs : List Value} {w w' : World} (h : Box k cs w) (hb : Below B w w') (hk : k < B) : Box k cs w' := fun i u hu =>
  ⟨(hb.cell (p := ⟨k, i, none⟩) hk).trans (h i u hu).1, (hb.frozen (p := ⟨k, i, none⟩) hk).trans (h i u hu).2⟩
set_option maxRecDepth 100000 in
set_option maxHeartbeats 8000000 in
theorem firstW (s : ByteArray) (w : World) (hs : s.size ≤ 140737488355328) :
    Calls Tryd.prog 16 #[.string s] w fun e w' => (∃ v n ok, e = .returned (.tuple #[V.val v, .int .i64 n, .bool ok]) ∧ FirstIs (firstK s.data.toList) v n ok) ∧ Below w.heap.size w w' := by
  have HS := Lib.hid hs
  clear hs
  obtain ⟨l, hl⟩ : ∃ l, l = s.data.toList := ⟨_, rfl⟩
  rw [← hl]
  have hsl : s.size = l.length := by rw [hl, Array.length_toList]; rfl
  rcases l with _ | ⟨c, r⟩
  · have hE : s.toList.isEmpty = true := by rw [ByteArray.toList_eq, ← hl]; rfl
    clear hl hsl
    go_enter Tryd.func16, Tryd.ntmps16
    go_wp2_with fail
    refine bodyPost_ret (v := .tuple #[V.val nullV, .int .i64 0, .bool false]) (by simp [results, Tryd.results16, go_sem, nullV]; try rfl) rfl ⟨⟨nullV, 0, false, rfl, rfl⟩, ?_⟩
    go_grown
  have hE : s.toList.isEmpty = false := by rw [ByteArray.toList_eq, ← hl]; rfl
  have h0 : 0 < s.size := by rw [hsl]; simp
  have hc0 : s[0] = c := by
    have : s.data.toList[0]? = some c := by rw [← hl]; rfl
    rw [Array.getElem?_toList, Array.getElem?_eq_getElem h0] at this
    exact Option.some.inj this
  have HL := Lib.hid hl
  have HLL : Hid ((c :: r).length ≤ 140737488355328) := Lib.hid (by have := HS.out; omega)
  have HSL := Lib.hid hsl
  clear hl hsl
  by_cases c1 : c = 1
  · subst c1
    have hx : s[0].toNat = 1 := by rw [hc0]; rfl
    clear hc0
    go_enter Tryd.func16, Tryd.ntmps16
    go_wp2_with fail
    refine bodyPost_ret (v := .tuple #[V.val nullV, .int .i64 1, .bool true]) (by simp [results, Tryd.results16, go_sem, nullV]; try rfl) rfl ⟨⟨nullV, 1, true, rfl, first_some (n := 1) rfl⟩, ?_⟩
    go_grown
  by_cases c2 : c = 2
  · subst c2
    have hx : s[0].toNat = 2 := by rw [hc0]; rfl
    clear hc0 c1
    have hbr : ResBox w.heap.size ((w.alloc (.cells #[.int .u8 0, .int .i64 0, .string ⟨#[]⟩] 26)).alloc (.cells #[.int .u8 1, .int .i64 0, .string ⟨#[]⟩] 26)) := by constructor <;> go_simp
    have hbx : Box (w.heap.size + 1) [.int .u8 1, .int .i64 0, .string ⟨#[]⟩] ((w.alloc (.cells #[.int .u8 0, .int .i64 0, .string ⟨#[]⟩] 26)).alloc (.cells #[.int .u8 1, .int .i64 0, .string ⟨#[]⟩] 26)) := fun i u hu => by
      rcases i with _ | _ | _ | i <;> simp at hu <;> subst hu <;> exact ⟨by go_simp, by go_simp⟩
    have HBR := Lib.hid hbr
    have HBX := Lib.hid hbx
    have HBL := Lib.hid (show Below w.heap.size w ((w.alloc (.cells #[.int .u8 0, .int .i64 0, .string ⟨#[]⟩] 26)).alloc (.cells #[.int .u8 1, .int .i64 0, .string ⟨#[]⟩] 26)) by go_grown)
    have HZ : Hid ((((w.alloc (.cells #[.int .u8 0, .int .i64 0, .string ⟨#[]⟩] 26)).alloc (.cells #[.int .u8 1, .int .i64 0, .string ⟨#[]⟩] 26))).heap.size = w.heap.size + 2) := Lib.hid (by simp)
    clear hbr hbx
    have h1 : (1 : Int) ≤ (s.size : Int) := by omega
    have her : (s.extract 1 s.size).data.toList = r := by
      have : (s.extract 1 s.size).data.toList = s.data.toList.drop 1 := Lib.extract_to_end s 1
      rw [this, ← HL.out]; rfl
    have HER := Lib.hid her
    clear her
    go_enter Tryd.func16, Tryd.ntmps16
    go_wp2_with fail
    generalize hW0 : ((w.alloc (.cells #[.int .u8 0, .int .i64 0, .string ⟨#[]⟩] 26)).alloc (.cells #[.int .u8 1, .int .i64 0, .string ⟨#[]⟩] 26)) = w0 at *
    clear hW0
    by_cases h8 : 8 ≤ r.length
    · refine (Num.takeEight_ok (s.extract 1 s.size) w0 (by rw [HER.out]; exact h8)).mono ?_
      rintro e w1 ⟨rfl, hd⟩
      have hb1 : Below w0.heap.size w0 w1 := by obtain ⟨n, rfl⟩ := hd; exact drewN_below (Below.refl _ _) n
      obtain ⟨c0, c1, c2, f0, f1, f2⟩ := HBR.out.later hb1
      have hbx1 := HBX.out.later hb1
      obtain ⟨x0, g0⟩ := hbx1 0 _ rfl
      obtain ⟨x1, g1⟩ := hbx1 1 _ rfl
      obtain ⟨x2, g2⟩ := hbx1 2 _ rfl
      have HB1 := Lib.hid (next HBL.out hb1)
      rw [HER.out]
      have hw := wrap_turn (Num.val8 r) (Num.val8_lt r)
      have hz1 : w.heap.size + 1 < w1.heap.size := hbx1.lt
      clear hb1 hbx1 hd
      go_wp2_with fail
      have hbr1 : ResBox w.heap.size (w1.setCell ⟨w.heap.size + 1, 1, none⟩ (.int .i64 ((Num.val8 r : Int) - 9223372036854775808))) := ResBox.else ⟨c0, c1, c2, f0, f1, f2⟩ (by omega)
      obtain ⟨c0', c1', c2', -, -, -⟩ := hbr1
      obtain ⟨q0, q1, q2⟩ := filled3 (w1.setCell ⟨w.heap.size + 1, 1, none⟩ (.int .i64 ((Num.val8 r : Int) - 9223372036854775808))) w.heap.size _ _ _ (.int .u8 1) (.int .i64 ((Num.val8 r : Int) - 9223372036854775808)) (.string ⟨#[]⟩) c0' c1' c2'
      refine bodyPost_ret (v := .tuple #[V.val ⟨1, (Num.val8 r : Int) - 9223372036854775808, ByteArray.empty⟩, .int .i64 9, .bool true]) (by simp [results, Tryd.results16, go_sem, q0, q1, q2]; try rfl) rfl ⟨⟨⟨1, (Num.val8 r : Int) - 9223372036854775808, ByteArray.empty⟩, 9, true, rfl, first_some (n := 9) (by show firstC 2 r = _; unfold firstC; rw [if_neg (by decide), if_pos rfl, if_pos h8])⟩, ?_⟩
      exact below_set (below_set (below_set (below_set HB1.out (by omega)) (Nat.le_refl _)) (Nat.le_refl _)) (Nat.le_refl _)
    · refine (Num.takeEight_short (s.extract 1 s.size) w0 (by rw [HER.out]; omega)).mono ?_
      rintro e w1 ⟨rfl, hd⟩
      have hb1 : Below w0.heap.size w0 w1 := by obtain ⟨n, rfl⟩ := hd; exact drewN_below (Below.refl _ _) n
      obtain ⟨c0, c1, c2, f0, f1, f2⟩ := HBR.out.later hb1
      have hbx1 := HBX.out.later hb1
      obtain ⟨x0, g0⟩ := hbx1 0 _ rfl
      obtain ⟨x1, g1⟩ := hbx1 1 _ rfl
      obtain ⟨x2, g2⟩ := hbx1 2 _ rfl
      have HB1 := Lib.hid (next HBL.out hb1)
      have hw : wrap64 (bits .xor .u64 0 9223372036854775808) = -9223372036854775808 := by have := wrap_turn 0 (by omega); simpa using this
      have hz1 : w.heap.size + 1 < w1.heap.size := hbx1.lt
      clear hb1 hbx1 hd
      go_wp2_with fail
      have hbr1 : ResBox w.heap.size (w1.setCell ⟨w.heap.size + 1, 1, none⟩ (.int .i64 (-9223372036854775808))) := ResBox.else ⟨c0, c1, c2, f0, f1, f2⟩ (by omega)
      obtain ⟨c0', c1', c2', -, -, -⟩ := hbr1
      obtain ⟨q0, q1, q2⟩ := filled3 (w1.setCell ⟨w.heap.size + 1, 1, none⟩ (.int .i64 (-9223372036854775808))) w.heap.size _ _ _ (.int .u8 1) (.int .i64 (-9223372036854775808)) (.string ⟨#[]⟩) c0' c1' c2'
      refine bodyPost_ret (v := .tuple #[V.val ⟨1, -9223372036854775808, ByteArray.empty⟩, .int .i64 9, .bool false]) (by simp [results, Tryd.results16, go_sem, q0, q1, q2]; try rfl) rfl ⟨⟨⟨1, -9223372036854775808, ByteArray.empty⟩, 9, false, rfl, first_none (by show firstC 2 r = _; unfold firstC; rw [if_neg (by decide), if_pos rfl, if_neg h8]) _ _⟩, ?_⟩
      exact below_set (below_set (below_set (below_set HB1.out (by omega)) (Nat.le_refl _)) (Nat.le_refl _)) (Nat.le_refl _)
  by_cases c34 : c = 3 ∨ c = 4
  · rcases c34 with hc | hc
    · subst hc
      have hx : s[0].toNat = 3 := by rw [hc0]; rfl
      clear hc0 c1 c2
      have hbr : ResBox w.heap.size ((w.alloc (.cells #[.int .u8 0, .int .i64 0, .string ⟨#[]⟩] 26)).alloc (.cells #[.int .u8 2, .int .i64 0, .string ⟨#[]⟩] 26)) := by constructor <;> go_simp
      have hbx : Box (w.heap.size + 1) [.int .u8 2, .int .i64 0, .string ⟨#[]⟩] ((w.alloc (.cells #[.int .u8 0, .int .i64 0, .string ⟨#[]⟩] 26)).alloc (.cells #[.int .u8 2, .int .i64 0, .string ⟨#[]⟩] 26)) := fun i u hu => by
        rcases i with _ | _ | _ | i <;> simp at hu <;> subst hu <;> exact ⟨by go_simp, by go_simp⟩
      have HBR := Lib.hid hbr
      have HBX := Lib.hid hbx
      have HBL := Lib.hid (show Below w.heap.size w ((w.alloc (.cells #[.int .u8 0, .int .i64 0, .string ⟨#[]⟩] 26)).alloc (.cells #[.int .u8 2, .int .i64 0, .string ⟨#[]⟩] 26)) by go_grown)
      have HZ : Hid ((((w.alloc (.cells #[.int .u8 0, .int .i64 0, .string ⟨#[]⟩] 26)).alloc (.cells #[.int .u8 2, .int .i64 0, .string ⟨#[]⟩] 26))).heap.size = w.heap.size + 2) := Lib.hid (by simp)
      clear hbr hbx
      have hft : firstK (3 :: r) = textK 3 (unesc r) := by
        show firstC 3 r = _
        unfold firstC
        rw [if_neg (by decide), if_neg (by decide), if_pos (by decide)]
      have HFT := Lib.hid hft
      have HTS := Lib.hid (AtText.start (l := 3 :: r) (by simp))
      clear hft
      obtain ⟨l, hl⟩ : ∃ l, l = 3 :: r := ⟨_, rfl⟩
      have HR : Hid (r = l.drop 1) := Lib.hid (by rw [hl]; rfl)
      have HSL2 : Hid (s.size = l.length) := Lib.hid (by rw [hl]; exact HSL.out)
      rw [← hl] at HL HLL HFT HTS ⊢
      clear hl HSL
      go_enter Tryd.func16, Tryd.ntmps16
      go_wp2_with fail
      generalize hW0 : ((w.alloc (.cells #[.int .u8 0, .int .i64 0, .string ⟨#[]⟩] 26)).alloc (.cells #[.int .u8 2, .int .i64 0, .string ⟨#[]⟩] 26)) = w0 at *
      clear hW0 hx hE h0
      go_loopg [8, 9] (l.length - 1) (fun gk ov iv wr => ∃ (i : Nat) (L : List UInt8), iv = .int .i64 (i : Int) ∧ gk = l.length - i ∧ Hid (AtText l i L) ∧ Hid (OwnB wr (w.heap.size + 2) 5 ov L) ∧ Hid (Below (w.heap.size + 2) w0 wr))
      case atStart => exact ⟨1, [], rfl, rfl, HTS, Lib.hid (OwnB.nil _ _ _), Lib.hid (Below.refl _ _)⟩
      case round =>
        obtain ⟨i, L, rfl, rfl, HTX, HOWN, HBEL⟩ := hrel
        obtain ⟨ao, co, rfl⟩ := HOWN.out.shape
        have HBS : Hid (w.heap.size + 2 ≤ wr.heap.size) := Lib.hid (by have := HBEL.out.size; have := HZ.out; omega)
        have HBW := Lib.hid (HBL.out.trans (HBEL.out.mono (by omega)))
        have HRR := Lib.hid (HBR.out.below HBEL.out (by omega))
        have HXX := Lib.hid (HBX.out.below HBEL.out (by omega))
        have w1' : wrap64 ((i : Int) + 1) = (i : Int) + 1 := by have := HTX.out.2.1; have := HLL.out; unfold wrap64; omega
        by_cases hlt : i + 1 < l.length
        · obtain ⟨d, hd⟩ : ∃ d, l[i]? = some d := ⟨l[i]'(by omega), by simp⟩
          obtain ⟨d2, hd2⟩ : ∃ d, l[i + 1]? = some d := ⟨l[i + 1]'hlt, by simp⟩
          obtain ⟨hi, hsd⟩ := get_bytes s l HL.out i d hd
          obtain ⟨hi2, hsd2⟩ := get_bytes s l HL.out (i + 1) d2 hd2
          have HD := Lib.hid hd
          have HD2 := Lib.hid hd2
          have ilt : (i : Int) + 1 < (s.size : Int) := by omega
          have hii : (i : Int) < (s.size : Int) := by omega
          have HLT := Lib.hid hlt
          clear hd hd2 hlt
          by_cases h0 : d = 0
          · subst h0
            by_cases e0 : d2 = 0
            · subst e0
              have hun := HTX.out.done HD.out HD2.out
              have HUN : Hid (firstK l = if L.length ≤ 1000 then some (⟨2, 0, ⟨L.toArray⟩⟩, i + 2) else none) := Lib.hid (by rw [HFT.out, HR.out, hun]; rfl)
              have hcv := conv_own 37 5 9 Num.cv_u8 Num.ty_u8 Num.ty_str HOWN.out
              have w2' : wrap64 ((i : Int) + 2) = ((i + 2 : Nat) : Int) := by have := HTX.out.2.1; have := HLL.out; unfold wrap64; omega
              obtain ⟨c0, c1, c2, f0, f1, f2⟩ := HRR.out
              obtain ⟨x0, g0⟩ := HXX.out 0 _ rfl
              obtain ⟨x1, g1⟩ := HXX.out 1 _ rfl
              obtain ⟨x2, g2⟩ := HXX.out 2 _ rfl
              have hzx : w.heap.size + 1 < wr.heap.size := HXX.out.lt
              clear hun
              by_cases hL : L.length ≤ 1000
              · have HF := Lib.hid (HUN.out.trans (if_pos hL))
                have e3 : decide ((L.length : Int) ≤ 1000) = true := decide_eq_true (by omega)
                clear hL
                go_wp2_with fail
                have hrr : ResBox w.heap.size (wr.setCell ⟨w.heap.size + 1, 2, none⟩ (.string ⟨L.toArray⟩)) := ResBox.else HRR.out (by omega)
                obtain ⟨c0, c1, c2, -, -, -⟩ := hrr
                obtain ⟨q0, q1, q2⟩ := filled3 (wr.setCell ⟨w.heap.size + 1, 2, none⟩ (.string ⟨L.toArray⟩)) w.heap.size _ _ _ (.int .u8 2) (.int .i64 0) (.string ⟨L.toArray⟩) c0 c1 c2
                refine bodyPost_ret (v := .tuple #[V.val ⟨2, 0, ⟨L.toArray⟩⟩, .int .i64 ((i + 2 : Nat) : Int), .bool true]) (by simp [results, Tryd.results16, go_sem, q0, q1, q2]; try exact w2') rfl ⟨⟨⟨2, 0, ⟨L.toArray⟩⟩, ((i + 2 : Nat) : Int), by first | exact ⟨true, rfl, first_some (n := i + 2) HF.out⟩ | exact .inr ⟨rfl, first_some (n := i + 2) HF.out⟩⟩, ?_⟩
                exact below_set (below_set (below_set (below_set HBW.out (by omega)) (Nat.le_refl _)) (Nat.le_refl _)) (Nat.le_refl _)
              · have HF := Lib.hid (HUN.out.trans (if_neg hL))
                have e3 : decide ((L.length : Int) ≤ 1000) = false := decide_eq_false (by omega)
                clear hL
                go_wp2_with fail
                have hrr : ResBox w.heap.size (wr.setCell ⟨w.heap.size + 1, 2, none⟩ (.string ⟨L.toArray⟩)) := ResBox.else HRR.out (by omega)
                obtain ⟨c0, c1, c2, -, -, -⟩ := hrr
                obtain ⟨q0, q1, q2⟩ := filled3 (wr.setCell ⟨w.heap.size + 1, 2, none⟩ (.string ⟨L.toArray⟩)) w.heap.size _ _ _ (.int .u8 2) (.int .i64 0) (.string ⟨L.toArray⟩) c0 c1 c2
                refine bodyPost_ret (v := .tuple #[V.val ⟨2, 0, ⟨L.toArray⟩⟩, .int .i64 ((i + 2 : Nat) : Int), .bool false]) (by simp [results, Tryd.results16, go_sem, q0, q1, q2]; try exact w2') rfl ⟨⟨⟨2, 0, ⟨L.toArray⟩⟩, ((i + 2 : Nat) : Int), by first | exact ⟨false, rfl, first_none HF.out _ _⟩ | exact .inl ⟨rfl, first_none HF.out _ _⟩⟩, ?_⟩
                exact below_set (below_set (below_set (below_set HBW.out (by omega)) (Nat.le_refl _)) (Nat.le_refl _)) (Nat.le_refl _)
            · by_cases e1 : d2 = 255
              · subst e1
                have HT2 := Lib.hid (HTX.out.zero HD.out HD2.out)
                have hnn : wrap64 (wrap64 ((i : Int) + 1) + 1) = ((i + 2 : Nat) : Int) := by have := HTX.out.2.1; have := HLL.out; unfold wrap64; omega
                have hn2 : wrap64 ((i : Int) + 1 + 1) = ((i + 2 : Nat) : Int) := by have := HTX.out.2.1; have := HLL.out; unfold wrap64; omega
                have HNN := Lib.hid hn2
                clear e0 hnn hn2
                go_wp2_with (at_builtin; refine wpList_append_reads rfl (.tmp 82) (.tmp 83) 37 rfl (w.heap.size + 2) 5 1 1 Num.elem_u8 _ L.length (L.map byte) rfl (HOWN.out.alloc _) _ 1 [.int .u8 0] rfl (reads_of_owns (own_one wr (w.heap.size + 2) 5 _ HBS.out)) (fun u hu => by rw [List.mem_singleton.1 hu]; rfl) (by have := HTX.out.2.1; have := HTX.out.2.2.1; have := HLL.out; unfold maxLen; omega) (by have := HTX.out.2.1; have := HTX.out.2.2.1; have := HLL.out; omega) (by have := HBS.out; simp; omega) ?_; intro v' w2 hown2 hgrow2 hbel2; have HO2 := Lib.hid hown2; have HB2 := Lib.hid hbel2; clear hown2 hgrow2 hbel2)
                have HO3 : Hid (OwnB w2 (w.heap.size + 2) 5 v' (L ++ [0])) := Lib.hid (ownB_of HO2.out (by simp) (by simp [byte]))
                have HB3 := Lib.hid ((HBEL.out.alloc HBS.out _).trans HB2.out)
                clear HO2 HB2
                go_wp2_with fail
                go_roundg (l.length - (i + 2))
                case measure => exact Nat.sub_lt_sub_left (Nat.lt_of_succ_lt HLT.out) (Nat.lt_succ_of_lt (Nat.lt_succ_self _))
                case rel => exact ⟨i + 2, L ++ [0], by first | exact congrArg (Value.int .i64) HNN.out | (simp; exact HNN.out), rfl, HT2, HO3, HB3⟩
              · have hun := HTX.out.bad HD.out HD2.out e0 e1
                have HN : Hid (firstK l = none) := Lib.hid (by rw [HFT.out, HR.out, hun]; rfl)
                have n0 : ((d2.toNat : Int) == 0) = false := by
                  have : d2.toNat ≠ 0 := fun h => e0 (UInt8.toNat_inj.1 h)
                  simp; omega
                have n255 : ((d2.toNat : Int) == 255) = false := by
                  have : d2.toNat ≠ 255 := fun h => e1 (UInt8.toNat_inj.1 h)
                  simp; omega
                clear hun e0 e1
                obtain ⟨c0, c1, c2, f0, f1, f2⟩ := HRR.out
                go_wp2_with fail
                obtain ⟨q0, q1, q2⟩ := filled3 wr w.heap.size _ _ _ (.int .u8 0) (.int .i64 0) (.string ⟨#[]⟩) c0 c1 c2
                refine bodyPost_ret (v := .tuple #[V.val nullV, .int .i64 0, .bool false]) (by simp [results, Tryd.results16, go_sem, q0, q1, q2, nullV]; try rfl) rfl ⟨⟨nullV, 0, by first | exact ⟨false, rfl, first_none HN.out _ _⟩ | exact .inl ⟨rfl, first_none HN.out _ _⟩⟩, ?_⟩
                exact below_set (below_set (below_set HBW.out (Nat.le_refl _)) (Nat.le_refl _)) (Nat.le_refl _)
          · have hne : ((d.toNat : Int) != 0) = true := by
              have : d.toNat ≠ 0 := fun h => h0 (UInt8.toNat_inj.1 h)
              simp; omega
            have HT2 := Lib.hid (HTX.out.other HD.out h0)
            clear hsd2 hi2 h0
            go_wp2_with (at_builtin; refine wpList_append_reads rfl (.tmp 58) (.tmp 62) 37 rfl (w.heap.size + 2) 5 1 1 Num.elem_u8 _ L.length (L.map byte) rfl (HOWN.out.alloc _) _ 1 [.int .u8 (d.toNat : Int)] rfl (reads_of_owns (own_one wr (w.heap.size + 2) 5 _ HBS.out)) (fun u hu => by rw [List.mem_singleton.1 hu]; rfl) (by have := HTX.out.2.1; have := HTX.out.2.2.1; have := HLL.out; unfold maxLen; omega) (by have := HTX.out.2.1; have := HTX.out.2.2.1; have := HLL.out; omega) (by have := HBS.out; simp; omega) ?_; intro v' w2 hown2 hgrow2 hbel2; have HO2 := Lib.hid hown2; have HB2 := Lib.hid hbel2; clear hown2 hgrow2 hbel2)
            have HO3 : Hid (OwnB w2 (w.heap.size + 2) 5 v' (L ++ [d])) := Lib.hid (ownB_of HO2.out (by simp) (by simp [byte]))
            have HB3 := Lib.hid ((HBEL.out.alloc HBS.out _).trans HB2.out)
            clear HO2 HB2 hsd
            go_wp2_with fail
            go_roundg (l.length - (i + 1))
            case measure => exact Nat.sub_lt_sub_left (Nat.lt_of_succ_lt HLT.out) (Nat.lt_succ_self _)
            case rel => exact ⟨i + 1, L ++ [d], by first | exact congrArg (Value.int .i64) w1' | (simp; exact w1'), rfl, HT2, HO3, HB3⟩
        · have nlt : ¬ ((i : Int) + 1 < (s.size : Int)) := by have := HSL2.out; omega
          have hu := HTX.out.short (by omega)
          have HN : Hid (firstK l = none) := Lib.hid (by rw [HFT.out, HR.out, hu]; rfl)
          clear hlt hu
          obtain ⟨c0, c1, c2, f0, f1, f2⟩ := HRR.out
          go_wp2_with fail
          obtain ⟨q0, q1, q2⟩ := filled3 wr w.heap.size _ _ _ (.int .u8 0) (.int .i64 0) (.string ⟨#[]⟩) c0 c1 c2
          refine bodyPost_ret (v := .tuple #[V.val nullV, .int .i64 0, .bool false]) (by simp [results, Tryd.results16, go_sem, q0, q1, q2, nullV]; try rfl) rfl ⟨⟨nullV, 0, by first | exact ⟨false, rfl, first_none HN.out _ _⟩ | exact .inl ⟨rfl, first_none HN.out _ _⟩⟩, ?_⟩
          exact below_set (below_set (below_set HBW.out (Nat.le_refl _)) (Nat.le_refl _)) (Nat.le_refl _)
    · subst hc
      have hx : s[0].toNat = 4 := by rw [hc0]; rfl
      clear hc0 c1 c2
      have hbr : ResBox w.heap.size ((w.alloc (.cells #[.int .u8 0, .int .i64 0, .string ⟨#[]⟩] 26)).alloc (.cells #[.int .u8 3, .int .i64 0, .string ⟨#[]⟩] 26)) := by constructor <;> go_simp
      have hbx : Box (w.heap.size + 1) [.int .u8 3, .int .i64 0, .string ⟨#[]⟩] ((w.alloc (.cells #[.int .u8 0, .int .i64 0, .string ⟨#[]⟩] 26)).alloc (.cells #[.int .u8 3, .int .i64 0, .string ⟨#[]⟩] 26)) := fun i u hu => by
        rcases i with _ | _ | _ | i <;> simp at hu <;> subst hu <;> exact ⟨by go_simp, by go_simp⟩
      have HBR := Lib.hid hbr
      have HBX := Lib.hid hbx
      have HBL := Lib.hid (show Below w.heap.size w ((w.alloc (.cells #[.int .u8 0, .int .i64 0, .string ⟨#[]⟩] 26)).alloc (.cells #[.int .u8 3, .int .i64 0, .string ⟨#[]⟩] 26)) by go_grown)
      have HZ : Hid ((((w.alloc (.cells #[.int .u8 0, .int .i64 0, .string ⟨#[]⟩] 26)).alloc (.cells #[.int .u8 3, .int .i64 0, .string ⟨#[]⟩] 26))).heap.size = w.heap.size + 2) := Lib.hid (by simp)
      clear hbr hbx
      have hft : firstK (4 :: r) = textK 4 (unesc r) := by
        show firstC 4 r = _
        unfold firstC
        rw [if_neg (by decide), if_neg (by decide), if_pos (by decide)]
      have HFT := Lib.hid hft
      have HTS := Lib.hid (AtText.start (l := 4 :: r) (by simp))
      clear hft
      obtain ⟨l, hl⟩ : ∃ l, l = 4 :: r := ⟨_, rfl⟩
      have HR : Hid (r = l.drop 1) := Lib.hid (by rw [hl]; rfl)
      have HSL2 : Hid (s.size = l.length) := Lib.hid (by rw [hl]; exact HSL.out)
      rw [← hl] at HL HLL HFT HTS ⊢
      clear hl HSL
      go_enter Tryd.func16, Tryd.ntmps16
      go_wp2_with fail
      generalize hW0 : ((w.alloc (.cells #[.int .u8 0, .int .i64 0, .string ⟨#[]⟩] 26)).alloc (.cells #[.int .u8 3, .int .i64 0, .string ⟨#[]⟩] 26)) = w0 at *
      clear hW0 hx hE h0
      go_loopg [8, 9] (l.length - 1) (fun gk ov iv wr => ∃ (i : Nat) (L : List UInt8), iv = .int .i64 (i : Int) ∧ gk = l.length - i ∧ Hid (AtText l i L) ∧ Hid (OwnB wr (w.heap.size + 2) 5 ov L) ∧ Hid (Below (w.heap.size + 2) w0 wr))
      case atStart => exact ⟨1, [], rfl, rfl, HTS, Lib.hid (OwnB.nil _ _ _), Lib.hid (Below.refl _ _)⟩
      case round =>
        obtain ⟨i, L, rfl, rfl, HTX, HOWN, HBEL⟩ := hrel
        obtain ⟨ao, co, rfl⟩ := HOWN.out.shape
        have HBS : Hid (w.heap.size + 2 ≤ wr.heap.size) := Lib.hid (by have := HBEL.out.size; have := HZ.out; omega)
        have HBW := Lib.hid (HBL.out.trans (HBEL.out.mono (by omega)))
        have HRR := Lib.hid (HBR.out.below HBEL.out (by omega))
        have HXX := Lib.hid (HBX.out.below HBEL.out (by omega))
        have w1' : wrap64 ((i : Int) + 1) = (i : Int) + 1 := by have := HTX.out.2.1; have := HLL.out; unfold wrap64; omega
        by_cases hlt : i + 1 < l.length
        · obtain ⟨d, hd⟩ : ∃ d, l[i]? = some d := ⟨l[i]'(by omega), by simp⟩
          obtain ⟨d2, hd2⟩ : ∃ d, l[i + 1]? = some d := ⟨l[i + 1]'hlt, by simp⟩
          obtain ⟨hi, hsd⟩ := get_bytes s l HL.out i d hd
          obtain ⟨hi2, hsd2⟩ := get_bytes s l HL.out (i + 1) d2 hd2
          have HD := Lib.hid hd
          have HD2 := Lib.hid hd2
          have ilt : (i : Int) + 1 < (s.size : Int) := by omega
          have hii : (i : Int) < (s.size : Int) := by omega
          have HLT := Lib.hid hlt
          clear hd hd2 hlt
          by_cases h0 : d = 0
          · subst h0
            by_cases e0 : d2 = 0
            · subst e0
              have hun := HTX.out.done HD.out HD2.out
              have HUN : Hid (firstK l = if L.length ≤ 1000 then some (⟨3, 0, ⟨L.toArray⟩⟩, i + 2) else none) := Lib.hid (by rw [HFT.out, HR.out, hun]; rfl)
              have hcv := conv_own 37 5 9 Num.cv_u8 Num.ty_u8 Num.ty_str HOWN.out
              have w2' : wrap64 ((i : Int) + 2) = ((i + 2 : Nat) : Int) := by have := HTX.out.2.1; have := HLL.out; unfold wrap64; omega
              obtain ⟨c0, c1, c2, f0, f1, f2⟩ := HRR.out
              obtain ⟨x0, g0⟩ := HXX.out 0 _ rfl
              obtain ⟨x1, g1⟩ := HXX.out 1 _ rfl
              obtain ⟨x2, g2⟩ := HXX.out 2 _ rfl
              have hzx : w.heap.size + 1 < wr.heap.size := HXX.out.lt
              clear hun
              by_cases hL : L.length ≤ 1000
              · have HF := Lib.hid (HUN.out.trans (if_pos hL))
                have e3 : decide ((L.length : Int) ≤ 1000) = true := decide_eq_true (by omega)
                clear hL
                go_wp2_with fail
                have hrr : ResBox w.heap.size (wr.setCell ⟨w.heap.size + 1, 2, none⟩ (.string ⟨L.toArray⟩)) := ResBox.else HRR.out (by omega)
                obtain ⟨c0, c1, c2, -, -, -⟩ := hrr
                obtain ⟨q0, q1, q2⟩ := filled3 (wr.setCell ⟨w.heap.size + 1, 2, none⟩ (.string ⟨L.toArray⟩)) w.heap.size _ _ _ (.int .u8 3) (.int .i64 0) (.string ⟨L.toArray⟩) c0 c1 c2
                refine bodyPost_ret (v := .tuple #[V.val ⟨3, 0, ⟨L.toArray⟩⟩, .int .i64 ((i + 2 : Nat) : Int), .bool true]) (by simp [results, Tryd.results16, go_sem, q0, q1, q2]; try exact w2') rfl ⟨⟨⟨3, 0, ⟨L.toArray⟩⟩, ((i + 2 : Nat) : Int), by first | exact ⟨true, rfl, first_some (n := i + 2) HF.out⟩ | exact .inr ⟨rfl, first_some (n := i + 2) HF.out⟩⟩, ?_⟩
                exact below_set (below_set (below_set (below_set HBW.out (by omega)) (Nat.le_refl _)) (Nat.le_refl _)) (Nat.le_refl _)
              · have HF := Lib.hid (HUN.out.trans (if_neg hL))
                have e3 : decide ((L.length : Int) ≤ 1000) = false := decide_eq_false (by omega)
                clear hL
                go_wp2_with fail
                have hrr : ResBox w.heap.size (wr.setCell ⟨w.heap.size + 1, 2, none⟩ (.string ⟨L.toArray⟩)) := ResBox.else HRR.out (by omega)
                obtain ⟨c0, c1, c2, -, -, -⟩ := hrr
                obtain ⟨q0, q1, q2⟩ := filled3 (wr.setCell ⟨w.heap.size + 1, 2, none⟩ (.string ⟨L.toArray⟩)) w.heap.size _ _ _ (.int .u8 3) (.int .i64 0) (.string ⟨L.toArray⟩) c0 c1 c2
                refine bodyPost_ret (v := .tuple #[V.val ⟨3, 0, ⟨L.toArray⟩⟩, .int .i64 ((i + 2 : Nat) : Int), .bool false]) (by simp [results, Tryd.results16, go_sem, q0, q1, q2]; try exact w2') rfl ⟨⟨⟨3, 0, ⟨L.toArray⟩⟩, ((i + 2 : Nat) : Int), by first | exact ⟨false, rfl, first_none HF.out _ _⟩ | exact .inl ⟨rfl, first_none HF.out _ _⟩⟩, ?_⟩
                exact below_set (below_set (below_set (below_set HBW.out (by omega)) (Nat.le_refl _)) (Nat.le_refl _)) (Nat.le_refl _)
            · by_cases e1 : d2 = 255
              · subst e1
                have HT2 := Lib.hid (HTX.out.zero HD.out HD2.out)
                have hnn : wrap64 (wrap64 ((i : Int) + 1) + 1) = ((i + 2 : Nat) : Int) := by have := HTX.out.2.1; have := HLL.out; unfold wrap64; omega
                have hn2 : wrap64 ((i : Int) + 1 + 1) = ((i + 2 : Nat) : Int) := by have := HTX.out.2.1; have := HLL.out; unfold wrap64; omega
                have HNN := Lib.hid hn2
                clear e0 hnn hn2
                go_wp2_with (at_builtin; refine wpList_append_reads rfl (.tmp 82) (.tmp 83) 37 rfl (w.heap.size + 2) 5 1 1 Num.elem_u8 _ L.length (L.map byte) rfl (HOWN.out.alloc _) _ 1 [.int .u8 0] rfl (reads_of_owns (own_one wr (w.heap.size + 2) 5 _ HBS.out)) (fun u hu => by rw [List.mem_singleton.1 hu]; rfl) (by have := HTX.out.2.1; have := HTX.out.2.2.1; have := HLL.out; unfold maxLen; omega) (by have := HTX.out.2.1; have := HTX.out.2.2.1; have := HLL.out; omega) (by have := HBS.out; simp; omega) ?_; intro v' w2 hown2 hgrow2 hbel2; have HO2 := Lib.hid hown2; have HB2 := Lib.hid hbel2; clear hown2 hgrow2 hbel2)
                have HO3 : Hid (OwnB w2 (w.heap.size + 2) 5 v' (L ++ [0])) := Lib.hid (ownB_of HO2.out (by simp) (by simp [byte]))
                have HB3 := Lib.hid ((HBEL.out.alloc HBS.out _).trans HB2.out)
                clear HO2 HB2
                go_wp2_with fail
                go_roundg (l.length - (i + 2))
                case measure => exact Nat.sub_lt_sub_left (Nat.lt_of_succ_lt HLT.out) (Nat.lt_succ_of_lt (Nat.lt_succ_self _))
                case rel => exact ⟨i + 2, L ++ [0], by first | exact congrArg (Value.int .i64) HNN.out | (simp; exact HNN.out), rfl, HT2, HO3, HB3⟩
              · have hun := HTX.out.bad HD.out HD2.out e0 e1
                have HN : Hid (firstK l = none) := Lib.hid (by rw [HFT.out, HR.out, hun]; rfl)
                have n0 : ((d2.toNat : Int) == 0) = false := by
                  have : d2.toNat ≠ 0 := fun h => e0 (UInt8.toNat_inj.1 h)
                  simp; omega
                have n255 : ((d2.toNat : Int) == 255) = false := by
                  have : d2.toNat ≠ 255 := fun h => e1 (UInt8.toNat_inj.1 h)
                  simp; omega
                clear hun e0 e1
                obtain ⟨c0, c1, c2, f0, f1, f2⟩ := HRR.out
                go_wp2_with fail
                obtain ⟨q0, q1, q2⟩ := filled3 wr w.heap.size _ _ _ (.int .u8 0) (.int .i64 0) (.string ⟨#[]⟩) c0 c1 c2
                refine bodyPost_ret (v := .tuple #[V.val nullV, .int .i64 0, .bool false]) (by simp [results, Tryd.results16, go_sem, q0, q1, q2, nullV]; try rfl) rfl ⟨⟨nullV, 0, by first | exact ⟨false, rfl, first_none HN.out _ _⟩ | exact .inl ⟨rfl, first_none HN.out _ _⟩⟩, ?_⟩
                exact below_set (below_set (below_set HBW.out (Nat.le_refl _)) (Nat.le_refl _)) (Nat.le_refl _)
          · have hne : ((d.toNat : Int) != 0) = true := by
              have : d.toNat ≠ 0 := fun h => h0 (UInt8.toNat_inj.1 h)
              simp; omega
            have HT2 := Lib.hid (HTX.out.other HD.out h0)
            clear hsd2 hi2 h0
            go_wp2_with (at_builtin; refine wpList_append_reads rfl (.tmp 58) (.tmp 62) 37 rfl (w.heap.size + 2) 5 1 1 Num.elem_u8 _ L.length (L.map byte) rfl (HOWN.out.alloc _) _ 1 [.int .u8 (d.toNat : Int)] rfl (reads_of_owns (own_one wr (w.heap.size + 2) 5 _ HBS.out)) (fun u hu => by rw [List.mem_singleton.1 hu]; rfl) (by have := HTX.out.2.1; have := HTX.out.2.2.1; have := HLL.out; unfold maxLen; omega) (by have := HTX.out.2.1; have := HTX.out.2.2.1; have := HLL.out; omega) (by have := HBS.out; simp; omega) ?_; intro v' w2 hown2 hgrow2 hbel2; have HO2 := Lib.hid hown2; have HB2 := Lib.hid hbel2; clear hown2 hgrow2 hbel2)
            have HO3 : Hid (OwnB w2 (w.heap.size + 2) 5 v' (L ++ [d])) := Lib.hid (ownB_of HO2.out (by simp) (by simp [byte]))
            have HB3 := Lib.hid ((HBEL.out.alloc HBS.out _).trans HB2.out)
            clear HO2 HB2 hsd
            go_wp2_with fail
            go_roundg (l.length - (i + 1))
            case measure => exact Nat.sub_lt_sub_left (Nat.lt_of_succ_lt HLT.out) (Nat.lt_succ_self _)
            case rel => exact ⟨i + 1, L ++ [d], by first | exact congrArg (Value.int .i64) w1' | (simp; exact w1'), rfl, HT2, HO3, HB3⟩
        · have nlt : ¬ ((i : Int) + 1 < (s.size : Int)) := by have := HSL2.out; omega
          have hu := HTX.out.short (by omega)
          have HN : Hid (firstK l = none) := Lib.hid (by rw [HFT.out, HR.out, hu]; rfl)
          clear hlt hu
          obtain ⟨c0, c1, c2, f0, f1, f2⟩ := HRR.out
          go_wp2_with fail
          obtain ⟨q0, q1, q2⟩ := filled3 wr w.heap.size _ _ _ (.int .u8 0) (.int .i64 0) (.string ⟨#[]⟩) c0 c1 c2
          refine bodyPost_ret (v := .tuple #[V.val nullV, .int .i64 0, .bool false]) (by simp [results, Tryd.results16, go_sem, q0, q1, q2, nullV]; try rfl) rfl ⟨⟨nullV, 0, by first | exact ⟨false, rfl, first_none HN.out _ _⟩ | exact .inl ⟨rfl, first_none HN.out _ _⟩⟩, ?_⟩
          exact below_set (below_set (below_set HBW.out (Nat.le_refl _)) (Nat.le_refl _)) (Nat.le_refl _)
  · have hf : firstK (c :: r) = none := by
      show firstC c r = none
      unfold firstC
      rw [if_neg c1, if_neg c2, if_neg c34]
    have HF := Lib.hid hf
    have hne : c.toNat ≠ 1 ∧ c.toNat ≠ 2 ∧ c.toNat ≠ 3 ∧ c.toNat ≠ 4 := by
      refine ⟨fun h => c1 (UInt8.toNat_inj.1 h), fun h => c2 (UInt8.toNat_inj.1 h), fun h => c34 (.inl (UInt8.toNat_inj.1 h)), fun h => c34 (.inr (UInt8.toNat_inj.1 h))⟩
    clear hf c1 c2 c34
    by_cases hz : c.toNat < 1
    · have e1 : decide ((s[0].toNat : Int) < 1) = true := decide_eq_true (by rw [hc0]; omega)
      clear hc0 hne hz
      go_enter Tryd.func16, Tryd.ntmps16
      go_wp2_with fail
      refine bodyPost_ret (v := .tuple #[V.val nullV, .int .i64 0, .bool false]) (by simp [results, Tryd.results16, go_sem, nullV]; try rfl) rfl ⟨⟨nullV, 0, false, rfl, first_none HF.out _ _⟩, ?_⟩
      go_grown
    · have e1 : decide ((s[0].toNat : Int) < 1) = false := decide_eq_false (by rw [hc0]; omega)
      have e2 : decide ((4 : Int) < (s[0].toNat : Int)) = true := decide_eq_true (by rw [hc0]; omega)
      clear hc0 hne hz
      go_enter Tryd.func16, Tryd.ntmps16
      go_wp2_with fail
      refine bodyPost_ret (v := .tuple #[V.val nullV, .int .i64 0, .bool false]) (by simp [results, Tryd.results16, go_sem, nullV]; try rfl) rfl ⟨⟨nullV, 0, false, rfl, first_none HF.out _ _⟩, ?_⟩
      go_grown
end Go.Proofs.YtcimipebpfajgaaDoor.Dt
