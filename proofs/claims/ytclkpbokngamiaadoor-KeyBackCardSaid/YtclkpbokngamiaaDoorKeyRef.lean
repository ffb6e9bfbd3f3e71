/-
  The walk of the reference's First. (Printed by gen/keyref.py.)
-/
import Derived.Test.YtclkpbokngamiaaDoorKeySpec6
import Derived.Test.YtclkpbokngamiaaDoorKeyFirst
import Derived.Test.YtclkpbokngamiaaDoorKNumR
import Derived.Test.YtclkpbokngamiaaDoorValueC
import Derived.Test.YtclkpbokngamiaaDoorLaterTail
import Derived.Deep.CutBlock
namespace Go.Proofs.YtclkpbokngamiaaDoor.Dt
open Go.RowKit Go.Proofs.YtclkpbokngamiaaDoor.By

theorem box_of {k : Nat} {v : V} {w : World} (h : Box k v.cells w) : (w.cell? ⟨k, 0, none⟩ = some (.int .u8 (v.k : Int)) ∧ w.cell? ⟨k, 1, none⟩ = some (.int .i64 v.n) ∧ w.cell? ⟨k, 2, none⟩ = some (.string v.s)) ∧ w.frozen? ⟨k, 0, none⟩ = false ∧ w.frozen? ⟨k, 1, none⟩ = false ∧ w.frozen? ⟨k, 2, none⟩ = false :=
  ⟨⟨(h 0 _ rfl).1, (h 1 _ rfl).1, (h 2 _ rfl).1⟩, (h 0 _ rfl).2, (h 1 _ rfl).2, (h 2 _ rfl).2⟩
/-- What the reference's First hands back. -/
def RefIs (l : List UInt8) (v : V) (n : Int) (ok : Bool) : Prop := (firstK l = some (v, n.toNat) ∧ 0 ≤ n ∧ ok = true) ∨ (firstK l = none ∧ n = 0 ∧ ok = false)
set_option maxRecDepth 100000 in
set_option maxHeartbeats 16000000 in
theorem refFirstW (s : ByteArray) (w : World) (hs : s.size ≤ 1000000) :
    Calls Tryd.prog 22 #[.string s] w fun e w' => (∃ v n ok, e = .returned (.tuple #[V.val v, .int .i64 n, .bool ok]) ∧ RefIs s.data.toList v n ok) ∧ Below w.heap.size w w' := by
  have HS := Lib.hid hs
  clear hs
  obtain ⟨l, hl⟩ : ∃ l, l = s.data.toList := ⟨_, rfl⟩
  rw [← hl]
  have hsl : s.size = l.length := by rw [hl, Array.length_toList]; rfl
  rcases l with _ | ⟨c, r⟩
  · have hz : (s.size : Int) = 0 := by rw [hsl]; rfl
    clear hl hsl
    go_enter Tryd.func22, Tryd.ntmps22
    go_wp2_with fail
    have hbr := resBox_new w 39
    generalize hW0 : w.alloc (.cells #[.int .u8 0, .int .i64 0, .string ⟨#[]⟩] 39) = w0 at *
    have HBL : Hid (Below w.heap.size w w0) := Lib.hid (by rw [← hW0]; exact (Below.refl _ _).alloc (Nat.le_refl _) _)
    clear hW0
    obtain ⟨c0, c1, c2, -, -, -⟩ := hbr
    refine bodyPost_ret (v := .tuple #[V.val nullV, .int .i64 0, .bool false]) (by simp [results, Tryd.results22, go_sem, c0, c1, c2, nullV]; try rfl) rfl ⟨⟨nullV, 0, false, rfl, .inr ⟨rfl, rfl, rfl⟩⟩, HBL.out⟩
  have hz : ¬ ((s.size : Int) = 0) := by rw [hsl]; simp only [List.length_cons]; omega
  have h0 : 0 < s.size := by rw [hsl]; simp
  have hx0 : s[0].toNat = c.toNat := by
    have : s.data.toList[0]? = some c := by rw [← hl]; rfl
    rw [Array.getElem?_toList, Array.getElem?_eq_getElem h0] at this
    exact congrArg UInt8.toNat (Option.some.inj this)
  have HL := Lib.hid hl
  have HSL := Lib.hid hsl
  clear hl hsl
  have hbr : ResBox w.heap.size ((w.alloc (.cells #[.int .u8 0, .int .i64 0, .string ⟨#[]⟩] 39)).alloc (.cells #[.int .u8 0, .int .i64 0, .string ⟨#[]⟩] 39)) := by constructor <;> go_simp
  have hbx : Box (w.heap.size + 1) nullV.cells ((w.alloc (.cells #[.int .u8 0, .int .i64 0, .string ⟨#[]⟩] 39)).alloc (.cells #[.int .u8 0, .int .i64 0, .string ⟨#[]⟩] 39)) := fun i u hu => by
    rcases i with _ | _ | _ | i <;> simp [V.cells, nullV] at hu <;> subst hu <;> exact ⟨by go_simp; try rfl, by go_simp⟩
  have HBR := Lib.hid hbr
  have HBX := Lib.hid hbx
  have HBL := Lib.hid (show Below w.heap.size w ((w.alloc (.cells #[.int .u8 0, .int .i64 0, .string ⟨#[]⟩] 39)).alloc (.cells #[.int .u8 0, .int .i64 0, .string ⟨#[]⟩] 39)) by go_grown)
  have HZ : Hid ((((w.alloc (.cells #[.int .u8 0, .int .i64 0, .string ⟨#[]⟩] 39)).alloc (.cells #[.int .u8 0, .int .i64 0, .string ⟨#[]⟩] 39))).heap.size = w.heap.size + 2) := Lib.hid (by simp)
  clear hbr hbx
  go_enter Tryd.func22, Tryd.ntmps22
  go_upto_block 0 with fail
  generalize hW0 : ((w.alloc (.cells #[.int .u8 0, .int .i64 0, .string ⟨#[]⟩] 39)).alloc (.cells #[.int .u8 0, .int .i64 0, .string ⟨#[]⟩] 39)) = w0 at *
  clear hW0
  go_cut [6] (fun nv wx => ∃ (v : V) (n : Nat), nv = .int .i64 (n : Int) ∧ Hid (Box (w.heap.size + 1) v.cells wx) ∧ Hid (ResBox w.heap.size wx) ∧ Hid (Below w.heap.size w wx) ∧ Hid (Cand (c :: r) v n) ∧ Hid (n ≤ 1000002))
  case first =>
    by_cases c1 : c = 1
    · subst c1
      have h1 : (1 : UInt8).toNat = 1 := rfl
      go_wp2_with fail
      go_meet
      exact ⟨nullV, 1, rfl, HBX, HBR, HBL, Lib.hid (cand_null r), Lib.hid (by omega)⟩
    by_cases c2 : c = 2
    · subst c2
      have h1 : (2 : UInt8).toNat = 2 := rfl
      by_cases h8 : r.length < 8
      · have hlt : (s.size : Int) < 9 := by have := HSL.out; simp only [List.length_cons] at this; omega
        have HNO := Lib.hid (cand_short h8)
        obtain ⟨a0, a1, a2, f0, f1, f2⟩ := HBR.out
        clear h8
        go_wp2_with fail
        obtain ⟨q0, q1, q2⟩ := filled3 w0 w.heap.size _ _ _ (.int .u8 0) (.int .i64 0) (.string ⟨#[]⟩) a0 a1 a2
        refine bodyPost_ret (v := .tuple #[V.val nullV, .int .i64 0, .bool false]) (by simp [results, Tryd.results22, go_sem, q0, q1, q2, nullV]; try rfl) rfl ⟨⟨nullV, 0, by first | exact ⟨false, rfl, .inr ⟨HNO.out, rfl, rfl⟩⟩ | exact .inl ⟨rfl, .inr ⟨HNO.out, rfl, rfl⟩⟩⟩, ?_⟩
        exact below_set (below_set (below_set HBL.out (Nat.le_refl _)) (Nat.le_refl _)) (Nat.le_refl _)
      · have hlt : ¬ (s.size : Int) < 9 := by have := HSL.out; simp only [List.length_cons] at this; omega
        have h9 : (9 : Int) ≤ (s.size : Int) := by omega
        have hex : (s.extract 1 9).data.toList = r.take 8 := by rw [Lib.extract_data, ← HL.out]; rfl
        have hes : (s.extract 1 9).size = 8 := by
          have h1 : (s.extract 1 9).data.toList.length = (s.extract 1 9).size := Array.length_toList
          rw [← h1, hex, List.length_take]; omega
        have hval : Num.val (s.extract 1 9).data.toList = Num.val8 r := by rw [hex]; exact Num.val_eight r (by omega)
        have hlv := Num.val8_lt r
        have HV := Lib.hid hval
        have HES := Lib.hid hes
        have hwr : IntKind.i64.wrap (IntKind.u64.wrap ((Num.val8 r : Int) + 9223372036854775808)) = (Num.val8 r : Int) - 9223372036854775808 := by rw [IntKind.wrap_u64, IntKind.wrap_i64]; omega
        have hwr2 : wrap64 (IntKind.u64.wrap ((Num.val8 r : Int) + 9223372036854775808)) = (Num.val8 r : Int) - 9223372036854775808 := by rw [IntKind.wrap_u64]; unfold wrap64; omega
        have hwr3 : wrap64 (((Num.val8 r : Int) + 9223372036854775808) % 18446744073709551616) = (Num.val8 r : Int) - 9223372036854775808 := by unfold wrap64; omega
        obtain ⟨⟨x0, x1, x2⟩, g0, g1, g2⟩ := box_of HBX.out
        clear h8 hex hes hval
        go_wp2_with fail
        refine (Num.value _ w0 (Nat.le_of_eq HES.out)).mono ?_
        rintro e w1 ⟨rfl, rfl⟩
        rw [HV.out]
        go_wp2_with fail
        go_meet
        exact ⟨⟨1, (Num.val8 r : Int) - 9223372036854775808, ByteArray.empty⟩, 9, rfl, Lib.hid (((HBX.out.set (i := 0) (u := .int .u8 1) (by decide)).set (i := 1) (u := .int .i64 ((Num.val8 r : Int) - 9223372036854775808)) (by simp [V.cells])).set (i := 2) (u := .string ⟨#[]⟩) (by simp [V.cells])), Lib.hid (ResBox.else (ResBox.else (ResBox.else HBR.out (by omega)) (by omega)) (by omega)), Lib.hid (below_set (below_set (below_set HBL.out (by omega)) (by omega)) (by omega)), Lib.hid (cand_number r), Lib.hid (by omega)⟩
    by_cases c34 : c = 3 ∨ c = 4
    · rcases c34 with hc | hc
      · subst hc
        have hcn : (3 : UInt8).toNat = 3 := rfl
        have HTS := Lib.hid (LooseAt.start (l := 3 :: r) (by simp))
        have HLL : Hid ((3 :: r).length ≤ 1000000) := Lib.hid (by rw [← HSL.out]; exact HS.out)
        obtain ⟨⟨x0, x1, x2⟩, g0, g1, g2⟩ := box_of HBX.out
        have hzx : w.heap.size + 1 < w0.heap.size := by have := HZ.out; omega
        have HXK := Lib.hid (HBX.out.set (i := 0) (u := .int .u8 2) (by decide))
        have HRK := Lib.hid (ResBox.else (j := w.heap.size + 1) (i := 0) (u := .int .u8 2) HBR.out (by omega))
        have HBK := Lib.hid (below_set (j := w.heap.size + 1) (i := 0) (u := .int .u8 2) HBL.out (by omega))
        have HZK : Hid ((w0.setCell ⟨w.heap.size + 1, 0, none⟩ (.int .u8 2)).heap.size = w.heap.size + 2) := Lib.hid (by simpa using HZ.out)
        obtain ⟨l, hl⟩ : ∃ l, l = 3 :: r := ⟨_, rfl⟩
        rw [← hl] at HL HLL HTS HSL
        have HLC := Lib.hid hl
        clear hl c1 c2 hzx
        go_wp2_with fail
        generalize hWK : w0.setCell ⟨w.heap.size + 1, 0, none⟩ (.int .u8 2) = wk at *
        have hz0 : ((s.size : Int) == 0) = false := by simpa using hz
        simp only [hz0, hcn, Int.cast_ofNat_Int]
        clear hWK hz hx0 hcn x0 x1 x2 g0 g1 g2
        go_loopg [6, 7] (l.length - 1) (fun gk iv ov wr => ∃ (i : Nat) (L : List UInt8), iv = .int .i64 (i : Int) ∧ gk = l.length - i ∧ Hid (LooseAt l i L) ∧ Hid (OwnB wr (w.heap.size + 2) 5 ov L) ∧ Hid (Below (w.heap.size + 2) wk wr))
        case atStart => exact ⟨1, [], rfl, rfl, HTS, Lib.hid (OwnB.nil _ _ _), Lib.hid (Below.refl _ _)⟩
        case round =>
          obtain ⟨i, L, rfl, rfl, HTX, HOWN, HBEL⟩ := hrel
          obtain ⟨ao, co, rfl⟩ := HOWN.out.shape
          have HBS : Hid (w.heap.size + 2 ≤ wr.heap.size) := Lib.hid (by have := HBEL.out.size; have := HZK.out; omega)
          have HBW := Lib.hid (HBK.out.trans (HBEL.out.mono (by omega)))
          have HRR := Lib.hid (HRK.out.below HBEL.out (by omega))
          have HXX := Lib.hid (HXK.out.below HBEL.out (by omega))
          have w1' : wrap64 ((i : Int) + 1) = (i : Int) + 1 := by have := HTX.out.2.1; have := HLL.out; unfold wrap64; omega
          have w2' : wrap64 ((i : Int) + 2) = ((i + 2 : Nat) : Int) := by have := HTX.out.2.1; have := HLL.out; unfold wrap64; omega
          have hcv := conv_own 47 5 9 Num.cv_u8 Num.ty_u8 Num.ty_str HOWN.out
          obtain ⟨⟨x0, x1, x2⟩, g0, g1, g2⟩ := box_of (v := ⟨2, 0, ByteArray.empty⟩) HXX.out
          by_cases hlt : i + 1 < l.length
          · obtain ⟨d, hd⟩ : ∃ d, l[i]? = some d := ⟨l[i]'(by omega), by simp⟩
            obtain ⟨d2, hd2⟩ : ∃ d, l[i + 1]? = some d := ⟨l[i + 1]'hlt, by simp⟩
            obtain ⟨hi, hsd⟩ := get_bytes s l HL.out i d hd
            obtain ⟨hi2, hsd2⟩ := get_bytes s l HL.out (i + 1) d2 hd2
            have HD := Lib.hid hd
            have HD2 := Lib.hid hd2
            have ilt : (i : Int) + 1 < (s.size : Int) := by omega
            have hii : (i : Int) < (s.size : Int) := by omega
            have HLT := Lib.hid hlt
            clear hd hd2 hlt
            by_cases h0 : d = 0
            · subst h0
              by_cases e0 : d2 = 0
              · subst e0
                have HCA := Lib.hid (show Cand l ⟨2, 0, ⟨L.toArray⟩⟩ (i + 2) by
                  have h1 := HTX.out
                  have h2 := HD.out
                  have h3 := HD2.out
                  have h4 := HLL.out
                  rw [HLC.out] at h1 h2 h3 h4 ⊢
                  exact LooseAt.done (.inl rfl) h1 (by have := h1.2.1; have := h1.2.2.1; omega) (.inr ⟨h2, h3⟩))
                go_wp2_with fail
                go_meet
                exact ⟨⟨2, 0, ⟨L.toArray⟩⟩, i + 2, by first | rfl | exact congrArg (Value.int .i64) w2', Lib.hid (HXX.out.set (i := 2) (u := .string ⟨L.toArray⟩) (by decide)), Lib.hid (ResBox.else HRR.out (by omega)), Lib.hid (below_set HBW.out (by omega)), Lib.hid (HLC.out ▸ HCA.out), Lib.hid (by have := HTX.out.2.1; have := HLL.out; omega)⟩
              · have n0 : ((d2.toNat : Int) == 0) = false := by
                  have : d2.toNat ≠ 0 := fun h => e0 (UInt8.toNat_inj.1 h)
                  simp; omega
                have HT2 := Lib.hid (HTX.out.zero HD.out HD2.out e0)
                have hnn : wrap64 (wrap64 ((i : Int) + 1) + 1) = ((i + 2 : Nat) : Int) := by have := HTX.out.2.1; have := HLL.out; unfold wrap64; omega
                have hn2 : wrap64 ((i : Int) + 1 + 1) = ((i + 2 : Nat) : Int) := by have := HTX.out.2.1; have := HLL.out; unfold wrap64; omega
                have HNN := Lib.hid hn2
                clear e0 hnn hn2 hcv w2'
                go_wp2_with (at_builtin; refine wpList_append_reads rfl (.tmp 56) (.tmp 60) 47 rfl (w.heap.size + 2) 5 1 1 Num.elem_u8 _ L.length (L.map byte) rfl (HOWN.out.alloc _) _ 1 [.int .u8 0] rfl (reads_of_owns (own_one wr (w.heap.size + 2) 5 _ HBS.out)) (fun u hu => by rw [List.mem_singleton.1 hu]; rfl) (by have := HTX.out.2.1; have := HTX.out.2.2.1; have := HLL.out; unfold maxLen; omega) (by have := HTX.out.2.1; have := HTX.out.2.2.1; have := HLL.out; omega) (by have := HBS.out; simp; omega) ?_; intro v' w2 hown2 hgrow2 hbel2; have HO2 := Lib.hid hown2; have HB2 := Lib.hid hbel2; clear hown2 hgrow2 hbel2)
                have HO3 : Hid (OwnB w2 (w.heap.size + 2) 5 v' (L ++ [0])) := Lib.hid (ownB_of HO2.out (by simp) (by simp [byte]))
                have HB3 := Lib.hid ((HBEL.out.alloc HBS.out _).trans HB2.out)
                clear HO2 HB2 x0 x1 x2 g0 g1 g2
                go_wp2_with fail
                go_roundg (l.length - (i + 2))
                case measure => exact Nat.sub_lt_sub_left (Nat.lt_of_succ_lt HLT.out) (Nat.lt_succ_of_lt (Nat.lt_succ_self _))
                case rel => exact ⟨i + 2, L ++ [0], by first | exact congrArg (Value.int .i64) HNN.out | (simp; exact HNN.out), rfl, HT2, HO3, HB3⟩
            · have hne : ((d.toNat : Int) == 0) = false := by
                have : d.toNat ≠ 0 := fun h => h0 (UInt8.toNat_inj.1 h)
                simp; omega
              have HT2 := Lib.hid (HTX.out.other HD.out h0)
              clear hsd2 hi2 h0 hcv w2'
              go_wp2_with (at_builtin; refine wpList_append_reads rfl (.tmp 56) (.tmp 60) 47 rfl (w.heap.size + 2) 5 1 1 Num.elem_u8 _ L.length (L.map byte) rfl (HOWN.out.alloc _) _ 1 [.int .u8 (d.toNat : Int)] rfl (reads_of_owns (own_one wr (w.heap.size + 2) 5 _ HBS.out)) (fun u hu => by rw [List.mem_singleton.1 hu]; rfl) (by have := HTX.out.2.1; have := HTX.out.2.2.1; have := HLL.out; unfold maxLen; omega) (by have := HTX.out.2.1; have := HTX.out.2.2.1; have := HLL.out; omega) (by have := HBS.out; simp; omega) ?_; intro v' w2 hown2 hgrow2 hbel2; have HO2 := Lib.hid hown2; have HB2 := Lib.hid hbel2; clear hown2 hgrow2 hbel2)
              have HO3 : Hid (OwnB w2 (w.heap.size + 2) 5 v' (L ++ [d])) := Lib.hid (ownB_of HO2.out (by simp) (by simp [byte]))
              have HB3 := Lib.hid ((HBEL.out.alloc HBS.out _).trans HB2.out)
              clear HO2 HB2 x0 x1 x2 g0 g1 g2
              go_wp2_with fail
              go_roundg (l.length - (i + 1))
              case measure => exact Nat.sub_lt_sub_left (Nat.lt_of_succ_lt HLT.out) (Nat.lt_succ_self _)
              case rel => exact ⟨i + 1, L ++ [d], by first | exact congrArg (Value.int .i64) w1' | (simp; done) | (simp; exact w1'), rfl, HT2, HO3, HB3⟩
          · have nlt : ¬ ((i : Int) + 1 < (s.size : Int)) := by have := HSL.out; omega
            have HCA := Lib.hid (show Cand l ⟨2, 0, ⟨L.toArray⟩⟩ (i + 2) by
              have h1 := HTX.out
              have h4 := HLL.out
              rw [HLC.out] at h1 h4 hlt ⊢
              exact LooseAt.done (.inl rfl) h1 (by have := h1.2.1; have := h1.2.2.1; omega) (.inl (by omega)))
            clear hlt
            go_wp2_with fail
            go_meet
            exact ⟨⟨2, 0, ⟨L.toArray⟩⟩, i + 2, by first | rfl | exact congrArg (Value.int .i64) w2', Lib.hid (HXX.out.set (i := 2) (u := .string ⟨L.toArray⟩) (by decide)), Lib.hid (ResBox.else HRR.out (by omega)), Lib.hid (below_set HBW.out (by omega)), Lib.hid (HLC.out ▸ HCA.out), Lib.hid (by have := HTX.out.2.1; have := HLL.out; omega)⟩
      · subst hc
        have hcn : (4 : UInt8).toNat = 4 := rfl
        have HTS := Lib.hid (LooseAt.start (l := 4 :: r) (by simp))
        have HLL : Hid ((4 :: r).length ≤ 1000000) := Lib.hid (by rw [← HSL.out]; exact HS.out)
        obtain ⟨⟨x0, x1, x2⟩, g0, g1, g2⟩ := box_of HBX.out
        have hzx : w.heap.size + 1 < w0.heap.size := by have := HZ.out; omega
        have HXK := Lib.hid (HBX.out.set (i := 0) (u := .int .u8 3) (by decide))
        have HRK := Lib.hid (ResBox.else (j := w.heap.size + 1) (i := 0) (u := .int .u8 3) HBR.out (by omega))
        have HBK := Lib.hid (below_set (j := w.heap.size + 1) (i := 0) (u := .int .u8 3) HBL.out (by omega))
        have HZK : Hid ((w0.setCell ⟨w.heap.size + 1, 0, none⟩ (.int .u8 3)).heap.size = w.heap.size + 2) := Lib.hid (by simpa using HZ.out)
        obtain ⟨l, hl⟩ : ∃ l, l = 4 :: r := ⟨_, rfl⟩
        rw [← hl] at HL HLL HTS HSL
        have HLC := Lib.hid hl
        clear hl c1 c2 hzx
        go_wp2_with fail
        generalize hWK : w0.setCell ⟨w.heap.size + 1, 0, none⟩ (.int .u8 3) = wk at *
        have hz0 : ((s.size : Int) == 0) = false := by simpa using hz
        simp only [hz0, hcn, Int.cast_ofNat_Int]
        clear hWK hz hx0 hcn x0 x1 x2 g0 g1 g2
        go_loopg [6, 7] (l.length - 1) (fun gk iv ov wr => ∃ (i : Nat) (L : List UInt8), iv = .int .i64 (i : Int) ∧ gk = l.length - i ∧ Hid (LooseAt l i L) ∧ Hid (OwnB wr (w.heap.size + 2) 5 ov L) ∧ Hid (Below (w.heap.size + 2) wk wr))
        case atStart => exact ⟨1, [], rfl, rfl, HTS, Lib.hid (OwnB.nil _ _ _), Lib.hid (Below.refl _ _)⟩
        case round =>
          obtain ⟨i, L, rfl, rfl, HTX, HOWN, HBEL⟩ := hrel
          obtain ⟨ao, co, rfl⟩ := HOWN.out.shape
          have HBS : Hid (w.heap.size + 2 ≤ wr.heap.size) := Lib.hid (by have := HBEL.out.size; have := HZK.out; omega)
          have HBW := Lib.hid (HBK.out.trans (HBEL.out.mono (by omega)))
          have HRR := Lib.hid (HRK.out.below HBEL.out (by omega))
          have HXX := Lib.hid (HXK.out.below HBEL.out (by omega))
          have w1' : wrap64 ((i : Int) + 1) = (i : Int) + 1 := by have := HTX.out.2.1; have := HLL.out; unfold wrap64; omega
          have w2' : wrap64 ((i : Int) + 2) = ((i + 2 : Nat) : Int) := by have := HTX.out.2.1; have := HLL.out; unfold wrap64; omega
          have hcv := conv_own 47 5 9 Num.cv_u8 Num.ty_u8 Num.ty_str HOWN.out
          obtain ⟨⟨x0, x1, x2⟩, g0, g1, g2⟩ := box_of (v := ⟨3, 0, ByteArray.empty⟩) HXX.out
          by_cases hlt : i + 1 < l.length
          · obtain ⟨d, hd⟩ : ∃ d, l[i]? = some d := ⟨l[i]'(by omega), by simp⟩
            obtain ⟨d2, hd2⟩ : ∃ d, l[i + 1]? = some d := ⟨l[i + 1]'hlt, by simp⟩
            obtain ⟨hi, hsd⟩ := get_bytes s l HL.out i d hd
            obtain ⟨hi2, hsd2⟩ := get_bytes s l HL.out (i + 1) d2 hd2
            have HD := Lib.hid hd
            have HD2 := Lib.hid hd2
            have ilt : (i : Int) + 1 < (s.size : Int) := by omega
            have hii : (i : Int) < (s.size : Int) := by omega
            have HLT := Lib.hid hlt
            clear hd hd2 hlt
            by_cases h0 : d = 0
            · subst h0
              by_cases e0 : d2 = 0
              · subst e0
                have HCA := Lib.hid (show Cand l ⟨3, 0, ⟨L.toArray⟩⟩ (i + 2) by
                  have h1 := HTX.out
                  have h2 := HD.out
                  have h3 := HD2.out
                  have h4 := HLL.out
                  rw [HLC.out] at h1 h2 h3 h4 ⊢
                  exact LooseAt.done (.inr rfl) h1 (by have := h1.2.1; have := h1.2.2.1; omega) (.inr ⟨h2, h3⟩))
                go_wp2_with fail
                go_meet
                exact ⟨⟨3, 0, ⟨L.toArray⟩⟩, i + 2, by first | rfl | exact congrArg (Value.int .i64) w2', Lib.hid (HXX.out.set (i := 2) (u := .string ⟨L.toArray⟩) (by decide)), Lib.hid (ResBox.else HRR.out (by omega)), Lib.hid (below_set HBW.out (by omega)), Lib.hid (HLC.out ▸ HCA.out), Lib.hid (by have := HTX.out.2.1; have := HLL.out; omega)⟩
              · have n0 : ((d2.toNat : Int) == 0) = false := by
                  have : d2.toNat ≠ 0 := fun h => e0 (UInt8.toNat_inj.1 h)
                  simp; omega
                have HT2 := Lib.hid (HTX.out.zero HD.out HD2.out e0)
                have hnn : wrap64 (wrap64 ((i : Int) + 1) + 1) = ((i + 2 : Nat) : Int) := by have := HTX.out.2.1; have := HLL.out; unfold wrap64; omega
                have hn2 : wrap64 ((i : Int) + 1 + 1) = ((i + 2 : Nat) : Int) := by have := HTX.out.2.1; have := HLL.out; unfold wrap64; omega
                have HNN := Lib.hid hn2
                clear e0 hnn hn2 hcv w2'
                go_wp2_with (at_builtin; refine wpList_append_reads rfl (.tmp 56) (.tmp 60) 47 rfl (w.heap.size + 2) 5 1 1 Num.elem_u8 _ L.length (L.map byte) rfl (HOWN.out.alloc _) _ 1 [.int .u8 0] rfl (reads_of_owns (own_one wr (w.heap.size + 2) 5 _ HBS.out)) (fun u hu => by rw [List.mem_singleton.1 hu]; rfl) (by have := HTX.out.2.1; have := HTX.out.2.2.1; have := HLL.out; unfold maxLen; omega) (by have := HTX.out.2.1; have := HTX.out.2.2.1; have := HLL.out; omega) (by have := HBS.out; simp; omega) ?_; intro v' w2 hown2 hgrow2 hbel2; have HO2 := Lib.hid hown2; have HB2 := Lib.hid hbel2; clear hown2 hgrow2 hbel2)
                have HO3 : Hid (OwnB w2 (w.heap.size + 2) 5 v' (L ++ [0])) := Lib.hid (ownB_of HO2.out (by simp) (by simp [byte]))
                have HB3 := Lib.hid ((HBEL.out.alloc HBS.out _).trans HB2.out)
                clear HO2 HB2 x0 x1 x2 g0 g1 g2
                go_wp2_with fail
                go_roundg (l.length - (i + 2))
                case measure => exact Nat.sub_lt_sub_left (Nat.lt_of_succ_lt HLT.out) (Nat.lt_succ_of_lt (Nat.lt_succ_self _))
                case rel => exact ⟨i + 2, L ++ [0], by first | exact congrArg (Value.int .i64) HNN.out | (simp; exact HNN.out), rfl, HT2, HO3, HB3⟩
            · have hne : ((d.toNat : Int) == 0) = false := by
                have : d.toNat ≠ 0 := fun h => h0 (UInt8.toNat_inj.1 h)
                simp; omega
              have HT2 := Lib.hid (HTX.out.other HD.out h0)
              clear hsd2 hi2 h0 hcv w2'
              go_wp2_with (at_builtin; refine wpList_append_reads rfl (.tmp 56) (.tmp 60) 47 rfl (w.heap.size + 2) 5 1 1 Num.elem_u8 _ L.length (L.map byte) rfl (HOWN.out.alloc _) _ 1 [.int .u8 (d.toNat : Int)] rfl (reads_of_owns (own_one wr (w.heap.size + 2) 5 _ HBS.out)) (fun u hu => by rw [List.mem_singleton.1 hu]; rfl) (by have := HTX.out.2.1; have := HTX.out.2.2.1; have := HLL.out; unfold maxLen; omega) (by have := HTX.out.2.1; have := HTX.out.2.2.1; have := HLL.out; omega) (by have := HBS.out; simp; omega) ?_; intro v' w2 hown2 hgrow2 hbel2; have HO2 := Lib.hid hown2; have HB2 := Lib.hid hbel2; clear hown2 hgrow2 hbel2)
              have HO3 : Hid (OwnB w2 (w.heap.size + 2) 5 v' (L ++ [d])) := Lib.hid (ownB_of HO2.out (by simp) (by simp [byte]))
              have HB3 := Lib.hid ((HBEL.out.alloc HBS.out _).trans HB2.out)
              clear HO2 HB2 x0 x1 x2 g0 g1 g2
              go_wp2_with fail
              go_roundg (l.length - (i + 1))
              case measure => exact Nat.sub_lt_sub_left (Nat.lt_of_succ_lt HLT.out) (Nat.lt_succ_self _)
              case rel => exact ⟨i + 1, L ++ [d], by first | exact congrArg (Value.int .i64) w1' | (simp; done) | (simp; exact w1'), rfl, HT2, HO3, HB3⟩
          · have nlt : ¬ ((i : Int) + 1 < (s.size : Int)) := by have := HSL.out; omega
            have HCA := Lib.hid (show Cand l ⟨3, 0, ⟨L.toArray⟩⟩ (i + 2) by
              have h1 := HTX.out
              have h4 := HLL.out
              rw [HLC.out] at h1 h4 hlt ⊢
              exact LooseAt.done (.inr rfl) h1 (by have := h1.2.1; have := h1.2.2.1; omega) (.inl (by omega)))
            clear hlt
            go_wp2_with fail
            go_meet
            exact ⟨⟨3, 0, ⟨L.toArray⟩⟩, i + 2, by first | rfl | exact congrArg (Value.int .i64) w2', Lib.hid (HXX.out.set (i := 2) (u := .string ⟨L.toArray⟩) (by decide)), Lib.hid (ResBox.else HRR.out (by omega)), Lib.hid (below_set HBW.out (by omega)), Lib.hid (HLC.out ▸ HCA.out), Lib.hid (by have := HTX.out.2.1; have := HLL.out; omega)⟩
    · have n1 : ((c.toNat : Int) == 1) = false := by
        have : c.toNat ≠ 1 := fun e => c1 (UInt8.toNat_inj.1 e)
        simp; omega
      have n2 : ((c.toNat : Int) == 2) = false := by
        have : c.toNat ≠ 2 := fun e => c2 (UInt8.toNat_inj.1 e)
        simp; omega
      have n3 : ((c.toNat : Int) == 3) = false := by
        have : c.toNat ≠ 3 := fun e => c34 (.inl (UInt8.toNat_inj.1 e))
        simp; omega
      have n4 : ((c.toNat : Int) == 4) = false := by
        have : c.toNat ≠ 4 := fun e => c34 (.inr (UInt8.toNat_inj.1 e))
        simp; omega
      have HNO := Lib.hid (cand_other (r := r) c1 c2 c34)
      obtain ⟨a0, a1, a2, f0, f1, f2⟩ := HBR.out
      clear c1 c2 c34
      go_wp2_with fail
      obtain ⟨q0, q1, q2⟩ := filled3 w0 w.heap.size _ _ _ (.int .u8 0) (.int .i64 0) (.string ⟨#[]⟩) a0 a1 a2
      refine bodyPost_ret (v := .tuple #[V.val nullV, .int .i64 0, .bool false]) (by simp [results, Tryd.results22, go_sem, q0, q1, q2, nullV]; try rfl) rfl ⟨⟨nullV, 0, by first | exact ⟨false, rfl, .inr ⟨HNO.out, rfl, rfl⟩⟩ | exact .inl ⟨rfl, .inr ⟨HNO.out, rfl, rfl⟩⟩⟩, ?_⟩
      exact below_set (below_set (below_set HBL.out (Nat.le_refl _)) (Nat.le_refl _)) (Nat.le_refl _)
  case rest =>
    obtain ⟨v, n, rfl, HXX, HRR, HBW, HCD, HN⟩ := hcut
    rename World => wx
    obtain ⟨⟨x0, x1, x2⟩, g0, g1, g2⟩ := box_of HXX.out
    obtain ⟨c0, c1, c2, f0, f1, f2⟩ := HRR.out
    clear hz hx0
    go_upto_region 24 with fail
    by_cases hgt : (s.size : Int) < (n : Int)
    · have HNO := Lib.hid (cand_no HCD.out (fun h => by have h1 := h.1; have h2 := HSL.out; omega))
      have l0 := lat_cell c0
      have l1 := lat_cell c1
      have l2 := lat_cell c2
      refine wp_region_later (by kernel_rfl) (by kernel_rfl) ?_
      repeat (go_big_quiet_step (fail))
      refine wpQuiet_nil ?_
      refine later_out (fun w2 hb2 => ?_)
      have hrr := HRR.out.later hb2
      have HB2 := Lib.hid (next HBW.out hb2)
      clear hb2 l0 l1 l2 x0 x1 x2 g0 g1 g2 c0 c1 c2 f0 f1 f2
      obtain ⟨c0, c1, c2, f0, f1, f2⟩ := hrr
      go_wp2_with fail
      obtain ⟨q0, q1, q2⟩ := filled3 w2 w.heap.size _ _ _ (.int .u8 0) (.int .i64 0) (.string ⟨#[]⟩) c0 c1 c2
      refine bodyPost_ret (v := .tuple #[V.val nullV, .int .i64 0, .bool false]) (by simp [results, Tryd.results22, go_sem, q0, q1, q2, nullV]; try rfl) rfl ⟨⟨nullV, 0, by first | exact ⟨false, rfl, .inr ⟨HNO.out, rfl, rfl⟩⟩ | exact .inl ⟨rfl, .inr ⟨HNO.out, rfl, rfl⟩⟩⟩, ?_⟩
      exact below_set (below_set (below_set HB2.out (Nat.le_refl _)) (Nat.le_refl _)) (Nat.le_refl _)
    have hle : (n : Int) ≤ (s.size : Int) := by omega
    have HCH : Hid (∀ W, Calls Tryd.prog 31 #[v.val] W fun e w' => e = .returned (.int .i64 (checkV v : Int)) ∧ Below W.heap.size W w') := Lib.hid (fun W => refCheck v W)
    have l0 := lat_cell x0
    have l1 := lat_cell x1
    have l2 := lat_cell x2
    by_cases hc : checkV v = 0
    · have HON : Hid (∀ W, Calls Tryd.prog 32 #[v.val] W fun e w' => e = .returned (str (oneK v)) ∧ Below W.heap.size W w') := Lib.hid (fun W => oneW v W hc HCD.out.1)
      have HC := Lib.hid hc
      rw [hc] at HCH
      clear hc
      have hexn : (s.extract 0 n).toList = (c :: r).take n := by rw [ByteArray.toList_eq, Lib.extract_data, ← HL.out]; simp
      obtain ⟨B, hB⟩ : ∃ B : Bool, B = (oneK v == (c :: r).take n) := ⟨_, rfl⟩
      have hcmp : (oneK v == (s.extract 0 n).toList) = B := by rw [hexn, hB]
      have HB := Lib.hid hB
      clear hexn hB
      refine wp_region_later (by kernel_rfl) (by kernel_rfl) ?_
      repeat (go_big_quiet_step ((first | (go_at_call 31; exact lat_calls (HCH.out _)) | (go_at_call 32; exact lat_calls (HON.out _)))))
      refine wpQuiet_nil ?_
      refine later_out (fun w2 hb2 => ?_)
      have hrr := HRR.out.later hb2
      have hxx := HXX.out.later hb2
      have HB2 := Lib.hid (next HBW.out hb2)
      clear hb2 l0 l1 l2 x0 x1 x2 g0 g1 g2 c0 c1 c2 f0 f1 f2 hcmp HCH HON
      obtain ⟨c0, c1, c2, f0, f1, f2⟩ := hrr
      obtain ⟨⟨x0, x1, x2⟩, g0, g1, g2⟩ := box_of hxx
      cases B
      · have HNO := Lib.hid (cand_no HCD.out (fun h => by have h1 := HB.out; rw [h.2.2] at h1; simp at h1))
        go_wp2_with fail
        obtain ⟨q0, q1, q2⟩ := filled3 w2 w.heap.size _ _ _ (.int .u8 0) (.int .i64 0) (.string ⟨#[]⟩) c0 c1 c2
        refine bodyPost_ret (v := .tuple #[V.val nullV, .int .i64 0, .bool false]) (by simp [results, Tryd.results22, go_sem, q0, q1, q2, nullV]; try rfl) rfl ⟨⟨nullV, 0, by first | exact ⟨false, rfl, .inr ⟨HNO.out, rfl, rfl⟩⟩ | exact .inl ⟨rfl, .inr ⟨HNO.out, rfl, rfl⟩⟩⟩, ?_⟩
        exact below_set (below_set (below_set HB2.out (Nat.le_refl _)) (Nat.le_refl _)) (Nat.le_refl _)
      · have HYES := Lib.hid (cand_yes HCD.out (by have h2 := HSL.out; omega) HC.out (by have h1 := HB.out; simpa using h1.symm))
        go_wp2_with fail
        obtain ⟨q0, q1, q2⟩ := filled3 w2 w.heap.size _ _ _ (.int .u8 (v.k : Int)) (.int .i64 v.n) (.string v.s) c0 c1 c2
        refine bodyPost_ret (v := .tuple #[V.val v, .int .i64 (n : Int), .bool true]) (by simp [results, Tryd.results22, go_sem, q0, q1, q2]; try rfl) rfl ⟨⟨v, (n : Int), by first | exact ⟨true, rfl, .inl ⟨HYES.out, Int.natCast_nonneg _, rfl⟩⟩ | exact .inr ⟨rfl, .inl ⟨HYES.out, Int.natCast_nonneg _, rfl⟩⟩⟩, ?_⟩
        exact below_set (below_set (below_set HB2.out (Nat.le_refl _)) (Nat.le_refl _)) (Nat.le_refl _)
    · have HNO := Lib.hid (cand_no HCD.out (fun h => hc h.2.1))
      have hcn : ((checkV v : Int) != 0) = true := by simp; omega
      clear hc
      refine wp_region_later (by kernel_rfl) (by kernel_rfl) ?_
      repeat (go_big_quiet_step ((go_at_call 31; exact lat_calls (HCH.out _))))
      refine wpQuiet_nil ?_
      refine later_out (fun w2 hb2 => ?_)
      have hrr := HRR.out.later hb2
      have HB2 := Lib.hid (next HBW.out hb2)
      clear hb2 l0 l1 l2 x0 x1 x2 g0 g1 g2 c0 c1 c2 f0 f1 f2 HCH
      obtain ⟨c0, c1, c2, f0, f1, f2⟩ := hrr
      go_wp2_with fail
      obtain ⟨q0, q1, q2⟩ := filled3 w2 w.heap.size _ _ _ (.int .u8 0) (.int .i64 0) (.string ⟨#[]⟩) c0 c1 c2
      refine bodyPost_ret (v := .tuple #[V.val nullV, .int .i64 0, .bool false]) (by simp [results, Tryd.results22, go_sem, q0, q1, q2, nullV]; try rfl) rfl ⟨⟨nullV, 0, by first | exact ⟨false, rfl, .inr ⟨HNO.out, rfl, rfl⟩⟩ | exact .inl ⟨rfl, .inr ⟨HNO.out, rfl, rfl⟩⟩⟩, ?_⟩
      exact below_set (below_set (below_set HB2.out (Nat.le_refl _)) (Nat.le_refl _)) (Nat.le_refl _)
end Go.Proofs.YtclkpbokngamiaaDoor.Dt
