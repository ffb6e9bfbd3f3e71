/-
  The walks of the reference's readings: a digit, digits, and what is not too long.
-/
import Derived.Test.YthiajonjleambaaDoorValTop
import Derived.Test.YthiajonjleambaaDoorValueC
namespace Go.Proofs.YthiajonjleambaaDoor.Dt
open Go.RowKit Go.Proofs.YthiajonjleambaaDoor.By

theorem refDigitW (c : UInt8) (w : World) : Calls Tryd.prog 34 #[byte c] w fun e w' => e = .returned (.int .i64 (hexI c)) ∧ w = w' := by
  have hc := c.toNat_lt
  by_cases h1 : 48 ≤ c.toNat ∧ c.toNat ≤ 57
  · have HR : hexI c = ((c.toNat - 48 : Nat) : Int) := hexI_some (by unfold hexV; rw [if_pos h1])
    have a1 : (48 : Int) ≤ (c.toNat : Int) := by omega
    have a2 : (c.toNat : Int) ≤ 57 := by omega
    have a3 : IntKind.wrap .u8 ((c.toNat : Int) - 48) = ((c.toNat - 48 : Nat) : Int) := by rw [IntKind.wrap_u8]; omega
    rw [HR]
    clear HR h1
    go_enter Tryd.func34, Tryd.ntmps34
    go_wp2_with fail
    go_ret
    exact ⟨rfl, rfl⟩
  · by_cases h2 : 97 ≤ c.toNat ∧ c.toNat ≤ 102
    · have HR : hexI c = ((c.toNat - 87 : Nat) : Int) := hexI_some (by unfold hexV; rw [if_neg h1, if_pos h2])
      have b1 : ¬ (c.toNat : Int) ≤ 57 := by omega
      have b0 : (48 : Int) ≤ (c.toNat : Int) := by omega
      have a1 : (97 : Int) ≤ (c.toNat : Int) := by omega
      have a2 : (c.toNat : Int) ≤ 102 := by omega
      have a3 : IntKind.wrap .u8 ((c.toNat : Int) - 97) = ((c.toNat - 97 : Nat) : Int) := by rw [IntKind.wrap_u8]; omega
      have a4 : Hid (wrap64 (((c.toNat - 97 : Nat) : Int) + 10) = ((c.toNat - 87 : Nat) : Int)) := Lib.hid (by unfold wrap64; omega)
      have a5 : Hid (((c.toNat - 97 : Nat) : Int) + 10 = ((c.toNat - 87 : Nat) : Int)) := Lib.hid (by omega)
      rw [HR]
      clear HR h1 h2
      go_enter Tryd.func34, Tryd.ntmps34
      go_wp2_with fail
      refine bodyPost_ret (v := .int .i64 ((c.toNat - 87 : Nat) : Int)) (by simp [results, Tryd.results34, go_sem]; first | exact a4.out | exact a5.out) rfl ⟨rfl, rfl⟩
    · have HR : hexI c = -1 := hexI_none (by unfold hexV; rw [if_neg h1, if_neg h2])
      rw [HR]
      clear HR
      by_cases b0 : (48 : Int) ≤ (c.toNat : Int)
      · have b1 : ¬ (c.toNat : Int) ≤ 57 := by omega
        by_cases b2 : (97 : Int) ≤ (c.toNat : Int)
        · have b3 : ¬ (c.toNat : Int) ≤ 102 := by omega
          clear h1 h2
          go_enter Tryd.func34, Tryd.ntmps34
          go_wp2_with fail
          go_ret
          exact ⟨rfl, rfl⟩
        · clear h1 h2
          go_enter Tryd.func34, Tryd.ntmps34
          go_wp2_with fail
          go_ret
          exact ⟨rfl, rfl⟩
      · have b2 : ¬ (97 : Int) ≤ (c.toNat : Int) := by omega
        clear h1 h2
        go_enter Tryd.func34, Tryd.ntmps34
        go_wp2_with fail
        go_ret
        exact ⟨rfl, rfl⟩

theorem toldW (u : V) (w : World) : Calls Tryd.prog 35 #[u.val] w fun e w' => e = .returned (if 1000 < u.s.size then .tuple #[V0.val, .int .i64 3] else .tuple #[u.val, .int .i64 0]) ∧ Below w.heap.size w w' := by
  have hbb : Below w.heap.size w ((w.alloc (.cells #[.int .u8 (u.k : Int), .int .i64 u.n, .string u.s] 23)).alloc (.cells #[.int .u8 0, .int .i64 0, .string ⟨#[]⟩] 23)) := ((Below.refl _ _).alloc (Nat.le_refl _) _).alloc (by simp) _
  have HBB := Lib.hid hbb
  clear hbb
  have hw2 : ∀ j, j < 3 → True := fun _ _ => trivial
  by_cases hl : 1000 < u.s.size
  · rw [if_pos hl]
    have hl' : (1000 : Int) < (u.s.size : Int) := by omega
    clear hl hw2
    go_enter Tryd.func35, Tryd.ntmps35
    go_wp2_with fail
    refine bodyPost_ret (v := .tuple #[V0.val, .int .i64 3]) (by simp [results, Tryd.results35, go_sem, V0]; try rfl) rfl ⟨rfl, ?_⟩
    go_grown
  · rw [if_neg hl]
    have hl' : ¬ (1000 : Int) < (u.s.size : Int) := by omega
    clear hl hw2
    go_enter Tryd.func35, Tryd.ntmps35
    go_wp2_with fail
    refine bodyPost_ret (v := .tuple #[u.val, .int .i64 0]) (by simp [results, Tryd.results35, go_sem]; try rfl) rfl ⟨rfl, ?_⟩
    go_grown

theorem extract_tail (s : ByteArray) : (s.extract 1 s.size).data.toList = s.data.toList.tail := by
  rw [ByteArray.data_extract, Array.toList_extract, List.extract_eq_take_drop, List.drop_one, List.take_of_length_le]
  rw [List.length_tail, bytes_list]
  exact Nat.le_refl _
theorem decV_at (d : ByteArray) {k : Nat} (h : k < d.size) (n : Nat) : decV n (d.data.toList.drop k) = if 48 ≤ (d[k]).toNat ∧ (d[k]).toNat ≤ 57 then decV (10 * n + ((d[k]).toNat - 48)) (d.data.toList.drop (k + 1)) else none := by
  rw [List.drop_eq_getElem_cons (by rw [bytes_list]; exact h), decV]; rfl

/-- What stands ahead of the digits, and whether they may be a number's at all. -/
def badN (s D : ByteArray) : Prop := D.size < 1 ∨ 19 < D.size ∨ (D.data.toList.head? = some 48 ∧ 1 < s.size)
instance (s D : ByteArray) : Decidable (badN s D) := by unfold badN; exact inferInstance
def endN (ng : Bool) : Option Nat → Option Int
  | none => none
  | some n => if ng = true then (if n ≤ 9223372036854775808 then some (-(n : Int)) else none) else if n < 9223372036854775808 then some (n : Int) else none
theorem endN_true (n : Nat) : endN true (some n) = if n ≤ 9223372036854775808 then some (-(n : Int)) else none := by simp [endN]
theorem endN_false (n : Nat) : endN false (some n) = if n < 9223372036854775808 then some (n : Int) else none := by simp [endN]
theorem numS_parts (s D : ByteArray) (ng : Bool) (hn : ng = decide (s.data.toList.head? = some 45)) (hD : D = if ng = true then s.extract 1 s.size else s) :
    numS s.data.toList = if badN s D then none else endN ng (decV 0 D.data.toList) := by
  cases ng with
  | true =>
    rw [if_pos rfl] at hD
    have h45 : s.data.toList.head? = some 45 := of_decide_eq_true hn.symm
    have hl : D.data.toList = s.data.toList.tail := by rw [hD]; exact extract_tail s
    have hz : D.size = s.size - 1 := by rw [← bytes_list D, hl, List.length_tail, bytes_list]
    have h1 : 0 < s.size := by rw [← bytes_list]; exact List.length_pos_iff.2 (fun e => by rw [e] at h45; cases h45)
    unfold numS
    rw [if_pos h45, ← hl, bytes_list]
    by_cases hb : s.size < 2 ∨ 20 < s.size ∨ D.data.toList.head? = some 48
    · rw [if_pos hb, if_pos (show badN s D from ?_)]
      rcases hb with h | h | h
      · exact .inl (by omega)
      · exact .inr (.inl (by omega))
      · refine .inr (.inr ⟨h, ?_⟩)
        have : 0 < D.size := by rw [← bytes_list]; exact List.length_pos_iff.2 (fun e => by rw [e] at h; cases h)
        omega
    · rw [if_neg hb, if_neg (show ¬ badN s D from ?_)]
      · cases decV 0 D.data.toList with
        | none => rfl
        | some n => simp only [endN, if_true]
      · rintro (h | h | ⟨h, _⟩)
        · exact hb (.inl (by omega))
        · exact hb (.inr (.inl (by omega)))
        · exact hb (.inr (.inr h))
  | false =>
    rw [if_neg (by decide)] at hD
    have h45 : ¬ s.data.toList.head? = some 45 := of_decide_eq_false hn.symm
    subst hD
    unfold numS
    rw [if_neg h45, bytes_list]
    by_cases hb : D.size < 1 ∨ 19 < D.size ∨ (D.data.toList.head? = some 48 ∧ 1 < D.size)
    · rw [if_pos hb, if_pos (show badN D D from hb)]
    · rw [if_neg hb, if_neg (show ¬ badN D D from hb)]
      cases decV 0 D.data.toList with
      | none => rfl
      | some n => simp [endN]

set_option maxRecDepth 100000 in
set_option maxHeartbeats 8000000 in
theorem refNumberW (s : ByteArray) (w : World) (hs : s.size ≤ 1000000) :
    Calls Tryd.prog 36 #[.string s] w fun e w' => (∃ (n : Int) (ok : Bool), e = .returned (.tuple #[.int .i64 n, .bool ok]) ∧ numS s.data.toList = if ok = true then some n else none) ∧ Below w.heap.size w w' := by
  have HS := Lib.hid hs
  obtain ⟨NG, hNG⟩ : ∃ NG, NG = decide (s.data.toList.head? = some 45) := ⟨_, rfl⟩
  obtain ⟨D, hD⟩ : ∃ D : ByteArray, D = if NG = true then s.extract 1 s.size else s := ⟨_, rfl⟩
  have HN := Lib.hid hNG
  have HD := Lib.hid hD
  clear hNG hD
  have hDs : D.size ≤ 1000000 := by
    rw [HD.out]
    split
    · rw [ByteArray.size_extract]; omega
    · exact hs
  have HDS := Lib.hid hDs
  clear hs hDs
  go_enter Tryd.func36, Tryd.ntmps36
  go_upto_region 1 with fail
  go_cut [4] (fun c wx => c = .bool NG ∧ w = wx)
  case first =>
    by_cases h0 : 0 < s.size
    · have hh := head_at s h0
      have i0 : (0 : Int) < (s.size : Int) := by omega
      by_cases h45 : s[0] = 45
      · have e0 : (((s[0]).toNat : Int) == 45) = true := by rw [h45]; rfl
        have hb : NG = true := by rw [HN.out, hh, h45]; rfl
        subst hb
        clear h45 hh
        go_wp2_with fail
        go_meet
        exact ⟨rfl, rfl⟩
      · have e0 : (((s[0]).toNat : Int) == 45) = false := by
          have : (s[0]).toNat ≠ 45 := fun e => h45 (UInt8.toNat_inj.1 e)
          simp; omega
        have hb : NG = false := by rw [HN.out, hh]; simpa using h45
        subst hb
        clear h45 hh
        go_wp2_with fail
        go_meet
        exact ⟨rfl, rfl⟩
    · have hb : NG = false := by
        rw [HN.out]
        have : s.data.toList = [] := List.eq_nil_of_length_eq_zero (by rw [bytes_list]; omega)
        rw [this]; rfl
      subst hb
      have i0 : decide ((0 : Int) < (s.size : Int)) = false := decide_eq_false (by omega)
      have i1 : ¬ (0 : Int) < (s.size : Int) := by omega
      clear h0
      go_wp2_with fail
      go_meet
      exact ⟨by first | rfl | rw [i0], rfl⟩
  case rest =>
    obtain ⟨rfl, rfl⟩ := hcut
    go_upto_if 17 with fail
    go_cut [5] (fun dv wx => dv = .string D ∧ w = wx)
    case first =>
      have hd := HD.out
      cases NG with
      | true =>
        have h45 : s.data.toList.head? = some 45 := of_decide_eq_true HN.out.symm
        have h1 : 0 < s.size := by rw [← bytes_list]; exact List.length_pos_iff.2 (fun e => by rw [e] at h45; cases h45)
        have j1 : (1 : Int) ≤ (s.size : Int) := by omega
        rw [if_pos rfl] at hd
        subst hd
        clear h45 h1
        go_wp2_with fail
        go_meet
        exact ⟨rfl, rfl⟩
      | false =>
        rw [if_neg (by decide)] at hd
        subst hd
        go_wp2_with fail
        go_meet
        exact ⟨rfl, rfl⟩
    case rest =>
      obtain ⟨rfl, rfl⟩ := hcut
      have HNP := Lib.hid (numS_parts s D NG HN.out HD.out)
      obtain ⟨BAD, hB⟩ : ∃ BAD, BAD = decide (badN s D) := ⟨_, rfl⟩
      have HB := Lib.hid hB
      clear hB
      go_upto_region 5 with fail
      go_cut [37] (fun c wx => c = .bool BAD ∧ w = wx)
      case first =>
        by_cases z1 : D.size < 1
        · have j1 : (D.size : Int) < 1 := by omega
          have hb : BAD = true := by rw [HB.out]; exact decide_eq_true (.inl z1)
          subst hb
          clear z1
          go_wp2_with fail
          go_meet
          exact ⟨rfl, rfl⟩
        · have j1 : ¬ (D.size : Int) < 1 := by omega
          by_cases z2 : 19 < D.size
          · have j2 : (19 : Int) < (D.size : Int) := by omega
            have hb : BAD = true := by rw [HB.out]; exact decide_eq_true (.inr (.inl z2))
            subst hb
            clear z1 z2
            go_wp2_with fail
            go_meet
            exact ⟨rfl, rfl⟩
          · have j2 : ¬ (19 : Int) < (D.size : Int) := by omega
            have h0 : 0 < D.size := by omega
            have i0 : (0 : Int) < (D.size : Int) := by omega
            have hh := head_at D h0
            by_cases z3 : D[0] = 48
            · have e0 : (((D[0]).toNat : Int) == 48) = true := by rw [z3]; rfl
              by_cases z4 : 1 < s.size
              · have j4 : decide ((1 : Int) < (s.size : Int)) = true := decide_eq_true (by omega)
                have j4' : (1 : Int) < (s.size : Int) := by omega
                have hb : BAD = true := by rw [HB.out]; exact decide_eq_true (.inr (.inr ⟨by rw [hh, z3], z4⟩))
                subst hb
                clear z1 z2 z3 z4 hh
                go_wp2_with fail
                go_meet
                exact ⟨by first | rfl | rw [j4], rfl⟩
              · have j4 : decide ((1 : Int) < (s.size : Int)) = false := decide_eq_false (by omega)
                have j4' : ¬ (1 : Int) < (s.size : Int) := by omega
                have hb : BAD = false := by rw [HB.out]; exact decide_eq_false (by rintro (h | h | ⟨_, h⟩); exact z1 h; exact z2 h; exact z4 h)
                subst hb
                clear z1 z2 z3 z4 hh
                go_wp2_with fail
                go_meet
                exact ⟨by first | rfl | rw [j4], rfl⟩
            · have e0 : (((D[0]).toNat : Int) == 48) = false := by
                have : (D[0]).toNat ≠ 48 := fun e => z3 (UInt8.toNat_inj.1 e)
                simp; omega
              have hb : BAD = false := by rw [HB.out]; exact decide_eq_false (by rintro (h | h | ⟨h, _⟩); exact z1 h; exact z2 h; (rw [hh] at h; exact z3 (Option.some.inj h)))
              subst hb
              clear z1 z2 z3 hh
              go_wp2_with fail
              go_meet
              exact ⟨rfl, rfl⟩
      case rest =>
        obtain ⟨rfl, rfl⟩ := hcut
        cases BAD with
        | true =>
          have HR : Hid (numS s.data.toList = none) := Lib.hid (by rw [HNP.out, if_pos (of_decide_eq_true HB.out.symm)])
          go_wp2_with fail
          refine bodyPost_ret (v := .tuple #[.int .i64 0, .bool false]) (by simp [results, Tryd.results36, go_sem]) rfl ⟨⟨0, false, rfl, by rw [HR.out]; rfl⟩, Below.refl _ _⟩
        | false =>
          have hnb : ¬ badN s D := of_decide_eq_false HB.out.symm
          have HR : Hid (numS s.data.toList = endN NG (decV 0 D.data.toList)) := Lib.hid (by rw [HNP.out, if_neg hnb])
          have HL19 : Hid (D.size ≤ 19) := Lib.hid (by rcases Nat.lt_or_ge 19 D.size with h | h; exact absurd (.inr (.inl h)) hnb; exact h)
          clear hnb
          go_wp2_with fail
          go_loopg [6, 7] D.size (fun gk nv iv wr => ∃ (k n : Nat), iv = .int .i64 (k : Int) ∧ nv = .int .u64 (n : Int) ∧ gk = D.size - k ∧ k ≤ D.size ∧ Hid (decV 0 D.data.toList = decV n (D.data.toList.drop k)) ∧ Hid (n < 10 ^ k) ∧ w = wr)
          case atStart => exact ⟨0, 0, rfl, rfl, rfl, Nat.zero_le _, Lib.hid rfl, Lib.hid (by decide), rfl⟩
          case round =>
            obtain ⟨k, n, rfl, rfl, rfl, hk, HDV, HNB, rfl⟩ := hrel
            by_cases hlt : k < D.size
            · have ilt : (k : Int) < (D.size : Int) := by omega
              have HKK : Hid (wrap64 ((k : Int) + 1) = ((k + 1 : Nat) : Int)) := Lib.hid (by have := HDS.out; unfold wrap64; omega)
              have hdv := decV_at D hlt n
              obtain ⟨c, hc⟩ : ∃ c, D[k] = c := ⟨_, rfl⟩
              have hcn : (D[k]).toNat = c.toNat := by rw [hc]
              rw [hc] at hdv
              have HLT := Lib.hid hlt
              by_cases hdg : 48 ≤ c.toNat ∧ c.toNat ≤ 57
              · rw [if_pos hdg] at hdv
                have hn18 : n < 1000000000000000000 := Nat.lt_of_lt_of_le HNB.out (Nat.le_trans (Nat.pow_le_pow_right (by decide) (show k ≤ 18 by have := HL19.out; omega)) (by decide))
                have j1 : ¬ (c.toNat : Int) < 48 := by omega
                have j2 : ¬ (57 : Int) < (c.toNat : Int) := by omega
                obtain ⟨x, hx⟩ : ∃ x : Nat, x = c.toNat - 48 := ⟨_, rfl⟩
                have hx9 : x ≤ 9 := by omega
                have a2 : IntKind.wrap .u8 ((c.toNat : Int) - 48) = (x : Int) := by rw [IntKind.wrap_u8]; omega
                have HNB2 : Hid (10 * n + x < 10 ^ (k + 1)) := Lib.hid (by have := HNB.out; rw [Nat.pow_succ]; omega)
                have HDV2 : Hid (decV 0 D.data.toList = decV (10 * n + x) (D.data.toList.drop (k + 1))) := Lib.hid (by rw [HDV.out, hdv, hx])
                clear hdv hc hdg hx hk
                go_wp2_with fail
                go_roundg (D.size - (k + 1))
                case measure => exact Nat.sub_lt_sub_left HLT.out (Nat.lt_succ_self _)
                case rel => exact ⟨k + 1, 10 * n + x, by first | exact congrArg (Value.int .i64) HKK.out | (simp; exact HKK.out), by first | rfl | (congr 1; omega) | (simp; done), rfl, HLT.out, HDV2, HNB2, rfl⟩
              · rw [if_neg hdg] at hdv
                have HR2 : Hid (numS s.data.toList = none) := Lib.hid (by rw [HR.out, HDV.out, hdv]; rfl)
                clear hdv hc hk
                by_cases j1 : (c.toNat : Int) < 48
                · clear hdg
                  go_wp2_with fail
                  refine bodyPost_ret (v := .tuple #[.int .i64 0, .bool false]) (by simp [results, Tryd.results36, go_sem]) rfl ⟨by first | exact ⟨0, false, rfl, by rw [HR2.out]; rfl⟩ | exact ⟨0, .inl ⟨rfl, HR2.out⟩⟩, Below.refl _ _⟩
                · have j2 : (57 : Int) < (c.toNat : Int) := by omega
                  clear hdg
                  go_wp2_with fail
                  refine bodyPost_ret (v := .tuple #[.int .i64 0, .bool false]) (by simp [results, Tryd.results36, go_sem]) rfl ⟨by first | exact ⟨0, false, rfl, by rw [HR2.out]; rfl⟩ | exact ⟨0, .inl ⟨rfl, HR2.out⟩⟩, Below.refl _ _⟩
            · have ilt : ¬ (k : Int) < (D.size : Int) := by omega
              have hres : numS s.data.toList = endN NG (some n) := by
                rw [HR.out, HDV.out, List.drop_eq_nil_of_le (by rw [bytes_list]; omega)]; rfl
              have hn19 : n < 10000000000000000000 := Nat.lt_of_lt_of_le HNB.out (Nat.le_trans (Nat.pow_le_pow_right (by decide) (show k ≤ 19 by have := HL19.out; omega)) (by decide))
              have HRES := Lib.hid hres
              clear hlt hk hres
              cases NG with
              | true =>
                by_cases hle : n ≤ 9223372036854775808
                · have j1 : (n : Int) ≤ 9223372036854775808 := by omega
                  have HF : Hid (numS s.data.toList = some (-(n : Int))) := Lib.hid (by rw [HRES.out, endN_true, if_pos hle])
                  clear hle
                  have hneg : Hid (wrap64 (IntKind.wrap .u64 (-(n : Int))) = -(n : Int)) := Lib.hid (by rw [IntKind.wrap_u64]; unfold wrap64; omega)
                  go_wp2_with fail
                  refine bodyPost_ret (v := .tuple #[.int .i64 (-(n : Int)), .bool true]) (by simp [results, Tryd.results36, go_sem]; exact hneg.out) rfl ⟨⟨_, .inr ⟨rfl, HF.out⟩⟩, Below.refl _ _⟩
                · have j1 : ¬ (n : Int) ≤ 9223372036854775808 := by omega
                  have HF : Hid (numS s.data.toList = none) := Lib.hid (by rw [HRES.out, endN_true, if_neg hle])
                  clear hle
                  go_wp2_with fail
                  refine bodyPost_ret (v := .tuple #[.int .i64 (wrap64 (IntKind.wrap .u64 (-(n : Int)))), .bool false]) (by simp [results, Tryd.results36, go_sem]) rfl ⟨⟨_, .inl ⟨rfl, HF.out⟩⟩, Below.refl _ _⟩
              | false =>
                by_cases hle : n < 9223372036854775808
                · have j1 : (n : Int) < 9223372036854775808 := by omega
                  have HF : Hid (numS s.data.toList = some (n : Int)) := Lib.hid (by rw [HRES.out, endN_false, if_pos hle])
                  clear hle
                  go_wp2_with fail
                  refine bodyPost_ret (v := .tuple #[.int .i64 (n : Int), .bool true]) (by simp [results, Tryd.results36, go_sem]) rfl ⟨⟨_, .inr ⟨rfl, HF.out⟩⟩, Below.refl _ _⟩
                · have j1 : ¬ (n : Int) < 9223372036854775808 := by omega
                  have HF : Hid (numS s.data.toList = none) := Lib.hid (by rw [HRES.out, endN_false, if_neg hle])
                  clear hle
                  go_wp2_with fail
                  refine bodyPost_ret (v := .tuple #[.int .i64 (wrap64 (n : Int)), .bool false]) (by simp [results, Tryd.results36, go_sem]) rfl ⟨⟨_, .inl ⟨rfl, HF.out⟩⟩, Below.refl _ _⟩
end Go.Proofs.YthiajonjleambaaDoor.Dt
