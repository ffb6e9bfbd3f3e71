/-
  The walk of the reference's Take.
-/
import Derived.Test.YtooliekmfbkopaaNumRef
import Derived.Test.YtooliekmfbkopaaNumSpec2
import Derived.Deep.RegionWith
namespace Go.Proofs.Ytooliekmfbkopaa.Num
open Go.RowKit Go.Proofs.Ytooliekmfbkopaa.By

/-- What the second loop has reckoned behind i bytes. -/
def rv (l : List UInt8) (i : Nat) : Nat := if i ≤ 8 then dv (l.take i) else 256 * dv (l.take 8) + (l.getD 8 0).toNat
theorem rv_lo {l : List UInt8} {i : Nat} {c : UInt8} (hg : l[i]? = some c) (h : i < 8) :
    IntKind.u64.wrap (IntKind.u64.wrap (128 * (rv l i : Int)) + (c.toNat : Int) % 128) = (rv l (i + 1) : Int) := by
  have h1 := dv_lt (l.take i)
  have h2 : dv (l.take i) < 128 ^ 8 := Nat.lt_of_lt_of_le h1 (Nat.pow_le_pow_right (by omega) (by simp; omega))
  unfold rv
  rw [if_pos (by omega), if_pos (by omega), take_snoc hg, dv_snoc, IntKind.wrap_u64, IntKind.wrap_u64]
  omega
theorem rv_8 {l : List UInt8} {c : UInt8} (hg : l[8]? = some c) :
    IntKind.u64.wrap (IntKind.u64.wrap (256 * (rv l 8 : Int)) + IntKind.u64.wrap (c.toNat : Int)) = (rv l 9 : Int) := by
  have h1 := dv_lt (l.take 8)
  have h2 : dv (l.take 8) < 128 ^ 8 := Nat.lt_of_lt_of_le h1 (Nat.pow_le_pow_right (by omega) (by simp; omega))
  have h3 := c.toNat_lt
  unfold rv
  rw [if_pos (by omega), if_neg (by omega), IntKind.wrap_u64, IntKind.wrap_u64, IntKind.wrap_u64]
  simp only [List.getD, hg, Option.getD_some]
  omega
theorem rv_end {l : List UInt8} {k : Nat} (hk : k ≤ 8) (h : k < l.length) : rv l (k + 1) = (if k = 8 then 256 * dv (l.take k) + (l.getD k 0).toNat else 128 * dv (l.take k) + (l.getD k 0).toNat % 128) ∧ rv l (k + 1) < 18446744073709551616 := by
  have hg : l[k]? = some (l.getD k 0) := by rw [List.getD, List.getElem?_eq_getElem h]; rfl
  have h1 := dv_lt (l.take k)
  have h2 : dv (l.take k) < 128 ^ 8 := Nat.lt_of_lt_of_le h1 (Nat.pow_le_pow_right (by omega) (by simp; omega))
  have h3 := (l.getD k 0).toNat_lt
  unfold rv
  by_cases h8 : k = 8
  · subst h8
    rw [if_neg (by omega), if_pos rfl]
    exact ⟨rfl, by omega⟩
  · rw [if_pos (by omega), if_neg h8, take_snoc hg, dv_snoc]
    exact ⟨by omega, by omega⟩

set_option maxRecDepth 100000 in
set_option maxHeartbeats 1000000 in
theorem refTake (s : ByteArray) (w : World) (hs : s.size ≤ maxLen) :
    Calls Try.prog 35 #[.string s] w fun e w' => e = .returned (.tuple #[.int .u64 (takeR s.data.toList).1, .int .i64 (takeR s.data.toList).2.1, .int .i64 (takeR s.data.toList).2.2]) ∧ Below w.heap.size w w' := by
  unfold maxLen at hs
  obtain ⟨l, hl⟩ : ∃ l, l = s.data.toList := ⟨_, rfl⟩
  rw [← hl]
  have hll : s.size = l.length := by rw [hl]; simp
  have HL := Lib.hid hll; clear hll
  have HLs := Lib.hid hl; clear hl
  go_enter Try.func35, Try.ntmps35
  go_wp2_with fail
  go_loop [5] (fun kv => ∃ (k : Nat), kv = .int .i64 (k : Int) ∧ k ≤ s.size ∧ k ≤ 8 ∧ Hid (∀ b ∈ l.take k, 128 ≤ b.toNat)) (fun kv => s.size - (intOf kv).toNat)
  case atStart => exact ⟨0, rfl, Nat.zero_le _, by omega, by unfold Hid; simp⟩
  case round =>
    obtain ⟨k, rfl, hk, hk8, hb⟩ := hrel
    by_cases hgo : k < s.size ∧ k < 8 ∧ 128 ≤ (l.getD k 0).toNat
    · obtain ⟨h1, h2, h3⟩ := hgo
      have hg : l[k]? = some (l.getD k 0) := by
        rw [List.getD, List.getElem?_eq_getElem (by have := HL.out; omega)]; rfl
      obtain ⟨hks, hsk⟩ := get_bytes s l HLs.out k _ hg
      have hsk' : 128 ≤ ((s[k]'hks).toNat : Int) := by rw [hsk]; omega
      have hb' : Hid (∀ b ∈ l.take (k + 1), 128 ≤ b.toNat) := by
        unfold Hid
        rw [take_snoc hg]
        intro b hb'
        rcases List.mem_append.1 hb' with h | h
        · exact hb.out b h
        · rw [List.mem_singleton.1 h]; exact h3
      clear hsk h3 hg hb
      go_wp2_with fail
      go_round
      case rel => exact ⟨k + 1, by go_num, by omega, by omega, hb'⟩
      case measure => simp [intOf]; omega
    · have hat := refTake_at l k hk8 (by have := HL.out; omega) hb.out (fun h1 h2 => by have := HL.out; omega)
      by_cases hend : k = s.size
      · have hfin := Lib.hid (hat.1 (by have := HL.out; omega))
        have hend1 : k ≤ s.size := by omega
        have hend2 : s.size ≤ k := by omega
        clear hgo hat hend
        go_wp2_with fail
        go_ret3
        exact ⟨by rw [hfin.out]; rfl, Below.refl _ _⟩
      · have hks : k < s.size := by omega
        have hfin := hat.2 (by have := HL.out; omega)
        have HF := Lib.hid hfin; clear hfin
        have hz : ((k : Int) == (s.size : Int)) = false := by simp; omega
        have hor : k < 8 ∧ ((s[k]'hks).toNat : Int) < 128 ∨ 8 ≤ k := by
          by_cases h8 : k < 8
          · left
            refine ⟨h8, ?_⟩
            have hg : l[k]? = some (l.getD k 0) := by
              rw [List.getD, List.getElem?_eq_getElem (by have := HL.out; omega)]; rfl
            obtain ⟨_, hsk⟩ := get_bytes s l HLs.out k _ hg
            rw [hsk]
            have : ¬ 128 ≤ (l.getD k 0).toNat := fun h => hgo ⟨hks, h8, h⟩
            omega
          · right; omega
        clear hgo hat hend
        rcases hor with ⟨h8, hsk⟩ | h8
        all_goals
          go_wp2_with fail
          go_loop [6, 7] (fun nv iv => ∃ (i : Nat), nv = .int .u64 (rv l i) ∧ iv = .int .i64 (i : Int) ∧ i ≤ k + 1) (fun _ iv => k + 1 - (intOf iv).toNat)
          case atStart => exact ⟨0, rfl, rfl, by omega⟩
          case round =>
            obtain ⟨i, rfl, rfl, hi⟩ := hrel
            by_cases hlt : i < k + 1
            · have hg : l[i]? = some (l.getD i 0) := by
                rw [List.getD, List.getElem?_eq_getElem (by have := HL.out; omega)]; rfl
              obtain ⟨his, hsi⟩ := get_bytes s l HLs.out i _ hg
              rw [← hsi] at hg
              by_cases h88 : i = 8
              · subst h88
                have hrv := rv_8 hg
                have HR := Lib.hid hrv
                clear hrv hg hsi
                by_cases hk88 : k < 8
                · exact absurd hlt (by omega)
                · first
                    | exact absurd h8 hk88
                    | (go_wp2_with fail
                       go_round
                       case rel => exact ⟨9, by rw [HR.out], by go_num, by omega⟩
                       case measure => simp [intOf]; omega)
              · have hrv := rv_lo hg (by omega)
                have HR := Lib.hid hrv
                clear hrv hg hsi
                go_wp2_with fail
                go_round
                case rel => exact ⟨i + 1, by rw [HR.out], by go_num, by omega⟩
                case measure => simp [intOf]; omega
            · obtain rfl : i = k + 1 := by omega
              obtain ⟨he, hlt64⟩ := rv_end hk8 (show k < l.length by have := HL.out; omega)
              obtain ⟨m, hm⟩ : ∃ m, m = rv l (k + 1) := ⟨_, rfl⟩
              rw [← hm] at he hlt64 ⊢
              have hfin := HF.out m he
              have HFI := Lib.hid hfin
              have H64 := Lib.hid hlt64
              clear hfin hlt64 he hm
              go_wp2_with fail
              go_region_with (go_at_call 20; refine (refPut m _ H64.out).mono ?_; rintro e w1 ⟨rfl, hb1⟩)
              all_goals
                have hext : (s.extract 0 (k + 1)).toList = l.take (k + 1) := by
                  rw [ByteArray.toList_eq, HLs.out]; simp
                have HX := Lib.hid hext; clear hext
                go_wp2_with fail
                all_goals
                  go_ret3
                  first
                    | (have ht : (!putL m == (s.extract 0 (k + 1)).toList) = false := by assumption
                       rw [HX.out] at ht
                       have hP : putL m = l.take (k + 1) := by simpa using ht
                       have hfin := HFI.out
                       rw [if_pos hP] at hfin
                       exact ⟨by rw [hfin]; rfl, ((Below.refl _ _).drew).trans hb1⟩)
                    | (have ht : (!putL m == (s.extract 0 (k + 1)).toList) = true := by assumption
                       rw [HX.out] at ht
                       have hP : ¬ putL m = l.take (k + 1) := by simpa using ht
                       have hfin := HFI.out
                       rw [if_neg hP] at hfin
                       exact ⟨by rw [hfin]; rfl, ((Below.refl _ _).drew).trans hb1⟩)
end Go.Proofs.Ytooliekmfbkopaa.Num
