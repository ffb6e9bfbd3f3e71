/-
  The walks of the reference on sums.
-/
import Derived.Test.YtooliekmfbkopaaSum
import Derived.Test.YtooliekmfbkopaaNumRef
import Derived.Test.YtooliekmfbkopaaQuiet
import Derived.Deep.RegionWith
import Derived.StillTailTactics
namespace Go.Proofs.Ytooliekmfbkopaa.Sum
open Go.RowKit Go.Proofs.Ytooliekmfbkopaa.By Go.Proofs.Ytooliekmfbkopaa.Num

/-- What the reference's word has reckoned behind j bytes. -/
def wd (l : List UInt8) (at_ j : Nat) : Nat := val ((List.range j).map fun i => l.getD (at_ + i) 0)
theorem wd_succ (l : List UInt8) (a j : Nat) : wd l a (j + 1) = 256 * wd l a j + (l.getD (a + j) 0).toNat := by
  unfold wd
  rw [List.range_succ, List.map_append, List.map_cons, List.map_nil, val_snoc]
theorem wd_lt (l : List UInt8) (a j : Nat) : wd l a j < 256 ^ j := by
  have := val_lt ((List.range j).map fun i => l.getD (a + i) 0)
  simpa [wd] using this
theorem wd_four (l : List UInt8) (a : Nat) : wd l a 4 = val4 (l.drop a) := by
  rw [wd_succ, wd_succ, wd_succ, wd_succ]
  simp only [val4, getD_drop, wd, List.range_zero, List.map_nil, val, List.foldl_nil]
  omega

set_option maxRecDepth 100000 in
theorem word (s : ByteArray) (a : Nat) (w : World) (hs : s.size ≤ 140737488351232) (ha : a ≤ 140737488351240) :
    Calls Try.prog 48 #[.string s, .int .i64 (a : Int)] w fun e w' => e = .returned (.int .u32 (val4 (s.data.toList.drop a))) ∧ w = w' := by
  obtain ⟨l, hl⟩ : ∃ l, l = s.data.toList := ⟨_, rfl⟩
  rw [← hl]
  have HLs := Lib.hid hl; clear hl
  go_enter Try.func48, Try.ntmps48
  go_wp2_with fail
  go_loop [5, 6] (fun nv iv => ∃ j : Nat, nv = .int .u64 (wd l a j) ∧ iv = .int .i64 ((a : Int) + (j : Int)) ∧ j ≤ 4) (fun _ iv => (a + 4 - (intOf iv)).toNat)
  case atStart => exact ⟨0, rfl, by simp, by omega⟩
  case round =>
    obtain ⟨j, rfl, rfl, hj⟩ := hrel
    have hlt := wd_lt l a j
    by_cases hj4 : j < 4
    · have hb : wd l a j < 16777216 := Nat.lt_of_lt_of_le hlt (Nat.le_trans (Nat.pow_le_pow_right (by omega) (show j ≤ 3 by omega)) (by decide))
      have hsucc := wd_succ l a j
      have hw : IntKind.u64.wrap (256 * (wd l a j : Int)) = 256 * (wd l a j : Int) := by rw [IntKind.wrap_u64]; omega
      by_cases hin : a + j < s.size
      · have hg : l[a + j]? = some (l.getD (a + j) 0) := by
          rw [List.getD, List.getElem?_eq_getElem (by rw [HLs.out]; simpa using hin)]; rfl
        obtain ⟨his, hsi⟩ := get_bytes s l HLs.out (a + j) _ hg
        have hc := (l.getD (a + j) 0).toNat_lt
        have HS : Hid (wd l a (j + 1) = 256 * wd l a j + (s[a + j]'his).toNat) := by unfold Hid; rw [hsi]; exact hsucc
        have hsl : ((s[a + j]'his).toNat : Int) < 256 := by have := (s[a + j]'his).toNat_lt; omega
        clear hsi hg hsucc hlt hc
        go_wp2_with fail
        go_round
        case rel => exact ⟨j + 1, by rw [HS.out]; go_num, by go_num, by omega⟩
        case measure => simp [intOf]; omega
      · have HS : Hid (wd l a (j + 1) = 256 * wd l a j) := by
          unfold Hid
          rw [hsucc, List.getD, List.getElem?_eq_none (by rw [HLs.out]; simp; omega)]; rfl
        clear hsucc hlt
        go_wp2_with fail
        go_round
        case rel => exact ⟨j + 1, by rw [HS.out]; go_num, by go_num, by omega⟩
        case measure => simp [intOf]; omega
    · obtain rfl : j = 4 := by omega
      have hx : wd l a 4 < 4294967296 := wd_lt l a 4
      go_wp2_with fail
      go_ret
      exact ⟨congrArg (fun x : Nat => Ending.returned (.int .u32 (x : Int))) (wd_four l a), rfl⟩

theorem still_of {P : Program} {f : FuncId} {args : Array Value} {w : World} {v : Value} (h : Calls P f args w fun e w' => e = .returned v ∧ w = w') : Calls P f args w fun e w' => e = .returned v ∧ w' = w :=
  h.mono fun _ _ h => ⟨h.1, h.2.symm⟩

set_option maxRecDepth 100000 in
set_option maxHeartbeats 1000000 in
theorem refAdd (p : Nat × Nat) (s : ByteArray) (w : World) (hs : s.size ≤ 140737488351232) :
    Calls Try.prog 25 #[pairV p, .string s] w fun e w' => e = .returned (pairV (addL p s.data.toList)) ∧ Below w.heap.size w w' := by
  obtain ⟨r, hr⟩ : ∃ r, r = addL p s.data.toList := ⟨_, rfl⟩
  rw [← hr]
  have HR := Lib.hid hr; clear hr
  obtain ⟨l, hl⟩ : ∃ l, l = s.data.toList := ⟨_, rfl⟩
  have HLs := Lib.hid hl; clear hl
  obtain ⟨B, hB⟩ : ∃ B, B = w.heap.size := ⟨_, rfl⟩
  have HB := Lib.hid hB
  go_enter Try.func25, Try.ntmps25
  go_wp2_with fail
  rw [← hB]
  clear hB
  go_loopw [5] (fun iv wr => ∃ (k : Nat) (q : Nat × Nat), iv = .int .i64 (k : Int) ∧ k ≤ s.size + 8 ∧ Hid (r = addL q (s.data.toList.drop k)) ∧ Hid (wr.heap[B]? = some (.cells (pairCells q) 28 (0, 0))) ∧ Hid (wr.heap[B + 1]? = some (.cells #[.int .u32 0, .int .u32 0] 28 (0, 0))) ∧ Below B w wr) (fun iv _ => (s.size + 8 - (intOf iv).toNat))
  case atStart =>
    refine ⟨0, p, rfl, Nat.zero_le _, by unfold Hid; rw [HR.out]; simp, ?_, ?_, ?_⟩
    · unfold Hid
      rw [HB.out, Below.heap_alloc _ _ _ (by simp)]
      exact heap_alloc_new w _
    · unfold Hid
      have := heap_alloc_new (w.alloc (.cells #[.int .u32 (p.1 : Int), .int .u32 (p.2 : Int)] 28)) (.cells #[.int .u32 0, .int .u32 0] 28)
      rw [HB.out]
      simpa using this
    · exact HB.out ▸ ((Below.refl _ _).alloc (Nat.le_refl _) _).alloc (by simp) _
  case round =>
    obtain ⟨k, q, rfl, hk, hq, hc, hr2, hbel⟩ := hrel
    have c0 : wr.cell? ⟨B, 0, none⟩ = some (.int .u32 (q.1 : Int)) := by rw [cell_of_row wr B 0 _ _ (0, 0) hc.out]; rfl
    have c1 : wr.cell? ⟨B, 1, none⟩ = some (.int .u32 (q.2 : Int)) := by rw [cell_of_row wr B 1 _ _ (0, 0) hc.out]; rfl
    have f0 := frozen_of_row wr B 0 _ _ hc.out
    have f1 := frozen_of_row wr B 1 _ _ hc.out
    by_cases hlt : k < s.size
    · have hword := fun w => word s k w hs (by omega)
      have hword4 : ∀ w, Calls Try.prog 48 #[.string s, .int .i64 ((k : Int) + 4)] w fun e w' => e = .returned (.int .u32 (val4 (s.data.toList.drop (k + 4)))) ∧ w = w' := fun w => word s (k + 4) w hs (by omega)
      have HW := Lib.hid hword; clear hword
      have HW4 := Lib.hid hword4; clear hword4
      go_wp2_with fail
      have hst := still_of (HW.out wr.drew)
      go_still_tail 10, (by kernel_rfl)
      still_call hst
      repeat still_step
      refine wpStill_nil ?_
      change wpList _ _ _ _ _ wr.drew
      go_wp2_with fail
      generalize hv1 : (((q.1 : Int) + (val4 (List.drop k s.data.toList) : Int)) % 4294967296 + (q.2 : Int)) % 4294967296 = v1 at *
      have HV1 := Lib.hid hv1; clear hv1
      have hc2 : (wr.setCell ⟨B, 0, none⟩ (.int .u32 v1)).drew.heap[B]? = some (.cells #[.int .u32 v1, .int .u32 (q.2 : Int)] 28 (0, 0)) := heap_setCell_same _ _ _ _ _ _ hc.out
      have hr3 : (wr.setCell ⟨B, 0, none⟩ (.int .u32 v1)).drew.heap[B + 1]? = some (.cells #[.int .u32 0, .int .u32 0] 28 (0, 0)) := (Below.heap_setCell _ _ _ _ (by simp)).trans hr2.out
      have hbel2 : Below B w (wr.setCell ⟨B, 0, none⟩ (.int .u32 v1)).drew := (hbel.setCell (p := ⟨B, 0, none⟩) (Nat.le_refl _) _).drew
      clear c0 c1 f0 f1
      generalize (wr.setCell ⟨B, 0, none⟩ (.int .u32 v1)).drew = W2 at *
      have c0 : W2.cell? ⟨B, 0, none⟩ = some (.int .u32 v1) := by rw [cell_of_row W2 B 0 _ _ (0, 0) hc2]; rfl
      have c1 : W2.cell? ⟨B, 1, none⟩ = some (.int .u32 (q.2 : Int)) := by rw [cell_of_row W2 B 1 _ _ (0, 0) hc2]; rfl
      have f0 := frozen_of_row W2 B 0 _ _ hc2
      have f1 := frozen_of_row W2 B 1 _ _ hc2
      have HC2 := Lib.hid hc2; clear hc2
      have HR3 := Lib.hid hr3; clear hr3
      have hst2 := still_of (HW4.out W2.drew)
      have hw4 : IntKind.i64.wrap ((k : Int) + 4) = (k : Int) + 4 := by rw [IntKind.wrap_i64]; omega
      go_still_tail 11, (by kernel_rfl)
      still_call hst2
      repeat still_step
      refine wpStill_nil ?_
      change wpList _ _ _ _ _ W2.drew
      go_wp2_with fail
      go_roundw
      case rel =>
        refine ⟨k + 8, step q (val4 (s.data.toList.drop k)) (val4 (s.data.toList.drop (k + 4))), by go_num, by omega, ?_, ?_, ?_, ?_⟩
        · unfold Hid
          have hne : s.data.toList.drop k ≠ [] := by
            intro h
            have := congrArg List.length h
            rw [List.length_drop, Array.length_toList, List.length_nil] at this
            have h2 : s.data.size = s.size := rfl
            omega
          rw [hq.out, addL_cons _ _ hne, List.drop_drop, List.drop_drop]
        · unfold Hid
          show (W2.setCell ⟨B, 1, none⟩ _).heap[B]? = _
          rw [heap_setCell_same _ _ _ _ _ _ HC2.out]
          have e1 : v1 = ((step q (val4 (s.data.toList.drop k)) (val4 (s.data.toList.drop (k + 4)))).1 : Int) := by rw [← HV1.out]; simp only [step]; omega
          have e2 : ((q.2 : Int) + (val4 (s.data.toList.drop (k + 4)) : Int) + v1) % 4294967296 = ((step q (val4 (s.data.toList.drop k)) (val4 (s.data.toList.drop (k + 4)))).2 : Int) := by rw [e1]; simp only [step]; omega
          rw [e2, e1]
          rfl
        · unfold Hid
          exact (Below.heap_setCell _ _ _ _ (by simp)).trans HR3.out
        · exact (hbel2.setCell (p := ⟨B, 1, none⟩) (Nat.le_refl _) _).drew
      case measure => simp [intOf]; omega
    · have d0 : wr.cell? ⟨B + 1, 0, none⟩ = some (.int .u32 0) := by rw [cell_of_row wr _ 0 _ _ (0, 0) hr2.out]; rfl
      have d1 : wr.cell? ⟨B + 1, 1, none⟩ = some (.int .u32 0) := by rw [cell_of_row wr _ 1 _ _ (0, 0) hr2.out]; rfl
      have g0 := frozen_of_row wr (B + 1) 0 _ _ hr2.out
      have g1 := frozen_of_row wr (B + 1) 1 _ _ hr2.out
      have q0 := set_same wr ⟨B + 1, 0, none⟩ (.int .u32 (q.1 : Int)) _ d0
      have q1 := set_same (wr.setCell ⟨B + 1, 0, none⟩ (.int .u32 (q.1 : Int))) ⟨B + 1, 1, none⟩ (.int .u32 (q.2 : Int)) _ ((set_else wr _ 0 1 _ (by omega)).trans d1)
      have hrq : r = q := by
        rw [hq.out, List.drop_eq_nil_of_le (by rw [Array.length_toList]; show s.size ≤ k; omega), addL_nil]
      subst hrq
      go_wp2_with fail
      refine bodyPost_ret (v := pairV r) (by simp [results, Try.results25, go_sem, q0, q1]) rfl ⟨rfl, ?_⟩
      exact HB.out ▸ (hbel.setCell (p := ⟨B + 1, 0, none⟩) (by simp) _).setCell (p := ⟨B + 1, 1, none⟩) (by simp) _
end Go.Proofs.Ytooliekmfbkopaa.Sum
