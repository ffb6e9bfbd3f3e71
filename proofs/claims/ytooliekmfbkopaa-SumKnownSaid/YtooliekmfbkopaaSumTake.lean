/-
  The walks of Take and of the reference's Take.
-/
import Derived.Test.YtooliekmfbkopaaSumRef
import Derived.Test.YtooliekmfbkopaaSumEq
namespace Go.Proofs.Ytooliekmfbkopaa.Sum
open Go.RowKit Go.Proofs.Ytooliekmfbkopaa.By Go.Proofs.Ytooliekmfbkopaa.Num
/-- What Take reads: the pair that bytes begin with. -/
def takeP (l : List UInt8) : Nat × Nat := (val4 l, val4 (l.drop 4))

theorem take_short (s : ByteArray) (w : World) (h : s.size < 8) :
    Calls Try.prog 27 #[.string s] w fun e w' => e = .returned (.tuple #[pairV (0, 0), .int .i64 10]) ∧ Below w.heap.size w w' := by
  go_enter Try.func27, Try.ntmps27
  go_wp2_with fail
  refine bodyPost_ret (v := .tuple #[pairV (0, 0), .int .i64 10]) (by simp [results, Try.results27, go_sem]) rfl ⟨rfl, ?_⟩
  exact (Below.refl _ _).alloc (Nat.le_refl _) _

set_option maxRecDepth 100000 in
set_option maxHeartbeats 1000000 in
theorem take_ok (s : ByteArray) (w : World) (h : 8 ≤ s.size) :
    Calls Try.prog 27 #[.string s] w fun e w' => e = .returned (.tuple #[pairV (takeP s.data.toList), .int .i64 0]) ∧ Below w.heap.size w w' := by
  go_enter Try.func27, Try.ntmps27
  go_wp2_with fail
  have e8 : (s.extract 0 8).data.toList = s.data.toList.take 8 := by simp
  refine (words _ _ (by simp [ByteArray.size_extract]; omega)).mono ?_
  rintro e w1 ⟨rfl, hb1⟩
  rw [e8, val4_take8, val4_drop8]
  clear e8
  have c0 : w1.cell? ⟨w.heap.size, 0, none⟩ = some (.int .u32 0) := by rw [hb1.cell (by simp)]; go_simp
  have c1 : w1.cell? ⟨w.heap.size, 1, none⟩ = some (.int .u32 0) := by rw [hb1.cell (by simp)]; go_simp
  have f0 : w1.frozen? ⟨w.heap.size, 0, none⟩ = false := by rw [hb1.frozen (by simp)]; go_simp
  have f1 : w1.frozen? ⟨w.heap.size, 1, none⟩ = false := by rw [hb1.frozen (by simp)]; go_simp
  have hs1 : w.heap.size < w1.heap.size := Nat.lt_of_lt_of_le (by simp) hb1.size
  have hbel : Below w.heap.size w w1 := ((Below.refl _ _).alloc (Nat.le_refl _) _).trans (hb1.mono (by simp))
  clear hb1
  generalize hp : takeP s.data.toList = p
  have hp1 : val4 s.data.toList = p.1 := by rw [← hp]; rfl
  have hp2 : val4 (s.data.toList.drop 4) = p.2 := by rw [← hp]; rfl
  rw [hp1, hp2]
  have HP := Lib.hid hp
  clear hp hp1 hp2
  by_cases hz : ((p.1 : Int) == 0 && (p.2 : Int) == 0) = true
  · have hp0 : p = (0, 0) := by simp at hz; exact Prod.ext hz.1 hz.2
    subst hp0
    go_wp2_with (with_reducible refine wpList_neq_pair rfl _ _ _ rfl _ _ _ _ rfl rfl false (by decide) ?_)
    have q0 := set_same w1 ⟨w.heap.size, 0, none⟩ (.int .u32 0) _ c0
    have q1 := set_same (w1.setCell ⟨w.heap.size, 0, none⟩ (.int .u32 0)) ⟨w.heap.size, 1, none⟩ (.int .u32 0) _ ((set_else w1 _ 0 1 _ (by omega)).trans c1)
    refine bodyPost_ret (v := .tuple #[pairV (0, 0), .int .i64 0]) (by simp [results, Try.results27, go_sem, hs1, q0, q1]) rfl ⟨by rw [HP.out], ?_⟩
    exact ((hbel.setCell (p := ⟨w.heap.size, 0, none⟩) (Nat.le_refl _) _).setCell (p := ⟨w.heap.size, 1, none⟩) (Nat.le_refl _) _).alloc (by simp; omega) _
  · have hz' : (!((p.1 : Int) == 0 && (p.2 : Int) == 0)) = true := by simp only [Bool.not_eq_true] at hz; rw [hz]; rfl
    have HZ := Lib.hid hz'
    clear hz hz'
    go_wp2_with (with_reducible refine wpList_neq_pair rfl _ _ _ rfl _ _ _ _ rfl rfl true HZ.out ?_)
    have q0 := set_same w1 ⟨w.heap.size, 0, none⟩ (.int .u32 (p.1 : Int)) _ c0
    have q1 := set_same (w1.setCell ⟨w.heap.size, 0, none⟩ (.int .u32 (p.1 : Int))) ⟨w.heap.size, 1, none⟩ (.int .u32 (p.2 : Int)) _ ((set_else w1 _ 0 1 _ (by omega)).trans c1)
    refine bodyPost_ret (v := .tuple #[pairV p, .int .i64 0]) (by simp [results, Try.results27, go_sem, hs1, q0, q1]) rfl ⟨by rw [HP.out], ?_⟩
    exact ((hbel.setCell (p := ⟨w.heap.size, 0, none⟩) (Nat.le_refl _) _).setCell (p := ⟨w.heap.size, 1, none⟩) (Nat.le_refl _) _).alloc (by simp; omega) _

set_option maxRecDepth 100000 in
set_option maxHeartbeats 1000000 in
theorem refTake (s : ByteArray) (w : World) (h : 8 ≤ s.size) (hs : s.size ≤ 140737488351232) :
    Calls Try.prog 30 #[.string s] w fun e w' => e = .returned (pairV (takeP s.data.toList)) ∧ Below w.heap.size w w' := by
  have e4 : (s.extract 0 4).data.toList = s.data.toList.take 4 := by simp
  have e8 : (s.extract 4 8).data.toList = (s.data.toList.drop 4).take 4 := by simp [List.extract_eq_take_drop]
  have hw1 : ∀ u, Calls Try.prog 48 #[.string (s.extract 0 4), .int .i64 0] u fun e w' => e = .returned (.int .u32 ((takeP s.data.toList).1 : Int)) ∧ w' = u := by
    intro u
    refine (word (s.extract 0 4) 0 u (by simp [ByteArray.size_extract]; omega) (by omega)).mono ?_
    rintro e w' ⟨rfl, rfl⟩
    refine ⟨?_, rfl⟩
    rw [e4, List.drop_zero]
    exact congrArg (fun x : Nat => Ending.returned (.int .u32 (x : Int))) (val4_congr fun i hi => getD_take _ _ _ hi)
  have hw2 : ∀ u, Calls Try.prog 48 #[.string (s.extract 4 8), .int .i64 0] u fun e w' => e = .returned (.int .u32 ((takeP s.data.toList).2 : Int)) ∧ w' = u := by
    intro u
    refine (word (s.extract 4 8) 0 u (by simp [ByteArray.size_extract]; omega) (by omega)).mono ?_
    rintro e w' ⟨rfl, rfl⟩
    refine ⟨?_, rfl⟩
    rw [e8, List.drop_zero]
    exact congrArg (fun x : Nat => Ending.returned (.int .u32 (x : Int))) (val4_congr fun i hi => getD_take _ _ _ hi)
  generalize takeP s.data.toList = p at *
  have H1 := Lib.hid hw1; clear hw1
  have H2 := Lib.hid hw2; clear hw2
  clear e4 e8
  have i4 : (4 : Int) ≤ (s.size : Int) := by omega
  have i8 : (8 : Int) ≤ (s.size : Int) := by omega
  go_enter Try.func30, Try.ntmps30
  go_wp2_with fail
  have hb : Below w.heap.size w (w.alloc (.cells #[.int .u32 0, .int .u32 0] 28)) := (Below.refl _ _).alloc (Nat.le_refl _) _
  have c0 : World.cell? (w.alloc (.cells #[.int .u32 0, .int .u32 0] 28)) ⟨w.heap.size, 0, none⟩ = some (.int .u32 0) := by go_simp
  have c1 : World.cell? (w.alloc (.cells #[.int .u32 0, .int .u32 0] 28)) ⟨w.heap.size, 1, none⟩ = some (.int .u32 0) := by go_simp
  have f0 : World.frozen? (w.alloc (.cells #[.int .u32 0, .int .u32 0] 28)) ⟨w.heap.size, 0, none⟩ = false := by go_simp
  have f1 : World.frozen? (w.alloc (.cells #[.int .u32 0, .int .u32 0] 28)) ⟨w.heap.size, 1, none⟩ = false := by go_simp
  generalize w.alloc (.cells #[.int .u32 0, .int .u32 0] 28) = W at *
  go_still_tail 7, (by kernel_rfl)
  still_call (H1.out _)
  repeat still_step
  still_call (H2.out _)
  repeat still_step
  refine wpStill_nil ?_
  change wpList _ _ _ _ _ W.drew
  go_wp2_with fail
  have q0 := set_same W ⟨w.heap.size, 0, none⟩ (.int .u32 (p.1 : Int)) _ c0
  have q1 := set_same (W.setCell ⟨w.heap.size, 0, none⟩ (.int .u32 (p.1 : Int))) ⟨w.heap.size, 1, none⟩ (.int .u32 (p.2 : Int)) _ ((set_else W _ 0 1 _ (by omega)).trans c1)
  refine bodyPost_ret (v := pairV p) (by simp [results, Try.results30, go_sem, q0, q1]) rfl ⟨rfl, ?_⟩
  exact ((hb.setCell (p := ⟨w.heap.size, 0, none⟩) (Nat.le_refl _) _).setCell (p := ⟨w.heap.size, 1, none⟩) (Nat.le_refl _) _).drew
end Go.Proofs.Ytooliekmfbkopaa.Sum
