/- SumBlock: the law returns true at every input. -/
import Derived.Test.YthiajonjleambaaLift
import Derived.Test.YthiajonjleambaaSumBlockSpec
import Derived.Test.YthiajonjleambaaSum
import Derived.Test.YthiajonjleambaaSumEq
import Derived.Test.YthiajonjleambaaLater
import Derived.Test.YthiajonjleambaaQuiet
import Derived.Lib.SmallJoins
import Derived.Deep.Slices
namespace Go.Proofs.Ythiajonjleambaa.SumBlock
open Go.ChangeShapes Go.WideShapes Go.ChangeAt Go.RowKit Go.Proofs.Ythiajonjleambaa.By
set_option linter.unusedVariables false
-- witness .agg #[.int .u32 0, .int .u32 0]
-- witness .string ByteArray.empty
-- witness .int .i64 0
-- witness .agg #[.int .u8 0, .int .u8 0, .int .u8 0, .int .u8 0, .int .u8 0, .int .u8 0, .int .u8 0, .int .u8 0]
/- SumBlock: whatever pair and text, the text with one block changed alone gives another pair just if it is another text. No conditions. -/
open Go.Proofs.Ythiajonjleambaa.Sum
theorem eq_told (p q : Nat × Nat) (b : Bool) (h : (p = q) = (b = true)) (w : World) : (binOp .eql 24 (.agg #[.int .u32 (p.1 : Int), .int .u32 (p.2 : Int)]) (.agg #[.int .u32 (q.1 : Int), .int .u32 (q.2 : Int)])).run Try.prog w = .ok (.bool b) w := by
  rw [eql_pair]
  congr 2
  rw [Bool.eq_iff_iff, ← h, Bool.and_eq_true, beq_iff_eq, beq_iff_eq]
  constructor
  · rintro ⟨h1, h2⟩; exact Prod.ext (by omega) (by omega)
  · rintro rfl; exact ⟨rfl, rfl⟩
theorem arr8_len : Try.prog.arrayLen 25 = 8 := by kernel_rfl
theorem arr8 : Try.prog.underlying 25 = some (.array (Try.prog.arrayLen 25) (Try.prog.elem 25)) := by kernel_rfl
theorem arr8_size (w : World) : (sizeOf (Try.prog.elem 25)).run Try.prog w = .ok 1 w := by kernel_rfl
theorem conv_part {e : TypeId} (w : World) (g k : Nat) (c : List UInt8) (hk : k ≤ 8) (hc : c.length = 8) (hg : w.heap[g]? = some (.cells (cellsOf c) e (0, 0))) :
    (convert 27 9 (.slice (some ⟨g, 0, none⟩) k 8)).run Try.prog w = .ok (str (c.take k)) w := by
  refine conv_at w 27 5 9 Num.cv_u8 Num.ty_u8 Num.ty_str g 0 k 8 (c.take k) (by simp; omega) ?_
  intro i hi
  simp at hi
  rw [cell_of_row w g _ _ _ _ hg, Nat.zero_add, cellsOf_get c i (by omega)]
  simp
set_option maxRecDepth 100000 in
set_option maxHeartbeats 4000000 in
theorem walkIn (a b n F T : Nat) (s : ByteArray) (c : List UInt8) (w : World) (hs : s.size ≤ 65536) (hn : n < s.size) (hF : F = n / 8 * 8) (hT : (F + 8 ≤ s.size ∧ T = F + 8) ∨ (s.size < F + 8 ∧ T = s.size)) (hc : c.length = 8) :
    Calls Try.prog 3 #[.agg #[.int .u32 (a : Int), .int .u32 (b : Int)], .string s, .int .i64 (n : Int), .agg (cellsOf c)] w fun e w' => e = .returned (.bool true) ∧ Below w.heap.size w w' := by
  have hfi : (n : Int) / 8 * 8 = (F : Int) := by omega
  have h65 : decide (65536 < (s.size : Int)) = false := decide_eq_false (by omega)
  have hFn : F ≤ n := by omega
  have hnF : n < F + 8 := by omega
  have HF := Lib.hid hF
  have HC := Lib.hid hc
  clear hF hc
  rcases hT with ⟨hT1, rfl⟩ | ⟨hT1, rfl⟩
  · have ht2 : (F : Int) + 8 ≤ (s.size : Int) := by omega
    obtain ⟨B, hB⟩ : ∃ B : ByteArray, B = ⟨(c.take (8)).toArray⟩ := ⟨_, rfl⟩
    obtain ⟨Y, hY⟩ : ∃ Y : ByteArray, Y = s.extract 0 F ++ B := ⟨_, rfl⟩
    obtain ⟨X, hX⟩ : ∃ X : ByteArray, X = Y ++ s.extract (F + 8) s.size := ⟨_, rfl⟩
    have lB : B.size = 8 := by rw [hB]; show (c.take (8)).toArray.size = _; first | (simp [HC.out]; done) | (simp [HC.out]; omega)
    have lY : Y.size = F + (8) := by rw [hY, ByteArray.size_append, ByteArray.size_extract, lB]; omega
    have hadd1 := fun w => run_string_add_sum (P := Try.prog) w (s.extract 0 F) B (by rw [ByteArray.size_extract, lB]; omega)
    have hadd2 := fun w => run_string_add_sum (P := Try.prog) w Y (s.extract (F + 8) s.size) (by rw [ByteArray.size_extract, lY]; omega)
    rw [← hY] at hadd1
    rw [← hX] at hadd2
    have hconv := fun (w : World) (g : Nat) (hg : w.heap[g]? = some (.cells (cellsOf c) 25 (0, 0))) => conv_part w g (8) c (by first | omega | decide) HC.out hg
    have key : (addL (a, b) X.data.toList = addL (a, b) s.data.toList) = (s = X) := by
      have e0 : s.data.toList = s.data.toList.take F ++ ((s.data.toList.drop F).take (8) ++ s.data.toList.drop (F + 8)) := by
        rw [show s.data.toList.drop (F + 8) = (s.data.toList.drop F).drop (8) by rw [List.drop_drop]; try (congr 1; omega), List.take_append_drop, List.take_append_drop]
      have e1 : X.data.toList = s.data.toList.take F ++ (c.take (8) ++ s.data.toList.drop (F + 8)) := by
        rw [hX, hY, hB]
        simp only [ByteArray.data_append, Array.toList_append, List.append_assoc, extract_tail]
        congr 1
        simp
      have h := block_apart (a, b) (s.data.toList.take F) ((s.data.toList.drop F).take (8)) (c.take (8)) (s.data.toList.drop (F + 8)) (n / 8)
        (by rw [List.length_take, Array.length_toList, ByteArray.size_data]; have := HF.out; omega)
        (by rw [List.length_take, List.length_drop, Array.length_toList, ByteArray.size_data]; omega)
        (by rw [List.length_take]; omega)
        (by rw [List.length_take, List.length_take, List.length_drop, HC.out, Array.length_toList, ByteArray.size_data]; omega)
        (.inl (by rw [List.length_take, List.length_drop, Array.length_toList, ByteArray.size_data]; omega))
      rw [← e0, ← e1] at h
      rw [h, eq_iff_iff]
      constructor
      · intro e; exact ByteArray.ext (Array.toList_inj.1 e)
      · intro e; rw [e]
    have lX : X.size ≤ 65536 + 16 := by rw [hX, ByteArray.size_append, ByteArray.size_extract, lY]; omega
    obtain ⟨x, hx⟩ : ∃ x, x = addL (a, b) X.data.toList := ⟨_, rfl⟩
    obtain ⟨y, hy⟩ : ∃ y, y = addL (a, b) s.data.toList := ⟨_, rfl⟩
    obtain ⟨bb, hbb⟩ : ∃ bb : Bool, bb = decide (s = X) := ⟨_, rfl⟩
    have h1 : ∀ u, Calls Try.prog 5 #[.agg #[.int .u32 (a : Int), .int .u32 (b : Int)], .string X] u fun e w' => e = .returned (.agg #[.int .u32 (x.1 : Int), .int .u32 (x.2 : Int)]) ∧ Below u.heap.size u w' := fun u => hx ▸ add (a, b) X u
    have h2 : ∀ u, Calls Try.prog 5 #[.agg #[.int .u32 (a : Int), .int .u32 (b : Int)], .string s] u fun e w' => e = .returned (.agg #[.int .u32 (y.1 : Int), .int .u32 (y.2 : Int)]) ∧ Below u.heap.size u w' := fun u => hy ▸ add (a, b) s u
    have heq := eq_told x y bb (by rw [hx, hy, hbb, key]; simp)
    have hsx : (s.toList == X.toList) = bb := by rw [hbb, str_eq]
    have hxe : s.extract 0 F ++ ⟨(c.take 8).toArray⟩ ++ s.extract (F + 8) s.size = X := by rw [hX, hY, hB]; try simp
    have HXE := Lib.hid hxe
    have H1 := Lib.hid h1
    have H2 := Lib.hid h2
    have HCV := Lib.hid hconv
    have HSX := Lib.hid hsx
    clear h1 h2 hx hy key hxe hbb hX hY hB lB lY lX hsx hconv
    go_enter Try.func3, Try.ntmps3
    go_wp2_with fail
    refine (works _).mono ?_
    rintro e w1 ⟨rfl, hb1⟩
    go_wp2_with fail
    have hbel : Below w.heap.size w w1 := (((Below.refl _ _).alloc (Nat.le_refl _) _).alloc (by simp) _).trans (hb1.mono (by simp; omega))
    have hblk : w1.heap[w.heap.size + 1]? = some (.cells (cellsOf c) 25 (0, 0)) := by
      rw [hb1.block _ (by simp)]
      have := heap_alloc_new (w.alloc (.cells #[.int .u32 (a : Int), .int .u32 (b : Int)] 24)) (.cells (cellsOf c) 25)
      simpa using this
    have o0 := lat_cell (w := w1) (p := ⟨w.heap.size, 0, none⟩) (v := .int .u32 (a : Int)) (by rw [hb1.cell (by simp; omega)]; go_simp)
    have o1 := lat_cell (w := w1) (p := ⟨w.heap.size, 1, none⟩) (v := .int .u32 (b : Int)) (by rw [hb1.cell (by simp; omega)]; go_simp)
    have hcv := fun e : Later w1 => HCV.out (lat w1 e) (w.heap.size + 1) (((lat_below w1 e).block _ (Array.getElem?_eq_some_iff.1 hblk).1).trans hblk)
    have hsl := fun e : Later w1 => sliceAt_h (lat w1 e) 25 arr8 8 arr8_len (arr8_size _) (w.heap.size + 1) ((F : Int) + 8 - F) (8) (by omega) (by omega)
    clear hb1 hblk
    refine wp_region_later (by kernel_rfl) (by kernel_rfl) ?_
    repeat (go_big_quiet_step (fail))
    refine wpQuiet_nil ?_
    refine later_out (fun w2 hb2 => ?_)
    rw [HXE.out]
    have p0 : w2.cell? ⟨w.heap.size, 0, none⟩ = some (.int .u32 (a : Int)) := o0 ⟨w2, hb2⟩
    have p1 : w2.cell? ⟨w.heap.size, 1, none⟩ = some (.int .u32 (b : Int)) := o1 ⟨w2, hb2⟩
    clear o0 o1 hcv hsl
    go_wp2_with fail
    have o0 := lat_cell p0
    have o1 := lat_cell p1
    have hsx := HSX.out
    refine wp_region_later (by kernel_rfl) (by kernel_rfl) ?_
    repeat (go_big_quiet_step ((first | (go_at_call 5; (with_reducible refine lat_calls (H1.out _))) | (go_at_call 5; (with_reducible refine lat_calls (H2.out _))))))
    refine wpQuiet_nil ?_
    refine later_out (fun w3 hb3 => ?_)
    go_wp2_with fail
    go_ret
    exact ⟨by simp, next (next hbel hb2) hb3⟩
  · have ht2 : ¬ (F : Int) + 8 ≤ (s.size : Int) := by omega
    obtain ⟨B, hB⟩ : ∃ B : ByteArray, B = ⟨(c.take (s.size - F)).toArray⟩ := ⟨_, rfl⟩
    obtain ⟨Y, hY⟩ : ∃ Y : ByteArray, Y = s.extract 0 F ++ B := ⟨_, rfl⟩
    obtain ⟨X, hX⟩ : ∃ X : ByteArray, X = Y ++ s.extract (s.size) s.size := ⟨_, rfl⟩
    have lB : B.size = s.size - F := by rw [hB]; show (c.take (s.size - F)).toArray.size = _; first | (simp [HC.out]; done) | (simp [HC.out]; omega)
    have lY : Y.size = F + (s.size - F) := by rw [hY, ByteArray.size_append, ByteArray.size_extract, lB]; omega
    have hadd1 := fun w => run_string_add_sum (P := Try.prog) w (s.extract 0 F) B (by rw [ByteArray.size_extract, lB]; omega)
    have hadd2 := fun w => run_string_add_sum (P := Try.prog) w Y (s.extract (s.size) s.size) (by rw [ByteArray.size_extract, lY]; omega)
    rw [← hY] at hadd1
    rw [← hX] at hadd2
    have hconv := fun (w : World) (g : Nat) (hg : w.heap[g]? = some (.cells (cellsOf c) 25 (0, 0))) => conv_part w g (s.size - F) c (by first | omega | decide) HC.out hg
    have key : (addL (a, b) X.data.toList = addL (a, b) s.data.toList) = (s = X) := by
      have e0 : s.data.toList = s.data.toList.take F ++ ((s.data.toList.drop F).take (s.size - F) ++ s.data.toList.drop (s.size)) := by
        rw [show s.data.toList.drop (s.size) = (s.data.toList.drop F).drop (s.size - F) by rw [List.drop_drop]; try (congr 1; omega), List.take_append_drop, List.take_append_drop]
      have e1 : X.data.toList = s.data.toList.take F ++ (c.take (s.size - F) ++ s.data.toList.drop (s.size)) := by
        rw [hX, hY, hB]
        simp only [ByteArray.data_append, Array.toList_append, List.append_assoc, extract_tail]
        congr 1
        simp
      have h := block_apart (a, b) (s.data.toList.take F) ((s.data.toList.drop F).take (s.size - F)) (c.take (s.size - F)) (s.data.toList.drop (s.size)) (n / 8)
        (by rw [List.length_take, Array.length_toList, ByteArray.size_data]; have := HF.out; omega)
        (by rw [List.length_take, List.length_drop, Array.length_toList, ByteArray.size_data]; omega)
        (by rw [List.length_take]; omega)
        (by rw [List.length_take, List.length_take, List.length_drop, HC.out, Array.length_toList, ByteArray.size_data]; omega)
        (.inr (List.drop_eq_nil_of_le (by rw [Array.length_toList, ByteArray.size_data]; omega)))
      rw [← e0, ← e1] at h
      rw [h, eq_iff_iff]
      constructor
      · intro e; exact ByteArray.ext (Array.toList_inj.1 e)
      · intro e; rw [e]
    have lX : X.size ≤ 65536 + 16 := by rw [hX, ByteArray.size_append, ByteArray.size_extract, lY]; omega
    obtain ⟨x, hx⟩ : ∃ x, x = addL (a, b) X.data.toList := ⟨_, rfl⟩
    obtain ⟨y, hy⟩ : ∃ y, y = addL (a, b) s.data.toList := ⟨_, rfl⟩
    obtain ⟨bb, hbb⟩ : ∃ bb : Bool, bb = decide (s = X) := ⟨_, rfl⟩
    have h1 : ∀ u, Calls Try.prog 5 #[.agg #[.int .u32 (a : Int), .int .u32 (b : Int)], .string X] u fun e w' => e = .returned (.agg #[.int .u32 (x.1 : Int), .int .u32 (x.2 : Int)]) ∧ Below u.heap.size u w' := fun u => hx ▸ add (a, b) X u
    have h2 : ∀ u, Calls Try.prog 5 #[.agg #[.int .u32 (a : Int), .int .u32 (b : Int)], .string s] u fun e w' => e = .returned (.agg #[.int .u32 (y.1 : Int), .int .u32 (y.2 : Int)]) ∧ Below u.heap.size u w' := fun u => hy ▸ add (a, b) s u
    have heq := eq_told x y bb (by rw [hx, hy, hbb, key]; simp)
    have hsx : (s.toList == X.toList) = bb := by rw [hbb, str_eq]
    have hxe : s.extract 0 F ++ ⟨(c.take (s.size - F)).toArray⟩ = X := by rw [hX, hY, hB]; try simp
    have HXE := Lib.hid hxe
    have H1 := Lib.hid h1
    have H2 := Lib.hid h2
    have HCV := Lib.hid hconv
    have HSX := Lib.hid hsx
    clear h1 h2 hx hy key hxe hbb hX hY hB lB lY lX hsx hconv
    go_enter Try.func3, Try.ntmps3
    go_wp2_with fail
    refine (works _).mono ?_
    rintro e w1 ⟨rfl, hb1⟩
    go_wp2_with fail
    have hbel : Below w.heap.size w w1 := (((Below.refl _ _).alloc (Nat.le_refl _) _).alloc (by simp) _).trans (hb1.mono (by simp; omega))
    have hblk : w1.heap[w.heap.size + 1]? = some (.cells (cellsOf c) 25 (0, 0)) := by
      rw [hb1.block _ (by simp)]
      have := heap_alloc_new (w.alloc (.cells #[.int .u32 (a : Int), .int .u32 (b : Int)] 24)) (.cells (cellsOf c) 25)
      simpa using this
    have o0 := lat_cell (w := w1) (p := ⟨w.heap.size, 0, none⟩) (v := .int .u32 (a : Int)) (by rw [hb1.cell (by simp; omega)]; go_simp)
    have o1 := lat_cell (w := w1) (p := ⟨w.heap.size, 1, none⟩) (v := .int .u32 (b : Int)) (by rw [hb1.cell (by simp; omega)]; go_simp)
    have hcv := fun e : Later w1 => HCV.out (lat w1 e) (w.heap.size + 1) (((lat_below w1 e).block _ (Array.getElem?_eq_some_iff.1 hblk).1).trans hblk)
    have hsl := fun e : Later w1 => sliceAt_h (lat w1 e) 25 arr8 8 arr8_len (arr8_size _) (w.heap.size + 1) ((s.size : Int) - F) (s.size - F) (by omega) (by omega)
    clear hb1 hblk
    refine wp_region_later (by kernel_rfl) (by kernel_rfl) ?_
    repeat (go_big_quiet_step (fail))
    refine wpQuiet_nil ?_
    refine later_out (fun w2 hb2 => ?_)
    rw [HXE.out]
    have p0 : w2.cell? ⟨w.heap.size, 0, none⟩ = some (.int .u32 (a : Int)) := o0 ⟨w2, hb2⟩
    have p1 : w2.cell? ⟨w.heap.size, 1, none⟩ = some (.int .u32 (b : Int)) := o1 ⟨w2, hb2⟩
    clear o0 o1 hcv hsl
    go_wp2_with fail
    have o0 := lat_cell p0
    have o1 := lat_cell p1
    have hsx := HSX.out
    refine wp_region_later (by kernel_rfl) (by kernel_rfl) ?_
    repeat (go_big_quiet_step ((first | (go_at_call 5; (with_reducible refine lat_calls (H1.out _))) | (go_at_call 5; (with_reducible refine lat_calls (H2.out _))))))
    refine wpQuiet_nil ?_
    refine later_out (fun w3 hb3 => ?_)
    go_wp2_with fail
    go_ret
    exact ⟨by simp, next (next hbel hb2) hb3⟩
set_option maxRecDepth 100000 in
theorem walk (a b : Nat) (s : ByteArray) (i : Int) (c : List UInt8) (w : World) (hi0 : -9223372036854775808 ≤ i) (hi1 : i ≤ 9223372036854775807) (hc : c.length = 8) (hs : s.size ≤ 140737488351232) :
    Calls Try.prog 3 #[.agg #[.int .u32 (a : Int), .int .u32 (b : Int)], .string s, .int .i64 i, .agg (cellsOf c)] w fun e w' => e = .returned (.bool true) ∧ Below w.heap.size w w' := by
  by_cases h1 : 65536 < s.size
  · have h1' : (65536 : Int) < (s.size : Int) := by omega
    go_enter Try.func3, Try.ntmps3
    go_wp2_with fail
    refine (works _).mono ?_
    rintro e w1 ⟨rfl, hb1⟩
    go_wp2_with fail
    go_ret
    exact ⟨rfl, (((Below.refl _ _).alloc (Nat.le_refl _) _).alloc (by simp) _).trans (hb1.mono (by simp; omega))⟩
  · by_cases h2 : i < 0
    · have h1' : decide ((65536 : Int) < (s.size : Int)) = false := decide_eq_false (by omega)
      go_enter Try.func3, Try.ntmps3
      go_wp2_with fail
      refine (works _).mono ?_
      rintro e w1 ⟨rfl, hb1⟩
      go_wp2_with fail
      go_ret
      exact ⟨rfl, (((Below.refl _ _).alloc (Nat.le_refl _) _).alloc (by simp) _).trans (hb1.mono (by simp; omega))⟩
    · by_cases h3 : (s.size : Int) ≤ i
      · have h1' : decide ((65536 : Int) < (s.size : Int)) = false := decide_eq_false (by omega)
        have h2' : decide (i < 0) = false := decide_eq_false h2
        go_enter Try.func3, Try.ntmps3
        go_wp2_with fail
        refine (works _).mono ?_
        rintro e w1 ⟨rfl, hb1⟩
        go_wp2_with fail
        go_ret
        exact ⟨rfl, (((Below.refl _ _).alloc (Nat.le_refl _) _).alloc (by simp) _).trans (hb1.mono (by simp; omega))⟩
      · obtain ⟨n, rfl⟩ := Int.eq_ofNat_of_zero_le (show 0 ≤ i by omega)
        refine walkIn a b n (n / 8 * 8) (min (n / 8 * 8 + 8) s.size) s c w (by omega) (by omega) rfl ?_ hc
        omega
theorem opened {H : Type} (enc : TypeId × Value → H) (W : World) (args : Array Value) (ds : List (DataW H)) (p : List MemPlace) :
    Lift.Owes enc Try.prog 3 Try.f3.params.toList W args ds p := by
  intro hA hval hsz _
  rw [Try.params3] at hA hval hsz
  obtain ⟨v0, vs0, d0, ds0, p0, q0, hargs, rfl, rfl, h0, r0⟩ := trodAll_cons hA
  obtain ⟨v1, vs1, d1, ds1, p1, q1, rfl, rfl, rfl, h1, r1⟩ := trodAll_cons r0
  obtain ⟨v2, vs2, d2, ds2, p2, q2, rfl, rfl, rfl, h2, r2⟩ := trodAll_cons r1
  obtain ⟨v3, vs3, d3, ds3, p3, q3, rfl, rfl, rfl, h3, r3⟩ := trodAll_cons r2
  obtain ⟨rfl, rfl, rfl⟩ := trodAll_nil r3
  obtain rfl : args = #[v0, v1, v2, v3] := by cases args; simp_all
  obtain ⟨base0, hv0⟩ := hval 0 _ v0 rfl rfl
  obtain ⟨x0, y0, e0, g0, m0, rfl, rfl, rfl, hx0, hy0⟩ := Joins.open_agg2 Try.underlying24 (by kernel_rfl) (by kernel_rfl) hv0 h0
  obtain ⟨xn0, cx0, rfl, wx0⟩ := DataW.trod_int Try.underlying22 hx0
  simp at cx0; subst cx0
  obtain ⟨lx0, ux0⟩ := bounds_u32 wx0
  obtain ⟨xm0, rfl⟩ := Int.eq_ofNat_of_zero_le lx0
  obtain ⟨yn0, cy0, rfl, wy0⟩ := DataW.trod_int Try.underlying22 hy0
  simp at cy0; subst cy0
  obtain ⟨ly0, uy0⟩ := bounds_u32 wy0
  obtain ⟨ym0, rfl⟩ := Int.eq_ofNat_of_zero_le ly0
  obtain ⟨base1, hv1⟩ := hval 1 _ v1 rfl rfl
  obtain ⟨s1, rfl, rfl, rfl, ws1⟩ := ChangeMaps.open_string Try.underlying9 hv1 h1
  have z1 := sized_string hsz (j := 1) rfl rfl
  simp only [reachBytes, Array.length_toList] at z1
  obtain ⟨base2, hv2⟩ := hval 2 _ v2 rfl rfl
  obtain ⟨a2, rfl, rfl, rfl, wa2⟩ := open_int Try.underlying3 hv2 h2
  obtain ⟨l2, u2⟩ := bounds_i64 wa2
  obtain ⟨base3, hv3⟩ := hval 3 _ v3 rfl rfl
  obtain ⟨c, rfl, hc⟩ : ∃ c : List UInt8, v3 = .agg (cellsOf c) ∧ c.length = 8 := by
    simp only [Value.okWide, Try.underlying25] at hv3
    obtain ⟨cs, rfl, hsz3, _⟩ := hv3
    rw [show Try.prog.cellsOf 25 = 8 by kernel_rfl] at hsz3
    obtain ⟨fuel, hf⟩ := h3
    obtain ⟨xs, m, rfl, _, hl, hx, hall⟩ := DataW.trod_array Try.underlying25 hf
    rw [show Try.prog.cellsOf 5 = 1 by kernel_rfl] at hall
    have hcell : ∀ i, i < 8 → ∃ b : UInt8, cs.toList[i]? = some (byte b) := by
      intro i hi
      have h := hall i hi
      have hlt : i < cs.toList.length := by rw [Array.length_toList]; omega
      have e1 : ((Value.agg cs).cells.toList.drop (i * 1)).take 1 = [cs.toList[i]] := by
        rw [Nat.mul_one]
        show (cs.toList.drop i).take 1 = _
        rw [List.drop_eq_getElem_cons hlt]
        rfl
      rw [e1, List.getElem?_eq_getElem (by omega)] at h
      obtain ⟨n, cx, _, wn⟩ := DataW.trod_int Try.underlying5 h
      obtain ⟨ln, un⟩ := bounds_u8 wn
      have cx' : cs.toList[i] = .int .u8 n := by simpa using cx
      obtain ⟨k, rfl⟩ := Int.eq_ofNat_of_zero_le ln
      refine ⟨UInt8.ofNat k, ?_⟩
      rw [List.getElem?_eq_getElem hlt, cx']
      simp only [byte]
      rw [show (((UInt8.ofNat k).toNat : Nat) : Int) = (k : Int) by simp; omega]
    obtain ⟨f, hf⟩ := Go.Deep.choose_lt hcell
    refine ⟨(List.range 8).map f, ?_, by simp⟩
    congr 1
    apply Array.ext_getElem?
    intro i
    rcases Nat.lt_or_ge i 8 with h | h
    · rw [cellsOf_get _ i (by simpa using h), ← Array.getElem?_toList, hf i h]
      simp
    · rw [Array.getElem?_eq_none (by omega), Array.getElem?_eq_none (by simp [cellsOf_size]; omega)]
  exact walk xm0 ym0 s1 a2 c W (by omega) (by omega) hc z1

theorem own : ownKnob Try.prog.godebug = none := by kernel_rfl
theorem laid : laidOutB Try.prog = true := by kernel_rfl

set_option maxRecDepth 100000 in
theorem lifted (os : Os) (started : os.Started) (H : Type) (enc : TypeId × Value → H) :
    ReturnsInHanded {} Try.checked os 3 .any (Rows.sumBlockSpec.pre6 enc Try.prog Try.f3 Rows.sumBlockRow.domain false)
      (Rows.sumBlockSpec.post enc Try.prog Try.f3 false true false false) := by
  refine Lift.lifted (C := Try.checked) own started (by kernel_rfl) Try.func3
    (ChangeSpec.witness6 (enc := enc) (C := Try.checked) false ⟨#[], #[.agg #[.int .u32 0, .int .u32 0], .string ByteArray.empty, .int .i64 0, .agg #[.int .u8 0, .int .u8 0, .int .u8 0, .int .u8 0, .int .u8 0, .int .u8 0, .int .u8 0, .int .u8 0]], []⟩ 8 (by kernel_rfl) (by kernel_rfl) (by kernel_rfl) (by kernel_rfl))
    laid (by rw [Try.params3]; intro t ht; simp at ht; rcases ht with rfl | rfl | rfl | rfl <;> exact ⟨by kernel_rfl, of_decide_eq_true (by kernel_rfl)⟩) rfl 4 rfl Try.underlying4
    (fun ds hds => by match ds, hds with | [_, _, _, _], _ => rfl) (opened enc)

theorem said : Rows.SumBlockSaid :=
  OpenClaim.holds_of_wide 3 Try.f3 rfl rfl rfl rfl rfl rfl rfl ⟨rfl, rfl, rfl, rfl, rfl⟩ rfl rfl rfl rfl rfl (by kernel_rfl) Try.func3 (by kernel_rfl)
    (of_decide_eq_true (by kernel_rfl)) (by unfold Func.isWrapper; first | (rw [if_pos (by decide +kernel)]; kernel_rfl) | (rw [if_neg (by decide +kernel)]; exact ⟨rfl, rfl⟩))
    (fun os started H enc _ => lifted os started H enc)
#print axioms said
end Go.Proofs.Ythiajonjleambaa.SumBlock
