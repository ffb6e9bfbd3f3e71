import Derived.Test.YtjgkeillmelkoaaGreatBk15
import Derived.Test.YtjgkeillmelkoaaGreatBk16
import Derived.Test.YtjgkeillmelkoaaGreatBk07
namespace Go.Proofs.YtjgkeillmelkoaaGreat.Dt
open Go.RowKit Go.Proofs.YtjgkeillmelkoaaGreat.By

theorem put_name (s : ByteArray) : putR (.mk 2 V00 ⟨#[]⟩ s 0 []) = (s, isNm s) := by
  simp [putR, putKs, topR, V00]
theorem put_dot (t s : ByteArray) (ht : t ≠ ⟨#[]⟩) : putR (.mk 2 V00 t s 0 []) = ((t ++ ⟨#[32, 46, 32]⟩) ++ s, isNm t && isNm s) := by
  simp [putR, putKs, topR, V00, ht]
theorem put_int (n : Nat) : putR (.val1 ⟨1, (n : Int), ⟨#[]⟩⟩) = ((litR ⟨1, (n : Int), ⟨#[]⟩⟩).1, (litR ⟨1, (n : Int), ⟨#[]⟩⟩).2) := by
  simp [PE.val1, putR, putKs, topR]
abbrev sgC : Array Value := #[.string ⟨#[43]⟩, .string ⟨#[45]⟩, .string ⟨#[42]⟩, .string ⟨#[47]⟩, .string ⟨#[37]⟩, .string ⟨#[124, 124]⟩, .string ⟨#[61]⟩, .string ⟨#[60, 62]⟩, .string ⟨#[60]⟩, .string ⟨#[60, 61]⟩, .string ⟨#[62]⟩, .string ⟨#[62, 61]⟩, .string ⟨#[65, 78, 68]⟩, .string ⟨#[79, 82]⟩]
set_option maxRecDepth 100000 in
set_option maxHeartbeats 8000000 in
theorem putNameW (s : ByteArray) (hn : IsNmW s) : PutW (.mk 2 V00 ⟨#[]⟩ s 0 []) := by
  intro kv W hk
  obtain ⟨ka, kc, rfl, _⟩ := hk.shape
  rw [put_name]
  have HR := Lib.hid (row_alloc W 44 #[.int .u8 2, .int .u8 0, .int .i64 0, .string ⟨#[]⟩, .string ⟨#[]⟩, .string s, .int .i64 0, .slice ka 0 kc])
  have HB : Hid (Below W.heap.size W (W.alloc (.cells #[.int .u8 2, .int .u8 0, .int .i64 0, .string ⟨#[]⟩, .string ⟨#[]⟩, .string s, .int .i64 0, .slice ka 0 kc] 44))) := Lib.hid ((Below.refl _ _).alloc (Nat.le_refl _) _)
  have HN := Lib.hid hn
  clear hn hk
  show Calls _ _ #[.agg #[.int .u8 2, .int .u8 0, .int .i64 0, .string ⟨#[]⟩, .string ⟨#[]⟩, .string s, .int .i64 0, .slice ka 0 kc]] _ _
  go_enter Tryz.func91, Tryz.ntmps91
  go_upto_region 1 with fail
  generalize W.alloc (.cells #[.int .u8 2, .int .u8 0, .int .i64 0, .string ⟨#[]⟩, .string ⟨#[]⟩, .string s, .int .i64 0, .slice ka 0 kc] 44) = w1 at *
  have c7 := HR.out.cell (i := 7) (v := .slice ka 0 kc) rfl
  go_wp2_with fail
  go_loopg [4, 5, 6, 7] 0 (fun gk sv bv lv iv wr => sv = .string ⟨#[]⟩ ∧ bv = .bool true ∧ lv = .slice none 0 0 ∧ iv = .int .i64 0 ∧ wr = w1)
  case atStart => exact ⟨rfl, rfl, rfl, rfl, rfl⟩
  case round =>
    obtain ⟨rfl, rfl, rfl, rfl, rfl⟩ := hrel
    go_upto_region 16 with fail
    have hb2 := (Below.refl _ wr).alloc (Nat.le_refl _) (.cells #[.string ⟨#[43]⟩, .string ⟨#[45]⟩, .string ⟨#[42]⟩, .string ⟨#[47]⟩, .string ⟨#[37]⟩, .string ⟨#[124, 124]⟩, .string ⟨#[61]⟩, .string ⟨#[60, 62]⟩, .string ⟨#[60]⟩, .string ⟨#[60, 61]⟩, .string ⟨#[62]⟩, .string ⟨#[62, 61]⟩, .string ⟨#[65, 78, 68]⟩, .string ⟨#[79, 82]⟩] 9)
    have HR2 := Lib.hid (HR.out.later hb2)
    have HB2 := Lib.hid (next HB.out hb2)
    clear hb2 c7 HR HB
    generalize wr.alloc (.cells #[.string ⟨#[43]⟩, .string ⟨#[45]⟩, .string ⟨#[42]⟩, .string ⟨#[47]⟩, .string ⟨#[37]⟩, .string ⟨#[124, 124]⟩, .string ⟨#[61]⟩, .string ⟨#[60, 62]⟩, .string ⟨#[60]⟩, .string ⟨#[60, 61]⟩, .string ⟨#[62]⟩, .string ⟨#[62, 61]⟩, .string ⟨#[65, 78, 68]⟩, .string ⟨#[79, 82]⟩] 9) = w2 at *
    have c0 := HR2.out.cell (i := 0) (v := .int .u8 2) rfl
    have c1 := HR2.out.cell (i := 1) (v := .int .u8 0) rfl
    have c2 := HR2.out.cell (i := 2) (v := .int .i64 0) rfl
    have c3 := HR2.out.cell (i := 3) (v := .string ⟨#[]⟩) rfl
    have c4 := HR2.out.cell (i := 4) (v := .string ⟨#[]⟩) rfl
    have c5 := HR2.out.cell (i := 5) (v := .string s) rfl
    have c6 := HR2.out.cell (i := 6) (v := .int .i64 0) rfl
    have he : (⟨#[]⟩ : ByteArray).toList.isEmpty = true := by rw [ByteArray.toList_eq]; rfl
    go_upto_region 24 with fail
    have l0 := lat_cell c5
    clear c0 c1 c2 c3 c4 c6
    refine wp_region_later (by kernel_rfl) (by kernel_rfl) ?_
    repeat (go_big_quiet_step (exact lat_calls (HN.out _)))
    refine wpQuiet_nil ?_
    refine later_out (fun w4 hb4 => ?_)
    go_wp2_with fail
    go_ret2
    exact ⟨rfl, next HB2.out hb4⟩
set_option maxRecDepth 100000 in
set_option maxHeartbeats 8000000 in
theorem putDotW (t s : ByteArray) (ht : t ≠ ⟨#[]⟩) (hz : t.size + s.size + 3 ≤ 1000000000) (hn : IsNmW t) (hm : IsNmW s) : PutW (.mk 2 V00 t s 0 []) := by
  intro kv W hk
  obtain ⟨ka, kc, rfl, _⟩ := hk.shape
  rw [put_dot _ _ ht]
  have HR := Lib.hid (row_alloc W 44 #[.int .u8 2, .int .u8 0, .int .i64 0, .string ⟨#[]⟩, .string t, .string s, .int .i64 0, .slice ka 0 kc])
  have HB : Hid (Below W.heap.size W (W.alloc (.cells #[.int .u8 2, .int .u8 0, .int .i64 0, .string ⟨#[]⟩, .string t, .string s, .int .i64 0, .slice ka 0 kc] 44))) := Lib.hid ((Below.refl _ _).alloc (Nat.le_refl _) _)
  have HN := Lib.hid hn
  have HM := Lib.hid hm
  have HT := Lib.hid ht
  obtain ⟨B, hB⟩ : ∃ B, isNm t = B := ⟨_, rfl⟩
  have HN2 : Hid (∀ W : World, Calls Tryz.prog 90 #[.string t] W fun e w' => e = .returned (.bool B) ∧ Below W.heap.size W w') := Lib.hid (by rw [← hB]; exact HN.out)
  rw [hB]
  clear hB
  have ha : ∀ W, (Op.stringOp .add t ⟨#[32, 46, 32]⟩).run Tryz.prog W = .ok (.string (t ++ ⟨#[32, 46, 32]⟩)) W := fun W => run_string_add_sum (P := Tryz.prog) W _ _ (by show t.size + 3 ≤ _; omega)
  obtain ⟨v, hv⟩ : ∃ v : ByteArray, v = t ++ ⟨#[32, 46, 32]⟩ := ⟨_, rfl⟩
  rw [← hv] at ha ⊢
  have hb : ∀ W, (Op.stringOp .add v s).run Tryz.prog W = .ok (.string (v ++ s)) W := fun W => run_string_add_sum (P := Tryz.prog) W _ _ (by
    have : v.size = t.size + 3 := by rw [hv]; simp [ByteArray.size_append]; rfl
    omega)
  have HA := Lib.hid ha
  have HBB := Lib.hid hb
  clear hn hm hk hz hv ha hb
  show Calls _ _ #[.agg #[.int .u8 2, .int .u8 0, .int .i64 0, .string ⟨#[]⟩, .string t, .string s, .int .i64 0, .slice ka 0 kc]] _ _
  go_enter Tryz.func91, Tryz.ntmps91
  go_upto_region 1 with fail
  generalize W.alloc (.cells #[.int .u8 2, .int .u8 0, .int .i64 0, .string ⟨#[]⟩, .string t, .string s, .int .i64 0, .slice ka 0 kc] 44) = w1 at *
  have c7 := HR.out.cell (i := 7) (v := .slice ka 0 kc) rfl
  go_wp2_with fail
  go_loopg [4, 5, 6, 7] 0 (fun gk sv bv lv iv wr => sv = .string ⟨#[]⟩ ∧ bv = .bool true ∧ lv = .slice none 0 0 ∧ iv = .int .i64 0 ∧ wr = w1)
  case atStart => exact ⟨rfl, rfl, rfl, rfl, rfl⟩
  case round =>
    obtain ⟨rfl, rfl, rfl, rfl, rfl⟩ := hrel
    go_upto_region 16 with fail
    have hb2 := (Below.refl _ wr).alloc (Nat.le_refl _) (.cells #[.string ⟨#[43]⟩, .string ⟨#[45]⟩, .string ⟨#[42]⟩, .string ⟨#[47]⟩, .string ⟨#[37]⟩, .string ⟨#[124, 124]⟩, .string ⟨#[61]⟩, .string ⟨#[60, 62]⟩, .string ⟨#[60]⟩, .string ⟨#[60, 61]⟩, .string ⟨#[62]⟩, .string ⟨#[62, 61]⟩, .string ⟨#[65, 78, 68]⟩, .string ⟨#[79, 82]⟩] 9)
    have HR2 := Lib.hid (HR.out.later hb2)
    have HB2 := Lib.hid (next HB.out hb2)
    clear hb2 c7 HR HB
    generalize wr.alloc (.cells #[.string ⟨#[43]⟩, .string ⟨#[45]⟩, .string ⟨#[42]⟩, .string ⟨#[47]⟩, .string ⟨#[37]⟩, .string ⟨#[124, 124]⟩, .string ⟨#[61]⟩, .string ⟨#[60, 62]⟩, .string ⟨#[60]⟩, .string ⟨#[60, 61]⟩, .string ⟨#[62]⟩, .string ⟨#[62, 61]⟩, .string ⟨#[65, 78, 68]⟩, .string ⟨#[79, 82]⟩] 9) = w2 at *
    have c0 := HR2.out.cell (i := 0) (v := .int .u8 2) rfl
    have c1 := HR2.out.cell (i := 1) (v := .int .u8 0) rfl
    have c2 := HR2.out.cell (i := 2) (v := .int .i64 0) rfl
    have c3 := HR2.out.cell (i := 3) (v := .string ⟨#[]⟩) rfl
    have c4 := HR2.out.cell (i := 4) (v := .string t) rfl
    have c5 := HR2.out.cell (i := 5) (v := .string s) rfl
    have c6 := HR2.out.cell (i := 6) (v := .int .i64 0) rfl
    have he := ne_of HT.out
    go_upto_region 23 with fail
    have l0 := lat_cell c4
    have l1 := lat_cell c5
    have ha := HA.out
    have hb := HBB.out
    clear c0 c1 c2 c3 c6 he
    cases B with
    | false =>
      refine wp_region_later (by kernel_rfl) (by kernel_rfl) ?_
      repeat (go_big_quiet_step (exact lat_calls (HN2.out _)))
      refine wpQuiet_nil ?_
      refine later_out (fun w4 hb4 => ?_)
      go_wp2_with fail
      go_ret2
      exact ⟨rfl, next HB2.out hb4⟩
    | true =>
      refine wp_region_later (by kernel_rfl) (by kernel_rfl) ?_
      repeat (go_big_quiet_step (first | with_reducible exact lat_calls (HN2.out _) | exact lat_calls (HM.out _)))
      refine wpQuiet_nil ?_
      refine later_out (fun w4 hb4 => ?_)
      go_wp2_with fail
      go_ret2
      exact ⟨rfl, next HB2.out hb4⟩
set_option maxRecDepth 100000 in
set_option maxHeartbeats 8000000 in
theorem putIntW (n : Nat) (hn : n < 9223372036854775808) : PutW (.val1 ⟨1, (n : Int), ⟨#[]⟩⟩) := by
  intro kv W hk
  obtain ⟨ka, kc, rfl, _⟩ := hk.shape
  rw [put_int]
  have HR := Lib.hid (row_alloc W 44 #[.int .u8 1, .int .u8 1, .int .i64 (n : Int), .string ⟨#[]⟩, .string ⟨#[]⟩, .string ⟨#[]⟩, .int .i64 0, .slice ka 0 kc])
  have HB : Hid (Below W.heap.size W (W.alloc (.cells #[.int .u8 1, .int .u8 1, .int .i64 (n : Int), .string ⟨#[]⟩, .string ⟨#[]⟩, .string ⟨#[]⟩, .int .i64 0, .slice ka 0 kc] 44))) := Lib.hid ((Below.refl _ _).alloc (Nat.le_refl _) _)
  have HL : Hid (∀ w, Calls Tryz.prog 93 #[.agg #[.int .u8 1, .int .i64 (n : Int), .string ⟨#[]⟩]] w _) := Lib.hid (literalW ⟨1, (n : Int), ⟨#[]⟩⟩ (show 1 < 256 by decide) ⟨by show _ ≤ (n : Int); omega, by show (n : Int) < _; omega⟩ (show 0 ≤ 100000 by decide))
  generalize (litR ⟨1, (n : Int), ⟨#[]⟩⟩).1 = z at *
  generalize (litR ⟨1, (n : Int), ⟨#[]⟩⟩).2 = y at *
  clear hk
  show Calls _ _ #[.agg #[.int .u8 1, .int .u8 1, .int .i64 (n : Int), .string ⟨#[]⟩, .string ⟨#[]⟩, .string ⟨#[]⟩, .int .i64 0, .slice ka 0 kc]] _ _
  go_enter Tryz.func91, Tryz.ntmps91
  go_upto_region 1 with fail
  generalize W.alloc (.cells #[.int .u8 1, .int .u8 1, .int .i64 (n : Int), .string ⟨#[]⟩, .string ⟨#[]⟩, .string ⟨#[]⟩, .int .i64 0, .slice ka 0 kc] 44) = w1 at *
  have c7 := HR.out.cell (i := 7) (v := .slice ka 0 kc) rfl
  go_wp2_with fail
  go_loopg [4, 5, 6, 7] 0 (fun gk sv bv lv iv wr => sv = .string ⟨#[]⟩ ∧ bv = .bool true ∧ lv = .slice none 0 0 ∧ iv = .int .i64 0 ∧ wr = w1)
  case atStart => exact ⟨rfl, rfl, rfl, rfl, rfl⟩
  case round =>
    obtain ⟨rfl, rfl, rfl, rfl, rfl⟩ := hrel
    go_upto_region 16 with fail
    have hb2 := (Below.refl _ wr).alloc (Nat.le_refl _) (.cells #[.string ⟨#[43]⟩, .string ⟨#[45]⟩, .string ⟨#[42]⟩, .string ⟨#[47]⟩, .string ⟨#[37]⟩, .string ⟨#[124, 124]⟩, .string ⟨#[61]⟩, .string ⟨#[60, 62]⟩, .string ⟨#[60]⟩, .string ⟨#[60, 61]⟩, .string ⟨#[62]⟩, .string ⟨#[62, 61]⟩, .string ⟨#[65, 78, 68]⟩, .string ⟨#[79, 82]⟩] 9)
    have HR2 := Lib.hid (HR.out.later hb2)
    have HB2 := Lib.hid (next HB.out hb2)
    clear hb2 c7 HR HB
    generalize wr.alloc (.cells #[.string ⟨#[43]⟩, .string ⟨#[45]⟩, .string ⟨#[42]⟩, .string ⟨#[47]⟩, .string ⟨#[37]⟩, .string ⟨#[124, 124]⟩, .string ⟨#[61]⟩, .string ⟨#[60, 62]⟩, .string ⟨#[60]⟩, .string ⟨#[60, 61]⟩, .string ⟨#[62]⟩, .string ⟨#[62, 61]⟩, .string ⟨#[65, 78, 68]⟩, .string ⟨#[79, 82]⟩] 9) = w2 at *
    have c0 := HR2.out.cell (i := 0) (v := .int .u8 1) rfl
    have c1 := HR2.out.cell (i := 1) (v := .int .u8 1) rfl
    have c2 := HR2.out.cell (i := 2) (v := .int .i64 (n : Int)) rfl
    have c3 := HR2.out.cell (i := 3) (v := .string ⟨#[]⟩) rfl
    have c4 := HR2.out.cell (i := 4) (v := .string ⟨#[]⟩) rfl
    have c5 := HR2.out.cell (i := 5) (v := .string ⟨#[]⟩) rfl
    have c6 := HR2.out.cell (i := 6) (v := .int .i64 0) rfl
    have hl := HL.out w2
    go_wp2_with fail
    refine hl.mono ?_
    rintro e3 w3 ⟨rfl, hb3⟩
    have HB3 := Lib.hid (next HB2.out hb3)
    have d4 := (hb3.cell (cell_lt c4)).trans c4
    have d5 := (hb3.cell (cell_lt c5)).trans c5
    have d6 := (hb3.cell (cell_lt c6)).trans c6
    clear hb3 hl c0 c1 c2 c3 c4 c5 c6
    have he : (⟨#[]⟩ : ByteArray).toList.isEmpty = true := by rw [ByteArray.toList_eq]; rfl
    go_upto_region 18 with fail
    have l0 := lat_cell d4
    have l1 := lat_cell d5
    have l2 := lat_cell d6
    cases y with
    | false =>
      refine wp_region_later (by kernel_rfl) (by kernel_rfl) ?_
      repeat (go_big_quiet_step (fail))
      refine wpQuiet_nil ?_
      refine later_out (fun w4 hb4 => ?_)
      go_wp2_with fail
      go_ret2
      exact ⟨rfl, next HB3.out hb4⟩
    | true =>
      refine wp_region_later (by kernel_rfl) (by kernel_rfl) ?_
      repeat (go_big_quiet_step (fail))
      refine wpQuiet_nil ?_
      refine later_out (fun w4 hb4 => ?_)
      go_wp2_with fail
      go_ret2
      exact ⟨rfl, next HB3.out hb4⟩
theorem put_node (op : Nat) (a b : PE) (h6 : 6 ≤ op) (h19 : op ≤ 19) : putR (.node op [a, b]) = ((((kidR op a.op (putR a).1 ++ B32) ++ sgR.getD (op - 6) B0) ++ B32) ++ kidR op b.op (putR b).1, (putR a).2 && (putR b).2) := by
  have h1 : ¬ op = 1 := by omega
  have h2 : ¬ op = 2 := by omega
  have h3 : ¬ op = 3 := by omega
  have h4 : ¬ op = 4 := by omega
  have h5 : ¬ op = 5 := by omega
  simp [PE.node, putR, putKs, okKs, topR, V00, h1, h2, h3, h4, h5, h6, h19]
theorem sg_cell {g m : Nat} {t : TypeId} {W : World} (h : Row g t sgC W) (hm : m < 14) : W.cell? ⟨g, m, none⟩ = some (.string (sgR.getD m B0)) ∧ (sgR.getD m B0).size ≤ 3 := by
  match m, hm with
  | 0, _ => exact ⟨h.cell rfl, by decide⟩
  | 1, _ => exact ⟨h.cell rfl, by decide⟩
  | 2, _ => exact ⟨h.cell rfl, by decide⟩
  | 3, _ => exact ⟨h.cell rfl, by decide⟩
  | 4, _ => exact ⟨h.cell rfl, by decide⟩
  | 5, _ => exact ⟨h.cell rfl, by decide⟩
  | 6, _ => exact ⟨h.cell rfl, by decide⟩
  | 7, _ => exact ⟨h.cell rfl, by decide⟩
  | 8, _ => exact ⟨h.cell rfl, by decide⟩
  | 9, _ => exact ⟨h.cell rfl, by decide⟩
  | 10, _ => exact ⟨h.cell rfl, by decide⟩
  | 11, _ => exact ⟨h.cell rfl, by decide⟩
  | 12, _ => exact ⟨h.cell rfl, by decide⟩
  | 13, _ => exact ⟨h.cell rfl, by decide⟩
  | n + 14, h => exact absurd h (by omega)
theorem bare_two {op k : Nat} (h6 : 6 ≤ op) (h19 : op ≤ 19) : bareR op k = (decide (k ≤ 2) || decide (20 ≤ k)) := by
  unfold bareR
  rw [decide_eq_false (show ¬ 20 ≤ op by omega), decide_eq_false (show ¬ op = 3 by omega)]
  by_cases h : k ≤ 2 <;> by_cases g : 20 ≤ k <;> simp [h, g]
theorem kid_size (op k : Nat) (s : ByteArray) : (kidR op k s).size ≤ s.size + 4 := by
  unfold kidR
  split
  · omega
  · rw [ByteArray.size_append, ByteArray.size_append]
    show 2 + s.size + 2 ≤ _
    omega
set_option maxRecDepth 100000 in
set_option maxHeartbeats 16000000 in
theorem putNodeW (op : Nat) (a b : PE) (h6 : 6 ≤ op) (h19 : op ≤ 19) (ha : PutW a) (hb : PutW b) (hz : (putR a).1.size + (putR b).1.size + 64 ≤ 1000000000) : PutW (.node op [a, b]) := by
  intro kv W hk
  obtain ⟨ka, kc, rfl, hkc⟩ := hk.shape
  rw [put_node op a b h6 h19]
  have HR := Lib.hid (row_alloc W 44 #[.int .u8 (op : Int), .int .u8 0, .int .i64 0, .string ⟨#[]⟩, .string ⟨#[]⟩, .string ⟨#[]⟩, .int .i64 0, .slice ka 2 kc])
  have HB : Hid (Below W.heap.size W (W.alloc (.cells #[.int .u8 (op : Int), .int .u8 0, .int .i64 0, .string ⟨#[]⟩, .string ⟨#[]⟩, .string ⟨#[]⟩, .int .i64 0, .slice ka 2 kc] 44))) := Lib.hid ((Below.refl _ _).alloc (Nat.le_refl _) _)
  have HS1 : Hid ((W.alloc (.cells #[.int .u8 (op : Int), .int .u8 0, .int .i64 0, .string ⟨#[]⟩, .string ⟨#[]⟩, .string ⟨#[]⟩, .int .i64 0, .slice ka 2 kc] 44)).heap.size = W.heap.size + 1) := Lib.hid (by simp)
  have HK := Lib.hid hk
  have HA := Lib.hid ha
  have HBB := Lib.hid hb
  have HKC : Hid (2 ≤ kc) := Lib.hid hkc
  obtain ⟨sa, hsa⟩ : ∃ z, (putR a).1 = z := ⟨_, rfl⟩
  obtain ⟨sb, hsb⟩ : ∃ z, (putR b).1 = z := ⟨_, rfl⟩
  obtain ⟨oa, hoa⟩ : ∃ z, (putR a).2 = z := ⟨_, rfl⟩
  obtain ⟨ob, hob⟩ : ∃ z, (putR b).2 = z := ⟨_, rfl⟩
  rw [hsa, hsb] at hz
  have HZ := Lib.hid hz
  have HSA := Lib.hid hsa
  have HSB := Lib.hid hsb
  have HOA := Lib.hid hoa
  have HOB := Lib.hid hob
  rw [hsa, hsb, hoa, hob]
  obtain ⟨KA, hKA⟩ : ∃ z, kidR op a.op sa = z := ⟨_, rfl⟩
  obtain ⟨KB, hKB⟩ : ∃ z, kidR op b.op sb = z := ⟨_, rfl⟩
  rw [hKA, hKB]
  obtain ⟨RES, hRES⟩ : ∃ z, z = (((KA ++ B32) ++ sgR.getD (op - 6) B0) ++ B32) ++ KB := ⟨_, rfl⟩
  rw [← hRES]
  have HRES := Lib.hid hRES
  have HKA := Lib.hid hKA
  have HKB := Lib.hid hKB
  have HZA : Hid (KA.size ≤ sa.size + 4) := Lib.hid (by rw [← hKA]; exact kid_size _ _ _)
  have HZB : Hid (KB.size ≤ sb.size + 4) := Lib.hid (by rw [← hKB]; exact kid_size _ _ _)
  have H6 := Lib.hid h6
  have H19 := Lib.hid h19
  clear hk ha hb hz hsa hsb hoa hob hKA hKB hkc hRES
  show Calls _ _ #[.agg #[.int .u8 (op : Int), .int .u8 0, .int .i64 0, .string ⟨#[]⟩, .string ⟨#[]⟩, .string ⟨#[]⟩, .int .i64 0, .slice ka 2 kc]] _ _
  go_enter Tryz.func91, Tryz.ntmps91
  go_upto_region 1 with fail
  generalize W.alloc (.cells #[.int .u8 (op : Int), .int .u8 0, .int .i64 0, .string ⟨#[]⟩, .string ⟨#[]⟩, .string ⟨#[]⟩, .int .i64 0, .slice ka 2 kc] 44) = w1 at *
  go_wp2_with fail
  go_loopg [4, 5, 6, 7] 2 (fun gk sv bv lv iv wr => ∃ i, gk = 2 - i ∧ i ≤ 2 ∧ iv = .int .i64 (i : Int) ∧ sv = .string (catR ([KA, KB].take i)) ∧ bv = .bool ([oa, ob].take i |>.all id) ∧ Hid (OwnS wr (W.heap.size + 1) lv ([KA, KB].take i)) ∧ Hid (Below W.heap.size W wr) ∧ Hid (Row W.heap.size 44 #[.int .u8 (op : Int), .int .u8 0, .int .i64 0, .string ⟨#[]⟩, .string ⟨#[]⟩, .string ⟨#[]⟩, .int .i64 0, .slice ka 2 kc] wr))
  case atStart => exact ⟨0, rfl, by decide, rfl, rfl, rfl, Lib.hid (OwnS.nil _ _), HB, HR⟩
  case round =>
    obtain ⟨i, rfl, hi, rfl, rfl, rfl, HO, HBL, HRR⟩ := hrel
    obtain ⟨lo, lc, rfl⟩ := HO.out.shape
    have c7 := HRR.out.cell (i := 7) (v := .slice ka 2 kc) rfl
    by_cases hlt : i < 2
    · obtain ⟨y, K, oy, hy, hK, hO, hp, hkd, hok, hsz⟩ : ∃ y K oy, [a, b][i]? = some y ∧ [KA, KB][i]? = some K ∧ [oa, ob][i]? = some oy ∧ PutW y ∧ kidR op y.op (putR y).1 = K ∧ (putR y).2 = oy ∧ (putR y).1.size ≤ sa.size + sb.size := by
        match i, hlt with
        | 0, _ => exact ⟨a, KA, oa, rfl, rfl, rfl, HA.out, by rw [HSA.out]; exact HKA.out, HOA.out, by rw [HSA.out]; omega⟩
        | 1, _ => exact ⟨b, KB, ob, rfl, rfl, rfl, HBB.out, by rw [HSB.out]; exact HKB.out, HOB.out, by rw [HSB.out]; omega⟩
      obtain ⟨sy, hsy⟩ : ∃ z, (putR y).1 = z := ⟨_, rfl⟩
      rw [hsy] at hkd hsz
      have ilt : (i : Int) < 2 := by omega
      have ige : (0 : Int) ≤ (i : Int) := by omega
      have HCT : Hid (catR ([KA, KB].take (i + 1)) = (catR ([KA, KB].take i) ++ B32) ++ K) := Lib.hid (by rw [List.take_add_one, hK]; unfold catR; rw [Option.toList_some, List.foldl_append]; rfl)
      have HAT : Hid (([oa, ob].take (i + 1)).all id = (([oa, ob].take i).all id && oy)) := Lib.hid (by rw [List.take_add_one, hO, Option.toList_some, List.all_append]; simp)
      have HTK : Hid ([KA, KB].take (i + 1) = [KA, KB].take i ++ [K]) := Lib.hid (by rw [List.take_add_one, hK]; rfl)
      have HCS : Hid ((catR ([KA, KB].take i)).size ≤ KA.size + KB.size + 2) := Lib.hid (by
        match i, hlt with
        | 0, _ => exact Nat.zero_le _
        | 1, _ =>
          show ((B0 ++ B32) ++ KA).size ≤ _
          rw [ByteArray.size_append, ByteArray.size_append]
          show 0 + 1 + KA.size ≤ _
          omega)
      obtain ⟨q1, o1, k1, e1, hk1, p0, p1, p2, p3, p4, p5, p6, p7⟩ := exs_at (exsR_below HK.out HBL.out) hy
      subst e1
      obtain ⟨na, nc, rfl, _⟩ := hk1.shape
      have hbx : Below wr.heap.size wr (wr.alloc (.cells #[.int .u8 (y.op : Int), .int .u8 (y.v.k : Int), .int .i64 y.v.n, .string y.v.s, .string y.t, .string y.m, .int .i64 y.n, .slice na y.kids.length nc] 44)) := (Below.refl _ _).alloc (Nat.le_refl _) _
      have HRX := Lib.hid (row_alloc wr 44 #[.int .u8 (y.op : Int), .int .u8 (y.v.k : Int), .int .i64 y.v.n, .string y.v.s, .string y.t, .string y.m, .int .i64 y.n, .slice na y.kids.length nc])
      have hc := hp (.slice na y.kids.length nc) _ (exsR_below hk1 hbx)
      rw [hsy, hok] at hc
      unfold PE.val at hc
      have HC := Lib.hid hc
      have HBX := Lib.hid (next HBL.out hbx)
      have HOX := Lib.hid (HO.out.below hbx)
      have HRRX := Lib.hid (HRR.out.later hbx)
      have HKD := Lib.hid hkd
      have HSZ := Lib.hid hsz
      have HLT := Lib.hid hlt
      clear hy hk1 hbx hc hp hK hO hok hsy hkd hsz hlt
      go_upto_region 8 with fail
      clear p0 p1 p2 p3 p4 p5 p6 p7 c7
      generalize wr.alloc (.cells #[.int .u8 (y.op : Int), .int .u8 (y.v.k : Int), .int .i64 y.v.n, .string y.v.s, .string y.t, .string y.m, .int .i64 y.n, .slice na y.kids.length nc] 44) = wx at *
      generalize wr.heap.size = g at *
      have l0 := HRX.out.cell (i := 0) (v := .int .u8 (y.op : Int)) rfl
      have l1 := HRX.out.cell (i := 1) (v := .int .u8 (y.v.k : Int)) rfl
      have l2 := HRX.out.cell (i := 2) (v := .int .i64 y.v.n) rfl
      have l3 := HRX.out.cell (i := 3) (v := .string y.v.s) rfl
      have l4 := HRX.out.cell (i := 4) (v := .string y.t) rfl
      have l5 := HRX.out.cell (i := 5) (v := .string y.m) rfl
      have l6 := HRX.out.cell (i := 6) (v := .int .i64 y.n) rfl
      have l7 := HRX.out.cell (i := 7) (v := .slice na y.kids.length nc) rfl
      generalize ([oa, ob].take i).all id = OI at *
      generalize catR ([KA, KB].take i) = S0 at *
      go_wp2_with fail
      refine HC.out.mono ?_
      rintro e3 w3 ⟨rfl, hb3⟩
      have HB3 := Lib.hid (next HBX.out hb3)
      have HO3 := Lib.hid (HOX.out.below hb3)
      have HR3 := Lib.hid (HRRX.out.later hb3)
      have k0 := (hb3.cell (cell_lt l0)).trans l0
      clear hb3 l0 l1 l2 l3 l4 l5 l6 l7 HC HBX HOX HRRX HRX
      have x0 := HR3.out.cell (i := 0) (v := .int .u8 (op : Int)) rfl
      go_upto_region 9 with fail
      go_cut [5] (fun okv wx => okv = .bool (OI && oy) ∧ w3 = wx)
      case first =>
        cases OI
        · go_wp2_with fail
          go_meet
          exact ⟨rfl, rfl⟩
        · go_wp2_with fail
          go_meet
          exact ⟨rfl, rfl⟩
      case rest =>
      obtain ⟨rfl, rfl⟩ := hcut
      have hle : ([KA, KB].take i).length = i := by have := HLT.out; simp; omega
      rw [hle] at HO3
      have HLE := Lib.hid hle
      clear hle
      go_upto_region 10 with fail
      go_cut [11] (fun bv wx => bv = .bool (decide (y.op ≤ 2) || decide (20 ≤ y.op)) ∧ w3 = wx)
      case first =>
        by_cases hy1 : y.op ≤ 2
        · have j1 : (y.op : Int) ≤ 2 := by omega
          go_wp2_with fail
          go_meet
          exact ⟨by rw [decide_eq_true hy1]; rfl, rfl⟩
        · have j1 : ¬ (y.op : Int) ≤ 2 := by omega
          have j2 : decide ((20 : Int) ≤ (y.op : Int)) = decide (20 ≤ y.op) := decide_eq_decide.2 (by omega)
          go_wp2_with fail
          go_meet
          exact ⟨by rw [decide_eq_false hy1]; rfl, rfl⟩
      case rest =>
      obtain ⟨rfl, rfl⟩ := hcut
      have hkd := HKD.out
      unfold kidR at hkd
      rw [bare_two H6.out H19.out] at hkd
      obtain ⟨BR, hBR⟩ : ∃ z, (decide (y.op ≤ 2) || decide (20 ≤ y.op)) = z := ⟨_, rfl⟩
      rw [hBR] at hkd ⊢
      have HKE := Lib.hid hkd
      clear hkd hBR k0
      go_upto_region 11 with fail
      go_cut [60] (fun bv wx => bv = .bool (!BR) ∧ w3 = wx)
      case first =>
        have j3 : ¬ (20 : Int) ≤ (op : Int) := by have := H19.out; omega
        have j4 : ((op : Int) == 3) = false := by have := H6.out; simp; omega
        cases BR
        · go_wp2_with fail
          go_meet
          exact ⟨rfl, rfl⟩
        · go_wp2_with fail
          go_meet
          exact ⟨rfl, rfl⟩
      case rest =>
      obtain ⟨rfl, rfl⟩ := hcut
      go_upto_if 60 with fail
      go_cut [9] (fun sv wx => sv = .string K ∧ w3 = wx)
      case first =>
        cases BR with
        | true =>
          obtain rfl : sy = K := by have h := HKE.out; simpa using h
          go_wp2_with fail
          go_meet
          exact ⟨rfl, rfl⟩
        | false =>
          have hK : (⟨#[40, 32]⟩ ++ sy) ++ ⟨#[32, 41]⟩ = K := by have h := HKE.out; simpa using h
          have ha : ∀ W, (Op.stringOp .add ⟨#[40, 32]⟩ sy).run Tryz.prog W = .ok (.string (⟨#[40, 32]⟩ ++ sy)) W := fun W => run_string_add_sum (P := Tryz.prog) W _ _ (by have h1 := HSZ.out; have h2 := HZ.out; show 2 + sy.size ≤ _; omega)
          obtain ⟨v, hv⟩ : ∃ v : ByteArray, v = ⟨#[40, 32]⟩ ++ sy := ⟨_, rfl⟩
          rw [← hv] at ha hK
          have hb : ∀ W, (Op.stringOp .add v ⟨#[32, 41]⟩).run Tryz.prog W = .ok (.string K) W := fun W => by
            rw [← hK]
            exact run_string_add_sum (P := Tryz.prog) W _ _ (by
              have : v.size = 2 + sy.size := by rw [hv, ByteArray.size_append]; rfl
              have h1 := HSZ.out; have h2 := HZ.out
              show v.size + 2 ≤ _; omega)
          clear hv hK
          go_wp2_with fail
          go_meet
          exact ⟨rfl, rfl⟩
      case rest =>
      obtain ⟨rfl, rfl⟩ := hcut
      have HS3 : Hid (W.heap.size + 1 ≤ w3.heap.size) := Lib.hid HR3.out.lt
      have hb4 := (Below.refl _ w3).alloc (Nat.le_refl _) (.cells #[.string K] 9)
      have HB4 := Lib.hid (next HB3.out hb4)
      have HO4 := Lib.hid (HO3.out.below hb4)
      have HR4 := Lib.hid (HR3.out.later hb4)
      have HX4 := Lib.hid (row_alloc w3 9 #[.string K])
      have HN4 : Hid (w3.heap.size < (w3.alloc (.cells #[.string K] 9)).heap.size) := Lib.hid HX4.out.lt
      have HKS : Hid (K.size ≤ sa.size + sb.size + 4) := Lib.hid (by have h1 := HSZ.out; rw [← HKD.out]; have := kid_size op y.op sy; omega)
      clear hb4 x0
      go_upto_region 14 with (at_builtin; refine wpList_append_one rfl (.tmp 64) (.tmp 66) 27 rfl (W.heap.size + 1) 9 1 16 elS (.slice lo i lc) i (ssCells ([KA, KB].take i)) rfl (by have h := HO4.out; unfold OwnS at h; rw [HLE.out] at h; exact h) w3.heap.size 1 [.string K] rfl rfl (fun j u hj => HX4.out.cell (by simpa using hj)) (by simp [Value.oneCell']) (by have := HLT.out; unfold maxLen; omega) (by have := HLT.out; omega) (by have h1 := HS3.out; have h2 := HN4.out; omega) ?_; intro v' w8 hown8 hg8 hv8; have HO8 : Hid (OwnS w8 (W.heap.size + 1) v' ([KA, KB].take (i + 1))) := Lib.hid (by rw [HTK.out]; refine OwnS.snoc ?_; rw [HLE.out]; exact hown8); have HLO : Hid (∀ k, (Value.slice lo i lc).ownBlock = some k → W.heap.size + 1 ≤ k) := Lib.hid (fun k hk => (World.ownsRow.lt HO4.out k hk).1); have HR8 : Hid (Row W.heap.size 44 _ w8) := Lib.hid ((hg8.block _ HR4.out.lt (fun e => by have := HLO.out _ e.symm; omega)).trans HR4.out); have HB8 : Hid (Below W.heap.size W w8) := Lib.hid (HB4.out.trans ⟨hg8.os, hg8.tape, hg8.output, hg8.size, fun k hk => hg8.block k (by have h1 := HS3.out; have h2 := HN4.out; omega) (fun e => by have := HLO.out _ e.symm; omega)⟩); clear hown8 hg8 hv8; obtain ⟨lo', lc', hv'⟩ := HO8.out.shape; rw [show ([KA, KB].take (i + 1)).length = i + 1 by (have := HLT.out; simp; omega)] at hv'; subst hv')
      have ha : ∀ W, (Op.stringOp .add S0 ⟨#[32]⟩).run Tryz.prog W = .ok (.string (S0 ++ B32)) W := fun W => run_string_add_sum (P := Tryz.prog) W _ _ (by have h1 := HCS.out; have h2 := HZ.out; have h3 := HZA.out; have h4 := HZB.out; show S0.size + 1 ≤ _; omega)
      obtain ⟨v, hv⟩ : ∃ v : ByteArray, v = S0 ++ B32 := ⟨_, rfl⟩
      rw [← hv] at ha
      have HCT2 : Hid (catR ([KA, KB].take (i + 1)) = v ++ K) := Lib.hid (by rw [HCT.out, ← hv])
      have hb : ∀ W, (Op.stringOp .add v K).run Tryz.prog W = .ok (.string (v ++ K)) W := fun W => run_string_add_sum (P := Tryz.prog) W _ _ (by
        have : v.size = S0.size + 1 := by rw [hv, ByteArray.size_append]; rfl
        have h1 := HCS.out; have h2 := HZ.out; have h3 := HZA.out; have h4 := HZB.out; have h5 := HKS.out
        omega)
      clear hv
      have i3 : wrap64 ((i : Int) + 1) = ((i + 1 : Nat) : Int) := by unfold wrap64; omega
      go_wp2_with fail
      go_roundg (2 - (i + 1))
      case measure => exact Nat.sub_lt_sub_left HLT.out (Nat.lt_succ_self _)
      case rel => exact ⟨i + 1, rfl, HLT.out, by go_num, by rw [HCT2.out], by rw [HAT.out], HO8, HB8, HR8⟩
    · obtain rfl : i = 2 := by omega
      have HO2 : Hid (OwnS wr (W.heap.size + 1) (.slice lo 2 lc) [KA, KB]) := HO
      have hE : catR [KA, KB] = catR ([KA, KB].take 2) := rfl
      clear hlt hi HO
      go_upto_region 16 with fail
      have hb2 := (Below.refl _ wr).alloc (Nat.le_refl _) (.cells sgC 9)
      have HR2 := Lib.hid (HRR.out.later hb2)
      have HB2 := Lib.hid (next HBL.out hb2)
      have HO3 := Lib.hid (HO2.out.below hb2)
      have HG2 := Lib.hid (row_alloc wr 9 sgC)
      clear hb2 c7 HRR HBL HO2
      generalize wr.alloc (.cells sgC 9) = w2 at *
      generalize wr.heap.size = g at *
      have c0 := HR2.out.cell (i := 0) (v := .int .u8 (op : Int)) rfl
      have c1 := HR2.out.cell (i := 1) (v := .int .u8 0) rfl
      have c2 := HR2.out.cell (i := 2) (v := .int .i64 0) rfl
      have c3 := HR2.out.cell (i := 3) (v := .string ⟨#[]⟩) rfl
      have c4 := HR2.out.cell (i := 4) (v := .string ⟨#[]⟩) rfl
      have c5 := HR2.out.cell (i := 5) (v := .string ⟨#[]⟩) rfl
      have c6 := HR2.out.cell (i := 6) (v := .int .i64 0) rfl
      have he : (⟨#[]⟩ : ByteArray).toList.isEmpty = true := by rw [ByteArray.toList_eq]; rfl
      have h6 := H6.out
      have h19 := H19.out
      have e1 : ((op : Int) == 1) = false := by simp; omega
      have e2 : ((op : Int) == 2) = false := by simp; omega
      have e2n : ((op : Int) != 2) = true := by simp; omega
      have e3 : ((op : Int) == 3) = false := by simp; omega
      have e4 : ((op : Int) == 4) = false := by simp; omega
      have e5 : ((op : Int) == 5) = false := by simp; omega
      have i6 : (6 : Int) ≤ (op : Int) := by omega
      have i19 : (op : Int) ≤ 19 := by omega
      go_upto_region 32 with fail
      clear c1 c2 c3 c4 c5 c6 he e1 e2 e2n e3 e4 e5 i6 i19
      obtain ⟨m, rfl⟩ : ∃ m, op = m + 6 := ⟨op - 6, by omega⟩
      have hm : m < 14 := by omega
      have hse : m + 6 - 6 = m := by omega
      rw [hse] at HRES
      obtain ⟨sg, hsg⟩ : ∃ z, sgR.getD m B0 = z := ⟨_, rfl⟩
      rw [hsg] at HRES
      obtain ⟨hgc, hgs⟩ := sg_cell HG2.out hm
      rw [hsg] at hgc hgs
      obtain ⟨lb, lof, rfl, k0⟩ := at1 (k := 0) HO3.out.at_ rfl
      obtain ⟨lb2, lof2, e2, k1⟩ := at1 (k := 1) HO3.out.at_ rfl
      cases e2
      simp only [Nat.add_zero] at k0
      have hw2 : IntKind.u8.wrap (m : Int) = (m : Int) := by rw [IntKind.wrap_u8]; omega
      have hw3 : IntKind.u8.wrap ((m : Int) + 6 - 6) = (m : Int) := by rw [IntKind.wrap_u8]; omega
      have hw : IntKind.u8.wrap (((m + 6 : Nat) : Int) - 6) = (m : Int) := by rw [IntKind.wrap_u8]; omega
      have i14 : (m : Int) < 14 := by omega
      have i0 : (0 : Int) ≤ (m : Int) := by omega
      have hz := HZ.out
      have hza := HZA.out
      have hzb := HZB.out
      have ha : ∀ W, (Op.stringOp .add KA ⟨#[32]⟩).run Tryz.prog W = .ok (.string (KA ++ B32)) W := fun W => run_string_add_sum (P := Tryz.prog) W _ _ (by show KA.size + 1 ≤ _; omega)
      obtain ⟨v1, hv1⟩ : ∃ v : ByteArray, v = KA ++ B32 := ⟨_, rfl⟩
      have hs1 : v1.size = KA.size + 1 := by rw [hv1, ByteArray.size_append]; rfl
      rw [← hv1] at ha HRES
      have hb : ∀ W, (Op.stringOp .add v1 sg).run Tryz.prog W = .ok (.string (v1 ++ sg)) W := fun W => run_string_add_sum (P := Tryz.prog) W _ _ (by omega)
      obtain ⟨v2, hv2⟩ : ∃ v : ByteArray, v = v1 ++ sg := ⟨_, rfl⟩
      have hs2 : v2.size = v1.size + sg.size := by rw [hv2, ByteArray.size_append]
      rw [← hv2] at hb HRES
      have hc : ∀ W, (Op.stringOp .add v2 ⟨#[32]⟩).run Tryz.prog W = .ok (.string (v2 ++ B32)) W := fun W => run_string_add_sum (P := Tryz.prog) W _ _ (by show v2.size + 1 ≤ _; omega)
      obtain ⟨v3, hv3⟩ : ∃ v : ByteArray, v = v2 ++ B32 := ⟨_, rfl⟩
      have hs3 : v3.size = v2.size + 1 := by rw [hv3, ByteArray.size_append]; rfl
      rw [← hv3] at hc HRES
      have hd : ∀ W, (Op.stringOp .add v3 KB).run Tryz.prog W = .ok (.string (v3 ++ KB)) W := fun W => run_string_add_sum (P := Tryz.prog) W _ _ (by omega)
      have l0 := lat_cell c0
      have l1 := lat_cell hgc
      have l2 := lat_cell k0
      have l3 := lat_cell k1
      have HRS : Hid _ := HRES
      clear c0 hgc k0 k1 hz hza hzb hs1 hs2 hs3 hv1 hv2 hv3 HRES hm hse
      refine wp_region_later (by kernel_rfl) (by kernel_rfl) ?_
      repeat (go_big_quiet_step (fail))
      refine wpQuiet_nil ?_
      refine later_out (fun w4 hb4 => ?_)
      go_wp2_with fail
      go_ret2
      exact ⟨by rw [HRS.out]; simp, next HB2.out hb4⟩
end Go.Proofs.YtjgkeillmelkoaaGreat.Dt
