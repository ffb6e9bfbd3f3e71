/-
  The walks of package sum: words, blocks, Add.
-/
import Derived.Test.YthiajonjleambaaNum
import Derived.Test.YthiajonjleambaaSumSpec
import Derived.Lib.BufferWrite
namespace Go.Proofs.Ythiajonjleambaa.Sum
open Go.RowKit Go.Proofs.Ythiajonjleambaa.By Go.Proofs.Ythiajonjleambaa.Num

theorem setRow_new (w : World) (cs cs' : Array Value) (t : TypeId) : (w.alloc (.cells cs t)).setRow w.heap.size cs' = w.alloc (.cells cs' t) := by
  have hm : ∀ (a : Array Obj) (x : Obj) (f : Obj → Obj), (a.push x).modify a.size f = a.push (f x) := by
    intro a x f
    apply Array.ext
    · simp
    · intro i h1 h2
      simp only [Array.size_modify, Array.size_push] at h1
      rcases Nat.lt_or_ge i a.size with hi | hi
      · simp [Array.getElem_modify, Array.getElem_push, hi, show a.size ≠ i by omega]
      · obtain rfl : i = a.size := by omega
        simp [Array.getElem_modify, Array.getElem_push]
  unfold World.setRow World.alloc
  simp only [hm]

theorem conv_drawn {P : Program} (w : World) (k : Nat) (src e dst : TypeId) (hs : P.underlying src = some (.slice e)) (he : P.underlying e = some (.int .u8)) (hd : P.underlying dst = some .string)
    (t : TypeId) (off len cap : Nat) (l m : List UInt8) (hlen : m.length = len) (hm : m = (l.drop off).take len) :
    (convert src dst (.slice (some ⟨w.heap.size, off, none⟩) len cap)).run P ((w.alloc (.cells (cellsOf l) t)).drewN k) = .ok (str m) ((w.alloc (.cells (cellsOf l) t)).drewN k) :=
  conv_at _ src e dst hs he hd _ off len cap m hlen (fun i h => by
    rw [World.cell?_drewN, World.cell?_alloc_at _ _ _ _ rfl]
    subst hm
    simp only [List.length_take, List.length_drop] at h
    rw [cellsOf_get l (off + i) (by omega)]
    simp)

theorem extract_tail (u : ByteArray) (k : Nat) : (u.extract k u.size).data.toList = u.data.toList.drop k := by
  simp only [ByteArray.data_extract, Array.toList_extract]
  rw [List.extract_eq_take_drop, List.take_of_length_le (by rw [List.length_drop, Array.length_toList]; exact Nat.le_refl _)]

theorem grown_refl (w : World) (r : Option Nat) : w.grownBy w r := ⟨rfl, rfl, rfl, Nat.le_refl _, fun _ _ _ => rfl⟩
theorem grown_trans {a b c : World} {r : Option Nat} (h : a.grownBy b r) (k : b.grownBy c r) : a.grownBy c r :=
  ⟨k.os.trans h.os, k.tape.trans h.tape, k.output.trans h.output, Nat.le_trans h.size k.size, fun i hi hr => (k.block i (Nat.lt_of_lt_of_le hi h.size) hr).trans (h.block i hi hr)⟩
theorem grown_below {a b : World} (r : Option Nat) (h : Below a.heap.size a b) : a.grownBy b r := ⟨h.os, h.tape, h.output, h.size, fun i hi _ => h.block i hi⟩
theorem grown_set (w : World) (k i : Nat) (v : Value) : w.grownBy (w.setCell ⟨k, i, none⟩ v) (some k) :=
  ⟨rfl, rfl, rfl, by simp [World.setCell], fun j _ hr => Below.heap_setCell w _ v j (fun e => hr (by rw [e]))⟩
theorem below_of_grown {a w w' : World} {B k : Nat} (h : Below B a w) (hg : w.grownBy w' (some k)) (hB : B ≤ w.heap.size) (hk : B ≤ k) : Below B a w' :=
  h.grown hg hB (fun j hj => by cases hj; exact hk)

theorem set_same (w : World) (a : Addr) (v u : Value) (h : w.cell? a = some u) : (w.setCell a v).cell? a = some v := by
  apply World.cell?_setCell_same
  exact h
theorem set_else (w : World) (k i j : Nat) (v : Value) (h : i ≠ j) : (w.setCell ⟨k, i, none⟩ v).cell? ⟨k, j, none⟩ = w.cell? ⟨k, j, none⟩ := by
  apply World.cell?_setCell_other
  intro e; cases e; exact h rfl

/-- A string's length: for a loop's measure. -/
def strLen : Value → Nat | .string s => s.size | _ => 0

theorem sz_u8 : (Try.prog.info? 5).map (·.size) = some 1 := by kernel_rfl

theorem copy_pad (w : World) (s : ByteArray) (h : s.size ≤ 8) (t : TypeId) :
    (Builtin.copy_ #[27, 9] 3 #[.slice (some ⟨w.heap.size, 0, none⟩) 8 8, .string s]).run Try.prog (w.alloc (.cells #[.int .u8 0, .int .u8 0, .int .u8 0, .int .u8 0, .int .u8 0, .int .u8 0, .int .u8 0, .int .u8 0] t)) =
      .ok (goInt s.size) (w.alloc (.cells (cellsOf (pad8 s.data.toList)) t)) := by
  rw [Lib.run_copy_row_string (P := Try.prog) _ 27 9 3 5 w.heap.size 0 8 8 s _ t cv_u8 sz_u8 (heap_alloc_new w _) h (by simpa using h), setRow_new]
  congr 3
  simp only [cellsOf, pad8, Lib.byteCells, List.map_append, List.take_zero, List.nil_append, Nat.zero_add]
  congr 2
  have hl : s.data.toList.length = s.size := by simp
  rw [hl]
  have e : ∀ n : Fin 9, List.drop n.val (#[Value.int .u8 0, .int .u8 0, .int .u8 0, .int .u8 0, .int .u8 0, .int .u8 0, .int .u8 0, .int .u8 0] : Array Value).toList = List.map byte (List.replicate (8 - n.val) 0) := by
    intro n
    match n with
    | 0 => rfl
    | 1 => rfl
    | 2 => rfl
    | 3 => rfl
    | 4 => rfl
    | 5 => rfl
    | 6 => rfl
    | 7 => rfl
    | 8 => rfl
  exact e ⟨s.size, by omega⟩

set_option maxRecDepth 100000 in
theorem words (s : ByteArray) (w : World) (h : s.size ≤ 8) :
    Calls Try.prog 9 #[.string s] w fun e w' => e = .returned (.tuple #[.int .u32 (val4 s.data.toList), .int .u32 (val4 (s.data.toList.drop 4))]) ∧ Below w.heap.size w w' := by
  have hcp := copy_pad w s h 25
  have hc1 := conv_cells (P := Try.prog) w 27 5 9 cv_u8 ty_u8 ty_str 25 0 4 8 (pad8 s.data.toList) ((pad8 s.data.toList).take 4) (by simp [pad8_length _ (show s.data.toList.length ≤ 8 by simpa using h)]) (by simp)
  have hc2 := fun k => conv_drawn (P := Try.prog) w k 27 5 9 cv_u8 ty_u8 ty_str 25 4 4 4 (pad8 s.data.toList) (((pad8 s.data.toList).drop 4).take 4) (by simp [pad8_length _ (show s.data.toList.length ≤ 8 by simpa using h)]) rfl
  go_enter Try.func9, Try.ntmps9
  go_wp2_with fail
  refine (takeFour_ok _ _ (by simp [pad8_length _ (show s.data.toList.length ≤ 8 by simpa using h)])).mono ?_
  rintro e w1 ⟨rfl, n1, rfl⟩
  rw [show val4 (⟨(List.take 4 (pad8 s.data.toList)).toArray⟩ : ByteArray).data.toList = val4 s.data.toList from val4_first _]
  go_wp2_with fail
  refine (takeFour_ok _ _ (by simp [pad8_length _ (show s.data.toList.length ≤ 8 by simpa using h)])).mono ?_
  rintro e w1 ⟨rfl, n2, rfl⟩
  rw [show val4 (⟨(List.take 4 (List.drop 4 (pad8 s.data.toList))).toArray⟩ : ByteArray).data.toList = val4 (s.data.toList.drop 4) from val4_last _]
  go_wp2_with fail
  go_ret2
  exact ⟨rfl, below_drewN ((Below.refl _ _).alloc (Nat.le_refl _) _) _⟩

/-- A pair in a block of two cells. -/
abbrev pairCells (p : Nat × Nat) : Array Value := #[.int .u32 (p.1 : Int), .int .u32 (p.2 : Int)]

theorem add_block (x y : Nat) (w : World) (k : Nat) (p : Nat × Nat) (t : TypeId) (hk : w.heap[k]? = some (.cells (pairCells p) t (0, 0))) :
    Calls Try.prog 8 #[.int .u32 (x : Int), .int .u32 (y : Int), .pointer (some ⟨k, 0, none⟩)] w fun e w' => e = .returned (.tuple #[]) ∧ w'.heap[k]? = some (.cells (pairCells (step p x y)) t (0, 0)) ∧ w.grownBy w' (some k) := by
  have c0 : w.cell? ⟨k, 0, none⟩ = some (.int .u32 (p.1 : Int)) := by rw [cell_of_row w k 0 _ t (0, 0) hk]; rfl
  have c1 : w.cell? ⟨k, 1, none⟩ = some (.int .u32 (p.2 : Int)) := by rw [cell_of_row w k 1 _ t (0, 0) hk]; rfl
  have f0 : w.frozen? ⟨k, 0, none⟩ = false := frozen_of_row w k 0 _ t hk
  have f1 : w.frozen? ⟨k, 1, none⟩ = false := frozen_of_row w k 1 _ t hk
  have HK := Lib.hid hk; clear hk
  go_enter Try.func8, Try.ntmps8
  go_wp2_with fail
  go_end0
  refine ⟨rfl, ?_, grown_trans (grown_set _ _ _ _) (grown_set _ _ _ _)⟩
  rw [heap_setCell_same _ _ _ _ _ _ (heap_setCell_same _ _ _ _ _ _ HK.out)]
  have e1 : ((p.1 : Int) + ((x : Int) + (p.2 : Int))) % 4294967296 = ((step p x y).1 : Int) := by simp only [step]; omega
  have e2 : ((p.2 : Int) + ((y : Int) + ((p.1 : Int) + ((x : Int) + (p.2 : Int))))) % 4294967296 = ((step p x y).2 : Int) := by simp only [step]; omega
  rw [e1, e2]
  rfl

theorem blocks_add (s : ByteArray) (w : World) (k : Nat) (p : Nat × Nat) (t : TypeId) (hk : w.heap[k]? = some (.cells (pairCells p) t (0, 0))) :
    Calls Try.prog 7 #[.string s, .func (.func 8) #[] #[.pointer (some ⟨k, 0, none⟩)]] w fun e w' => e = .returned (.tuple #[]) ∧ w'.heap[k]? = some (.cells (pairCells (addL p s.data.toList)) t (0, 0)) ∧ w.grownBy w' (some k) := by
  obtain ⟨r, hr⟩ : ∃ r, r = addL p s.data.toList := ⟨_, rfl⟩
  rw [← hr]
  have HR := Lib.hid hr; clear hr
  have HK := Lib.hid hk; clear hk
  go_enter Try.func7, Try.ntmps7
  go_wp2_with fail
  go_loopw [0] (fun sv wr => ∃ (q : Nat × Nat) (u : ByteArray), sv = .string u ∧ u.size ≤ s.size ∧ Hid (r = addL q u.data.toList) ∧ Hid (wr.heap[k]? = some (.cells (pairCells q) t (0, 0))) ∧ w.grownBy wr (some k)) (fun sv _ => strLen sv)
  case atStart => exact ⟨p, s, rfl, Nat.le_refl _, HR, HK, grown_refl _ _⟩
  case round =>
    obtain ⟨q, u, rfl, hu, hq, hc, hbel⟩ := hrel
    have hkl : k < wr.heap.size := (Array.getElem?_eq_some_iff.1 hc.out).1
    by_cases hpos : 0 < u.size
    · have hl : u.data.toList ≠ [] := by
        intro h
        have hz : u.size = 0 := by rw [show u.size = u.data.toList.length by simp, h]; rfl
        omega
      have hstep := hq.out
      rw [addL_cons _ _ hl] at hstep
      have HS := Lib.hid hstep; clear hstep hq hl
      rcases Nat.lt_or_ge u.size 8 with h8 | h8
      · go_wp2_with fail
        refine (words u _ (by omega)).mono ?_
        rintro e w1 ⟨rfl, hb1⟩
        have hc1 : w1.heap[k]? = some (.cells (pairCells q) t (0, 0)) := (hb1.block k hkl).trans hc.out
        have HC1 := Lib.hid hc1; clear hc1
        go_wp2_with fail
        refine (add_block _ _ _ k q t HC1.out).mono ?_
        rintro e w2 ⟨rfl, hc2, hb2⟩
        have HC2 := Lib.hid hc2; clear hc2
        go_wp2_with fail
        go_roundw
        case rel =>
          refine ⟨_, ByteArray.empty, rfl, Nat.zero_le _, ?_, HC2, grown_trans hbel (grown_trans (grown_below _ hb1) hb2)⟩
          unfold Hid
          have hd : u.data.toList.drop 8 = [] := List.drop_eq_nil_of_le (by rw [Array.length_toList]; show u.size ≤ 8; omega)
          rw [HS.out, hd]
          rfl
        case measure => simp [strLen]; omega
      · go_wp2_with fail
        have e8 : (u.extract 0 8).data.toList = u.data.toList.take 8 := by simp
        refine (words _ _ (by simp [ByteArray.size_extract]; omega)).mono ?_
        rintro e w1 ⟨rfl, hb1⟩
        rw [e8, val4_take8, val4_drop8]
        have hc1 : w1.heap[k]? = some (.cells (pairCells q) t (0, 0)) := (hb1.block k hkl).trans hc.out
        have HC1 := Lib.hid hc1; clear hc1 e8
        go_wp2_with fail
        refine (add_block _ _ _ k q t HC1.out).mono ?_
        rintro e w2 ⟨rfl, hc2, hb2⟩
        have HC2 := Lib.hid hc2; clear hc2
        go_wp2_with fail
        go_roundw
        case rel =>
          refine ⟨_, u.extract 8 u.size, rfl, by simp [ByteArray.size_extract]; omega, ?_, HC2, grown_trans hbel (grown_trans (grown_below _ hb1) hb2)⟩
          unfold Hid
          rw [HS.out, show (u.extract 8 u.size).data.toList = u.data.toList.drop 8 from extract_tail u 8]
        case measure => simp [strLen, ByteArray.size_extract]; omega
    · go_wp2_with fail
      go_end0
      have h0 : u.data.toList = [] := List.eq_nil_of_length_eq_zero (by rw [Array.length_toList]; show u.size = 0; omega)
      have hr := hq.out
      rw [h0, addL_nil] at hr
      subst hr
      exact ⟨rfl, hc.out, hbel⟩

/-- A pair as a value. -/
abbrev pairV (p : Nat × Nat) : Value := .agg #[.int .u32 (p.1 : Int), .int .u32 (p.2 : Int)]

theorem add (p : Nat × Nat) (s : ByteArray) (w : World) :
    Calls Try.prog 5 #[pairV p, .string s] w fun e w' => e = .returned (pairV (addL p s.data.toList)) ∧ Below w.heap.size w w' := by
  go_enter Try.func5, Try.ntmps5
  go_wp2_with fail
  refine (blocks_add s _ w.heap.size p 24 (by
    rw [Below.heap_alloc _ _ _ (by simp)]; exact heap_alloc_new w _)).mono ?_
  rintro e w1 ⟨rfl, hc, hb⟩
  have c0 : w1.cell? ⟨w.heap.size, 0, none⟩ = some (.int .u32 ((addL p s.data.toList).1 : Int)) := by rw [cell_of_row w1 _ 0 _ _ (0, 0) hc]; rfl
  have c1 : w1.cell? ⟨w.heap.size, 1, none⟩ = some (.int .u32 ((addL p s.data.toList).2 : Int)) := by rw [cell_of_row w1 _ 1 _ _ (0, 0) hc]; rfl
  have hr : w1.heap[w.heap.size + 1]? = some (.cells #[.int .u32 0, .int .u32 0] 24 (0, 0)) := by
    rw [hb.block _ (by simp) (by simp)]
    have := heap_alloc_new (w.alloc (.cells #[.int .u32 (p.1 : Int), .int .u32 (p.2 : Int)] 24)) (.cells #[.int .u32 0, .int .u32 0] 24)
    simpa using this
  have d0 : w1.cell? ⟨w.heap.size + 1, 0, none⟩ = some (.int .u32 0) := by rw [cell_of_row w1 _ 0 _ _ (0, 0) hr]; rfl
  have d1 : w1.cell? ⟨w.heap.size + 1, 1, none⟩ = some (.int .u32 0) := by rw [cell_of_row w1 _ 1 _ _ (0, 0) hr]; rfl
  have f0 := frozen_of_row w1 (w.heap.size + 1) 0 _ _ hr
  have f1 := frozen_of_row w1 (w.heap.size + 1) 1 _ _ hr
  have hbel : Below w.heap.size w w1 := below_of_grown (((Below.refl _ _).alloc (Nat.le_refl _) _).alloc (by simp) _) hb (by simp; omega) (Nat.le_refl _)
  clear hc hr hb
  have q0 := set_same w1 ⟨w.heap.size + 1, 0, none⟩ (.int .u32 ((addL p s.data.toList).1 : Int)) _ d0
  have q1 := set_same (w1.setCell ⟨w.heap.size + 1, 0, none⟩ (.int .u32 ((addL p s.data.toList).1 : Int))) ⟨w.heap.size + 1, 1, none⟩ (.int .u32 ((addL p s.data.toList).2 : Int)) _ ((set_else w1 _ 0 1 _ (by omega)).trans d1)
  go_wp2_with fail
  refine bodyPost_ret (v := pairV (addL p s.data.toList)) (by simp [results, Try.results5, go_sem, q0, q1]) rfl ⟨rfl, ?_⟩
  exact (hbel.setCell (p := ⟨w.heap.size + 1, 0, none⟩) (by simp) _).setCell (p := ⟨w.heap.size + 1, 1, none⟩) (by simp) _

theorem of (s : ByteArray) (w : World) :
    Calls Try.prog 6 #[.string s] w fun e w' => e = .returned (pairV (addL (0, 0) s.data.toList)) ∧ Below w.heap.size w w' := by
  go_enter Try.func6, Try.ntmps6
  go_wp2_with fail
  refine (add (0, 0) s _).mono ?_
  rintro e w1 ⟨rfl, hb⟩
  have d0 : w1.cell? ⟨w.heap.size, 0, none⟩ = some (.int .u32 0) := by rw [hb.cell (by simp)]; go_simp
  have d1 : w1.cell? ⟨w.heap.size, 1, none⟩ = some (.int .u32 0) := by rw [hb.cell (by simp)]; go_simp
  have f0 : w1.frozen? ⟨w.heap.size, 0, none⟩ = false := by rw [hb.frozen (by simp)]; go_simp
  have f1 : w1.frozen? ⟨w.heap.size, 1, none⟩ = false := by rw [hb.frozen (by simp)]; go_simp
  have q0 := set_same w1 ⟨w.heap.size, 0, none⟩ (.int .u32 ((addL (0, 0) s.data.toList).1 : Int)) _ d0
  have q1 := set_same (w1.setCell ⟨w.heap.size, 0, none⟩ (.int .u32 ((addL (0, 0) s.data.toList).1 : Int))) ⟨w.heap.size, 1, none⟩ (.int .u32 ((addL (0, 0) s.data.toList).2 : Int)) _ ((set_else w1 _ 0 1 _ (by omega)).trans d1)
  have hbel : Below w.heap.size w w1 := ((Below.refl _ _).alloc (Nat.le_refl _) _).trans (hb.mono (by simp))
  clear hb
  go_wp2_with fail
  refine bodyPost_ret (v := pairV (addL (0, 0) s.data.toList)) (by simp [results, Try.results6, go_sem, q0, q1]) rfl ⟨rfl, ?_⟩
  exact (hbel.setCell (p := ⟨w.heap.size, 0, none⟩) (Nat.le_refl _) _).setCell (p := ⟨w.heap.size, 1, none⟩) (Nat.le_refl _) _

theorem step_lt (p : Nat × Nat) (x y : Nat) : (step p x y).1 < 4294967296 ∧ (step p x y).2 < 4294967296 := by
  simp only [step]; omega

theorem works_add : addL (0, 0) [0, 0, 0, 1, 0, 0, 0, 2] = (1, 3) := by decide

theorem works (w : World) :
    Calls Try.prog 4 #[] w fun r w' => r = .returned (.bool true) ∧ Below w.heap.size w w' := by
  go_enter Try.func4, Try.ntmps4
  go_wp2_with fail
  refine (of _ _).mono ?_
  rintro e w1 ⟨rfl, hb⟩
  rw [show addL (0, 0) (⟨#[0, 0, 0, 1, 0, 0, 0, 2]⟩ : ByteArray).data.toList = (1, 3) from works_add]
  go_wp2_with fail
  go_ret
  exact ⟨rfl, hb⟩
end Go.Proofs.Ythiajonjleambaa.Sum
