/-
  The walks of Back.
-/
import Derived.Test.YtooliekmfbkopaaSum
import Derived.Test.YtooliekmfbkopaaSumBackSpec
import Derived.Test.YtooliekmfbkopaaOwn
import Derived.Test.YtooliekmfbkopaaNumRef
import Derived.OneCell
import Derived.StillTailTactics
namespace Go.Proofs.Ytooliekmfbkopaa.Sum
open Go.RowKit Go.Proofs.Ytooliekmfbkopaa.By Go.Proofs.Ytooliekmfbkopaa.Num

theorem el2 : By.Elem Try.prog 69 70 2 8 where
  slice := by kernel_rfl
  info := by
    have h : (Try.prog.info? 70).map (fun i => (i.zero, i.size, i.bytes)) = some (some (.agg #[.int .u32 0, .int .u32 0]), 2, 8) := by kernel_rfl
    obtain ⟨i, hi, h1, h2, h3⟩ := info_parts h
    exact ⟨i, _, hi, h1, h2, h3, rfl⟩
  pos := by decide

theorem owned_shape {w : World} {base : Nat} {e : TypeId} {size : Nat} {v : Value} {n : Nat} {xs : List Value} (h : w.ownsRow base e size v n xs) : ∃ a l c, v = .slice a l c := by
  rcases h.2 with ⟨rfl, hn⟩ | ⟨g, cap, cur, rfl, _⟩
  · exact ⟨_, _, _, rfl⟩
  · exact ⟨_, _, _, rfl⟩
theorem kept_block {w w2 : World} {k : Nat} {o p : Obj} {r : Option Nat} (hk : w.heap[k]? = some o) (h : (w.alloc p).grownBy w2 r) (hne : r ≠ some k) : w2.heap[k]? = some o := by
  have hlt : k < w.heap.size := (Array.getElem?_eq_some_iff.1 hk).1
  obtain ⟨_, _, _, _, hb⟩ := h
  rw [hb k (by simp; omega) (Ne.symm hne), Below.heap_alloc _ _ _ hlt]
  exact hk

theorem own_else {w : World} {base : Nat} {e t : TypeId} {size : Nat} {v : Value} {n k : Nat} {xs : List Value} {cs : Array Value} (h : w.ownsRow base e size v n xs) (hk : w.heap[k]? = some (.cells cs t (0, 0))) (ht : t ≠ e) : v.ownBlock ≠ some k := by
  rcases h.2 with ⟨rfl, hn⟩ | ⟨g, cap, cur, rfl, hg, hh, _⟩
  · intro e; cases e
  · intro e
    obtain rfl : g = k := by simpa [Value.ownBlock] using e
    rw [hk] at hh
    injection hh with hh
    injection hh with _ h2
    exact ht h2

set_option maxRecDepth 100000 in
theorem back_block (x y : Nat) (w : World) (k base n : Nat) (v : Value) (t : TypeId) (xs : List Value) (hk : w.heap[k]? = some (.cells #[v] t (0, 0))) (hown : w.ownsRow base 70 2 v n xs) (hbk : base ≤ k) (hne : v.ownBlock ≠ some k) (hn : n ≤ 17592186044415) (ht : t ≠ 70) :
    Calls Try.prog 50 #[.int .u32 (x : Int), .int .u32 (y : Int), .pointer (some ⟨k, 0, none⟩)] w fun e w' => e = .returned (.tuple #[]) ∧ ∃ v', w'.heap[k]? = some (.cells #[v'] t (0, 0)) ∧ w'.ownsRow base 70 2 v' (n + 1) (xs ++ [.int .u32 (x : Int), .int .u32 (y : Int)]) ∧ Below base w w' := by
  have c0 : w.cell? ⟨k, 0, none⟩ = some v := by rw [cell_of_row w k 0 _ t (0, 0) hk]; rfl
  have f0 : w.frozen? ⟨k, 0, none⟩ = false := frozen_of_row w k 0 _ t hk
  have HK := Lib.hid hk; clear hk
  have HO := Lib.hid hown; clear hown
  go_enter Try.func50, Try.ntmps50
  have hbw : base ≤ w.heap.size := Nat.le_trans hbk (Nat.le_of_lt (Array.getElem?_eq_some_iff.1 HK.out).1)
  have hsrc : Reads (w.alloc (.cells #[.int .u32 (x : Int), .int .u32 (y : Int)] 70)) 2 (.slice (some ⟨w.heap.size, 0, none⟩) 1 1) 1 [.int .u32 (x : Int), .int .u32 (y : Int)] :=
    reads_of_owns (World.ownsRow_lit w #[.int .u32 (x : Int), .int .u32 (y : Int)] 1 hbw (by unfold maxLen; omega) rfl)
  go_wp2_with (at_builtin; refine wpList_append_reads rfl (.tmp 5) (.tmp 9) 69 rfl base 70 2 8 el2 v n xs rfl (World.ownsRow.alloc HO.out _) _ 1 _ rfl hsrc (by simp [Value.oneCell']) (by unfold maxLen; omega) (by omega) (by simp; omega) ?_; intro v' w2 hown2 hgrow2 hbel2; obtain ⟨ad, l2, cap, rfl⟩ := owned_shape hown2; have hk2 := (kept_block HK.out hgrow2 hne); have c2 : w2.cell? ⟨k, 0, none⟩ = some v := (by rw [cell_of_row w2 k 0 _ t (0, 0) hk2]; rfl); have f2 := frozen_of_row w2 k 0 _ t hk2; have HO2 := Lib.hid hown2; have HK2 := Lib.hid hk2; clear hown2 hk2)
  go_end0
  have hob := own_else HO2.out HK2.out ht
  refine ⟨rfl, _, ?_, ownsRow_setCell_other HO2.out hob _, ?_⟩
  · rw [heap_setCell_same _ _ _ _ _ _ HK2.out]; rfl
  · exact ((((Below.refl _ _).alloc hbw _).trans hbel2)).setCell (p := ⟨k, 0, none⟩) hbk _

/-- Blocks as cells. -/
def cellsB (bs : List (Nat × Nat)) : List Value := bs.flatMap fun b => [.int .u32 (b.1 : Int), .int .u32 (b.2 : Int)]
theorem cellsB_snoc (bs : List (Nat × Nat)) (x y : Nat) : cellsB (bs ++ [(x, y)]) = cellsB bs ++ [.int .u32 (x : Int), .int .u32 (y : Int)] := by simp [cellsB]
theorem cellsB_get (bs : List (Nat × Nat)) : ∀ (i : Nat) (b : Nat × Nat), bs[i]? = some b → (cellsB bs)[2 * i]? = some (.int .u32 (b.1 : Int)) ∧ (cellsB bs)[2 * i + 1]? = some (.int .u32 (b.2 : Int)) := by
  induction bs with
  | nil => intro i b h; simp at h
  | cons c bs ih =>
    intro i b h
    rcases i with _ | i
    · simp at h; subst h; exact ⟨rfl, rfl⟩
    · have h' := ih i b (by simpa using h)
      have e : cellsB (c :: bs) = .int .u32 (c.1 : Int) :: .int .u32 (c.2 : Int) :: cellsB bs := rfl
      rw [e, show 2 * (i + 1) = (2 * i) + 1 + 1 by omega]
      simpa using h'
theorem blocksL_length_le : ∀ (f : Nat) (l : List UInt8), l.length ≤ f → 8 * (blocksL l).length ≤ l.length + 7 := by
  intro f
  induction f with
  | zero =>
    intro l h
    obtain rfl : l = [] := List.eq_nil_of_length_eq_zero (by omega)
    simp [blocksL_nil]
  | succ f ih =>
    intro l h
    by_cases hl : l = []
    · subst hl; simp [blocksL_nil]
    · have h0 : 0 < l.length := List.length_pos_iff.2 hl
      rw [blocksL_cons l hl]
      rcases Nat.lt_or_ge l.length 8 with h8 | h8
      · rw [show l.drop 8 = [] from List.drop_eq_nil_of_le (by omega), blocksL_nil]
        simp; omega
      · have := ih (l.drop 8) (by simp; omega)
        simp only [List.length_drop, List.length_cons] at this ⊢
        omega

theorem ownsRow_below {B : Nat} {e : TypeId} {k : Nat} {v : Value} {n : Nat} {xs : List Value} {w w' : World} (h : w.ownsRow B e k v n xs) (hb : Below w.heap.size w w') : w'.ownsRow B e k v n xs :=
  h.kept (grown_below none hb) (by cases v.ownBlock <;> simp)
theorem below_step {base : Nat} {w a b : World} (h : Below base w a) (h2 : Below a.heap.size a b) (hb : base ≤ w.heap.size) : Below base w b :=
  h.trans (h2.mono (Nat.le_trans hb h.size))

set_option maxRecDepth 100000 in
theorem blocks_back (s : ByteArray) (w : World) (k base : Nat) (t : TypeId) (hk : w.heap[k]? = some (.cells #[.slice none 0 0] t (0, 0))) (hbk : base ≤ k) (ht : t ≠ 70) (hs : s.size ≤ 140737488351232) :
    Calls Try.prog 46 #[.string s, .func (.func 50) #[] #[.pointer (some ⟨k, 0, none⟩)]] w fun e w' => e = .returned (.tuple #[]) ∧ ∃ v', w'.heap[k]? = some (.cells #[v'] t (0, 0)) ∧ w'.ownsRow base 70 2 v' (blocksL s.data.toList).length (cellsB (blocksL s.data.toList)) ∧ Below base w w' := by
  obtain ⟨r, hr⟩ : ∃ r, r = blocksL s.data.toList := ⟨_, rfl⟩
  have hrl : 8 * r.length ≤ s.size + 7 := by rw [hr]; have := blocksL_length_le _ s.data.toList (Nat.le_refl _); rw [Array.length_toList] at this; exact this
  rw [← hr]
  have HR := Lib.hid hr; clear hr
  have hkl0 : k < w.heap.size := (Array.getElem?_eq_some_iff.1 hk).1
  have HK := Lib.hid hk; clear hk
  go_enter Try.func46, Try.ntmps46
  go_wp2_with fail
  go_loopw [0] (fun sv wr => ∃ (q : List (Nat × Nat)) (v : Value) (u : ByteArray), sv = .string u ∧ u.size ≤ s.size ∧ Hid (r = q ++ blocksL u.data.toList) ∧ Hid (wr.heap[k]? = some (.cells #[v] t (0, 0))) ∧ Hid (wr.ownsRow base 70 2 v q.length (cellsB q)) ∧ Below base w wr) (fun sv _ => strLen sv)
  case atStart => exact ⟨[], _, s, rfl, Nat.le_refl _, HR, HK, World.ownsRow_nil _ _ _ _, Below.refl _ _⟩
  case round =>
    obtain ⟨q, v, u, rfl, hu, hq, hc, hown, hbel⟩ := hrel
    have hkl : k < wr.heap.size := (Array.getElem?_eq_some_iff.1 hc.out).1
    by_cases hpos : 0 < u.size
    · have hl : u.data.toList ≠ [] := by
        intro h
        have hz : u.size = 0 := by rw [show u.size = u.data.toList.length by simp, h]; rfl
        omega
      have hstep := hq.out
      rw [blocksL_cons _ hl] at hstep
      have hql : q.length + 1 ≤ r.length := by rw [hstep]; simp
      have HS := Lib.hid hstep; clear hstep hq hl
      rcases Nat.lt_or_ge u.size 8 with h8 | h8
      · go_wp2_with fail
        refine (words u _ (by omega)).mono ?_
        rintro e w1 ⟨rfl, hb1⟩
        have hc1 : w1.heap[k]? = some (.cells #[v] t (0, 0)) := (hb1.block k hkl).trans hc.out
        have HC1 := Lib.hid hc1; clear hc1
        have HO1 := Lib.hid (ownsRow_below hown.out hb1)
        have hbel1 := below_step hbel hb1 (by omega)
        go_wp2_with fail
        refine (back_block _ _ _ k base q.length v t (cellsB q) HC1.out HO1.out hbk (own_else HO1.out HC1.out ht) (by omega) ht).mono ?_
        rintro e w2 ⟨rfl, v2, hc2, hown2, hb2⟩
        have HC2 := Lib.hid hc2; clear hc2
        have HO2 := Lib.hid hown2; clear hown2
        go_wp2_with fail
        go_roundw
        case rel =>
          refine ⟨q ++ [(val4 u.data.toList, val4 (u.data.toList.drop 4))], v2, ByteArray.empty, rfl, Nat.zero_le _, ?_, HC2, ?_, hbel1.trans hb2⟩
          · unfold Hid
            have hd : u.data.toList.drop 8 = [] := List.drop_eq_nil_of_le (by rw [Array.length_toList]; show u.size ≤ 8; omega)
            rw [HS.out, hd]
            simp [blocksL_nil]
          · unfold Hid
            rw [cellsB_snoc, List.length_append]
            exact HO2.out
        case measure => simp [strLen]; omega
      · go_wp2_with fail
        have e8 : (u.extract 0 8).data.toList = u.data.toList.take 8 := by simp
        refine (words _ _ (by simp [ByteArray.size_extract]; omega)).mono ?_
        rintro e w1 ⟨rfl, hb1⟩
        rw [e8, val4_take8, val4_drop8]
        have hc1 : w1.heap[k]? = some (.cells #[v] t (0, 0)) := (hb1.block k hkl).trans hc.out
        have HC1 := Lib.hid hc1; clear hc1 e8
        have HO1 := Lib.hid (ownsRow_below hown.out hb1)
        have hbel1 := below_step hbel hb1 (by omega)
        go_wp2_with fail
        refine (back_block _ _ _ k base q.length v t (cellsB q) HC1.out HO1.out hbk (own_else HO1.out HC1.out ht) (by omega) ht).mono ?_
        rintro e w2 ⟨rfl, v2, hc2, hown2, hb2⟩
        have HC2 := Lib.hid hc2; clear hc2
        have HO2 := Lib.hid hown2; clear hown2
        go_wp2_with fail
        go_roundw
        case rel =>
          refine ⟨q ++ [(val4 u.data.toList, val4 (u.data.toList.drop 4))], v2, u.extract 8 u.size, rfl, by simp [ByteArray.size_extract]; omega, ?_, HC2, ?_, hbel1.trans hb2⟩
          · unfold Hid
            rw [HS.out, show (u.extract 8 u.size).data.toList = u.data.toList.drop 8 from extract_tail u 8]
            simp
          · unfold Hid
            rw [cellsB_snoc, List.length_append]
            exact HO2.out
        case measure => simp [strLen, ByteArray.size_extract]; omega
    · go_wp2_with fail
      go_end0
      have h0 : u.data.toList = [] := List.eq_nil_of_length_eq_zero (by rw [Array.length_toList]; show u.size = 0; omega)
      have hr := hq.out
      rw [h0, blocksL_nil, List.append_nil] at hr
      subst hr
      exact ⟨rfl, v, hc.out, hown.out, hbel⟩

theorem owned_len {w : World} {base : Nat} {e : TypeId} {size : Nat} {v : Value} {n : Nat} {xs : List Value} (h : w.ownsRow base e size v n xs) : ∃ a c, v = .slice a n c := by
  rcases h.2 with ⟨rfl, rfl⟩ | ⟨g, cap, cur, rfl, _⟩
  · exact ⟨_, _, rfl⟩
  · exact ⟨_, _, rfl⟩
theorem owned_some {w : World} {base : Nat} {e : TypeId} {size : Nat} {v : Value} {n : Nat} {xs : List Value} (h : w.ownsRow base e size v n xs) (hn : 0 < n) : ∃ g c, v = .slice (some ⟨g, 0, none⟩) n c := by
  rcases h.2 with ⟨rfl, rfl⟩ | ⟨g, cap, cur, rfl, _⟩
  · omega
  · exact ⟨_, _, rfl⟩
theorem backB_snoc (p : Nat × Nat) (bs : List (Nat × Nat)) (b : Nat × Nat) : backB p (bs ++ [b]) = backB (unstep p b.1 b.2) bs := by simp [backB]

set_option maxRecDepth 100000 in
theorem back (p : Nat × Nat) (s : ByteArray) (w : World) (hs : s.size ≤ 140737488351232) (h1 : p.1 < 4294967296) (h2 : p.2 < 4294967296) :
    Calls Try.prog 31 #[pairV p, .string s] w fun e w' => e = .returned (pairV (backL p s.data.toList)) ∧ Below w.heap.size w w' := by
  obtain ⟨r, hr⟩ : ∃ r, r = blocksL s.data.toList := ⟨_, rfl⟩
  have hrl : 8 * r.length ≤ s.size + 7 := by rw [hr]; have := blocksL_length_le _ s.data.toList (Nat.le_refl _); rw [Array.length_toList] at this; exact this
  have hsm : Small r := by rw [hr]; exact blocks_small _ _ (Nat.le_refl _)
  have hbb := fun w k base t hk hbk ht => blocks_back s w k base t hk hbk ht hs
  rw [← hr] at hbb
  have HB := Lib.hid hbb; clear hbb
  unfold backL
  rw [← hr]
  clear hr
  have HS := Lib.hid hsm; clear hsm
  have HP := Lib.hid (And.intro h1 h2); clear h1 h2
  go_enter Try.func31, Try.ntmps31
  go_wp2_with fail
  refine (HB.out _ (w.heap.size + 2) (w.heap.size + 2) 69 (by
    have := heap_alloc_new ((w.alloc (.cells #[.int .u32 (p.1 : Int), .int .u32 (p.2 : Int)] 28)).alloc (.cells #[.int .u32 0, .int .u32 0] 28)) (.cells #[.slice none 0 0] 69)
    simpa using this) (Nat.le_refl _) (by decide)).mono ?_
  rintro e w1 ⟨rfl, v, hv, hown, hb⟩
  obtain ⟨ad, cap, rfl⟩ := owned_len hown
  have hp : w1.heap[w.heap.size]? = some (.cells (pairCells p) 28 (0, 0)) := by
    rw [hb.block _ (by omega), Below.heap_alloc _ _ _ (by simp; omega), Below.heap_alloc _ _ _ (by simp)]
    exact heap_alloc_new w _
  have hq : w1.heap[w.heap.size + 1]? = some (.cells #[.int .u32 0, .int .u32 0] 28 (0, 0)) := by
    rw [hb.block _ (by omega), Below.heap_alloc _ _ _ (by simp)]
    have := heap_alloc_new (w.alloc (.cells #[.int .u32 (p.1 : Int), .int .u32 (p.2 : Int)] 28)) (.cells #[.int .u32 0, .int .u32 0] 28)
    simpa using this
  have hbel : Below w.heap.size w w1 := ((((Below.refl _ _).alloc (Nat.le_refl _) _).alloc (by simp) _).alloc (by simp; omega) _).trans (hb.mono (by omega))
  have d0 : w1.cell? ⟨w.heap.size + 2, 0, none⟩ = some (.slice ad r.length cap) := by rw [cell_of_row w1 _ 0 _ _ (0, 0) hv]; rfl
  have HV := Lib.hid hv; clear hv
  have HO := Lib.hid hown; clear hown
  have HP0 := Lib.hid hp; clear hp
  have HQ0 := Lib.hid hq; clear hq
  have hz1 : w.heap.size + 2 < w1.heap.size := (Array.getElem?_eq_some_iff.1 HV.out).1
  clear hb
  go_wp2_with fail
  have HD := Lib.hid d0; clear d0
  go_loopw [6] (fun i wr => ∃ (m : Nat) (q : Nat × Nat), i = .int .i64 ((m : Int) - 1) ∧ m ≤ r.length ∧ Hid (backB q (r.take m) = backB p r) ∧ Hid (q.1 < 4294967296 ∧ q.2 < 4294967296) ∧ Hid (wr.heap[w.heap.size]? = some (.cells (pairCells q) 28 (0, 0))) ∧ Hid (wr.heap[w.heap.size + 1]? = some (.cells #[.int .u32 0, .int .u32 0] 28 (0, 0))) ∧ Hid (wr.heap[w.heap.size + 2]? = some (.cells #[.slice ad r.length cap] 69 (0, 0))) ∧ Hid (wr.ownsRow (w.heap.size + 2) 70 2 (.slice ad r.length cap) r.length (cellsB r)) ∧ Below w.heap.size w wr) (fun i _ => (intOf i + 1).toNat)
  case atStart => exact ⟨r.length, p, rfl, Nat.le_refl _, by unfold Hid; rw [List.take_length], HP, HP0, HQ0, HV, HO, hbel⟩
  case round =>
    obtain ⟨m, q, rfl, hm, hq, hqs, hc, hc1, hc2, hown, hbl⟩ := hrel
    have g0 : wr.cell? ⟨w.heap.size, 0, none⟩ = some (.int .u32 (q.1 : Int)) := by rw [cell_of_row wr _ 0 _ _ (0, 0) hc.out]; rfl
    have g1 : wr.cell? ⟨w.heap.size, 1, none⟩ = some (.int .u32 (q.2 : Int)) := by rw [cell_of_row wr _ 1 _ _ (0, 0) hc.out]; rfl
    have f0 := frozen_of_row wr w.heap.size 0 _ _ hc.out
    have f1 := frozen_of_row wr w.heap.size 1 _ _ hc.out
    rcases Nat.eq_zero_or_pos m with h0 | hm0
    · subst h0
      have r0 : wr.cell? ⟨w.heap.size + 1, 0, none⟩ = some (.int .u32 0) := by rw [cell_of_row wr _ 0 _ _ (0, 0) hc1.out]; rfl
      have r1 : wr.cell? ⟨w.heap.size + 1, 1, none⟩ = some (.int .u32 0) := by rw [cell_of_row wr _ 1 _ _ (0, 0) hc1.out]; rfl
      have rf0 := frozen_of_row wr (w.heap.size + 1) 0 _ _ hc1.out
      have rf1 := frozen_of_row wr (w.heap.size + 1) 1 _ _ hc1.out
      have q0 := set_same wr ⟨w.heap.size + 1, 0, none⟩ (.int .u32 (q.1 : Int)) _ r0
      have q1 := set_same (wr.setCell ⟨w.heap.size + 1, 0, none⟩ (.int .u32 (q.1 : Int))) ⟨w.heap.size + 1, 1, none⟩ (.int .u32 (q.2 : Int)) _ ((set_else wr _ 0 1 _ (by omega)).trans r1)
      go_wp2_with fail
      have he : q = backB p r := hq.out
      refine bodyPost_ret (v := pairV q) (by simp [results, Try.results31, go_sem, q0, q1]) rfl ⟨by rw [he], ?_⟩
      exact (hbl.setCell (p := ⟨w.heap.size + 1, 0, none⟩) (by simp) _).setCell (p := ⟨w.heap.size + 1, 1, none⟩) (by simp) _
    · obtain ⟨j, rfl⟩ : ∃ j, m = j + 1 := ⟨m - 1, by omega⟩
      rw [show (((j + 1 : Nat) : Int) - 1) = (j : Int) by omega]
      have hj : j < r.length := by omega
      obtain ⟨b, hb⟩ : ∃ b, r[j]? = some b := ⟨r[j], by simp⟩
      obtain ⟨g, c', hv'⟩ := owned_some hown.out (by omega)
      obtain ⟨rfl, rfl⟩ : ad = some ⟨g, 0, none⟩ ∧ c' = cap := by simp only [Value.slice.injEq] at hv'; exact ⟨hv'.1, hv'.2.2.symm⟩
      have e0 : wr.cell? ⟨g, j * 2, none⟩ = some (.int .u32 (b.1 : Int)) := by
        have := World.ownsRow.cells hown.out rfl (2 * j) _ (cellsB_get r j b hb).1
        rw [Addr.add_lit, Nat.zero_add, Nat.mul_comm] at this
        exact this
      have e1 : wr.cell? ⟨g, j * 2 + 1, none⟩ = some (.int .u32 (b.2 : Int)) := by
        have := World.ownsRow.cells hown.out rfl (2 * j + 1) _ (cellsB_get r j b hb).2
        rw [Addr.add_lit, Nat.zero_add, Nat.mul_comm] at this
        exact this
      have e2 : wr.cell? ⟨w.heap.size + 2, 0, none⟩ = some (.slice (some ⟨g, 0, none⟩) r.length c') := by rw [cell_of_row wr _ 0 _ _ (0, 0) hc2.out]; rfl
      have HBB := Lib.hid hb; clear hb hv'
      have hji : (j : Int) < (r.length : Int) := by omega
      go_wp2_with fail
      go_still_tail 12, (by kernel_rfl)
      change wpList _ _ _ _ _ wr.drew
      go_wp2_with fail
      generalize hv1 : ((q.2 : Int) - ((b.2 : Int) + (q.1 : Int)) % 4294967296) % 4294967296 = v1 at *
      have HV1 := Lib.hid hv1; clear hv1
      have k0 : (wr.setCell ⟨w.heap.size, 1, none⟩ (.int .u32 v1)).drew.heap[w.heap.size]? = some (.cells #[.int .u32 (q.1 : Int), .int .u32 v1] 28 (0, 0)) := heap_setCell_same _ _ _ _ _ _ hc.out
      have k1 : (wr.setCell ⟨w.heap.size, 1, none⟩ (.int .u32 v1)).drew.heap[w.heap.size + 1]? = _ := (Below.heap_setCell _ _ _ _ (by simp)).trans hc1.out
      have k2 : (wr.setCell ⟨w.heap.size, 1, none⟩ (.int .u32 v1)).drew.heap[w.heap.size + 2]? = _ := (Below.heap_setCell _ _ _ _ (by simp)).trans hc2.out
      have k3 : (wr.setCell ⟨w.heap.size, 1, none⟩ (.int .u32 v1)).drew.ownsRow (w.heap.size + 2) 70 2 (.slice (some ⟨g, 0, none⟩) r.length c') r.length (cellsB r) := ownsRow_setCell_below hown.out (by simp) _
      have k4 : Below w.heap.size w (wr.setCell ⟨w.heap.size, 1, none⟩ (.int .u32 v1)).drew := (hbl.setCell (p := ⟨w.heap.size, 1, none⟩) (Nat.le_refl _) _).drew
      clear g0 g1 f0 f1 e0 e1 e2
      generalize (wr.setCell ⟨w.heap.size, 1, none⟩ (.int .u32 v1)).drew = W2 at *
      have g0 : W2.cell? ⟨w.heap.size, 0, none⟩ = some (.int .u32 (q.1 : Int)) := by rw [cell_of_row W2 _ 0 _ _ (0, 0) k0]; rfl
      have g1 : W2.cell? ⟨w.heap.size, 1, none⟩ = some (.int .u32 v1) := by rw [cell_of_row W2 _ 1 _ _ (0, 0) k0]; rfl
      have f0 := frozen_of_row W2 w.heap.size 0 _ _ k0
      have f1 := frozen_of_row W2 w.heap.size 1 _ _ k0
      have e0 : W2.cell? ⟨g, j * 2, none⟩ = some (.int .u32 (b.1 : Int)) := by
        have := World.ownsRow.cells k3 rfl (2 * j) _ (cellsB_get r j b HBB.out).1
        rw [Addr.add_lit, Nat.zero_add, Nat.mul_comm] at this
        exact this
      have e2 : W2.cell? ⟨w.heap.size + 2, 0, none⟩ = some (.slice (some ⟨g, 0, none⟩) r.length c') := by rw [cell_of_row W2 _ 0 _ _ (0, 0) k2]; rfl
      have K0 := Lib.hid k0; clear k0
      have K1 := Lib.hid k1; clear k1
      have K2 := Lib.hid k2; clear k2
      have K3 := Lib.hid k3; clear k3
      go_still_tail 12, (by kernel_rfl)
      change wpList _ _ _ _ _ W2.drew
      go_wp2_with fail
      go_roundw
      case rel =>
        refine ⟨j, unstep q b.1 b.2, rfl, by omega, ?_, ?_, ?_, ?_, ?_, ?_, ?_⟩
        · have e : r.take (j + 1) = r.take j ++ [b] := by rw [List.take_succ_eq_append_getElem hj]; congr 1; have := List.getElem_eq_iff hj |>.2 HBB.out; rw [this]
          have := hq.out
          rw [e, backB_snoc] at this
          exact this
        · exact unstep_lt _ _ _
        · have hs := HS.out b (List.mem_of_getElem? HBB.out)
          have hqq := hqs.out
          have t1 : v1 = ((unstep q b.1 b.2).2 : Int) := by rw [← HV1.out]; simp only [unstep]; omega
          unfold Hid
          have t2 : ((q.1 : Int) - ((b.1 : Int) + v1)) % 4294967296 = ((unstep q b.1 b.2).1 : Int) := by rw [t1]; simp only [unstep]; omega
          have t3 : pairCells (unstep q b.1 b.2) = #[.int .u32 (((q.1 : Int) - ((b.1 : Int) + v1)) % 4294967296), .int .u32 v1] := by rw [t2, t1]
          rw [t3]
          exact heap_setCell_same W2 w.heap.size 0 _ _ _ K0.out
        · exact (Below.heap_setCell _ _ _ _ (by simp)).trans K1.out
        · exact (Below.heap_setCell _ _ _ _ (by simp)).trans K2.out
        · exact ownsRow_setCell_below K3.out (by simp) _
        · exact (k4.setCell (p := ⟨w.heap.size, 0, none⟩) (Nat.le_refl _) _).drew
      case measure => simp [intOf]

end Go.Proofs.Ytooliekmfbkopaa.Sum
