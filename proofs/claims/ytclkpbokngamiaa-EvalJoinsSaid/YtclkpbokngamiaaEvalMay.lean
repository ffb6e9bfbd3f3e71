/-
  The walk of eval.may: which expressions may be, groups' told apart.
-/
import Derived.Test.YtclkpbokngamiaaEvalW
namespace Go.Proofs.Ytclkpbokngamiaa.Dt
open Go.RowKit Go.Proofs.Ytclkpbokngamiaa.By

/-- The cells of an expression's box. -/
theorem box_cells (w w1 : World) (x : Ex) (t : TypeId) (hb : Below (exBox w x t).heap.size (exBox w x t) w1) :
    w1.cell? ⟨w.heap.size, 0, none⟩ = some (.int .u8 (x.op : Int)) ∧ w1.cell? ⟨w.heap.size, 1, none⟩ = some (.int .u8 (x.v.k : Int)) ∧ w1.cell? ⟨w.heap.size, 2, none⟩ = some (.int .i64 x.v.n) ∧ w1.cell? ⟨w.heap.size, 3, none⟩ = some (.string x.v.s) ∧
      w1.cell? ⟨w.heap.size, 4, none⟩ = some (.string x.t) ∧ w1.cell? ⟨w.heap.size, 5, none⟩ = some (.string x.m) ∧ w1.cell? ⟨w.heap.size, 6, none⟩ = some (.int .i64 x.n) ∧ w1.cell? ⟨w.heap.size, 7, none⟩ = some x.kv := by
  refine ⟨?_, ?_, ?_, ?_, ?_, ?_, ?_, ?_⟩ <;> (rw [hb.cell (by simp)]; go_simp)

set_option maxRecDepth 100000 in
set_option maxHeartbeats 4000000 in
theorem may : ∀ (x : Ex) (cols : Int) (g : Bool) (w : World), 0 ≤ cols → cols ≤ 9223372036854775807 → x.In w → x.Ok →
    Calls Try.prog 20 #[x.val, .int .i64 cols, .bool g] w fun e w' => e = .returned (.bool (mayB cols g x)) ∧ Below w.heap.size w w' := by
  refine Ex.ind fun x ih cols g w hc0 hc1 hin hok => ?_
  have hsh := fun W hb => shaped x cols W hc0 hc1 (Ex.in_below (w := w) hb x hin) hok
  rw [may_eq]
  have HIN := Lib.hid hin
  rw [Ex.in_iff] at hin
  rw [Ex.ok_iff] at hok
  obtain ⟨hat, hkin⟩ := hin
  obtain ⟨hone, hkok⟩ := hok
  obtain ⟨op, v, t, m, n, kv, ks⟩ := x
  simp only [Ex.op_mk, Ex.v_mk, Ex.t_mk, Ex.m_mk, Ex.n_mk, Ex.kv_mk, Ex.kids_mk, Ex.okOne] at hat hkin hkok hone ih
  simp only [Ex.val, Ex.op_mk, Ex.v_mk, Ex.t_mk, Ex.m_mk, Ex.n_mk, Ex.kv_mk, Ex.kids_mk] at hsh ⊢
  obtain ⟨a, c, rfl⟩ := hat.shape
  obtain ⟨hop, hv, ht, hm, hn1, hn2, hkl⟩ := hone
  have HAT := Lib.hid hat; clear hat
  have HKI := Lib.hid hkin; clear hkin
  have HKO := Lib.hid hkok; clear hkok
  have IH := Lib.hid ih; clear ih hv
  have hgr := fun W => group op W hop
  cases hs : shapedB cols (.mk op v t m n (.slice a ks.length c) ks)
  · rw [hs] at hsh
    have HSH := Lib.hid hsh; clear hsh hs
    simp only [Bool.false_and]
    go_enter Try.func20, Try.ntmps20
    go_wp2_with fail
    refine (HSH.out _ ((Below.refl _ _).alloc (Nat.le_refl _) _)).mono ?_
    rintro e w1 ⟨rfl, hb1⟩
    go_wp2_with fail
    go_ret
    exact ⟨rfl, ((Below.refl _ _).alloc (Nat.le_refl _) _).trans (hb1.mono (by simp))⟩
  · rw [hs] at hsh
    have HSH := Lib.hid hsh; clear hsh hs
    simp only [Bool.true_and]
    cases hg : groupB op <;> cases g
    · rw [hg] at hgr
      have HG := Lib.hid hgr; clear hgr hg
      rw [show (!(false && !false) && ks.all (mayB cols (false && !false))) = ks.all (mayB cols false) by simp]

      go_enter Try.func20, Try.ntmps20
      go_wp2_with fail
      refine (HSH.out _ ((Below.refl _ _).alloc (Nat.le_refl _) _)).mono ?_
      rintro e w1 ⟨rfl, hb1⟩
      have hbw : Below w.heap.size w w1 := ((Below.refl _ _).alloc (Nat.le_refl _) _).trans (hb1.mono (by simp))
      obtain ⟨q0, q1, q2, q3, q4, q5, q6, q7⟩ := box_cells w w1 (.mk op v t m n (.slice a ks.length c) ks) 27 hb1
      simp only [Ex.op_mk, Ex.v_mk, Ex.t_mk, Ex.m_mk, Ex.n_mk, Ex.kv_mk] at q0 q1 q2 q3 q4 q5 q6 q7
      clear hb1
      go_wp2_with fail
      refine (HG.out _).mono ?_
      rintro e w' ⟨rfl, rfl⟩
      go_wp2_with fail

      go_loopw [25] (fun i wr => ∃ k : Nat, i = .int .i64 (k : Int) ∧ k ≤ ks.length ∧ Hid ((ks.take k).all (mayB cols false) = true) ∧ Below w.heap.size w wr ∧ wr.cell? ⟨w.heap.size, 0, none⟩ = some (.int .u8 (op : Int)) ∧ w.heap.size < wr.heap.size) (fun i _ => ks.length - (intOf i).toNat)
      case atStart => exact ⟨0, rfl, Nat.zero_le _, rfl, hbw, q0, cell_lt q0⟩
      case round =>
        obtain ⟨k, rfl, hk, hall, hbel, p0, hz⟩ := hrel
        clear q0 q1 q2 q3 q4 q5 q6 q7
        by_cases hlt : k < ks.length
        · obtain ⟨y, hy⟩ : ∃ y, ks[k]? = some y := ⟨ks[k], by simp⟩
          have hym : y ∈ ks := List.mem_of_getElem? hy
          obtain ⟨b, o, rfl, hbz, d0, d1, d2, d3, d4, d5, d6, d7⟩ := Ex.at8 (HAT.out.below hbel) hy
          have hcall := fun W hb => IH.out y hym cols false W hc0 hc1 (Ex.in_below (w := w) hb y (HKI.out y hym)) (HKO.out y hym)
          obtain ⟨ay, cy, eky⟩ := Ex.kv_of (HKI.out y hym)
          simp only [Ex.val] at hcall
          have HEK := Lib.hid eky
          rw [eky] at d7 hcall
          have HC := Lib.hid hcall; clear hcall eky
          have HY := Lib.hid (And.intro hy hym); clear hy hym
          have ilt : (k : Int) < (ks.length : Int) := by omega
          have hzr := hbel.size
          go_wp2_with fail
          have hbelA := hbel.alloc hbel.size (.cells #[.int .u8 (y.op : Int), .int .u8 (y.v.k : Int), .int .i64 y.v.n, .string y.v.s, .string y.t, .string y.m, .int .i64 y.n, .slice ay y.kids.length cy] 27)
          have hzA : w.heap.size < (wr.alloc (.cells #[.int .u8 (y.op : Int), .int .u8 (y.v.k : Int), .int .i64 y.v.n, .string y.v.s, .string y.t, .string y.m, .int .i64 y.n, .slice ay y.kids.length cy] 27)).heap.size := by simp; omega
          have pA : World.cell? (wr.alloc (.cells #[.int .u8 (y.op : Int), .int .u8 (y.v.k : Int), .int .i64 y.v.n, .string y.v.s, .string y.t, .string y.m, .int .i64 y.n, .slice ay y.kids.length cy] 27)) ⟨w.heap.size, 0, none⟩ = some (.int .u8 (op : Int)) := by go_simp
          obtain ⟨e0, e1, e2, e3, e4, e5, e6, e7⟩ := box_cells wr _ y 27 (Below.refl _ _)
          simp only [exBox, HEK.out] at e0 e1 e2 e3 e4 e5 e6 e7
          clear d0 d1 d2 d3 d4 d5 d6 d7
          generalize wr.alloc (.cells #[.int .u8 (y.op : Int), .int .u8 (y.v.k : Int), .int .i64 y.v.n, .string y.v.s, .string y.t, .string y.m, .int .i64 y.n, .slice ay y.kids.length cy] 27) = W at *
          have l0 := lat_cell e0
          have l1 := lat_cell e1
          have l2 := lat_cell e2
          have l3 := lat_cell e3
          have l4 := lat_cell e4
          have l5 := lat_cell e5
          have l6 := lat_cell e6
          have l7 := lat_cell e7
          have lp := lat_cell pA
          have hlb := fun e : Later W => hbelA.trans ((lat_below W e).mono hbelA.size)
          have HLB := Lib.hid hlb; clear hlb
          clear e0 e1 e2 e3 e4 e5 e6 e7
          cases hres : mayB cols false y
          all_goals
            have HR := Lib.hid hres
            rw [hres] at HC
            clear hres
            refine wp_region_later (by kernel_rfl) (by kernel_rfl) ?_
            repeat (go_big_quiet_step ((first | (go_at_call 29; exact lat_calls_same (HG.out _)) | (go_at_call 20; exact lat_calls (HC.out _ (HLB.out _))))))
            refine wpQuiet_nil ?_
            refine later_out (fun w2 hb2 => ?_)
            have hbel2 := hbelA.trans (hb2.mono hbelA.size)
            have p2 : w2.cell? ⟨w.heap.size, 0, none⟩ = some (.int .u8 (op : Int)) := lp ⟨w2, hb2⟩
            have hz2 := cell_lt p2
            clear l0 l1 l2 l3 l4 l5 l6 l7 lp
            go_wp2_with fail
          · go_ret
            exact ⟨by rw [all_not HY.out.1 HR.out]; rfl, hbel2⟩
          · go_roundw
            case rel => exact ⟨k + 1, by go_num, by omega, all_take hall.out HY.out.1 HR.out, hbel2, p2, hz2⟩
            case measure => simp [intOf]; omega
        · obtain rfl : k = ks.length := by omega
          go_wp2_with fail
          go_ret
          have he := hall.out
          rw [List.take_length] at he
          exact ⟨by rw [he]; rfl, hbel⟩
    · rw [hg] at hgr
      have HG := Lib.hid hgr; clear hgr hg
      rw [show (!(false && !true) && ks.all (mayB cols (true && !false))) = ks.all (mayB cols true) by simp]

      go_enter Try.func20, Try.ntmps20
      go_wp2_with fail
      refine (HSH.out _ ((Below.refl _ _).alloc (Nat.le_refl _) _)).mono ?_
      rintro e w1 ⟨rfl, hb1⟩
      have hbw : Below w.heap.size w w1 := ((Below.refl _ _).alloc (Nat.le_refl _) _).trans (hb1.mono (by simp))
      obtain ⟨q0, q1, q2, q3, q4, q5, q6, q7⟩ := box_cells w w1 (.mk op v t m n (.slice a ks.length c) ks) 27 hb1
      simp only [Ex.op_mk, Ex.v_mk, Ex.t_mk, Ex.m_mk, Ex.n_mk, Ex.kv_mk] at q0 q1 q2 q3 q4 q5 q6 q7
      clear hb1
      go_wp2_with fail
      refine (HG.out _).mono ?_
      rintro e w' ⟨rfl, rfl⟩
      go_wp2_with fail

      go_loopw [25] (fun i wr => ∃ k : Nat, i = .int .i64 (k : Int) ∧ k ≤ ks.length ∧ Hid ((ks.take k).all (mayB cols true) = true) ∧ Below w.heap.size w wr ∧ wr.cell? ⟨w.heap.size, 0, none⟩ = some (.int .u8 (op : Int)) ∧ w.heap.size < wr.heap.size) (fun i _ => ks.length - (intOf i).toNat)
      case atStart => exact ⟨0, rfl, Nat.zero_le _, rfl, hbw, q0, cell_lt q0⟩
      case round =>
        obtain ⟨k, rfl, hk, hall, hbel, p0, hz⟩ := hrel
        clear q0 q1 q2 q3 q4 q5 q6 q7
        by_cases hlt : k < ks.length
        · obtain ⟨y, hy⟩ : ∃ y, ks[k]? = some y := ⟨ks[k], by simp⟩
          have hym : y ∈ ks := List.mem_of_getElem? hy
          obtain ⟨b, o, rfl, hbz, d0, d1, d2, d3, d4, d5, d6, d7⟩ := Ex.at8 (HAT.out.below hbel) hy
          have hcall := fun W hb => IH.out y hym cols true W hc0 hc1 (Ex.in_below (w := w) hb y (HKI.out y hym)) (HKO.out y hym)
          obtain ⟨ay, cy, eky⟩ := Ex.kv_of (HKI.out y hym)
          simp only [Ex.val] at hcall
          have HEK := Lib.hid eky
          rw [eky] at d7 hcall
          have HC := Lib.hid hcall; clear hcall eky
          have HY := Lib.hid (And.intro hy hym); clear hy hym
          have ilt : (k : Int) < (ks.length : Int) := by omega
          have hzr := hbel.size
          go_wp2_with fail
          have hbelA := hbel.alloc hbel.size (.cells #[.int .u8 (y.op : Int), .int .u8 (y.v.k : Int), .int .i64 y.v.n, .string y.v.s, .string y.t, .string y.m, .int .i64 y.n, .slice ay y.kids.length cy] 27)
          have hzA : w.heap.size < (wr.alloc (.cells #[.int .u8 (y.op : Int), .int .u8 (y.v.k : Int), .int .i64 y.v.n, .string y.v.s, .string y.t, .string y.m, .int .i64 y.n, .slice ay y.kids.length cy] 27)).heap.size := by simp; omega
          have pA : World.cell? (wr.alloc (.cells #[.int .u8 (y.op : Int), .int .u8 (y.v.k : Int), .int .i64 y.v.n, .string y.v.s, .string y.t, .string y.m, .int .i64 y.n, .slice ay y.kids.length cy] 27)) ⟨w.heap.size, 0, none⟩ = some (.int .u8 (op : Int)) := by go_simp
          obtain ⟨e0, e1, e2, e3, e4, e5, e6, e7⟩ := box_cells wr _ y 27 (Below.refl _ _)
          simp only [exBox, HEK.out] at e0 e1 e2 e3 e4 e5 e6 e7
          clear d0 d1 d2 d3 d4 d5 d6 d7
          generalize wr.alloc (.cells #[.int .u8 (y.op : Int), .int .u8 (y.v.k : Int), .int .i64 y.v.n, .string y.v.s, .string y.t, .string y.m, .int .i64 y.n, .slice ay y.kids.length cy] 27) = W at *
          have l0 := lat_cell e0
          have l1 := lat_cell e1
          have l2 := lat_cell e2
          have l3 := lat_cell e3
          have l4 := lat_cell e4
          have l5 := lat_cell e5
          have l6 := lat_cell e6
          have l7 := lat_cell e7
          have lp := lat_cell pA
          have hlb := fun e : Later W => hbelA.trans ((lat_below W e).mono hbelA.size)
          have HLB := Lib.hid hlb; clear hlb
          clear e0 e1 e2 e3 e4 e5 e6 e7
          cases hres : mayB cols true y
          all_goals
            have HR := Lib.hid hres
            rw [hres] at HC
            clear hres
            refine wp_region_later (by kernel_rfl) (by kernel_rfl) ?_
            repeat (go_big_quiet_step ((first | (go_at_call 29; exact lat_calls_same (HG.out _)) | (go_at_call 20; exact lat_calls (HC.out _ (HLB.out _))))))
            refine wpQuiet_nil ?_
            refine later_out (fun w2 hb2 => ?_)
            have hbel2 := hbelA.trans (hb2.mono hbelA.size)
            have p2 : w2.cell? ⟨w.heap.size, 0, none⟩ = some (.int .u8 (op : Int)) := lp ⟨w2, hb2⟩
            have hz2 := cell_lt p2
            clear l0 l1 l2 l3 l4 l5 l6 l7 lp
            go_wp2_with fail
          · go_ret
            exact ⟨by rw [all_not HY.out.1 HR.out]; rfl, hbel2⟩
          · go_roundw
            case rel => exact ⟨k + 1, by go_num, by omega, all_take hall.out HY.out.1 HR.out, hbel2, p2, hz2⟩
            case measure => simp [intOf]; omega
        · obtain rfl : k = ks.length := by omega
          go_wp2_with fail
          go_ret
          have he := hall.out
          rw [List.take_length] at he
          exact ⟨by rw [he]; rfl, hbel⟩
    · rw [hg] at hgr
      have HG := Lib.hid hgr; clear hgr hg

      go_enter Try.func20, Try.ntmps20
      go_wp2_with fail
      refine (HSH.out _ ((Below.refl _ _).alloc (Nat.le_refl _) _)).mono ?_
      rintro e w1 ⟨rfl, hb1⟩
      have hbw : Below w.heap.size w w1 := ((Below.refl _ _).alloc (Nat.le_refl _) _).trans (hb1.mono (by simp))
      obtain ⟨q0, q1, q2, q3, q4, q5, q6, q7⟩ := box_cells w w1 (.mk op v t m n (.slice a ks.length c) ks) 27 hb1
      simp only [Ex.op_mk, Ex.v_mk, Ex.t_mk, Ex.m_mk, Ex.n_mk, Ex.kv_mk] at q0 q1 q2 q3 q4 q5 q6 q7
      clear hb1
      go_wp2_with fail
      refine (HG.out _).mono ?_
      rintro e w' ⟨rfl, rfl⟩
      go_wp2_with fail

      go_ret
      exact ⟨by simp, hbw⟩
    · rw [hg] at hgr
      have HG := Lib.hid hgr; clear hgr hg
      rw [show (!(true && !true) && ks.all (mayB cols (true && !true))) = ks.all (mayB cols false) by simp]

      go_enter Try.func20, Try.ntmps20
      go_wp2_with fail
      refine (HSH.out _ ((Below.refl _ _).alloc (Nat.le_refl _) _)).mono ?_
      rintro e w1 ⟨rfl, hb1⟩
      have hbw : Below w.heap.size w w1 := ((Below.refl _ _).alloc (Nat.le_refl _) _).trans (hb1.mono (by simp))
      obtain ⟨q0, q1, q2, q3, q4, q5, q6, q7⟩ := box_cells w w1 (.mk op v t m n (.slice a ks.length c) ks) 27 hb1
      simp only [Ex.op_mk, Ex.v_mk, Ex.t_mk, Ex.m_mk, Ex.n_mk, Ex.kv_mk] at q0 q1 q2 q3 q4 q5 q6 q7
      clear hb1
      go_wp2_with fail
      refine (HG.out _).mono ?_
      rintro e w' ⟨rfl, rfl⟩
      go_wp2_with fail

      go_loopw [25] (fun i wr => ∃ k : Nat, i = .int .i64 (k : Int) ∧ k ≤ ks.length ∧ Hid ((ks.take k).all (mayB cols false) = true) ∧ Below w.heap.size w wr ∧ wr.cell? ⟨w.heap.size, 0, none⟩ = some (.int .u8 (op : Int)) ∧ w.heap.size < wr.heap.size) (fun i _ => ks.length - (intOf i).toNat)
      case atStart => exact ⟨0, rfl, Nat.zero_le _, rfl, hbw, q0, cell_lt q0⟩
      case round =>
        obtain ⟨k, rfl, hk, hall, hbel, p0, hz⟩ := hrel
        clear q0 q1 q2 q3 q4 q5 q6 q7
        by_cases hlt : k < ks.length
        · obtain ⟨y, hy⟩ : ∃ y, ks[k]? = some y := ⟨ks[k], by simp⟩
          have hym : y ∈ ks := List.mem_of_getElem? hy
          obtain ⟨b, o, rfl, hbz, d0, d1, d2, d3, d4, d5, d6, d7⟩ := Ex.at8 (HAT.out.below hbel) hy
          have hcall := fun W hb => IH.out y hym cols false W hc0 hc1 (Ex.in_below (w := w) hb y (HKI.out y hym)) (HKO.out y hym)
          obtain ⟨ay, cy, eky⟩ := Ex.kv_of (HKI.out y hym)
          simp only [Ex.val] at hcall
          have HEK := Lib.hid eky
          rw [eky] at d7 hcall
          have HC := Lib.hid hcall; clear hcall eky
          have HY := Lib.hid (And.intro hy hym); clear hy hym
          have ilt : (k : Int) < (ks.length : Int) := by omega
          have hzr := hbel.size
          go_wp2_with fail
          have hbelA := hbel.alloc hbel.size (.cells #[.int .u8 (y.op : Int), .int .u8 (y.v.k : Int), .int .i64 y.v.n, .string y.v.s, .string y.t, .string y.m, .int .i64 y.n, .slice ay y.kids.length cy] 27)
          have hzA : w.heap.size < (wr.alloc (.cells #[.int .u8 (y.op : Int), .int .u8 (y.v.k : Int), .int .i64 y.v.n, .string y.v.s, .string y.t, .string y.m, .int .i64 y.n, .slice ay y.kids.length cy] 27)).heap.size := by simp; omega
          have pA : World.cell? (wr.alloc (.cells #[.int .u8 (y.op : Int), .int .u8 (y.v.k : Int), .int .i64 y.v.n, .string y.v.s, .string y.t, .string y.m, .int .i64 y.n, .slice ay y.kids.length cy] 27)) ⟨w.heap.size, 0, none⟩ = some (.int .u8 (op : Int)) := by go_simp
          obtain ⟨e0, e1, e2, e3, e4, e5, e6, e7⟩ := box_cells wr _ y 27 (Below.refl _ _)
          simp only [exBox, HEK.out] at e0 e1 e2 e3 e4 e5 e6 e7
          clear d0 d1 d2 d3 d4 d5 d6 d7
          generalize wr.alloc (.cells #[.int .u8 (y.op : Int), .int .u8 (y.v.k : Int), .int .i64 y.v.n, .string y.v.s, .string y.t, .string y.m, .int .i64 y.n, .slice ay y.kids.length cy] 27) = W at *
          have l0 := lat_cell e0
          have l1 := lat_cell e1
          have l2 := lat_cell e2
          have l3 := lat_cell e3
          have l4 := lat_cell e4
          have l5 := lat_cell e5
          have l6 := lat_cell e6
          have l7 := lat_cell e7
          have lp := lat_cell pA
          have hlb := fun e : Later W => hbelA.trans ((lat_below W e).mono hbelA.size)
          have HLB := Lib.hid hlb; clear hlb
          clear e0 e1 e2 e3 e4 e5 e6 e7
          cases hres : mayB cols false y
          all_goals
            have HR := Lib.hid hres
            rw [hres] at HC
            clear hres
            refine wp_region_later (by kernel_rfl) (by kernel_rfl) ?_
            repeat (go_big_quiet_step ((first | (go_at_call 29; exact lat_calls_same (HG.out _)) | (go_at_call 20; exact lat_calls (HC.out _ (HLB.out _))))))
            refine wpQuiet_nil ?_
            refine later_out (fun w2 hb2 => ?_)
            have hbel2 := hbelA.trans (hb2.mono hbelA.size)
            have p2 : w2.cell? ⟨w.heap.size, 0, none⟩ = some (.int .u8 (op : Int)) := lp ⟨w2, hb2⟩
            have hz2 := cell_lt p2
            clear l0 l1 l2 l3 l4 l5 l6 l7 lp
            go_wp2_with fail
          · go_ret
            exact ⟨by rw [all_not HY.out.1 HR.out]; rfl, hbel2⟩
          · go_roundw
            case rel => exact ⟨k + 1, by go_num, by omega, all_take hall.out HY.out.1 HR.out, hbel2, p2, hz2⟩
            case measure => simp [intOf]; omega
        · obtain rfl : k = ks.length := by omega
          go_wp2_with fail
          go_ret
          have he := hall.out
          rw [List.take_length] at he
          exact ⟨by rw [he]; rfl, hbel⟩
end Go.Proofs.Ytclkpbokngamiaa.Dt
