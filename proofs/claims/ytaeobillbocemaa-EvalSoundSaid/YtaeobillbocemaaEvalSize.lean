/-
  The walk of the laws' own 'size': it comes to a number, whichever.
-/
import Derived.Test.YtaeobillbocemaaEvalLaw
import Derived.Deep.DeepCutAuto
namespace Go.Proofs.Ytaeobillbocemaa.Dt
open Go.RowKit Go.Proofs.Ytaeobillbocemaa.By

set_option maxRecDepth 100000 in
set_option maxHeartbeats 4000000 in
theorem sizeL : ∀ (x : Ex) (d : Int) (w : World), x.In w → x.Ok → Calls Try.prog 12 #[x.val, .int .i64 d] w fun e w' => (∃ r : Int, e = .returned (.int .i64 r)) ∧ Below w.heap.size w w' := by
  refine Ex.ind fun x ih d w hin hok => ?_
  rw [Ex.in_iff] at hin
  rw [Ex.ok_iff] at hok
  obtain ⟨hat, hkin⟩ := hin
  obtain ⟨hone, hkok⟩ := hok
  obtain ⟨op, v, t, m, n, kv, ks⟩ := x
  simp only [Ex.op_mk, Ex.v_mk, Ex.t_mk, Ex.m_mk, Ex.n_mk, Ex.kv_mk, Ex.kids_mk, Ex.okOne] at hat hkin hkok hone ih
  simp only [Ex.val, Ex.op_mk, Ex.v_mk, Ex.t_mk, Ex.m_mk, Ex.n_mk, Ex.kv_mk]
  obtain ⟨a, c, rfl⟩ := hat.shape
  obtain ⟨hop, hv, ht, hm, hn1, hn2, hkl⟩ := hone
  have HAT := Lib.hid hat; clear hat
  have HKI := Lib.hid hkin; clear hkin
  have HKO := Lib.hid hkok; clear hkok
  have IH := Lib.hid ih; clear ih hv hop ht hm hn1 hn2
  have HBA : Hid (Below w.heap.size w (w.alloc (.cells #[.int .u8 (op : Int), .int .u8 (v.k : Int), .int .i64 v.n, .string v.s, .string t, .string m, .int .i64 n, .slice a ks.length c] 26))) := Lib.hid ((Below.refl _ _).alloc (Nat.le_refl _) _)
  go_enter Try.func12, Try.ntmps12
  by_cases hd : 200 < d
  · have ed : decide (200 < d) = true := decide_eq_true hd
    clear hd
    go_wp2_with fail
    go_ret
    exact ⟨⟨_, rfl⟩, HBA.out⟩
  · have ed : decide (200 < d) = false := decide_eq_false hd
    clear hd
    go_wp2_with fail
    generalize hN0 : wrap64 (1 + (v.s.size : Int).tdiv 64) = N0
    clear hN0
    go_loopg [5, 19] ks.length (fun gk nv i wr => ∃ (k : Nat) (r : Int), i = .int .i64 (k : Int) ∧ nv = .int .i64 r ∧ gk = ks.length - k ∧ k ≤ ks.length ∧ Hid (Below w.heap.size w wr))
    case atStart => exact ⟨0, _, rfl, rfl, rfl, Nat.zero_le _, HBA⟩
    case round =>
      obtain ⟨k, r, rfl, rfl, rfl, hkl', hbr⟩ := hrel
      by_cases hlt : k < ks.length
      · obtain ⟨y, hy⟩ : ∃ y, ks[k]? = some y := ⟨ks[k], by simp⟩
        have hym : y ∈ ks := List.mem_of_getElem? hy
        obtain ⟨b, o, rfl, hbz, d0, d1, d2, d3, d4, d5, d6, d7⟩ := Ex.at8 (HAT.out.below hbr.out) hy
        obtain ⟨ay, cy, eky⟩ := Ex.kv_of (HKI.out y hym)
        have hcall := fun W hb => IH.out y hym (wrap64 (d + 1)) W (Ex.in_below (w := w) hb y (HKI.out y hym)) (HKO.out y hym)
        simp only [Ex.val] at hcall
        rw [eky] at d7 hcall
        have HC := Lib.hid hcall
        have HBY : Hid (Below w.heap.size w (wr.alloc (.cells #[.int .u8 (y.op : Int), .int .u8 (y.v.k : Int), .int .i64 y.v.n, .string y.v.s, .string y.t, .string y.m, .int .i64 y.n, .slice ay y.kids.length cy] 26))) := Lib.hid (hbr.out.alloc hbr.out.size _)
        have ilt : (k : Int) < (ks.length : Int) := by omega
        clear hcall hy eky hym
        go_wp2_with fail
        refine (HC.out _ HBY.out).mono ?_
        rintro e w2 ⟨⟨r2, rfl⟩, hb2⟩
        have HB2 := Lib.hid (next HBY.out hb2)
        clear hb2 d0 d1 d2 d3 d4 d5 d6 d7
        obtain ⟨r3, hr3⟩ : ∃ r3, wrap64 (r + r2) = r3 := ⟨_, rfl⟩
        by_cases h9 : 9000 < r3
        · have e9 : decide (9000 < r3) = true := decide_eq_true h9
          clear h9
          go_wp2_with fail
          go_ret
          exact ⟨⟨_, rfl⟩, HB2.out⟩
        · have e9 : decide (9000 < r3) = false := decide_eq_false h9
          clear h9
          go_wp2_with fail
          go_roundg (ks.length - (k + 1))
          case measure => omega
          case rel => exact ⟨k + 1, _, by go_num, rfl, rfl, by omega, HB2⟩
      · obtain rfl : k = ks.length := by omega
        go_wp2_with fail
        go_ret
        exact ⟨⟨_, rfl⟩, hbr.out⟩
end Go.Proofs.Ytaeobillbocemaa.Dt
