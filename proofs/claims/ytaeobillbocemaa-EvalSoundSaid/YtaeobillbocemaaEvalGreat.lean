/-
  The walk of the laws' own 'great': it says yes or no, whichever.
-/
import Derived.Test.YtaeobillbocemaaEvalLaw
import Derived.Deep.DeepCutAuto
namespace Go.Proofs.Ytaeobillbocemaa.Dt
open Go.RowKit Go.Proofs.Ytaeobillbocemaa.By

set_option maxRecDepth 100000 in
set_option maxHeartbeats 8000000 in
theorem greatL (rv : Value) (rows : List Rw) (w : World) (hrows : RowsAt w rv rows) (hrl : rows.length ≤ 140737488351232) (hvl : ∀ r ∈ rows, r.l.length ≤ 140737488351232) (hvs : ∀ r ∈ rows, ∀ v ∈ r.l, v.ok) :
    Calls Try.prog 13 #[rv] w fun e w' => (∃ b, e = .returned (.bool b)) ∧ Below w.heap.size w w' := by
  obtain ⟨ar, cr, rfl⟩ := hrows.at_.shape
  have HR := Lib.hid hrows
  have HVL := Lib.hid hvl
  have HVS := Lib.hid hvs
  clear hrows hvl hvs
  go_enter Try.func13, Try.ntmps13
  go_wp2_with fail
  go_loopg [3, 10] rows.length (fun gk nv i wr => ∃ (k : Nat) (r : Int), i = .int .i64 (k : Int) ∧ nv = .int .i64 r ∧ gk = rows.length - k ∧ k ≤ rows.length ∧ Hid (Below w.heap.size w wr))
  case atStart => exact ⟨0, 0, rfl, rfl, rfl, Nat.zero_le _, Lib.hid (Below.refl _ _)⟩
  case round =>
    obtain ⟨k, r, rfl, rfl, rfl, hkl', hbr⟩ := hrel
    by_cases hlt : k < rows.length
    · obtain ⟨row, hy⟩ : ∃ y, rows[k]? = some y := ⟨rows[k], by simp⟩
      have hym : row ∈ rows := List.mem_of_getElem? hy
      have hra := HR.out.below hbr.out
      obtain ⟨b, o, rfl, hbz, dr⟩ := atR hra.at_ hy
      have hrat := HR.out.rows row hym
      obtain ⟨a3, c3, e3⟩ := hrat.shape
      rw [e3] at dr hrat
      have hcap : row.l.length ≤ c3 := by
        obtain ⟨a', c', e, hc, _⟩ := hrat
        simp only [Value.slice.injEq] at e
        obtain ⟨_, _, rfl⟩ := e
        exact hc
      have hL := HVL.out row hym
      have HRAT := Lib.hid hrat
      have HOKV := Lib.hid (HVS.out row hym)
      have ilt : (k : Int) < (rows.length : Int) := by omega
      have hkk : wrap64 ((k : Int) + 1) = ((k + 1 : Nat) : Int) := by unfold wrap64; omega
      have HLT := Lib.hid (And.intro hlt hrl)
      clear hrat e3 hra hy hym hlt
      have hrl' : row.l.length = row.l.length := rfl
      obtain ⟨RL, hRL⟩ : ∃ RL, RL = row.l.length := ⟨_, rfl⟩
      rw [← hRL] at dr hcap hL HRAT
      have HRL := Lib.hid hRL
      clear hRL hrl'
      obtain ⟨M, hM⟩ : ∃ M, M = min RL 40 := ⟨_, rfl⟩
      have hm1 : M ≤ RL := by omega
      have hm2 : M ≤ 40 := by omega
      have hmi : min (RL : Int) 40 = (M : Int) := by omega
      clear hM
      go_wp2_with fail
      generalize wrap64 (r + (1 + min (RL : Int) 1024)) = r0
      generalize (1 + min (RL : Int) 1024) = r1
      generalize min (RL : Int) 1024 = r2
      clear hmi hL
      go_loopg [3, 26] M (fun gj nv i wx => ∃ (j : Nat) (q : Int), i = .int .i64 (j : Int) ∧ nv = .int .i64 q ∧ gj = M - j ∧ j ≤ M ∧ Hid (Below wr.heap.size wr wx))
      case atStart => exact ⟨0, r0, rfl, rfl, rfl, Nat.zero_le _, Lib.hid (Below.refl _ _)⟩
      case round =>
        rename World => wx
        obtain ⟨j, q, rfl, rfl, rfl, hjM, hbx⟩ := hrel
        by_cases hj : j < M
        · obtain ⟨y, hy⟩ : ∃ y, row.l[j]? = some y := ⟨row.l[j]'(by have := HRL.out; omega), by simp⟩
          obtain ⟨b2, o2, rfl, hbz2, d0, d1, d2⟩ := at3 (HRAT.out.below (next hbr.out hbx.out)) hy
          have jlt : (j : Int) < (M : Int) := by omega
          have hjj : wrap64 ((j : Int) + 1) = ((j + 1 : Nat) : Int) := by unfold wrap64; omega
          have HJ := Lib.hid hj
          obtain ⟨mn, hmn⟩ : ∃ mn, min (y.s.size : Int) 4096 = mn := ⟨_, rfl⟩
          have hmn0 : 0 ≤ mn := by omega
          clear hy hj hm1 hm2 hcap dr hkk
          go_wp2_with fail
          go_roundg (M - (j + 1))
          case measure => have := HJ.out; omega
          case rel => exact ⟨j + 1, _, by first | exact congrArg (Value.int .i64) hjj | go_num | rfl, rfl, rfl, by have := HJ.out; omega, Lib.hid (hbx.out.alloc hbx.out.size _)⟩
        · have jlt : ¬ ((j : Int) < (M : Int)) := by omega
          have hbw : Hid (Below w.heap.size w wx) := Lib.hid (next hbr.out hbx.out)
          by_cases h2 : 2000 < q
          · have e2 : decide (2000 < q) = true := decide_eq_true h2
            clear h2
            go_wp2_with fail
            go_ret
            exact ⟨by first | exact .inl rfl | exact .inr rfl | exact ⟨_, rfl⟩, hbw.out⟩
          · have e2 : decide (2000 < q) = false := decide_eq_false h2
            clear h2
            by_cases h4 : 40 < RL
            · have e4 : decide ((40 : Int) < (RL : Int)) = true := decide_eq_true (by omega)
              go_wp2_with fail
              go_ret
              exact ⟨by first | exact .inl rfl | exact .inr rfl | exact ⟨_, rfl⟩, hbw.out⟩
            · have e4 : decide ((40 : Int) < (RL : Int)) = false := decide_eq_false (by omega)
              go_wp2_with fail
              go_roundg (rows.length - (k + 1))
              case measure => have := HLT.out.1; omega
              case rel => exact ⟨k + 1, _, by first | exact congrArg (Value.int .i64) hkk | go_num | rfl, rfl, rfl, HLT.out.1, hbw⟩
    · obtain rfl : k = rows.length := by omega
      go_wp2_with fail
      go_ret
      exact ⟨by first | exact .inl rfl | exact .inr rfl | exact ⟨_, rfl⟩, hbr.out⟩
end Go.Proofs.Ytaeobillbocemaa.Dt
