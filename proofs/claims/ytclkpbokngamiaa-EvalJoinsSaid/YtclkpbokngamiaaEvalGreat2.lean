/-
  The walk of the laws' own 'great': it says yes or no; where it says no there are not many rows.
-/
import Derived.Test.YtclkpbokngamiaaEvalLaw
import Derived.Deep.DeepCutAuto
namespace Go.Proofs.Ytclkpbokngamiaa.Dt
open Go.RowKit Go.Proofs.Ytclkpbokngamiaa.By

theorem great_step {q mn : Int} {k j : Nat} (h1 : (k : Int) + 1 ≤ q ∧ q ≤ 3100 + 64 * (j : Int)) (h2 : 0 ≤ mn ∧ mn ≤ 4096) (h3 : j ≤ 40) : (k : Int) + 1 ≤ wrap64 (q + mn / 64) ∧ wrap64 (q + mn / 64) ≤ 3100 + 64 * ((j + 1 : Nat) : Int) := by
  obtain ⟨z, hz⟩ : ∃ z, z = q + mn / 64 := ⟨_, rfl⟩
  have h4 : mn / 64 ≤ 64 := by omega
  have h5 : 0 ≤ mn / 64 := by omega
  rw [← hz]
  have hw : wrap64 z = z := by
    have : z ≤ 10000 := by omega
    have : -10000 ≤ z := by omega
    clear hz h1 h4 h5
    unfold wrap64; omega
  rw [hw]
  omega
theorem great_first {r : Int} {k RL : Nat} (h : (k : Int) ≤ r ∧ r ≤ 2000) : (k : Int) + 1 ≤ wrap64 (r + (1 + min (RL : Int) 1024)) ∧ wrap64 (r + (1 + min (RL : Int) 1024)) ≤ 3100 := by
  obtain ⟨m, hm⟩ : ∃ m, m = min (RL : Int) 1024 := ⟨_, rfl⟩
  have h1 : 0 ≤ m := by omega
  have h2 : m ≤ 1024 := by omega
  rw [← hm]
  obtain ⟨z, hz⟩ : ∃ z, z = r + (1 + m) := ⟨_, rfl⟩
  rw [← hz]
  have hw : wrap64 z = z := by
    have : z ≤ 10000 := by omega
    have : -10000 ≤ z := by omega
    clear hz hm h1 h2 h
    unfold wrap64; omega
  rw [hw]
  omega
set_option maxRecDepth 100000 in
set_option maxHeartbeats 8000000 in
theorem greatL2 (rv : Value) (rows : List Rw) (w : World) (hrows : RowsAt w rv rows) (hrl : rows.length ≤ 140737488351232) (hvl : ∀ r ∈ rows, r.l.length ≤ 140737488351232) (hvs : ∀ r ∈ rows, ∀ v ∈ r.l, v.ok) :
    Calls Try.prog 11 #[rv] w fun e w' => (∃ b, e = .returned (.bool b) ∧ (b = false → rows.length ≤ 2000)) ∧ Below w.heap.size w w' := by
  obtain ⟨ar, cr, rfl⟩ := hrows.at_.shape
  have HR := Lib.hid hrows
  have HVL := Lib.hid hvl
  have HVS := Lib.hid hvs
  clear hrows hvl hvs
  go_enter Try.func11, Try.ntmps11
  go_wp2_with fail
  go_loopg [3, 10] rows.length (fun gk nv i wr => ∃ (k : Nat) (r : Int), i = .int .i64 (k : Int) ∧ nv = .int .i64 r ∧ gk = rows.length - k ∧ k ≤ rows.length ∧ Hid (Below w.heap.size w wr) ∧ Hid ((k : Int) ≤ r ∧ r ≤ 2000))
  case atStart => exact ⟨0, 0, rfl, rfl, rfl, Nat.zero_le _, Lib.hid (Below.refl _ _), Lib.hid ⟨by omega, by omega⟩⟩
  case round =>
    obtain ⟨k, r, rfl, rfl, rfl, hkl', hbr, HR2⟩ := hrel
    by_cases hlt : k < rows.length
    · obtain ⟨row, hy⟩ : ∃ y, rows[k]? = some y := ⟨rows[k], by simp⟩
      have hym : row ∈ rows := List.mem_of_getElem? hy
      have hra := HR.out.below hbr.out
      obtain ⟨b, o, rfl, hbz, dr⟩ := atR hra.at_ hy
      have hrat := HR.out.rows row hym
      obtain ⟨a3, c3, e3⟩ := hrat.shape
      rw [e3] at dr hrat
      have hcap : row.l.length ≤ c3 := by
        obtain ⟨a', c', e, hc, _⟩ := hrat
        simp only [Value.slice.injEq] at e
        obtain ⟨_, _, rfl⟩ := e
        exact hc
      have hL := HVL.out row hym
      have HRAT := Lib.hid hrat
      have HOKV := Lib.hid (HVS.out row hym)
      have ilt : (k : Int) < (rows.length : Int) := by omega
      have hkk : wrap64 ((k : Int) + 1) = ((k + 1 : Nat) : Int) := by unfold wrap64; omega
      have HLT := Lib.hid (And.intro hlt hrl)
      clear hrat e3 hra hy hym hlt
      have hrl' : row.l.length = row.l.length := rfl
      obtain ⟨RL, hRL⟩ : ∃ RL, RL = row.l.length := ⟨_, rfl⟩
      rw [← hRL] at dr hcap hL HRAT
      have HRL := Lib.hid hRL
      clear hRL hrl'
      obtain ⟨M, hM⟩ : ∃ M, M = min RL 40 := ⟨_, rfl⟩
      have hm1 : M ≤ RL := by omega
      have hm2 : M ≤ 40 := by omega
      have hmi : min (RL : Int) 40 = (M : Int) := by omega
      clear hM
      go_wp2_with fail
      have HR0 : Hid ((k : Int) + 1 ≤ wrap64 (r + (1 + min (RL : Int) 1024)) ∧ wrap64 (r + (1 + min (RL : Int) 1024)) ≤ 3100) := Lib.hid (great_first HR2.out)
      generalize wrap64 (r + (1 + min (RL : Int) 1024)) = r0 at *
      generalize (1 + min (RL : Int) 1024) = r1
      generalize min (RL : Int) 1024 = r2
      clear hmi hL
      go_loopg [3, 26] M (fun gj nv i wx => ∃ (j : Nat) (q : Int), i = .int .i64 (j : Int) ∧ nv = .int .i64 q ∧ gj = M - j ∧ j ≤ M ∧ Hid (Below wr.heap.size wr wx) ∧ Hid ((k : Int) + 1 ≤ q ∧ q ≤ 3100 + 64 * j))
      case atStart => exact ⟨0, r0, rfl, rfl, rfl, Nat.zero_le _, Lib.hid (Below.refl _ _), Lib.hid ⟨HR0.out.1, by have := HR0.out.2; omega⟩⟩
      case round =>
        rename World => wx
        obtain ⟨j, q, rfl, rfl, rfl, hjM, hbx, HQ⟩ := hrel
        by_cases hj : j < M
        · obtain ⟨y, hy⟩ : ∃ y, row.l[j]? = some y := ⟨row.l[j]'(by have := HRL.out; omega), by simp⟩
          obtain ⟨b2, o2, rfl, hbz2, d0, d1, d2⟩ := at3 (HRAT.out.below (next hbr.out hbx.out)) hy
          have jlt : (j : Int) < (M : Int) := by omega
          have hjj : wrap64 ((j : Int) + 1) = ((j + 1 : Nat) : Int) := by unfold wrap64; omega
          have HJ := Lib.hid hj
          have HJM : Hid (j ≤ 40) := Lib.hid (Nat.le_of_lt (Nat.lt_of_lt_of_le hj hm2))
          obtain ⟨mn, hmn⟩ : ∃ mn, min (y.s.size : Int) 4096 = mn := ⟨_, rfl⟩
          have hmn0 : 0 ≤ mn := by omega
          have HMN : Hid (0 ≤ mn ∧ mn ≤ 4096) := Lib.hid (by omega)
          clear hy hj hm1 hm2 hcap dr hkk
          go_wp2_with fail
          go_roundg (M - (j + 1))
          case measure => have := HJ.out; omega
          case rel => exact ⟨j + 1, _, by first | exact congrArg (Value.int .i64) hjj | go_num | rfl, rfl, rfl, by have := HJ.out; omega, Lib.hid (hbx.out.alloc hbx.out.size _), Lib.hid (great_step HQ.out HMN.out HJM.out)⟩
        · have jlt : ¬ ((j : Int) < (M : Int)) := by omega
          have hbw : Hid (Below w.heap.size w wx) := Lib.hid (next hbr.out hbx.out)
          by_cases h2 : 2000 < q
          · have e2 : decide (2000 < q) = true := decide_eq_true h2
            clear h2
            go_wp2_with fail
            go_ret
            exact ⟨.inr rfl, hbw.out⟩
          · have e2 : decide (2000 < q) = false := decide_eq_false h2
            have HQ2 : Hid (((k + 1 : Nat) : Int) ≤ q ∧ q ≤ 2000) := Lib.hid (by have := HQ.out; omega)
            clear h2
            by_cases h4 : 40 < RL
            · have e4 : decide ((40 : Int) < (RL : Int)) = true := decide_eq_true (by omega)
              go_wp2_with fail
              go_ret
              exact ⟨.inr rfl, hbw.out⟩
            · have e4 : decide ((40 : Int) < (RL : Int)) = false := decide_eq_false (by omega)
              go_wp2_with fail
              go_roundg (rows.length - (k + 1))
              case measure => have := HLT.out.1; omega
              case rel => exact ⟨k + 1, q, by first | exact congrArg (Value.int .i64) hkk | go_num | rfl, rfl, rfl, HLT.out.1, hbw, HQ2⟩
    · obtain rfl : k = rows.length := by omega
      go_wp2_with fail
      go_ret
      exact ⟨⟨_, rfl, fun _ => by have := HR2.out; omega⟩, hbr.out⟩
end Go.Proofs.Ytclkpbokngamiaa.Dt
