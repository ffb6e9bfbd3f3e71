/-
  The walk of the laws' own 'kinds': rows whose values are null or of their columns' kinds.
-/
import Derived.Test.YtaeobillbocemaaEvalLaw
import Derived.Test.YtaeobillbocemaaSoundSpec
import Derived.Test.YtaeobillbocemaaEvalTog
import Derived.Deep.DeepCutAuto
namespace Go.Proofs.Ytaeobillbocemaa.Dt
open Go.RowKit Go.Proofs.Ytaeobillbocemaa.By

set_option maxRecDepth 100000 in
set_option maxHeartbeats 8000000 in
theorem kindsL (rv cv : Value) (rows : List Rw) (cols : List Nat) (w : World) (hrows : RowsAt w rv rows) (hrl : rows.length ≤ 140737488351232) (hvl : ∀ r ∈ rows, r.l.length ≤ 140737488351232) (hvs : ∀ r ∈ rows, ∀ v ∈ r.l, v.ok) (hcv : U8sAt w cv cols) (hcs : ∀ k ∈ cols, k < 256) (hcl : cols.length ≤ 140737488351232) :
    Calls Try.prog 29 #[rv, cv] w fun e w' => (∃ b : Bool, e = .returned (.bool b) ∧ (b = true → ∀ r ∈ rows, RowK cols r.l)) ∧ Below w.heap.size w w' := by
  obtain ⟨ar, cr, rfl⟩ := hrows.at_.shape
  obtain ⟨ac, cc, rfl⟩ := hcv.shape
  have HR := Lib.hid hrows
  have HCV := Lib.hid hcv
  have HCS := Lib.hid hcs
  have HVL := Lib.hid hvl
  have HVS := Lib.hid hvs
  have HRL := Lib.hid (And.intro hrl hcl)
  clear hrows hvl hvs hcv hcs hrl hcl
  obtain ⟨P, hP⟩ : ∃ P : Ending → Prop, P = fun e => ∃ b : Bool, e = .returned (.bool b) ∧ (b = true → ∀ r ∈ rows, RowK cols r.l) := ⟨_, rfl⟩
  have hno : P (.returned (.bool false)) := by rw [hP]; exact ⟨false, rfl, fun h => by cases h⟩
  have hyes : (∀ r ∈ rows, RowK cols r.l) → P (.returned (.bool true)) := fun h => by rw [hP]; exact ⟨true, rfl, fun _ => h⟩
  have key : Calls Try.prog 29 #[.slice ar rows.length cr, .slice ac cols.length cc] w fun e w' => P e ∧ Below w.heap.size w w' := by
    have HNO := Lib.hid hno
    have HYES := Lib.hid hyes
    clear hno hyes hP
    go_enter Try.func29, Try.ntmps29
    go_wp2_with fail
    go_loopg [11] rows.length (fun gk i wr => ∃ k : Nat, i = .int .i64 (k : Int) ∧ gk = rows.length - k ∧ k ≤ rows.length ∧ Hid (∀ j r, j < k → rows[j]? = some r → RowK cols r.l) ∧ Hid (Below w.heap.size w wr))
    case atStart => exact ⟨0, rfl, rfl, Nat.zero_le _, Lib.hid (fun j r hj => by omega), Lib.hid (Below.refl _ _)⟩
    case round =>
      obtain ⟨k, rfl, rfl, hkl', hsofar, hbr⟩ := hrel
      by_cases hlt : k < rows.length
      · obtain ⟨row, hy⟩ : ∃ y, rows[k]? = some y := ⟨rows[k], by simp⟩
        have hym : row ∈ rows := List.mem_of_getElem? hy
        have hra := HR.out.below hbr.out
        obtain ⟨b, o, rfl, hbz, dr⟩ := atR hra.at_ hy
        have hrat := HR.out.rows row hym
        obtain ⟨a3, c3, e3⟩ := hrat.shape
        rw [e3] at dr hrat
        have HRAT := Lib.hid hrat
        have HOKV := Lib.hid (HVS.out row hym)
        have ilt : (k : Int) < (rows.length : Int) := by omega
        have hkk : wrap64 ((k : Int) + 1) = ((k + 1 : Nat) : Int) := by have := HRL.out.1; unfold wrap64; omega
        have HKK := Lib.hid hkk
        have HLT := Lib.hid (And.intro hlt (HVL.out row hym))
        have HRY := Lib.hid hy
        clear hrat e3 hra hy hym hlt hkk
        by_cases hlen : row.l.length = cols.length
        · have el : ((row.l.length : Int) != (cols.length : Int)) = false := by simp [hlen]
          have HLEN := Lib.hid hlen
          clear hlen
          go_wp2_with fail
          go_loopg [22] row.l.length (fun gj i wx => ∃ j : Nat, i = .int .i64 (j : Int) ∧ gj = row.l.length - j ∧ j ≤ row.l.length ∧ Hid (∀ i v, i < j → row.l[i]? = some v → Kd (cols.getD i 0) v) ∧ Hid (Below wr.heap.size wr wx))
          case atStart => exact ⟨0, rfl, rfl, Nat.zero_le _, Lib.hid (fun i v hi => by omega), Lib.hid (Below.refl _ _)⟩
          case round =>
            rename World => wx
            obtain ⟨j, rfl, rfl, hjM, hdone, hbx⟩ := hrel
            by_cases hj : j < row.l.length
            · obtain ⟨y, hy⟩ : ∃ y, row.l[j]? = some y := ⟨row.l[j], by simp⟩
              have hyk := (HOKV.out y (List.mem_of_getElem? hy)).1
              obtain ⟨b2, o2, rfl, hbz2, d0, d1, d2⟩ := at3 (HRAT.out.below (next hbr.out hbx.out)) hy
              have hcj : j < cols.length := by have := HLEN.out; omega
              obtain ⟨q, hq⟩ : ∃ q, cols[j]? = some q := ⟨cols[j], by simp⟩
              have hqs : q < 256 := HCS.out q (List.mem_of_getElem? hq)
              obtain ⟨bc, oc, rfl, hbcz, dc⟩ := at1 (HCV.out.below (next hbr.out hbx.out)) hq
              have dc' : (wx.alloc (.cells #[.int .u8 (y.k : Int), .int .i64 y.n, .string y.s] 23)).cell? ⟨bc, oc + j, none⟩ = some (.int .u8 (q : Int)) := by rw [cell_alloc_lt hbcz]; exact dc
              have gq : cols.getD j 0 = q := by rw [List.getD, hq]; rfl
              have GQ := Lib.hid gq
              have x0 : (wx.alloc (.cells #[.int .u8 (y.k : Int), .int .i64 y.n, .string y.s] 23)).cell? ⟨wx.heap.size, 0, none⟩ = some (.int .u8 (y.k : Int)) := by go_simp
              have HBOX : Hid (Below wx.heap.size wx (wx.alloc (.cells #[.int .u8 (y.k : Int), .int .i64 y.n, .string y.s] 23))) := Lib.hid ((Below.refl _ _).alloc (Nat.le_refl _) _)
              have jlt : (j : Int) < (row.l.length : Int) := by omega
              have jlc : (j : Int) < (cols.length : Int) := by omega
              have hjj : wrap64 ((j : Int) + 1) = ((j + 1 : Nat) : Int) := by have := HLT.out.2; unfold wrap64; omega
              have HJ := Lib.hid hj
              have HY := Lib.hid hy
              clear hy hj hq gq hcj dr
              by_cases k0 : y.k = 0
              · have e0 : ((y.k : Int) != 0) = false := by simp [k0]
                have K0 := Lib.hid k0
                clear k0
                go_wp2_with fail
                generalize hWY : wx.alloc (.cells #[.int .u8 (y.k : Int), .int .i64 y.n, .string y.s] 23) = WY at *
                clear hWY
                have l0 := lat_cell x0
                have lc := lat_cell dc'
                refine wp_region_later (by kernel_rfl) (by kernel_rfl) ?_
                repeat (go_big_quiet_step (fail))
                refine wpQuiet_nil ?_
                refine later_out (fun wf hbf => ?_)
                clear l0 lc x0 dc'
                go_wp2_with fail
                go_roundg (row.l.length - (j + 1))
                case measure => exact Nat.sub_lt_sub_left HJ.out (Nat.lt_succ_self _)
                case rel => exact ⟨j + 1, by first | exact congrArg (Value.int .i64) hjj | go_num | rfl, rfl, HJ.out, Lib.hid (fun i v hi hv => by
                  rcases Nat.lt_or_ge i j with h | h
                  · exact hdone.out i v h hv
                  · obtain rfl : i = j := Nat.le_antisymm (Nat.le_of_lt_succ hi) h
                    rw [HY.out] at hv
                    cases hv
                    exact .inl K0.out), Lib.hid (next (next hbx.out HBOX.out) hbf)⟩
              · have e0 : ((y.k : Int) != 0) = true := by simp; omega
                by_cases k1 : y.k = q
                · have e1 : ((y.k : Int) != (q : Int)) = false := by simp [k1]
                  have K1 := Lib.hid k1
                  clear k1 k0
                  go_wp2_with fail
                  generalize hWY : wx.alloc (.cells #[.int .u8 (y.k : Int), .int .i64 y.n, .string y.s] 23) = WY at *
                  clear hWY
                  have l0 := lat_cell x0
                  have lc := lat_cell dc'
                  refine wp_region_later (by kernel_rfl) (by kernel_rfl) ?_
                  repeat (go_big_quiet_step (fail))
                  refine wpQuiet_nil ?_
                  refine later_out (fun wf hbf => ?_)
                  clear l0 lc x0 dc'
                  go_wp2_with fail
                  go_roundg (row.l.length - (j + 1))
                  case measure => exact Nat.sub_lt_sub_left HJ.out (Nat.lt_succ_self _)
                  case rel => exact ⟨j + 1, by first | exact congrArg (Value.int .i64) hjj | go_num | rfl, rfl, HJ.out, Lib.hid (fun i v hi hv => by
                    rcases Nat.lt_or_ge i j with h | h
                    · exact hdone.out i v h hv
                    · obtain rfl : i = j := Nat.le_antisymm (Nat.le_of_lt_succ hi) h
                      rw [HY.out] at hv
                      cases hv
                      exact .inr (K1.out.trans GQ.out.symm)), Lib.hid (next (next hbx.out HBOX.out) hbf)⟩
                · have e1 : ((y.k : Int) != (q : Int)) = true := by simp; omega
                  clear k1 k0
                  go_wp2_with fail
                  generalize hWY : wx.alloc (.cells #[.int .u8 (y.k : Int), .int .i64 y.n, .string y.s] 23) = WY at *
                  clear hWY
                  have l0 := lat_cell x0
                  have lc := lat_cell dc'
                  refine wp_region_later (by kernel_rfl) (by kernel_rfl) ?_
                  repeat (go_big_quiet_step (fail))
                  refine wpQuiet_nil ?_
                  refine later_out (fun wf hbf => ?_)
                  clear l0 lc x0 dc'
                  go_wp2_with fail
                  go_ret
                  exact ⟨HNO.out, next hbr.out (next (next hbx.out HBOX.out) hbf)⟩
            · have jlt : ¬ ((j : Int) < (row.l.length : Int)) := by omega
              have hrk : RowK cols row.l := ⟨HLEN.out, fun i v hv => hdone.out i v (by have := (List.getElem?_eq_some_iff.1 hv).1; omega) hv⟩
              have HRK := Lib.hid hrk
              have hkk := HKK.out
              clear hrk
              go_wp2_with fail
              go_roundg (rows.length - (k + 1))
              case measure => exact Nat.sub_lt_sub_left HLT.out.1 (Nat.lt_succ_self _)
              case rel => exact ⟨k + 1, by first | exact congrArg (Value.int .i64) hkk | go_num | rfl, rfl, HLT.out.1, Lib.hid (fun i r hi hr => by
                rcases Nat.lt_or_ge i k with h | h
                · exact hsofar.out i r h hr
                · obtain rfl : i = k := Nat.le_antisymm (Nat.le_of_lt_succ hi) h
                  rw [HRY.out] at hr
                  cases hr
                  exact HRK.out), Lib.hid (next hbr.out hbx.out)⟩
        · have el : ((row.l.length : Int) != (cols.length : Int)) = true := by simp; omega
          clear hlen
          go_wp2_with fail
          go_ret
          exact ⟨HNO.out, hbr.out⟩
      · obtain rfl : k = rows.length := by omega
        go_wp2_with fail
        go_ret
        exact ⟨HYES.out (fun r hr => by
          obtain ⟨i, hi, rfl⟩ := List.getElem_of_mem hr
          exact hsofar.out i _ hi (by simp [hi])), hbr.out⟩
  rw [hP] at key
  exact key
end Go.Proofs.Ytaeobillbocemaa.Dt
