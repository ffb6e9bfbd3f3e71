/- ValueOrder: the law returns true at every input. -/
import Derived.Test.YtghfaeapgghhlaaDoorLiftD
import Derived.Test.YtghfaeapgghhlaaDoorTie
import Derived.Test.YtghfaeapgghhlaaDoorCards
import Derived.SevenTiedAt
import Derived.Stop.Joined
import Derived.Test.YtghfaeapgghhlaaDoorValGreat
import Derived.Test.YtghfaeapgghhlaaDoorValLaid
import Derived.Test.YtghfaeapgghhlaaDoorOrdSpec
import Derived.Test.YtghfaeapgghhlaaDoorKipS
import Derived.Test.YtghfaeapgghhlaaDoorOpen
namespace Go.Proofs.YtghfaeapgghhlaaDoor.ValueOrder
open Go.ChangeShapes Go.WideShapes Go.ChangeAt Go.RowKit Go.Proofs.YtghfaeapgghhlaaDoor.By
set_option linter.unusedVariables false
-- laid
/- ValueOrder: rows stand in one order. No conditions beyond what the row lists. -/
open Go.Proofs.YtghfaeapgghhlaaDoor.Dt
def OrdA (x : V) (y : V) (b2 : Nat) (o2 : Nat) (n : Nat) (ct : Nat) (k : Nat) : Nat → Value → World → Prop
  | 0, v, _ => v = x.val
  | 1, v, _ => v = .int .i64 0
  | 2, v, _ => v = .bool true
  | 3, v, _ => v = .bool true
  | 4, v, _ => v = .slice (some ⟨b2, o2, none⟩) n ct
  | 5, v, _ => v = .int .i64 (k : Int)
  | 6, v, _ => v = .pointer (some ⟨b2, o2 + k * 3, none⟩)
  | 7, v, _ => v = y.val
  | 8, v, _ => v = .int .i64 0
  | 9, v, _ => v = .bool true
  | 10, v, _ => v = .bool true
  | 11, v, _ => v = .bool true
  | 12, v, _ => v = x.val
  | 13, v, _ => v = .slice (some ⟨b2, o2, none⟩) n ct
  | 14, v, _ => v = .int .i64 (k : Int)
  | 15, v, _ => v = .pointer (some ⟨b2, o2 + k * 3, none⟩)
  | 16, v, _ => v = y.val
  | 17, v, _ => v = .bool false
  | 18, v, _ => v = .bool false
  | _, _, _ => True
theorem OrdA.later {x : V} {y : V} {b2 : Nat} {o2 : Nat} {n : Nat} {ct : Nat} {k : Nat} : ∀ (j : Nat) (v : Value) (w1 w2 : World), OrdA x y b2 o2 n ct k j v w1 → Below w1.heap.size w1 w2 → OrdA x y b2 o2 n ct k j v w2
  | 0, _, _, _, h, _ => h
  | 1, _, _, _, h, _ => h
  | 2, _, _, _, h, _ => h
  | 3, _, _, _, h, _ => h
  | 4, _, _, _, h, _ => h
  | 5, _, _, _, h, _ => h
  | 6, _, _, _, h, _ => h
  | 7, _, _, _, h, _ => h
  | 8, _, _, _, h, _ => h
  | 9, _, _, _, h, _ => h
  | 10, _, _, _, h, _ => h
  | 11, _, _, _, h, _ => h
  | 12, _, _, _, h, _ => h
  | 13, _, _, _, h, _ => h
  | 14, _, _, _, h, _ => h
  | 15, _, _, _, h, _ => h
  | 16, _, _, _, h, _ => h
  | 17, _, _, _, h, _ => h
  | 18, _, _, _, h, _ => h
  | _ + 19, _, _, _, h, _ => h
def OrdB (x : V) (y : V) (b2 : Nat) (o2 : Nat) (n : Nat) (ct : Nat) (k : Nat) (C : Nat) : Nat → Value → World → Prop
  | 0, v, _ => v = x.val
  | 1, v, _ => v = .int .i64 0
  | 2, v, _ => v = .bool true
  | 3, v, _ => v = .bool true
  | 4, v, _ => v = .slice (some ⟨b2, o2, none⟩) n ct
  | 5, v, _ => v = .int .i64 (k : Int)
  | 6, v, _ => v = .pointer (some ⟨b2, o2 + k * 3, none⟩)
  | 7, v, _ => v = y.val
  | 8, v, _ => v = .int .i64 (C : Int)
  | 9, v, _ => v = .bool false
  | 10, v, _ => v = .bool false
  | 11, v, _ => v = .bool false
  | 12, v, _ => v = undef
  | 13, v, _ => v = undef
  | 14, v, _ => v = undef
  | 15, v, _ => v = undef
  | 16, v, _ => v = undef
  | 17, v, _ => v = undef
  | 18, v, _ => v = .bool false
  | _, _, _ => True
theorem OrdB.later {x : V} {y : V} {b2 : Nat} {o2 : Nat} {n : Nat} {ct : Nat} {k : Nat} {C : Nat} : ∀ (j : Nat) (v : Value) (w1 w2 : World), OrdB x y b2 o2 n ct k C j v w1 → Below w1.heap.size w1 w2 → OrdB x y b2 o2 n ct k C j v w2
  | 0, _, _, _, h, _ => h
  | 1, _, _, _, h, _ => h
  | 2, _, _, _, h, _ => h
  | 3, _, _, _, h, _ => h
  | 4, _, _, _, h, _ => h
  | 5, _, _, _, h, _ => h
  | 6, _, _, _, h, _ => h
  | 7, _, _, _, h, _ => h
  | 8, _, _, _, h, _ => h
  | 9, _, _, _, h, _ => h
  | 10, _, _, _, h, _ => h
  | 11, _, _, _, h, _ => h
  | 12, _, _, _, h, _ => h
  | 13, _, _, _, h, _ => h
  | 14, _, _, _, h, _ => h
  | 15, _, _, _, h, _ => h
  | 16, _, _, _, h, _ => h
  | 17, _, _, _, h, _ => h
  | 18, _, _, _, h, _ => h
  | _ + 19, _, _, _, h, _ => h
def OrdC (x : V) (y : V) (b2 : Nat) (o2 : Nat) (n : Nat) (ct : Nat) (k : Nat) (C : Nat) : Nat → Value → World → Prop
  | 0, v, _ => v = x.val
  | 1, v, _ => v = .int .i64 (C : Int)
  | 2, v, _ => v = .bool false
  | 3, v, _ => v = .bool false
  | 4, v, _ => v = undef
  | 5, v, _ => v = undef
  | 6, v, _ => v = undef
  | 7, v, _ => v = undef
  | 8, v, _ => v = undef
  | 9, v, _ => v = undef
  | 10, v, _ => v = .bool false
  | 11, v, _ => v = .bool false
  | 12, v, _ => v = undef
  | 13, v, _ => v = undef
  | 14, v, _ => v = undef
  | 15, v, _ => v = undef
  | 16, v, _ => v = undef
  | 17, v, _ => v = undef
  | 18, v, _ => v = .bool false
  | _, _, _ => True
theorem OrdC.later {x : V} {y : V} {b2 : Nat} {o2 : Nat} {n : Nat} {ct : Nat} {k : Nat} {C : Nat} : ∀ (j : Nat) (v : Value) (w1 w2 : World), OrdC x y b2 o2 n ct k C j v w1 → Below w1.heap.size w1 w2 → OrdC x y b2 o2 n ct k C j v w2
  | 0, _, _, _, h, _ => h
  | 1, _, _, _, h, _ => h
  | 2, _, _, _, h, _ => h
  | 3, _, _, _, h, _ => h
  | 4, _, _, _, h, _ => h
  | 5, _, _, _, h, _ => h
  | 6, _, _, _, h, _ => h
  | 7, _, _, _, h, _ => h
  | 8, _, _, _, h, _ => h
  | 9, _, _, _, h, _ => h
  | 10, _, _, _, h, _ => h
  | 11, _, _, _, h, _ => h
  | 12, _, _, _, h, _ => h
  | 13, _, _, _, h, _ => h
  | 14, _, _, _, h, _ => h
  | 15, _, _, _, h, _ => h
  | 16, _, _, _, h, _ => h
  | 17, _, _, _, h, _ => h
  | 18, _, _, _, h, _ => h
  | _ + 19, _, _, _, h, _ => h
theorem three {x : Int} (h1 : -1 ≤ x) (h2 : x ≤ 1) : x = -1 ∨ x = 0 ∨ x = 1 := by omega
set_option maxRecDepth 100000 in
set_option maxHeartbeats 16000000 in
theorem walk (rv : Value) (a : List V) (tv : Value) (b : List V) (uv : Value) (c : List V) (w : World) (hw : LW w) (ha : VsAt w rv a) (oa : ∀ v ∈ a, v.ok) (la : a.length ≤ 140737488351232) (hb : VsAt w tv b) (ob : ∀ v ∈ b, v.ok) (lb : b.length ≤ 140737488351232) (hc : VsAt w uv c) (_oc : ∀ v ∈ c, v.ok) (lc : c.length ≤ 140737488351232) :
    Calls Tryd.prog 3 #[rv, tv, uv] w fun e w' => e = .returned (.bool true) ∧ Below w.heap.size w w' := by
  obtain ⟨ar, cr, rfl⟩ := ha.shape
  obtain ⟨at', ct, rfl⟩ := hb.shape
  obtain ⟨au, cu, rfl⟩ := hc.shape
  have hca := ha.cap
  have hcb := hb.cap
  have HA := Lib.hid ha
  have HB := Lib.hid hb
  have HC := Lib.hid hc
  have OA := Lib.hid oa
  have OB := Lib.hid ob
  have LA := Lib.hid la
  have LB := Lib.hid lb
  have LC := Lib.hid lc
  have HW := Lib.hid hw
  have HCA := Lib.hid hca
  have HCB := Lib.hid hcb
  clear ha hb hc oa ob _oc la lb lc hw hca hcb
  go_enter Tryd.func3, Tryd.ntmps3
  go_wp2_with fail
  refine (works w HW.out).mono ?_
  rintro e w1 ⟨rfl, hb1⟩
  have HB1 := Lib.hid hb1
  clear hb1
  go_wp2_with fail
  refine (greatW _ a w1 (HA.out.below HB1.out) LA.out).mono ?_
  rintro e w2 ⟨⟨B, rfl, hg⟩, hb2⟩
  have HB2 := Lib.hid (next HB1.out hb2)
  clear hb2
  cases B with
  | true =>
    clear hg
    go_wp2_with fail
    go_ret
    exact ⟨rfl, HB2.out⟩
  | false =>
    have HGA := Lib.hid (hg rfl).1
    clear hg
    go_wp2_with fail
    refine (greatW _ b w2 (HB.out.below HB2.out) LB.out).mono ?_
    rintro e w3 ⟨⟨B, rfl, hg⟩, hb3⟩
    have HB3 := Lib.hid (next HB2.out hb3)
    clear hb3
    cases B with
    | true =>
      clear hg
      go_wp2_with fail
      go_ret
      exact ⟨rfl, HB3.out⟩
    | false =>
      have HGB := Lib.hid (hg rfl).1
      clear hg
      go_wp2_with fail
      refine (greatW _ c w3 (HC.out.below HB3.out) LC.out).mono ?_
      rintro e w4 ⟨⟨B, rfl, hg⟩, hb4⟩
      have HB4 := Lib.hid (next HB3.out hb4)
      clear hb4
      cases B with
      | true =>
        clear hg
        go_wp2_with fail
        go_ret
        exact ⟨rfl, HB4.out⟩
      | false =>
        have HGC := Lib.hid (hg rfl).1
        clear hg
        have HT := Lib.hid cmpRow_tot
        obtain ⟨X, hX⟩ : ∃ X, X = cmpRow a b := ⟨_, rfl⟩
        obtain ⟨Y, hY⟩ : ∃ Y, Y = cmpRow b c := ⟨_, rfl⟩
        obtain ⟨Z, hZ⟩ : ∃ Z, Z = cmpRow a c := ⟨_, rfl⟩
        have HX := Lib.hid hX
        have HY := Lib.hid hY
        have HZ := Lib.hid hZ
        have HAB : Hid (∀ W, Below w.heap.size w W → Calls Tryd.prog 13 #[.slice ar a.length cr, .slice at' b.length ct] W fun e w' => e = .returned (.int .i64 X) ∧ Below W.heap.size W w') := Lib.hid (fun W hh => by
          rw [hX]; exact rowsW _ _ a b W (HA.out.below hh) (HB.out.below hh) (by have := HGA.out; omega) (by have := HGB.out; omega))
        have HBC : Hid (∀ W, Below w.heap.size w W → Calls Tryd.prog 13 #[.slice at' b.length ct, .slice au c.length cu] W fun e w' => e = .returned (.int .i64 Y) ∧ Below W.heap.size W w') := Lib.hid (fun W hh => by
          rw [hY]; exact rowsW _ _ b c W (HB.out.below hh) (HC.out.below hh) (by have := HGB.out; omega) (by have := HGC.out; omega))
        have HAC : Hid (∀ W, Below w.heap.size w W → Calls Tryd.prog 13 #[.slice ar a.length cr, .slice au c.length cu] W fun e w' => e = .returned (.int .i64 Z) ∧ Below W.heap.size W w') := Lib.hid (fun W hh => by
          rw [hZ]; exact rowsW _ _ a c W (HA.out.below hh) (HC.out.below hh) (by have := HGA.out; omega) (by have := HGC.out; omega))
        have HBA : Hid (∀ W, Below w.heap.size w W → Calls Tryd.prog 13 #[.slice at' b.length ct, .slice ar a.length cr] W fun e w' => e = .returned (.int .i64 (-X)) ∧ Below W.heap.size W w') := Lib.hid (fun W hh => by
          rw [hX, ← HT.out.anti a b]; exact rowsW _ _ b a W (HB.out.below hh) (HA.out.below hh) (by have := HGB.out; omega) (by have := HGA.out; omega))
        have HAA : Hid (∀ W, Below w.heap.size w W → Calls Tryd.prog 13 #[.slice ar a.length cr, .slice ar a.length cr] W fun e w' => e = .returned (.int .i64 0) ∧ Below W.heap.size W w') := Lib.hid (fun W hh => by
          rw [← HT.out.self a]; exact rowsW _ _ a a W (HA.out.below hh) (HA.out.below hh) (by have := HGA.out; omega) (by have := HGA.out; omega))
        have hx1 : -1 ≤ X := by rw [hX]; exact HT.out.lo a b
        have hx2 : X ≤ 1 := by rw [hX]; exact HT.out.hi a b
        have hy1 : -1 ≤ Y := by rw [hY]; exact HT.out.lo b c
        have hy2 : Y ≤ 1 := by rw [hY]; exact HT.out.hi b c
        have hz1 : -1 ≤ Z := by rw [hZ]; exact HT.out.lo a c
        have hz2 : Z ≤ 1 := by rw [hZ]; exact HT.out.hi a c
        have hle : X ≤ 0 → Y ≤ 0 → Z ≤ 0 := by rw [hX, hY, hZ]; exact HT.out.le a b c
        have hbo : X ≤ 0 → Y ≤ 0 → Z = 0 → X = 0 ∧ Y = 0 := by rw [hX, hY, hZ]; exact HT.out.both a b c
        have X3 := Lib.hid (three hx1 hx2)
        have Y3 := Lib.hid (three hy1 hy2)
        have Z3 := Lib.hid (three hz1 hz2)
        have HLE := Lib.hid hle
        have HBO := Lib.hid hbo
        have n1 : ¬ X < -1 := by omega
        have n2 : ¬ (1 : Int) < X := by omega
        have n3 : wrap64 (-X) = -X := by unfold wrap64; omega
        clear hX hY hZ hx1 hx2 hy1 hy2 hz1 hz2 hle hbo
        go_wp2_with fail
        refine (HAB.out _ HB4.out).mono ?_
        rintro e w5 ⟨rfl, hb5⟩
        have HB5 := Lib.hid (next HB4.out hb5)
        clear hb5
        go_wp2_with fail
        refine (HBC.out _ HB5.out).mono ?_
        rintro e w6 ⟨rfl, hb6⟩
        have HB6 := Lib.hid (next HB5.out hb6)
        clear hb6
        go_wp2_with fail
        refine (HAC.out _ HB6.out).mono ?_
        rintro e w7 ⟨rfl, hb7⟩
        have HB7 := Lib.hid (next HB6.out hb7)
        clear hb7
        go_wp2_with fail
        refine (HBA.out _ HB7.out).mono ?_
        rintro e w8 ⟨rfl, hb8⟩
        have HB8 := Lib.hid (next HB7.out hb8)
        clear hb8
        go_wp2_with fail
        refine (HAA.out _ HB8.out).mono ?_
        rintro e w9 ⟨rfl, hb9⟩
        have HB9 := Lib.hid (next HB8.out hb9)
        clear hb9
        clear HAB HBC HAC HBA HAA
        go_upto_region 8 with fail
        clear n1 n2 n3
        go_cut [74] (fun c wx => c = .bool false ∧ w9 = wx)
        case first =>
          have hx := X3.out
          have hy := Y3.out
          have hz := Z3.out
          rcases hx with rfl | rfl | rfl <;> rcases hy with rfl | rfl | rfl <;> rcases hz with rfl | rfl | rfl
          all_goals
            first
              | (exfalso; have h1 := HLE.out; have h2 := HBO.out; omega)
              | (go_wp2_with fail
                 go_meet
                 exact ⟨rfl, rfl⟩)
        case rest =>
          obtain ⟨rfl, rfl⟩ := hcut
          by_cases hx0 : X = 0
          · have hne : (X != 0) = false := by rw [hx0]; rfl
            have heq : cmpRow a b = 0 := by rw [← HX.out]; exact hx0
            have HEQ := Lib.hid heq
            have hlen := cmpRow_length heq
            have HLN := Lib.hid hlen
            have jl : ((a.length : Int) != (b.length : Int)) = false := by rw [hlen]; simp
            clear hx0 heq hlen
            go_wp2_with fail
            go_loopg [84] a.length (fun gk iv wr => ∃ k : Nat, iv = .int .i64 (k : Int) ∧ gk = a.length - k ∧ k ≤ a.length ∧ Hid (Below w.heap.size w wr))
            case atStart => exact ⟨0, rfl, rfl, Nat.zero_le _, HB9⟩
            case round =>
              obtain ⟨k, rfl, rfl, hk, HBEL⟩ := hrel
              by_cases hlt : k < a.length
              · have ilt : (k : Int) < (a.length : Int) := by omega
                have hltb : k < b.length := by have := HLN.out; omega
                have iltb : (k : Int) < (b.length : Int) := by omega
                obtain ⟨x, hv⟩ : ∃ x, a[k]? = some x := ⟨a[k], by simp⟩
                obtain ⟨y, hu⟩ : ∃ y, b[k]? = some y := ⟨b[k], by simp⟩
                obtain ⟨b1, o1, rfl, hbz1, d0, d1, d2⟩ := at3 (HA.out.below HBEL.out) hv
                obtain ⟨b2, o2, rfl, hbz2, e0, e1, e2⟩ := at3 (HB.out.below HBEL.out) hu
                have HV := Lib.hid hv
                have HU := Lib.hid hu
                have HLT := Lib.hid hlt
                have HKK : Hid (wrap64 ((k : Int) + 1) = ((k + 1 : Nat) : Int)) := Lib.hid (by have := HGA.out; unfold wrap64; omega)
                have hov := OA.out x (List.mem_of_getElem? hv)
                have hou := OB.out y (List.mem_of_getElem? hu)
                have hcv : cmpV x y = 0 := cmpRow_each HEQ.out k x y hv hu
                have HCK : Hid (∀ W, Calls Tryd.prog 14 #[x.val] W fun e w' => e = .returned (.int .i64 (checkV x : Int)) ∧ Below W.heap.size W w') := Lib.hid (fun W => check x W hov.1 (by have := hov.2.2; omega))
                have HCU : Hid (∀ W, Calls Tryd.prog 14 #[y.val] W fun e w' => e = .returned (.int .i64 (checkV y : Int)) ∧ Below W.heap.size W w') := Lib.hid (fun W => check y W hou.1 (by have := hou.2.2; omega))
                clear hv hu hlt hk hltb hov hou
                go_upto_region 17 with fail
                have hb3 : Below wr.heap.size wr (wr.alloc (.cells #[.int .u8 (x.k : Int), .int .i64 x.n, .string x.s] 27)) := (Below.refl _ _).alloc (Nat.le_refl _) _
                have f0 : (wr.alloc (.cells #[.int .u8 (x.k : Int), .int .i64 x.n, .string x.s] 27)).cell? ⟨wr.heap.size, 0, none⟩ = some (.int .u8 (x.k : Int)) := by go_simp
                have f1 : (wr.alloc (.cells #[.int .u8 (x.k : Int), .int .i64 x.n, .string x.s] 27)).cell? ⟨wr.heap.size, 1, none⟩ = some (.int .i64 x.n) := by go_simp
                have f2 : (wr.alloc (.cells #[.int .u8 (x.k : Int), .int .i64 x.n, .string x.s] 27)).cell? ⟨wr.heap.size, 2, none⟩ = some (.string x.s) := by go_simp
                have HB3 := Lib.hid (next HBEL.out hb3)
                replace e0 := (hb3.cell (cell_lt e0)).trans e0
                replace e1 := (hb3.cell (cell_lt e1)).trans e1
                replace e2 := (hb3.cell (cell_lt e2)).trans e2
                clear d0 d1 d2 hb3
                generalize wr.alloc (.cells #[.int .u8 (x.k : Int), .int .i64 x.n, .string x.s] 27) = wz at *
                generalize wr.heap.size = q at *
                go_cut [107] (fun c wx => c = .bool false ∧ Below wz.heap.size wz wx)
                case first =>
                  by_cases hc1 : checkV x = 0
                  · rw [hc1] at HCK
                    by_cases hc2 : checkV y = 0
                    · have heq := cmpV_same hc1 hc2 hcv
                      rw [hc2] at HCU
                      have hne : ∀ W, (binOp .neq 27 x.val y.val).run Tryd.prog W = .ok (.bool false) W := fun W => neq_told x y false (by rw [heq]; simp) W
                      clear hc1 hc2 hcv heq
                      refine wp_region_kip (OrdA x y b2 o2 b.length ct k) 109 (by simp) (by kernel_rfl) (by kernel_rfl) OrdA.later ?_ ?_
                      · intro i hi A W hother hbW hd
                        match i, hi with
                        | 0, hi =>
                          have h11 := tmps_at (show A.eval (.tmp 11) = .pointer (some ⟨q, 0, none⟩) from hother 11 (by kernel_rfl))
                          have d0 := (hbW.cell (cell_lt f0)).trans f0
                          have d1 := (hbW.cell (cell_lt f1)).trans f1
                          have d2 := (hbW.cell (cell_lt f2)).trans f2
                          clear hother hd hi
                          exact kip_same rfl (wanted_none rfl) (x.val) (by simp only [execOp]; go_simp) rfl
                        | 1, hi =>
                          have h89 := tmps_at ((hd _ rfl ⟨0, .data⟩ (by simp) rfl).eq (x.val) (fun _ h => h) 89 (by kernel_rfl) (by decide))
                          clear hother hd hi
                          exact kip_call rfl (wanted_none rfl) 14 #[x.val] (by simp only [execOp]; go_simp) ((HCK.out W).mono fun e w2 hh => ⟨⟨_, hh.1, rfl⟩, hh.2⟩)
                        | 2, hi =>
                          have h90 := tmps_at ((hd _ rfl ⟨1, .data⟩ (by simp) rfl).eq (.int .i64 0) (fun _ h => h) 90 (by kernel_rfl) (by decide))
                          clear hother hd hi
                          exact kip_same rfl (wanted_none rfl) (.bool true) (by simp only [execOp]; go_simp) rfl
                        | 3, hi =>
                          have h91 := tmps_at ((hd _ rfl ⟨2, .data⟩ (by simp) rfl).eq (.bool true) (fun _ h => h) 91 (by kernel_rfl) (by decide))
                          clear hother hd hi
                          exact kip_same rfl (wanted_none rfl) (.bool true) (by simp only [execOp]; go_simp) rfl
                        | 4, hi =>
                          have h1 := tmps_at (show A.eval (.tmp 1) = .slice (some ⟨b2, o2, none⟩) b.length ct from hother 1 (by kernel_rfl))
                          have hgd := (hd _ rfl ⟨3, .guard⟩ (by simp) rfl).eq (.bool true) (fun _ h => h) 92 (by kernel_rfl) (by decide)
                          clear hother hd hi
                          exact kip_same rfl (wanted_some rfl (by kernel_rfl) hgd) (.slice (some ⟨b2, o2, none⟩) b.length ct) (by simp only [execOp]; go_simp) rfl
                        | 5, hi =>
                          have h10 := tmps_at (show A.eval (.tmp 10) = .int .i64 (k : Int) from hother 10 (by kernel_rfl))
                          have hgd := (hd _ rfl ⟨3, .guard⟩ (by simp) rfl).eq (.bool true) (fun _ h => h) 92 (by kernel_rfl) (by decide)
                          clear hother hd hi
                          exact kip_same rfl (wanted_some rfl (by kernel_rfl) hgd) (.int .i64 (k : Int)) (by simp only [execOp]; go_simp) rfl
                        | 6, hi =>
                          have h93 := tmps_at ((hd _ rfl ⟨4, .data⟩ (by simp) rfl).eq (.slice (some ⟨b2, o2, none⟩) b.length ct) (fun _ h => h) 93 (by kernel_rfl) (by decide))
                          have h94 := tmps_at ((hd _ rfl ⟨5, .data⟩ (by simp) rfl).eq (.int .i64 (k : Int)) (fun _ h => h) 94 (by kernel_rfl) (by decide))
                          have hgd := (hd _ rfl ⟨3, .guard⟩ (by simp) rfl).eq (.bool true) (fun _ h => h) 92 (by kernel_rfl) (by decide)
                          clear hother hd hi
                          exact kip_same rfl (wanted_some rfl (by kernel_rfl) hgd) (.pointer (some ⟨b2, o2 + k * 3, none⟩)) (by simp only [execOp]; go_simp) rfl
                        | 7, hi =>
                          have h95 := tmps_at ((hd _ rfl ⟨6, .data⟩ (by simp) rfl).eq (.pointer (some ⟨b2, o2 + k * 3, none⟩)) (fun _ h => h) 95 (by kernel_rfl) (by decide))
                          have hgd := (hd _ rfl ⟨3, .guard⟩ (by simp) rfl).eq (.bool true) (fun _ h => h) 92 (by kernel_rfl) (by decide)
                          have d0 := (hbW.cell (cell_lt e0)).trans e0
                          have d1 := (hbW.cell (cell_lt e1)).trans e1
                          have d2 := (hbW.cell (cell_lt e2)).trans e2
                          clear hother hd hi
                          exact kip_same rfl (wanted_some rfl (by kernel_rfl) hgd) (y.val) (by simp only [execOp]; go_simp) rfl
                        | 8, hi =>
                          have h96 := tmps_at ((hd _ rfl ⟨7, .data⟩ (by simp) rfl).eq (y.val) (fun _ h => h) 96 (by kernel_rfl) (by decide))
                          have hgd := (hd _ rfl ⟨3, .guard⟩ (by simp) rfl).eq (.bool true) (fun _ h => h) 92 (by kernel_rfl) (by decide)
                          clear hother hd hi
                          exact kip_call rfl (wanted_some rfl (by kernel_rfl) hgd) 14 #[y.val] (by simp only [execOp]; go_simp) ((HCU.out W).mono fun e w2 hh => ⟨⟨_, hh.1, rfl⟩, hh.2⟩)
                        | 9, hi =>
                          have h97 := tmps_at ((hd _ rfl ⟨8, .data⟩ (by simp) rfl).eq (.int .i64 0) (fun _ h => h) 97 (by kernel_rfl) (by decide))
                          have hgd := (hd _ rfl ⟨3, .guard⟩ (by simp) rfl).eq (.bool true) (fun _ h => h) 92 (by kernel_rfl) (by decide)
                          clear hother hd hi
                          exact kip_same rfl (wanted_some rfl (by kernel_rfl) hgd) (.bool true) (by simp only [execOp]; go_simp) rfl
                        | 10, hi =>
                          have h92 := tmps_at ((hd _ rfl ⟨3, .data⟩ (by simp) rfl).eq (.bool true) (fun _ h => h) 92 (by kernel_rfl) (by decide))
                          have h98 := tmps_at ((hd _ rfl ⟨9, .data⟩ (by simp) rfl).eq (.bool true) (fun _ h => h) 98 (by kernel_rfl) (by decide))
                          clear hother hd hi
                          exact kip_same rfl (wanted_none rfl) (.bool true) (by simp only [execOp]; go_simp) rfl
                        | 11, hi =>
                          have h99 := tmps_at ((hd _ rfl ⟨10, .data⟩ (by simp) rfl).eq (.bool true) (fun _ h => h) 99 (by kernel_rfl) (by decide))
                          clear hother hd hi
                          exact kip_same rfl (wanted_none rfl) (.bool true) (by simp only [execOp]; go_simp) rfl
                        | 12, hi =>
                          have h11 := tmps_at (show A.eval (.tmp 11) = .pointer (some ⟨q, 0, none⟩) from hother 11 (by kernel_rfl))
                          have hgd := (hd _ rfl ⟨11, .guard⟩ (by simp) rfl).eq (.bool true) (fun _ h => h) 100 (by kernel_rfl) (by decide)
                          have d0 := (hbW.cell (cell_lt f0)).trans f0
                          have d1 := (hbW.cell (cell_lt f1)).trans f1
                          have d2 := (hbW.cell (cell_lt f2)).trans f2
                          clear hother hd hi
                          exact kip_same rfl (wanted_some rfl (by kernel_rfl) hgd) (x.val) (by simp only [execOp]; go_simp) rfl
                        | 13, hi =>
                          have h1 := tmps_at (show A.eval (.tmp 1) = .slice (some ⟨b2, o2, none⟩) b.length ct from hother 1 (by kernel_rfl))
                          have hgd := (hd _ rfl ⟨11, .guard⟩ (by simp) rfl).eq (.bool true) (fun _ h => h) 100 (by kernel_rfl) (by decide)
                          clear hother hd hi
                          exact kip_same rfl (wanted_some rfl (by kernel_rfl) hgd) (.slice (some ⟨b2, o2, none⟩) b.length ct) (by simp only [execOp]; go_simp) rfl
                        | 14, hi =>
                          have h10 := tmps_at (show A.eval (.tmp 10) = .int .i64 (k : Int) from hother 10 (by kernel_rfl))
                          have hgd := (hd _ rfl ⟨11, .guard⟩ (by simp) rfl).eq (.bool true) (fun _ h => h) 100 (by kernel_rfl) (by decide)
                          clear hother hd hi
                          exact kip_same rfl (wanted_some rfl (by kernel_rfl) hgd) (.int .i64 (k : Int)) (by simp only [execOp]; go_simp) rfl
                        | 15, hi =>
                          have h102 := tmps_at ((hd _ rfl ⟨13, .data⟩ (by simp) rfl).eq (.slice (some ⟨b2, o2, none⟩) b.length ct) (fun _ h => h) 102 (by kernel_rfl) (by decide))
                          have h103 := tmps_at ((hd _ rfl ⟨14, .data⟩ (by simp) rfl).eq (.int .i64 (k : Int)) (fun _ h => h) 103 (by kernel_rfl) (by decide))
                          have hgd := (hd _ rfl ⟨11, .guard⟩ (by simp) rfl).eq (.bool true) (fun _ h => h) 100 (by kernel_rfl) (by decide)
                          clear hother hd hi
                          exact kip_same rfl (wanted_some rfl (by kernel_rfl) hgd) (.pointer (some ⟨b2, o2 + k * 3, none⟩)) (by simp only [execOp]; go_simp) rfl
                        | 16, hi =>
                          have h104 := tmps_at ((hd _ rfl ⟨15, .data⟩ (by simp) rfl).eq (.pointer (some ⟨b2, o2 + k * 3, none⟩)) (fun _ h => h) 104 (by kernel_rfl) (by decide))
                          have hgd := (hd _ rfl ⟨11, .guard⟩ (by simp) rfl).eq (.bool true) (fun _ h => h) 100 (by kernel_rfl) (by decide)
                          have d0 := (hbW.cell (cell_lt e0)).trans e0
                          have d1 := (hbW.cell (cell_lt e1)).trans e1
                          have d2 := (hbW.cell (cell_lt e2)).trans e2
                          clear hother hd hi
                          exact kip_same rfl (wanted_some rfl (by kernel_rfl) hgd) (y.val) (by simp only [execOp]; go_simp) rfl
                        | 17, hi =>
                          have h101 := tmps_at ((hd _ rfl ⟨12, .data⟩ (by simp) rfl).eq (x.val) (fun _ h => h) 101 (by kernel_rfl) (by decide))
                          have h105 := tmps_at ((hd _ rfl ⟨16, .data⟩ (by simp) rfl).eq (y.val) (fun _ h => h) 105 (by kernel_rfl) (by decide))
                          have hgd := (hd _ rfl ⟨11, .guard⟩ (by simp) rfl).eq (.bool true) (fun _ h => h) 100 (by kernel_rfl) (by decide)
                          have hq := hne W
                          clear hother hd hi
                          exact kip_same rfl (wanted_some rfl (by kernel_rfl) hgd) (.bool false) (by simp only [execOp]; go_simp) rfl
                        | 18, hi =>
                          have h100 := tmps_at ((hd _ rfl ⟨11, .data⟩ (by simp) rfl).eq (.bool true) (fun _ h => h) 100 (by kernel_rfl) (by decide))
                          have h106 := tmps_at ((hd _ rfl ⟨17, .data⟩ (by simp) rfl).eq (.bool false) (fun _ h => h) 106 (by kernel_rfl) (by decide))
                          clear hother hd hi
                          exact kip_same rfl (wanted_none rfl) (.bool false) (by simp only [execOp]; go_simp) rfl
                        | n + 19, hi => simp at hi; omega
                      · intro us W hbW hk
                        have h18 : us 18 = .bool false := hk 18 (by decide)
                        have HB9 := Lib.hid hbW
                        clear hk hbW
                        simp only [List.length_cons, List.length_nil, Nat.zero_add, Nat.reduceAdd, putAll, dstOf, List.getElem?_toArray, List.getElem?_cons_zero, List.getElem?_cons_succ, Option.bind_some, Act.put, h18]
                        simp only [List.setIfInBounds_toArray, List.set_cons_zero, List.set_cons_succ]
                        go_wp2_with fail
                        go_meet
                        exact ⟨rfl, HB9.out⟩
                    · have hz : ((checkV y : Int) == 0) = false := by simp; omega
                      generalize checkV y = C at *
                      clear hc1 hc2 hcv
                      refine wp_region_kip (OrdB x y b2 o2 b.length ct k C) 109 (by simp) (by kernel_rfl) (by kernel_rfl) OrdB.later ?_ ?_
                      · intro i hi A W hother hbW hd
                        match i, hi with
                        | 0, hi =>
                          have h11 := tmps_at (show A.eval (.tmp 11) = .pointer (some ⟨q, 0, none⟩) from hother 11 (by kernel_rfl))
                          have d0 := (hbW.cell (cell_lt f0)).trans f0
                          have d1 := (hbW.cell (cell_lt f1)).trans f1
                          have d2 := (hbW.cell (cell_lt f2)).trans f2
                          clear hother hd hi
                          exact kip_same rfl (wanted_none rfl) (x.val) (by simp only [execOp]; go_simp) rfl
                        | 1, hi =>
                          have h89 := tmps_at ((hd _ rfl ⟨0, .data⟩ (by simp) rfl).eq (x.val) (fun _ h => h) 89 (by kernel_rfl) (by decide))
                          clear hother hd hi
                          exact kip_call rfl (wanted_none rfl) 14 #[x.val] (by simp only [execOp]; go_simp) ((HCK.out W).mono fun e w2 hh => ⟨⟨_, hh.1, rfl⟩, hh.2⟩)
                        | 2, hi =>
                          have h90 := tmps_at ((hd _ rfl ⟨1, .data⟩ (by simp) rfl).eq (.int .i64 0) (fun _ h => h) 90 (by kernel_rfl) (by decide))
                          clear hother hd hi
                          exact kip_same rfl (wanted_none rfl) (.bool true) (by simp only [execOp]; go_simp) rfl
                        | 3, hi =>
                          have h91 := tmps_at ((hd _ rfl ⟨2, .data⟩ (by simp) rfl).eq (.bool true) (fun _ h => h) 91 (by kernel_rfl) (by decide))
                          clear hother hd hi
                          exact kip_same rfl (wanted_none rfl) (.bool true) (by simp only [execOp]; go_simp) rfl
                        | 4, hi =>
                          have h1 := tmps_at (show A.eval (.tmp 1) = .slice (some ⟨b2, o2, none⟩) b.length ct from hother 1 (by kernel_rfl))
                          have hgd := (hd _ rfl ⟨3, .guard⟩ (by simp) rfl).eq (.bool true) (fun _ h => h) 92 (by kernel_rfl) (by decide)
                          clear hother hd hi
                          exact kip_same rfl (wanted_some rfl (by kernel_rfl) hgd) (.slice (some ⟨b2, o2, none⟩) b.length ct) (by simp only [execOp]; go_simp) rfl
                        | 5, hi =>
                          have h10 := tmps_at (show A.eval (.tmp 10) = .int .i64 (k : Int) from hother 10 (by kernel_rfl))
                          have hgd := (hd _ rfl ⟨3, .guard⟩ (by simp) rfl).eq (.bool true) (fun _ h => h) 92 (by kernel_rfl) (by decide)
                          clear hother hd hi
                          exact kip_same rfl (wanted_some rfl (by kernel_rfl) hgd) (.int .i64 (k : Int)) (by simp only [execOp]; go_simp) rfl
                        | 6, hi =>
                          have h93 := tmps_at ((hd _ rfl ⟨4, .data⟩ (by simp) rfl).eq (.slice (some ⟨b2, o2, none⟩) b.length ct) (fun _ h => h) 93 (by kernel_rfl) (by decide))
                          have h94 := tmps_at ((hd _ rfl ⟨5, .data⟩ (by simp) rfl).eq (.int .i64 (k : Int)) (fun _ h => h) 94 (by kernel_rfl) (by decide))
                          have hgd := (hd _ rfl ⟨3, .guard⟩ (by simp) rfl).eq (.bool true) (fun _ h => h) 92 (by kernel_rfl) (by decide)
                          clear hother hd hi
                          exact kip_same rfl (wanted_some rfl (by kernel_rfl) hgd) (.pointer (some ⟨b2, o2 + k * 3, none⟩)) (by simp only [execOp]; go_simp) rfl
                        | 7, hi =>
                          have h95 := tmps_at ((hd _ rfl ⟨6, .data⟩ (by simp) rfl).eq (.pointer (some ⟨b2, o2 + k * 3, none⟩)) (fun _ h => h) 95 (by kernel_rfl) (by decide))
                          have hgd := (hd _ rfl ⟨3, .guard⟩ (by simp) rfl).eq (.bool true) (fun _ h => h) 92 (by kernel_rfl) (by decide)
                          have d0 := (hbW.cell (cell_lt e0)).trans e0
                          have d1 := (hbW.cell (cell_lt e1)).trans e1
                          have d2 := (hbW.cell (cell_lt e2)).trans e2
                          clear hother hd hi
                          exact kip_same rfl (wanted_some rfl (by kernel_rfl) hgd) (y.val) (by simp only [execOp]; go_simp) rfl
                        | 8, hi =>
                          have h96 := tmps_at ((hd _ rfl ⟨7, .data⟩ (by simp) rfl).eq (y.val) (fun _ h => h) 96 (by kernel_rfl) (by decide))
                          have hgd := (hd _ rfl ⟨3, .guard⟩ (by simp) rfl).eq (.bool true) (fun _ h => h) 92 (by kernel_rfl) (by decide)
                          clear hother hd hi
                          exact kip_call rfl (wanted_some rfl (by kernel_rfl) hgd) 14 #[y.val] (by simp only [execOp]; go_simp) ((HCU.out W).mono fun e w2 hh => ⟨⟨_, hh.1, rfl⟩, hh.2⟩)
                        | 9, hi =>
                          have h97 := tmps_at ((hd _ rfl ⟨8, .data⟩ (by simp) rfl).eq (.int .i64 (C : Int)) (fun _ h => h) 97 (by kernel_rfl) (by decide))
                          have hgd := (hd _ rfl ⟨3, .guard⟩ (by simp) rfl).eq (.bool true) (fun _ h => h) 92 (by kernel_rfl) (by decide)
                          clear hother hd hi
                          exact kip_same rfl (wanted_some rfl (by kernel_rfl) hgd) (.bool false) (by simp only [execOp]; go_simp) rfl
                        | 10, hi =>
                          have h92 := tmps_at ((hd _ rfl ⟨3, .data⟩ (by simp) rfl).eq (.bool true) (fun _ h => h) 92 (by kernel_rfl) (by decide))
                          have h98 := tmps_at ((hd _ rfl ⟨9, .data⟩ (by simp) rfl).eq (.bool false) (fun _ h => h) 98 (by kernel_rfl) (by decide))
                          clear hother hd hi
                          exact kip_same rfl (wanted_none rfl) (.bool false) (by simp only [execOp]; go_simp) rfl
                        | 11, hi =>
                          have h99 := tmps_at ((hd _ rfl ⟨10, .data⟩ (by simp) rfl).eq (.bool false) (fun _ h => h) 99 (by kernel_rfl) (by decide))
                          clear hother hd hi
                          exact kip_same rfl (wanted_none rfl) (.bool false) (by simp only [execOp]; go_simp) rfl
                        | 12, hi =>
                          have hgd := (hd _ rfl ⟨11, .guard⟩ (by simp) rfl).eq (.bool false) (fun _ h => h) 100 (by kernel_rfl) (by decide)
                          clear hother hd hi
                          exact kip_skip rfl (unwanted_some rfl (by kernel_rfl) hgd) rfl
                        | 13, hi =>
                          have hgd := (hd _ rfl ⟨11, .guard⟩ (by simp) rfl).eq (.bool false) (fun _ h => h) 100 (by kernel_rfl) (by decide)
                          clear hother hd hi
                          exact kip_skip rfl (unwanted_some rfl (by kernel_rfl) hgd) rfl
                        | 14, hi =>
                          have hgd := (hd _ rfl ⟨11, .guard⟩ (by simp) rfl).eq (.bool false) (fun _ h => h) 100 (by kernel_rfl) (by decide)
                          clear hother hd hi
                          exact kip_skip rfl (unwanted_some rfl (by kernel_rfl) hgd) rfl
                        | 15, hi =>
                          have hgd := (hd _ rfl ⟨11, .guard⟩ (by simp) rfl).eq (.bool false) (fun _ h => h) 100 (by kernel_rfl) (by decide)
                          clear hother hd hi
                          exact kip_skip rfl (unwanted_some rfl (by kernel_rfl) hgd) rfl
                        | 16, hi =>
                          have hgd := (hd _ rfl ⟨11, .guard⟩ (by simp) rfl).eq (.bool false) (fun _ h => h) 100 (by kernel_rfl) (by decide)
                          clear hother hd hi
                          exact kip_skip rfl (unwanted_some rfl (by kernel_rfl) hgd) rfl
                        | 17, hi =>
                          have hgd := (hd _ rfl ⟨11, .guard⟩ (by simp) rfl).eq (.bool false) (fun _ h => h) 100 (by kernel_rfl) (by decide)
                          clear hother hd hi
                          exact kip_skip rfl (unwanted_some rfl (by kernel_rfl) hgd) rfl
                        | 18, hi =>
                          have h100 := tmps_at ((hd _ rfl ⟨11, .data⟩ (by simp) rfl).eq (.bool false) (fun _ h => h) 100 (by kernel_rfl) (by decide))
                          have h106 := tmps_at ((hd _ rfl ⟨17, .data⟩ (by simp) rfl).eq (undef) (fun _ h => h) 106 (by kernel_rfl) (by decide))
                          clear hother hd hi
                          exact kip_same rfl (wanted_none rfl) (.bool false) (by simp only [execOp]; go_simp) rfl
                        | n + 19, hi => simp at hi; omega
                      · intro us W hbW hk
                        have h18 : us 18 = .bool false := hk 18 (by decide)
                        have HB9 := Lib.hid hbW
                        clear hk hbW
                        simp only [List.length_cons, List.length_nil, Nat.zero_add, Nat.reduceAdd, putAll, dstOf, List.getElem?_toArray, List.getElem?_cons_zero, List.getElem?_cons_succ, Option.bind_some, Act.put, h18]
                        simp only [List.setIfInBounds_toArray, List.set_cons_zero, List.set_cons_succ]
                        go_wp2_with fail
                        go_meet
                        exact ⟨rfl, HB9.out⟩
                  · have hz : ((checkV x : Int) == 0) = false := by simp; omega
                    generalize checkV x = C at *
                    clear hc1 hcv
                    refine wp_region_kip (OrdC x y b2 o2 b.length ct k C) 109 (by simp) (by kernel_rfl) (by kernel_rfl) OrdC.later ?_ ?_
                    · intro i hi A W hother hbW hd
                      match i, hi with
                      | 0, hi =>
                        have h11 := tmps_at (show A.eval (.tmp 11) = .pointer (some ⟨q, 0, none⟩) from hother 11 (by kernel_rfl))
                        have d0 := (hbW.cell (cell_lt f0)).trans f0
                        have d1 := (hbW.cell (cell_lt f1)).trans f1
                        have d2 := (hbW.cell (cell_lt f2)).trans f2
                        clear hother hd hi
                        exact kip_same rfl (wanted_none rfl) (x.val) (by simp only [execOp]; go_simp) rfl
                      | 1, hi =>
                        have h89 := tmps_at ((hd _ rfl ⟨0, .data⟩ (by simp) rfl).eq (x.val) (fun _ h => h) 89 (by kernel_rfl) (by decide))
                        clear hother hd hi
                        exact kip_call rfl (wanted_none rfl) 14 #[x.val] (by simp only [execOp]; go_simp) ((HCK.out W).mono fun e w2 hh => ⟨⟨_, hh.1, rfl⟩, hh.2⟩)
                      | 2, hi =>
                        have h90 := tmps_at ((hd _ rfl ⟨1, .data⟩ (by simp) rfl).eq (.int .i64 (C : Int)) (fun _ h => h) 90 (by kernel_rfl) (by decide))
                        clear hother hd hi
                        exact kip_same rfl (wanted_none rfl) (.bool false) (by simp only [execOp]; go_simp) rfl
                      | 3, hi =>
                        have h91 := tmps_at ((hd _ rfl ⟨2, .data⟩ (by simp) rfl).eq (.bool false) (fun _ h => h) 91 (by kernel_rfl) (by decide))
                        clear hother hd hi
                        exact kip_same rfl (wanted_none rfl) (.bool false) (by simp only [execOp]; go_simp) rfl
                      | 4, hi =>
                        have hgd := (hd _ rfl ⟨3, .guard⟩ (by simp) rfl).eq (.bool false) (fun _ h => h) 92 (by kernel_rfl) (by decide)
                        clear hother hd hi
                        exact kip_skip rfl (unwanted_some rfl (by kernel_rfl) hgd) rfl
                      | 5, hi =>
                        have hgd := (hd _ rfl ⟨3, .guard⟩ (by simp) rfl).eq (.bool false) (fun _ h => h) 92 (by kernel_rfl) (by decide)
                        clear hother hd hi
                        exact kip_skip rfl (unwanted_some rfl (by kernel_rfl) hgd) rfl
                      | 6, hi =>
                        have hgd := (hd _ rfl ⟨3, .guard⟩ (by simp) rfl).eq (.bool false) (fun _ h => h) 92 (by kernel_rfl) (by decide)
                        clear hother hd hi
                        exact kip_skip rfl (unwanted_some rfl (by kernel_rfl) hgd) rfl
                      | 7, hi =>
                        have hgd := (hd _ rfl ⟨3, .guard⟩ (by simp) rfl).eq (.bool false) (fun _ h => h) 92 (by kernel_rfl) (by decide)
                        clear hother hd hi
                        exact kip_skip rfl (unwanted_some rfl (by kernel_rfl) hgd) rfl
                      | 8, hi =>
                        have hgd := (hd _ rfl ⟨3, .guard⟩ (by simp) rfl).eq (.bool false) (fun _ h => h) 92 (by kernel_rfl) (by decide)
                        clear hother hd hi
                        exact kip_skip rfl (unwanted_some rfl (by kernel_rfl) hgd) rfl
                      | 9, hi =>
                        have hgd := (hd _ rfl ⟨3, .guard⟩ (by simp) rfl).eq (.bool false) (fun _ h => h) 92 (by kernel_rfl) (by decide)
                        clear hother hd hi
                        exact kip_skip rfl (unwanted_some rfl (by kernel_rfl) hgd) rfl
                      | 10, hi =>
                        have h92 := tmps_at ((hd _ rfl ⟨3, .data⟩ (by simp) rfl).eq (.bool false) (fun _ h => h) 92 (by kernel_rfl) (by decide))
                        have h98 := tmps_at ((hd _ rfl ⟨9, .data⟩ (by simp) rfl).eq (undef) (fun _ h => h) 98 (by kernel_rfl) (by decide))
                        clear hother hd hi
                        exact kip_same rfl (wanted_none rfl) (.bool false) (by simp only [execOp]; go_simp) rfl
                      | 11, hi =>
                        have h99 := tmps_at ((hd _ rfl ⟨10, .data⟩ (by simp) rfl).eq (.bool false) (fun _ h => h) 99 (by kernel_rfl) (by decide))
                        clear hother hd hi
                        exact kip_same rfl (wanted_none rfl) (.bool false) (by simp only [execOp]; go_simp) rfl
                      | 12, hi =>
                        have hgd := (hd _ rfl ⟨11, .guard⟩ (by simp) rfl).eq (.bool false) (fun _ h => h) 100 (by kernel_rfl) (by decide)
                        clear hother hd hi
                        exact kip_skip rfl (unwanted_some rfl (by kernel_rfl) hgd) rfl
                      | 13, hi =>
                        have hgd := (hd _ rfl ⟨11, .guard⟩ (by simp) rfl).eq (.bool false) (fun _ h => h) 100 (by kernel_rfl) (by decide)
                        clear hother hd hi
                        exact kip_skip rfl (unwanted_some rfl (by kernel_rfl) hgd) rfl
                      | 14, hi =>
                        have hgd := (hd _ rfl ⟨11, .guard⟩ (by simp) rfl).eq (.bool false) (fun _ h => h) 100 (by kernel_rfl) (by decide)
                        clear hother hd hi
                        exact kip_skip rfl (unwanted_some rfl (by kernel_rfl) hgd) rfl
                      | 15, hi =>
                        have hgd := (hd _ rfl ⟨11, .guard⟩ (by simp) rfl).eq (.bool false) (fun _ h => h) 100 (by kernel_rfl) (by decide)
                        clear hother hd hi
                        exact kip_skip rfl (unwanted_some rfl (by kernel_rfl) hgd) rfl
                      | 16, hi =>
                        have hgd := (hd _ rfl ⟨11, .guard⟩ (by simp) rfl).eq (.bool false) (fun _ h => h) 100 (by kernel_rfl) (by decide)
                        clear hother hd hi
                        exact kip_skip rfl (unwanted_some rfl (by kernel_rfl) hgd) rfl
                      | 17, hi =>
                        have hgd := (hd _ rfl ⟨11, .guard⟩ (by simp) rfl).eq (.bool false) (fun _ h => h) 100 (by kernel_rfl) (by decide)
                        clear hother hd hi
                        exact kip_skip rfl (unwanted_some rfl (by kernel_rfl) hgd) rfl
                      | 18, hi =>
                        have h100 := tmps_at ((hd _ rfl ⟨11, .data⟩ (by simp) rfl).eq (.bool false) (fun _ h => h) 100 (by kernel_rfl) (by decide))
                        have h106 := tmps_at ((hd _ rfl ⟨17, .data⟩ (by simp) rfl).eq (undef) (fun _ h => h) 106 (by kernel_rfl) (by decide))
                        clear hother hd hi
                        exact kip_same rfl (wanted_none rfl) (.bool false) (by simp only [execOp]; go_simp) rfl
                      | n + 19, hi => simp at hi; omega
                    · intro us W hbW hk
                      have h18 : us 18 = .bool false := hk 18 (by decide)
                      have HB9 := Lib.hid hbW
                      clear hk hbW
                      simp only [List.length_cons, List.length_nil, Nat.zero_add, Nat.reduceAdd, putAll, dstOf, List.getElem?_toArray, List.getElem?_cons_zero, List.getElem?_cons_succ, Option.bind_some, Act.put, h18]
                      simp only [List.setIfInBounds_toArray, List.set_cons_zero, List.set_cons_succ]
                      go_wp2_with fail
                      go_meet
                      exact ⟨rfl, HB9.out⟩
                case rest =>
                  obtain ⟨rfl, hb4⟩ := hcut
                  have HB4 := Lib.hid (next HB3.out hb4)
                  clear hb4 f0 f1 f2 e0 e1 e2
                  go_wp2_with fail
                  go_roundg (a.length - (k + 1))
                  case measure => exact Nat.sub_lt_sub_left HLT.out (Nat.lt_succ_self _)
                  case rel => exact ⟨k + 1, by first | exact congrArg (Value.int .i64) HKK.out | (simp; done) | (simp; exact HKK.out), rfl, HLT.out, HB4⟩
              · have ilt : ¬ (k : Int) < (a.length : Int) := by omega
                clear hlt hk
                go_wp2_with fail
                refine bodyPost_ret (v := .bool true) (by simp [results, Tryd.results3, go_sem]) rfl ⟨rfl, HBEL.out⟩
          · have hne : (X != 0) = true := by simp [hx0]
            clear hx0
            go_wp2_with fail
            go_ret
            exact ⟨rfl, HB9.out⟩

theorem own : ownKnob Tryd.prog.godebug = none := by kernel_rfl
theorem laid : laidOutB Tryd.prog = true := by kernel_rfl
def laidD : List (String × DataW Unit) := [("math/bits.deBruijn32tab", Rows.laid_math_bits_deBruijn32tab), ("math/bits.deBruijn64tab", Rows.laid_math_bits_deBruijn64tab), ("internal/strconv.uint64pow10", Rows.laid_internal_strconv_uint64pow10), ("unicode/utf8.acceptRanges", Rows.laid_unicode_utf8_acceptRanges), ("strconv.ErrRange", Rows.laid_strconv_ErrRange), ("strconv.ErrSyntax", Rows.laid_strconv_ErrSyntax), ("unicode/utf8.first", Rows.laid_unicode_utf8_first)]
theorem tied {ps qs : Array TypeId} {j : Nat} {t : TypeId} (_ : ps = qs) (hall : (ps.all fun u => !Tryd.prog.wantsStandIn u) = true) (ht : ps[j]? = some t) : Tryd.prog.wantsStandIn t = false := by
  obtain ⟨hj, rfl⟩ := Array.getElem?_eq_some_iff.1 ht
  have := Array.all_eq_true.1 hall j hj
  simpa using this

set_option maxRecDepth 100000 in
theorem opened {H : Type} (enc : TypeId × Value → H) (W : World) (args : Array Value) (ds : List (DataW H)) (p : List MemPlace) (hsh : W.ShapedOpen Tryd.prog) (hL : laidMetH Tryd.prog laidD W) :
    Lift.Owes enc Tryd.prog 3 Tryd.f3.params.toList W args ds p := by
  have HL := Lib.hid hL
  clear hL
  intro hA hval hsz _
  rw [Tryd.params3] at hA hval hsz
  obtain ⟨v0, vs0, d0, ds0, p0, q0, hargs, rfl, rfl, h0, r0⟩ := trodAll_cons hA
  obtain ⟨v1, vs1, d1, ds1, p1, q1, rfl, rfl, rfl, h1, r1⟩ := trodAll_cons r0
  obtain ⟨v2, vs2, d2, ds2, p2, q2, rfl, rfl, rfl, h2, r2⟩ := trodAll_cons r1
  obtain ⟨rfl, rfl, rfl⟩ := trodAll_nil r2
  obtain rfl : args = #[v0, v1, v2] := by cases args; simp_all
  obtain ⟨base0, hv0⟩ := hval 0 _ v0 rfl rfl
  obtain ⟨X0, a0, o0, l0⟩ := arg_Vs vT (by kernel_rfl) hv0 h0 (lim_arg hsz (j := 0) rfl rfl)
  obtain ⟨base1, hv1⟩ := hval 1 _ v1 rfl rfl
  obtain ⟨X1, a1, o1, l1⟩ := arg_Vs vT (by kernel_rfl) hv1 h1 (lim_arg hsz (j := 1) rfl rfl)
  obtain ⟨base2, hv2⟩ := hval 2 _ v2 rfl rfl
  obtain ⟨X2, a2, o2, l2⟩ := arg_Vs vT (by kernel_rfl) hv2 h2 (lim_arg hsz (j := 2) rfl rfl)
  exact walk v0 X0 v1 X1 v2 X2 W (lw hsh HL.out) a0 o0 (by omega) a1 o1 (by omega) a2 o2 (by omega)

set_option maxRecDepth 100000 in
theorem lifted (os : Os) (started : os.Started) (H : Type) (enc : TypeId × Value → H) :
    ReturnsInHanded {} Tryd.checked os 3 .any (fun w args => (Rows.valueOrderSpec.pre enc Tryd.prog Tryd.f3 [] false w args ∧ laidMetH Tryd.prog laidD w) ∧ sizedMet enc Tryd.prog Tryd.f3 (OpenSpec.ofChange Rows.valueOrderSpec) false w args)
      (Rows.valueOrderSpec.post enc Tryd.prog Tryd.f3 false true false false) := by
  refine Lift.liftedD (C := Tryd.checked) (X := fun w _ => laidMetH Tryd.prog laidD w) (fun _ _ _ hh h => h.of_heap hh) own started (by kernel_rfl) Tryd.func3
    (ChangeSpec.witness_shaped (enc := enc) (C := Tryd.checked) (os := os) (X := fun w _ => laidMetH Tryd.prog laidD w) false (World.laidAll Tryd.prog os laidD) #[.slice none 0 0, .slice none 0 0, .slice none 0 0] 8 (World.laidAll_os _ _ _)
      (World.shaped_of_ZipB (by kernel_rfl) (by kernel_rfl)) (by kernel_rfl) (by kernel_rfl) (by kernel_rfl)
      (by rw [MakeChecks.laidMetH_plain _ _ _ (by kernel_rfl)]; exact laidMet_laidAll _ (by kernel_rfl) (by kernel_rfl)))
    laid (by rw [Tryd.params3]; intro t ht; simp at ht; rcases ht with rfl | rfl | rfl <;> exact ⟨by kernel_rfl, of_decide_eq_true (by kernel_rfl)⟩) rfl 4 rfl Tryd.underlying4
    (fun ds hds => by match ds, hds with | [_, _, _], _ => rfl) (fun W args ds p hsh hL => opened enc W args ds p hsh hL)

theorem row_said : Rows.ValueOrderSaid :=
  OpenClaim.holds_of_wide 3 Tryd.f3 rfl rfl rfl rfl rfl rfl rfl ⟨rfl, rfl, rfl, rfl, rfl⟩ rfl rfl rfl rfl rfl (by kernel_rfl) Tryd.func3 (by kernel_rfl)
    (of_decide_eq_true (by kernel_rfl)) (by unfold Func.isWrapper; first | (rw [if_pos (by decide +kernel)]; kernel_rfl) | (rw [if_neg (by decide +kernel)]; exact ⟨rfl, rfl⟩))
    (fun os started H enc _ => lifted os started H enc)

theorem said : Rows.ValueOrderCardSaid :=
  Claim7.holds_tied_plain_at .later [] [.data, .data, .data, .data, .sentinel, .sentinel, .pinned] true (true, "beeeb87dc6d8e7c394a9af8ed07e7d2b6f4d2f56e63b48bb337aad32e36f280c") true
    row_said (fun _ h => by cases h) (by kernel_rfl) (fun _ h => by cases h) valueOrder_row_tie rfl ⟨rfl, rfl⟩ (by kernel_rfl) rfl
    (fun f fn hf hfn => by
      obtain rfl : f = 3 := Option.some.inj ((show Tryd.prog.funcNamed "counterfoil/counterfoillaw07.ValueOrder" = some 3 by kernel_rfl).symm.trans hf) |>.symm
      obtain rfl : fn = Tryd.f3 := (Option.some.inj (Tryd.func3.symm.trans hfn)).symm
      exact ⟨by kernel_rfl, fun j t ht => by
        rw [Tryd.params3] at ht
        exact tied Tryd.params3.symm (by kernel_rfl) ht⟩)
    (by kernel_rfl)
#print axioms said
end Go.Proofs.YtghfaeapgghhlaaDoor.ValueOrder
