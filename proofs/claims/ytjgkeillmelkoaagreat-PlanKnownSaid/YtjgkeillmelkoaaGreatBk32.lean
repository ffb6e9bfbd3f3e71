import Derived.Test.YtjgkeillmelkoaaGreatBk21
import Derived.Test.YtjgkeillmelkoaaGreatBk29
import Derived.Test.YtjgkeillmelkoaaGreatBk31
namespace Go.Proofs.YtjgkeillmelkoaaGreat.Dt
open Go.RowKit Go.Proofs.YtjgkeillmelkoaaGreat.By

/-- The one side is the column at a place, the other one a value or a column of an earlier source. -/
def tellK (f n : Int) (a b : PE) : Bool := decide (a.op = 2) && decide (a.n = n) && (decide (b.op = 1) || decide (b.n < f))
def tellP (f n : Int) (x : PE) : Option PE := match x.kids with
  | [a, b] => if tellK f n a b then some b else if tellK f n b a then some a else none
  | _ => none
/-- What tells the column at a place. -/
def tellsL (f n : Int) (parts : List PE) : Option PE := parts.findSome? (tellP f n)
theorem tells_next {f n : Int} {l : List PE} {i : Nat} {x : PE} (h : l[i]? = some x) : tellsL f n (l.drop i) = match tellP f n x with
    | some y => some y
    | none => tellsL f n (l.drop (i + 1)) := by
  rw [dropC h]
  unfold tellsL
  rw [List.findSome?_cons]
  cases tellP f n x <;> rfl
/-- What tells hands back: the cells. -/
def TlR (w : World) (c : Array Value) : Option PE → Prop
  | none => c = exZ
  | some y => ExR w c.toList y
theorem tellK_eq (f n : Int) (a b : PE) : tellK f n a b = (((a.op : Int) == 2) && (a.n == n) && (((b.op : Int) == 1) || decide (b.n < f))) := by
  unfold tellK
  have e1 : decide (a.op = 2) = ((a.op : Int) == 2) := by rw [Bool.eq_iff_iff]; simp only [decide_eq_true_eq, beq_iff_eq]; omega
  have e2 : decide (b.op = 1) = ((b.op : Int) == 1) := by rw [Bool.eq_iff_iff]; simp only [decide_eq_true_eq, beq_iff_eq]; omega
  have e3 : decide (a.n = n) = (a.n == n) := by rw [Bool.eq_iff_iff]; simp only [decide_eq_true_eq, beq_iff_eq]
  rw [e1, e2, e3]
attribute [local go_sem ↓] veilSt_ex veilLd_ex
attribute [local go_sem] run_exSt run_exNew run_exLd okRow8 Value.oneCell'
set_option maxRecDepth 100000 in
set_option maxHeartbeats 32000000 in
theorem tellsW {w0 : World} {parts : List PE} {pa : Option Addr} {pc : Nat} {ta fa : Option Addr} {tn tc fc i : Nat} {fs : List Int} {all n f : Int} {w : World} (hb0 : Below w0.heap.size w0 w) (hp : ExsR w0 (.slice pa parts.length pc) parts) (hpl : parts.length ≤ 1000000) (h2 : ∀ x ∈ parts, ∃ a b, x.kids = [a, b])
    (hf : IntsR w (.slice fa fs.length fc) fs) (hi : fs[i]? = some f) :
    Calls Tryz.prog 20 #[.agg #[.slice ta tn tc, .slice fa fs.length fc, .int .i64 all], .slice pa parts.length pc, .int .i64 n, .int .i64 (i : Int)] w fun e w' => ∃ c, e = .returned (.tuple #[.agg c, .bool (tellsL f n parts).isSome]) ∧ TlR w0 c (tellsL f n parts) ∧ Below w.heap.size w w' := by
  have h1 := row_alloc w 51 #[.slice ta tn tc, .slice fa fs.length fc, .int .i64 all]
  have b1 := (Below.refl _ w).alloc (Nat.le_refl _) (.cells #[.slice ta tn tc, .slice fa fs.length fc, .int .i64 all] 51)
  have b2 := (Below.refl _ (w.alloc (.cells #[.slice ta tn tc, .slice fa fs.length fc, .int .i64 all] 51))).alloc (Nat.le_refl _) (.cells exZ 44)
  have hz := row_alloc (w.alloc (.cells #[.slice ta tn tc, .slice fa fs.length fc, .int .i64 all] 51)) 44 exZ
  have z1 : (w.alloc (.cells #[.slice ta tn tc, .slice fa fs.length fc, .int .i64 all] 51)).heap.size = w.heap.size + 1 := by simp
  rw [z1] at hz
  have HS := Lib.hid (h1.later b2)
  have HZ := Lib.hid hz
  have HB := Lib.hid (next b1 b2)
  have HP := Lib.hid hp
  have HB0 := Lib.hid hb0
  have HPL := Lib.hid hpl
  have H2 := Lib.hid h2
  have HF := Lib.hid hf
  have HI := Lib.hid hi
  obtain ⟨R, hR⟩ : ∃ R, R = tellsL f n parts := ⟨_, rfl⟩
  have HRR : Hid (tellsL f n (parts.drop 0) = R) := Lib.hid (by rw [hR]; rfl)
  rw [← hR]
  clear h1 b1 b2 hz z1 hp hb0 hpl h2 hf hi hR
  go_enter Tryz.func20, Tryz.ntmps20
  go_upto_region 1 with fail
  generalize (w.alloc (.cells #[.slice ta tn tc, .slice fa fs.length fc, .int .i64 all] 51)).alloc (.cells exZ 44) = w1 at *
  go_wp2_with fail
  go_loopg [17] parts.length (fun gk iv wr => ∃ (p : Nat), iv = .int .i64 (p : Int) ∧ gk = parts.length - p ∧ p ≤ parts.length ∧ Hid (tellsL f n (parts.drop p) = R) ∧ Hid (Below w1.heap.size w1 wr))
  case atStart => exact ⟨0, rfl, rfl, Nat.zero_le _, HRR, Lib.hid (Below.refl _ _)⟩
  case round =>
    obtain ⟨p, rfl, rfl, hpp, HT, HBL⟩ := hrel
    by_cases hlt : p < parts.length
    · obtain ⟨x, hx⟩ : ∃ z, parts[p]? = some z := ⟨parts[p], by simp⟩
      have hbw : Below w.heap.size w wr := HB.out.trans (HBL.out.mono HB.out.size)
      obtain ⟨b1, o1, na, nc, rfl, hky, hld⟩ := kid_ld HP.out hx (HB0.out.trans (hbw.mono HB0.out.size))
      obtain ⟨a, b, hab⟩ := H2.out x (List.mem_of_getElem? hx)
      have HTN : Hid (tellsL f n (parts.drop p) = match (if tellK f n a b then some b else if tellK f n b a then some a else none : Option PE) with
          | some y => some y
          | none => tellsL f n (parts.drop (p + 1))) := Lib.hid (by rw [tells_next hx]; unfold tellP; rw [hab])
      rw [hab] at hky hld
      have hbx : Below wr.heap.size wr (wr.alloc (.cells #[.int .u8 (x.op : Int), .int .u8 (x.v.k : Int), .int .i64 x.v.n, .string x.v.s, .string x.t, .string x.m, .int .i64 x.n, .slice na 2 nc] 44)) := (Below.refl _ _).alloc (Nat.le_refl _) _
      have HRX := Lib.hid (row_alloc wr 44 #[.int .u8 (x.op : Int), .int .u8 (x.v.k : Int), .int .i64 x.v.n, .string x.v.s, .string x.t, .string x.m, .int .i64 x.n, .slice na 2 nc])
      have HBX := Lib.hid (next HBL.out hbx)
      have HBW := Lib.hid (next hbw hbx)
      have HK := Lib.hid hky
      have ilt : (p : Int) < (parts.length : Int) := by omega
      have ige : (0 : Int) ≤ (p : Int) := by omega
      have HLT := Lib.hid hlt
      clear hbx hky hx hlt hpp hbw hab HBL
      go_upto_region 4 with fail
      clear hld
      generalize wr.alloc (.cells #[.int .u8 (x.op : Int), .int .u8 (x.v.k : Int), .int .i64 x.v.n, .string x.v.s, .string x.t, .string x.m, .int .i64 x.n, .slice na 2 nc] 44) = wx at *
      generalize wr.heap.size = gx at *
      have l7 := HRX.out.cell (i := 7) (v := .slice na 2 nc) rfl
      go_wp2_with fail
      go_loopg [24] 2 (fun gk kv wr => ∃ (k : Nat), kv = .int .i64 (k : Int) ∧ gk = 2 - k ∧ k ≤ 2 ∧ Hid ((1 ≤ k → tellK f n a b = false) ∧ (2 ≤ k → tellK f n b a = false)) ∧ Hid (Below wx.heap.size wx wr))
      case atStart => exact ⟨0, rfl, rfl, by decide, Lib.hid ⟨fun h => absurd h (by decide), fun h => absurd h (by decide)⟩, Lib.hid (Below.refl _ _)⟩
      case round =>
        obtain ⟨k, rfl, rfl, hk2, HKF, HBY⟩ := hrel
        clear l7
        by_cases hk : k < 2
        · obtain ⟨u, v, hu, hv, huv⟩ : ∃ u v, [a, b][k]? = some u ∧ [a, b][1 - k]? = some v ∧ ((k = 0 ∧ u = a ∧ v = b) ∨ (k = 1 ∧ u = b ∧ v = a)) := by
            rcases k with _ | _ | k
            · exact ⟨a, b, rfl, rfl, .inl ⟨rfl, rfl, rfl⟩⟩
            · exact ⟨b, a, rfl, rfl, .inr ⟨rfl, rfl, rfl⟩⟩
            · omega
          have hbw : Below w.heap.size w wr := HBW.out.trans (HBY.out.mono HBW.out.size)
          obtain ⟨b2, o2, ua, uc, rfl, hku, hldu⟩ := kid_ld HK.out hu (HB0.out.trans (hbw.mono HB0.out.size))
          have hwu : Below wr.heap.size wr (wr.alloc (.cells #[.int .u8 (u.op : Int), .int .u8 (u.v.k : Int), .int .i64 u.v.n, .string u.v.s, .string u.t, .string u.m, .int .i64 u.n, .slice ua u.kids.length uc] 44)) := (Below.refl _ _).alloc (Nat.le_refl _) _
          have hru := row_alloc wr 44 #[.int .u8 (u.op : Int), .int .u8 (u.v.k : Int), .int .i64 u.v.n, .string u.v.s, .string u.t, .string u.m, .int .i64 u.n, .slice ua u.kids.length uc]
          have HRU := Lib.hid hru
          have HBU := Lib.hid (next HBY.out hwu)
          have HBV := Lib.hid (next hbw hwu)
          have HHV := Lib.hid hv
          have HUV := Lib.hid huv
          have klt : (k : Int) < (2 : Int) := by omega
          have kge : (0 : Int) ≤ (k : Int) := by omega
          have HLK := Lib.hid hk
          clear hwu hru hv huv hbw hku hk hk2 HBY
          go_upto_region 7 with fail
          clear hldu
          generalize wr.alloc (.cells #[.int .u8 (u.op : Int), .int .u8 (u.v.k : Int), .int .i64 u.v.n, .string u.v.s, .string u.t, .string u.m, .int .i64 u.n, .slice ua u.kids.length uc] 44) = wu at *
          generalize wr.heap.size = gu at *
          have l7 := (HRX.out.later HBU.out).cell (i := 7) (v := .slice (some ⟨b2, o2, none⟩) 2 nc) rfl
          obtain ⟨b3, o3, va, vc, e3, hkv, hldv⟩ := kid_ld HK.out HHV.out (HB0.out.trans (HBV.out.mono HB0.out.size))
          cases e3
          have kw : wrap64 (1 - (k : Int)) = ((1 - k : Nat) : Int) := by have := HLK.out; unfold wrap64; omega
          have kge2 : (0 : Int) ≤ ((1 - k : Nat) : Int) := by omega
          have klt2 : ((1 - k : Nat) : Int) < (2 : Int) := by omega
          have hwv : Below wu.heap.size wu (wu.alloc (.cells #[.int .u8 (v.op : Int), .int .u8 (v.v.k : Int), .int .i64 v.v.n, .string v.v.s, .string v.t, .string v.m, .int .i64 v.n, .slice va v.kids.length vc] 44)) := (Below.refl _ _).alloc (Nat.le_refl _) _
          have hrv := row_alloc wu 44 #[.int .u8 (v.op : Int), .int .u8 (v.v.k : Int), .int .i64 v.v.n, .string v.v.s, .string v.t, .string v.m, .int .i64 v.n, .slice va v.kids.length vc]
          have HRU2 := Lib.hid (HRU.out.later hwv)
          have HRV2 := Lib.hid hrv
          have HBU2 := Lib.hid (next HBU.out hwv)
          have HBV2 := Lib.hid (next HBV.out hwv)
          have HKV := Lib.hid hkv
          clear hwv hrv hkv HRU HBU HBV
          go_upto_region 8 with fail
          clear hldv l7
          generalize wu.alloc (.cells #[.int .u8 (v.op : Int), .int .u8 (v.v.k : Int), .int .i64 v.v.n, .string v.v.s, .string v.t, .string v.m, .int .i64 v.n, .slice va v.kids.length vc] 44) = wv at *
          generalize wu.heap.size = gv at *
          obtain ⟨C, hC⟩ : ∃ C, C = tellK f n u v := ⟨_, rfl⟩
          have HC := Lib.hid hC
          rw [tellK_eq] at hC
          go_cut [58] (fun bv wy => bv = .bool C ∧ Below wv.heap.size wv wy)
          case first =>
            obtain ⟨fb, fo, e4, cf⟩ := int_at HF.out HI.out
            subst e4
            have hil := (List.getElem?_eq_some_iff.1 HI.out).1
            have iilt : (i : Int) < (fs.length : Int) := by omega
            have iige : (0 : Int) ≤ (i : Int) := by omega
            have l0 := lat_cell (HRU2.out.cell (i := 0) (v := .int .u8 (u.op : Int)) rfl)
            have l6 := lat_cell (HRU2.out.cell (i := 6) (v := .int .i64 u.n) rfl)
            have m0 := lat_cell (HRV2.out.cell (i := 0) (v := .int .u8 (v.op : Int)) rfl)
            have m6 := lat_cell (HRV2.out.cell (i := 6) (v := .int .i64 v.n) rfl)
            have s1 := lat_cell (((HS.out.later HBX.out).later HBU2.out).cell (i := 1) (v := .slice (some ⟨fb, fo, none⟩) fs.length fc) rfl)
            have s2 := lat_cell ((HBV2.out.cell (cell_lt cf)).trans cf)
            clear hil cf
            obtain ⟨A1, hA1⟩ : ∃ A, ((u.op : Int) == 2) = A := ⟨_, rfl⟩
            obtain ⟨A2, hA2⟩ : ∃ A, (u.n == n) = A := ⟨_, rfl⟩
            obtain ⟨B1, hB1⟩ : ∃ A, ((v.op : Int) == 1) = A := ⟨_, rfl⟩
            rw [hA1, hA2, hB1] at hC
            cases A1 with
            | false =>
              have eC : C = false := by rw [hC]; rfl
              clear hC
              refine wp_region_later (by kernel_rfl) (by kernel_rfl) ?_
              repeat (go_big_quiet_step (fail))
              refine wpQuiet_nil ?_
              refine later_out (fun w9 hb9 => ?_)
              go_wp2_with fail
              go_meet
              exact ⟨by rw [eC], hb9⟩
            | true =>
              cases A2 with
              | false =>
                have eC : C = false := by rw [hC]; rfl
                clear hC
                refine wp_region_later (by kernel_rfl) (by kernel_rfl) ?_
                repeat (go_big_quiet_step (fail))
                refine wpQuiet_nil ?_
                refine later_out (fun w9 hb9 => ?_)
                go_wp2_with fail
                go_meet
                exact ⟨by rw [eC], hb9⟩
              | true =>
                cases B1 with
                | true =>
                  have eC : C = true := by rw [hC]; rfl
                  clear hC
                  refine wp_region_later (by kernel_rfl) (by kernel_rfl) ?_
                  repeat (go_big_quiet_step (fail))
                  refine wpQuiet_nil ?_
                  refine later_out (fun w9 hb9 => ?_)
                  go_wp2_with fail
                  go_meet
                  exact ⟨by rw [eC], hb9⟩
                | false =>
                  by_cases hvf : v.n < f
                  · have eC : C = true := by rw [hC, decide_eq_true hvf]; rfl
                    clear hC
                    refine wp_region_later (by kernel_rfl) (by kernel_rfl) ?_
                    repeat (go_big_quiet_step (fail))
                    refine wpQuiet_nil ?_
                    refine later_out (fun w9 hb9 => ?_)
                    go_wp2_with fail
                    go_meet
                    exact ⟨by rw [eC], hb9⟩
                  · have eC : C = false := by rw [hC, decide_eq_false hvf]; rfl
                    clear hC
                    refine wp_region_later (by kernel_rfl) (by kernel_rfl) ?_
                    repeat (go_big_quiet_step (fail))
                    refine wpQuiet_nil ?_
                    refine later_out (fun w9 hb9 => ?_)
                    go_wp2_with fail
                    go_meet
                    exact ⟨by rw [eC], hb9⟩
          case rest =>
            obtain ⟨rfl, hb9⟩ := hcut
            have HBU9 := Lib.hid (next HBU2.out hb9)
            have HBV9 := Lib.hid (next HBV2.out hb9)
            have HRV9 := Lib.hid (HRV2.out.later hb9)
            clear hC hb9 kw kge2 klt2 HRU2 HRV2
            cases C with
            | true =>
              have HRS : Hid (R = some v) := Lib.hid (by
                rw [← HT.out, HTN.out]
                rcases HUV.out with ⟨_, rfl, rfl⟩ | ⟨hk1, rfl, rfl⟩
                · rw [if_pos HC.out.symm]
                · rw [if_neg (ne_true (HKF.out.1 (by omega))), if_pos HC.out.symm])
              have HZ9 := Lib.hid (((HZ.out.later HBX.out).later HBU9.out))
              have hrb := HRV9.out.b (n := 8) rfl
              have hro := HRV9.out.of
              have hzb := HZ9.out.b (n := 8) rfl
              have HEX : Hid (ExR w0 (v.cells (.slice va v.kids.length vc)) v) := Lib.hid (exR_iff.2 ⟨_, rfl, HKV.out⟩)
              go_wp2_with fail
              exact bodyPost_ret (v := .tuple #[.agg #[.int .u8 (v.op : Int), .int .u8 (v.v.k : Int), .int .i64 v.v.n, .string v.v.s, .string v.t, .string v.m, .int .i64 v.n, .slice va v.kids.length vc], .bool true]) (res_ct rfl _ _ (w.heap.size + 1) _ _ _ rfl rfl (HZ9.out.set _) rfl) rfl
                ⟨_, by rw [HRS.out]; rfl, by rw [HRS.out]; exact HEX.out, below_setRow' HBV9.out (by omega) _⟩
            | false =>
              have HKN : Hid ((1 ≤ k + 1 → tellK f n a b = false) ∧ (2 ≤ k + 1 → tellK f n b a = false)) := Lib.hid (by
                rcases HUV.out with ⟨rfl, rfl, rfl⟩ | ⟨rfl, rfl, rfl⟩
                · exact ⟨fun _ => HC.out.symm, fun h => absurd h (by decide)⟩
                · exact ⟨fun _ => HKF.out.1 (by decide), fun _ => HC.out.symm⟩)
              go_wp2_with fail
              go_roundg (2 - (k + 1))
              case measure => exact Nat.sub_lt_sub_left HLK.out (Nat.lt_succ_self _)
              case rel => exact ⟨k + 1, congrArg (Value.int .i64) (Int.natCast_succ k).symm, rfl, HLK.out, HKN, HBU9⟩
        · obtain rfl : k = 2 := by omega
          have HTX : Hid (tellsL f n (parts.drop (p + 1)) = R) := Lib.hid (by
            rw [← HT.out, HTN.out, if_neg (ne_true (HKF.out.1 (by decide))), if_neg (ne_true (HKF.out.2 (by decide)))])
          have HBZ := Lib.hid (next HBX.out HBY.out)
          clear hk hk2
          go_wp2_with fail
          go_roundg (parts.length - (p + 1))
          case measure => exact Nat.sub_lt_sub_left HLT.out (Nat.lt_succ_self _)
          case rel => exact ⟨p + 1, congrArg (Value.int .i64) (by have h1 := HPL.out; have h2 := HLT.out; unfold wrap64; omega), rfl, HLT.out, HTX, HBZ⟩
    · obtain rfl : p = parts.length := by omega
      have HRN : Hid (R = none) := Lib.hid (by rw [← HT.out, List.drop_length]; rfl)
      have HZ9 := Lib.hid (HZ.out.later HBL.out)
      have HBW : Hid (Below w.heap.size w wr) := Lib.hid (HB.out.trans (HBL.out.mono HB.out.size))
      have hzb := HZ9.out.b (n := 8) rfl
      clear hlt hpp
      go_wp2_with fail
      exact bodyPost_ret (v := .tuple #[.agg exZ, .bool false]) (res_ct rfl _ _ (w.heap.size + 1) _ _ _ rfl rfl (HZ9.out.set _) rfl) rfl
        ⟨_, by rw [HRN.out]; rfl, by rw [HRN.out]; rfl, below_setRow' HBW.out (by omega) _⟩
end Go.Proofs.YtjgkeillmelkoaaGreat.Dt
