/-
  The walks of package eval: which expressions may be.
-/
import Derived.Test.YtclkpbokngamiaaEvalSpec
import Derived.Test.YtclkpbokngamiaaValueW
namespace Go.Proofs.Ytclkpbokngamiaa.Dt
open Go.RowKit Go.Proofs.Ytclkpbokngamiaa.By

theorem ret_bool {a b : Bool} (h : a = true ↔ b = true) : Ending.returned (.bool a) = .returned (.bool b) := by rw [Bool.eq_iff_iff.2 h]

theorem kids (op n : Nat) (w : World) (ho : op < 256) (hn : n ≤ 9223372036854775807) : Calls Try.prog 35 #[.int .u8 (op : Int), .int .i64 (n : Int)] w fun e w' => e = .returned (.bool (kidsB op n)) ∧ w = w' := by
  unfold kidsB
  by_cases h1 : op = 1
  · subst h1
    rw [if_pos rfl]
    go_enter Try.func35, Try.ntmps35
    go_wp2_with fail
    go_ret
    exact ⟨ret_bool (by first | (simp; done) | (simp; omega)), rfl⟩
  · rw [if_neg h1]
    by_cases h2 : op = 2
    · subst h2
      rw [if_pos rfl]
      go_enter Try.func35, Try.ntmps35
      go_wp2_with fail
      go_ret
      exact ⟨ret_bool (by first | (simp; done) | (simp; omega)), rfl⟩
    · rw [if_neg h2]
      by_cases h3 : op = 20
      · subst h3
        rw [if_pos rfl]
        go_enter Try.func35, Try.ntmps35
        go_wp2_with fail
        go_ret
        exact ⟨ret_bool (by first | (simp; done) | (simp; omega)), rfl⟩
      · rw [if_neg h3]
        have e1 : ((op : Int) == 1) = false := by simp; omega
        have e2 : ((op : Int) == 2) = false := by simp; omega
        have e3 : ((op : Int) == 20) = false := by simp; omega
        by_cases h4 : 6 ≤ op ∧ op ≤ 19
        · rw [if_pos h4]
          obtain ⟨h4a, h4b⟩ := h4
          have e4 : decide ((6 : Int) ≤ (op : Int)) = true := decide_eq_true (by omega)
          have e5 : decide ((op : Int) ≤ 19) = true := decide_eq_true (by omega)
          go_enter Try.func35, Try.ntmps35
          go_wp2_with fail
          go_ret
          exact ⟨ret_bool (by first | (simp; done) | (simp; omega)), rfl⟩
        · rw [if_neg h4]
          by_cases h5 : 6 ≤ op
          · have e4 : decide ((6 : Int) ≤ (op : Int)) = true := decide_eq_true (by omega)
            have e5 : decide ((op : Int) ≤ 19) = false := decide_eq_false (by omega)
            go_enter Try.func35, Try.ntmps35
            go_wp2_with fail
            go_ret
            exact ⟨ret_bool (by first | (simp; done) | (simp; omega)), rfl⟩
          · have e4 : decide ((6 : Int) ≤ (op : Int)) = false := decide_eq_false (by omega)
            go_enter Try.func35, Try.ntmps35
            go_wp2_with fail
            go_ret
            exact ⟨ret_bool (by first | (simp; done) | (simp; omega)), rfl⟩

theorem group (op : Nat) (w : World) (ho : op < 256) : Calls Try.prog 29 #[.int .u8 (op : Int)] w fun e w' => e = .returned (.bool (groupB op)) ∧ w = w' := by
  unfold groupB
  by_cases h1 : 20 ≤ op
  · have e4 : decide ((20 : Int) ≤ (op : Int)) = true := decide_eq_true (by omega)
    go_enter Try.func29, Try.ntmps29
    go_wp2_with fail
    go_ret
    exact ⟨ret_bool (by first | (simp; done) | (simp; omega)), rfl⟩
  · have e4 : decide ((20 : Int) ≤ (op : Int)) = false := decide_eq_false (by omega)
    go_enter Try.func29, Try.ntmps29
    go_wp2_with fail
    go_ret
    exact ⟨ret_bool (by first | (simp; done) | (simp; omega)), rfl⟩

/-- The box in which a call lays an expression that it got. -/
abbrev exBox (w : World) (x : Ex) (t : TypeId) : World := w.alloc (.cells #[.int .u8 (x.op : Int), .int .u8 (x.v.k : Int), .int .i64 x.v.n, .string x.v.s, .string x.t, .string x.m, .int .i64 x.n, x.kv] t)

set_option maxRecDepth 100000 in
set_option maxHeartbeats 4000000 in
theorem shaped : ∀ (x : Ex) (cols : Int) (w : World), 0 ≤ cols → cols ≤ 9223372036854775807 → x.In w → x.Ok →
    Calls Try.prog 27 #[x.val, .int .i64 cols] w fun e w' => e = .returned (.bool (shapedB cols x)) ∧ Below w.heap.size w w' := by
  refine Ex.ind fun x ih cols w hc0 hc1 hin hok => ?_
  rw [Ex.in_iff] at hin
  rw [Ex.ok_iff] at hok
  obtain ⟨hat, hkin⟩ := hin
  obtain ⟨hone, hkok⟩ := hok
  obtain ⟨op, v, t, m, n, kv, ks⟩ := x
  rw [shaped_eq]
  simp only [Ex.op_mk, Ex.v_mk, Ex.t_mk, Ex.m_mk, Ex.n_mk, Ex.kv_mk, Ex.kids_mk, Ex.okOne] at hat hkin hkok hone ih
  simp only [Ex.val, Ex.op_mk, Ex.v_mk, Ex.t_mk, Ex.m_mk, Ex.n_mk, Ex.kv_mk, Ex.kids_mk]
  obtain ⟨a, c, rfl⟩ := hat.shape
  obtain ⟨hop, hv, ht, hm, hn1, hn2, hkl⟩ := hone
  have HAT := Lib.hid hat; clear hat
  have HKI := Lib.hid hkin; clear hkin
  have HKO := Lib.hid hkok; clear hkok
  have HV := Lib.hid hv; clear hv
  have IH := Lib.hid ih; clear ih
  by_cases h1 : oneB cols (.mk op v t m n (.slice a ks.length c) ks) = true
  · rw [h1, Bool.true_and]
    have H1 := Lib.hid h1
    rw [one_iff] at h1
    simp only [Ex.op_mk, Ex.v_mk, Ex.n_mk, Ex.kids_mk] at h1
    obtain ⟨⟨ho1, ho2⟩, hkb, hck, hcl⟩ := h1
    have hkids := fun W h1 (h2 : ks.length * 104 ≤ 140737488351232) => kids op ks.length W h1 (by omega)
    rw [hkb] at hkids
    have HK := Lib.hid hkids; clear hkids hkb
    have hop1 : op = 1 ∨ op = 2 ∨ (op ≠ 1 ∧ op ≠ 2) := by omega
    rcases hop1 with rfl | rfl | ⟨ho3, ho4⟩
    · have hcz : checkV v = 0 := hck rfl
      have hcheck := fun W => check v W HV.out.1 (Nat.le_trans HV.out.2.2 (by omega))
      rw [hcz] at hcheck
      have HCK := Lib.hid hcheck; clear hcheck hck hcz
      go_enter Try.func27, Try.ntmps27
      go_wp2_with fail

      refine (HK.out _ hop hkl).mono ?_
      rintro e w' ⟨rfl, rfl⟩
      go_wp2_with fail
      refine (HCK.out _).mono ?_
      rintro e w1 ⟨rfl, hb1⟩
      have hbw : Below w.heap.size w w1 := ((Below.refl _ _).alloc (Nat.le_refl _) _).trans (hb1.mono (by simp))
      obtain ⟨hc, hf⟩ := bcell hb1
      have q0 : World.cell? w1 ⟨w.heap.size, 0, none⟩ = some (.int .u8 (1 : Int)) := by rw [hb1.cell (by simp)]; go_simp
      have q1 : World.cell? w1 ⟨w.heap.size, 1, none⟩ = some (.int .u8 (v.k : Int)) := by rw [hb1.cell (by simp)]; go_simp
      have q2 : World.cell? w1 ⟨w.heap.size, 2, none⟩ = some (.int .i64 v.n) := by rw [hb1.cell (by simp)]; go_simp
      have q3 : World.cell? w1 ⟨w.heap.size, 3, none⟩ = some (.string v.s) := by rw [hb1.cell (by simp)]; go_simp
      have q6 : World.cell? w1 ⟨w.heap.size, 6, none⟩ = some (.int .i64 n) := by rw [hb1.cell (by simp)]; go_simp
      have q7 : World.cell? w1 ⟨w.heap.size, 7, none⟩ = some (.slice a ks.length c) := by rw [hb1.cell (by simp)]; go_simp
      clear hb1
      go_wp2_with fail
      clear q0 q1 q2 q3 q6 q7 hc hf

      go_loopw [54] (fun i wr => ∃ k : Nat, i = .int .i64 (k : Int) ∧ k ≤ ks.length ∧ Hid ((ks.take k).all (shapedB cols) = true) ∧ Below w.heap.size w wr) (fun i _ => ks.length - (intOf i).toNat)
      case atStart => exact ⟨0, rfl, Nat.zero_le _, rfl, hbw⟩
      case round =>
        obtain ⟨k, rfl, hk, hall, hbel⟩ := hrel
        by_cases hlt : k < ks.length
        · obtain ⟨y, hy⟩ : ∃ y, ks[k]? = some y := ⟨ks[k], by simp⟩
          have hym : y ∈ ks := List.mem_of_getElem? hy
          obtain ⟨b, o, rfl, hbz, d0, d1, d2, d3, d4, d5, d6, d7⟩ := Ex.at8 (HAT.out.below hbel) hy
          have hcall := fun W hb => IH.out y hym cols W hc0 hc1 (Ex.in_below (w := w) hb y (HKI.out y hym)) (HKO.out y hym)
          obtain ⟨ay, cy, eky⟩ := Ex.kv_of (HKI.out y hym)
          simp only [Ex.val] at hcall
          rw [eky] at d7 hcall
          have HC := Lib.hid hcall; clear hcall eky
          have HY := Lib.hid (And.intro hy hym); clear hy hym
          have ilt : (k : Int) < (ks.length : Int) := by omega
          have hzr := hbel.size
          go_wp2_with fail
          refine (HC.out _ (by go_grown)).mono ?_
          rintro e w2 ⟨rfl, hb2⟩
          have hbel2 : Below w.heap.size w w2 := (hbel.alloc hbel.size _).trans (hb2.mono (by have := hbel.size; simp; omega))
          cases hres : shapedB cols y
          · have HR := Lib.hid hres; clear hres
            go_wp2_with fail
            go_ret
            exact ⟨by rw [all_not HY.out.1 HR.out]; rfl, hbel2⟩
          · have HR := Lib.hid hres; clear hres
            go_wp2_with fail
            go_roundw
            case rel => exact ⟨k + 1, by go_num, by omega, all_take hall.out HY.out.1 HR.out, hbel2⟩
            case measure => simp [intOf]; omega
        · obtain rfl : k = ks.length := by omega
          go_wp2_with fail
          go_ret
          exact ⟨by rw [← hall.out, List.take_length]; rfl, hbel⟩
    · obtain ⟨hl1, hl2⟩ := hcl rfl
      have hd1 : decide (n < 0) = false := decide_eq_false (by omega)
      have hd2 : decide (cols ≤ n) = false := decide_eq_false (by omega)
      clear hck hcl
      go_enter Try.func27, Try.ntmps27
      go_wp2_with fail

      refine (HK.out _ hop hkl).mono ?_
      rintro e w' ⟨rfl, rfl⟩
      go_wp2_with fail
      have hbw : Below w.heap.size w (w.alloc (.cells #[.int .u8 (2 : Int), .int .u8 (v.k : Int), .int .i64 v.n, .string v.s, .string t, .string m, .int .i64 n, .slice a ks.length c] 27)) := (Below.refl _ _).alloc (Nat.le_refl _) _

      go_loopw [54] (fun i wr => ∃ k : Nat, i = .int .i64 (k : Int) ∧ k ≤ ks.length ∧ Hid ((ks.take k).all (shapedB cols) = true) ∧ Below w.heap.size w wr) (fun i _ => ks.length - (intOf i).toNat)
      case atStart => exact ⟨0, rfl, Nat.zero_le _, rfl, hbw⟩
      case round =>
        obtain ⟨k, rfl, hk, hall, hbel⟩ := hrel
        by_cases hlt : k < ks.length
        · obtain ⟨y, hy⟩ : ∃ y, ks[k]? = some y := ⟨ks[k], by simp⟩
          have hym : y ∈ ks := List.mem_of_getElem? hy
          obtain ⟨b, o, rfl, hbz, d0, d1, d2, d3, d4, d5, d6, d7⟩ := Ex.at8 (HAT.out.below hbel) hy
          have hcall := fun W hb => IH.out y hym cols W hc0 hc1 (Ex.in_below (w := w) hb y (HKI.out y hym)) (HKO.out y hym)
          obtain ⟨ay, cy, eky⟩ := Ex.kv_of (HKI.out y hym)
          simp only [Ex.val] at hcall
          rw [eky] at d7 hcall
          have HC := Lib.hid hcall; clear hcall eky
          have HY := Lib.hid (And.intro hy hym); clear hy hym
          have ilt : (k : Int) < (ks.length : Int) := by omega
          have hzr := hbel.size
          go_wp2_with fail
          refine (HC.out _ (by go_grown)).mono ?_
          rintro e w2 ⟨rfl, hb2⟩
          have hbel2 : Below w.heap.size w w2 := (hbel.alloc hbel.size _).trans (hb2.mono (by have := hbel.size; simp; omega))
          cases hres : shapedB cols y
          · have HR := Lib.hid hres; clear hres
            go_wp2_with fail
            go_ret
            exact ⟨by rw [all_not HY.out.1 HR.out]; rfl, hbel2⟩
          · have HR := Lib.hid hres; clear hres
            go_wp2_with fail
            go_roundw
            case rel => exact ⟨k + 1, by go_num, by omega, all_take hall.out HY.out.1 HR.out, hbel2⟩
            case measure => simp [intOf]; omega
        · obtain rfl : k = ks.length := by omega
          go_wp2_with fail
          go_ret
          exact ⟨by rw [← hall.out, List.take_length]; rfl, hbel⟩
    · have e1 : ((op : Int) == 1) = false := by simp; omega
      have e2 : ((op : Int) == 2) = false := by simp; omega
      have e3 : decide ((op : Int) < 1) = false := decide_eq_false (by omega)
      have e4 : decide ((23 : Int) < (op : Int)) = false := decide_eq_false (by omega)
      clear hck hcl
      go_enter Try.func27, Try.ntmps27
      go_wp2_with fail

      refine (HK.out _ hop hkl).mono ?_
      rintro e w' ⟨rfl, rfl⟩
      go_wp2_with fail
      have hbw : Below w.heap.size w (w.alloc (.cells #[.int .u8 (op : Int), .int .u8 (v.k : Int), .int .i64 v.n, .string v.s, .string t, .string m, .int .i64 n, .slice a ks.length c] 27)) := (Below.refl _ _).alloc (Nat.le_refl _) _

      go_loopw [54] (fun i wr => ∃ k : Nat, i = .int .i64 (k : Int) ∧ k ≤ ks.length ∧ Hid ((ks.take k).all (shapedB cols) = true) ∧ Below w.heap.size w wr) (fun i _ => ks.length - (intOf i).toNat)
      case atStart => exact ⟨0, rfl, Nat.zero_le _, rfl, hbw⟩
      case round =>
        obtain ⟨k, rfl, hk, hall, hbel⟩ := hrel
        by_cases hlt : k < ks.length
        · obtain ⟨y, hy⟩ : ∃ y, ks[k]? = some y := ⟨ks[k], by simp⟩
          have hym : y ∈ ks := List.mem_of_getElem? hy
          obtain ⟨b, o, rfl, hbz, d0, d1, d2, d3, d4, d5, d6, d7⟩ := Ex.at8 (HAT.out.below hbel) hy
          have hcall := fun W hb => IH.out y hym cols W hc0 hc1 (Ex.in_below (w := w) hb y (HKI.out y hym)) (HKO.out y hym)
          obtain ⟨ay, cy, eky⟩ := Ex.kv_of (HKI.out y hym)
          simp only [Ex.val] at hcall
          rw [eky] at d7 hcall
          have HC := Lib.hid hcall; clear hcall eky
          have HY := Lib.hid (And.intro hy hym); clear hy hym
          have ilt : (k : Int) < (ks.length : Int) := by omega
          have hzr := hbel.size
          go_wp2_with fail
          refine (HC.out _ (by go_grown)).mono ?_
          rintro e w2 ⟨rfl, hb2⟩
          have hbel2 : Below w.heap.size w w2 := (hbel.alloc hbel.size _).trans (hb2.mono (by have := hbel.size; simp; omega))
          cases hres : shapedB cols y
          · have HR := Lib.hid hres; clear hres
            go_wp2_with fail
            go_ret
            exact ⟨by rw [all_not HY.out.1 HR.out]; rfl, hbel2⟩
          · have HR := Lib.hid hres; clear hres
            go_wp2_with fail
            go_roundw
            case rel => exact ⟨k + 1, by go_num, by omega, all_take hall.out HY.out.1 HR.out, hbel2⟩
            case measure => simp [intOf]; omega
        · obtain rfl : k = ks.length := by omega
          go_wp2_with fail
          go_ret
          exact ⟨by rw [← hall.out, List.take_length]; rfl, hbel⟩
  · have h1' : oneB cols (.mk op v t m n (.slice a ks.length c) ks) = false := by simpa using h1
    rw [h1', Bool.false_and]
    rw [one_iff] at h1
    simp only [Ex.op_mk, Ex.v_mk, Ex.n_mk, Ex.kids_mk] at h1
    have H1 := Lib.hid h1'
    clear h1'
    by_cases ha : op < 1
    · obtain rfl : op = 0 := by omega
      clear h1
      go_enter Try.func27, Try.ntmps27
      go_wp2_with fail
      go_ret
      exact ⟨rfl, by go_grown⟩
    have e3 : decide ((op : Int) < 1) = false := decide_eq_false (by omega)
    by_cases hb : 23 < op
    · clear h1
      go_enter Try.func27, Try.ntmps27
      go_wp2_with fail
      go_ret
      exact ⟨rfl, by go_grown⟩
    have e4 : decide ((23 : Int) < (op : Int)) = false := decide_eq_false (by omega)
    have hkids := fun W h1 (h2 : ks.length * 104 ≤ 140737488351232) => kids op ks.length W h1 (by omega)
    cases hkb : kidsB op ks.length
    · rw [hkb] at hkids
      have HK := Lib.hid hkids; clear hkids hkb h1
      go_enter Try.func27, Try.ntmps27
      go_wp2_with fail
      refine (HK.out _ hop hkl).mono ?_
      rintro e w' ⟨rfl, rfl⟩
      go_wp2_with fail
      go_ret
      exact ⟨rfl, by go_grown⟩
    rw [hkb] at hkids
    have HK := Lib.hid hkids; clear hkids
    by_cases hc : op = 1
    · subst hc
      have hcz : checkV v ≠ 0 := fun e => h1 ⟨⟨by omega, by omega⟩, hkb, fun _ => e, by omega⟩
      have hcz' : (((checkV v : Nat) : Int) != 0) = true := by simp; omega
      have HCK := Lib.hid (fun W => check v W HV.out.1 (Nat.le_trans HV.out.2.2 (by omega)))
      clear h1 hkb hcz
      go_enter Try.func27, Try.ntmps27
      go_wp2_with fail
      refine (HK.out _ hop hkl).mono ?_
      rintro e w' ⟨rfl, rfl⟩
      go_wp2_with fail
      refine (HCK.out _).mono ?_
      rintro e w1 ⟨rfl, hb1⟩
      have hbw : Below w.heap.size w w1 := ((Below.refl _ _).alloc (Nat.le_refl _) _).trans (hb1.mono (by simp))
      go_wp2_with fail
      go_ret
      exact ⟨rfl, hbw⟩
    by_cases hd : op = 2
    · subst hd
      by_cases hn : n < 0
      · clear h1 hkb
        go_enter Try.func27, Try.ntmps27
        go_wp2_with fail
        refine (HK.out _ hop hkl).mono ?_
        rintro e w' ⟨rfl, rfl⟩
        go_wp2_with fail
        go_ret
        exact ⟨rfl, by go_grown⟩
      · have hm' : cols ≤ n := by
          by_cases h : n < cols
          · exact absurd ⟨⟨by omega, by omega⟩, hkb, by omega, fun _ => ⟨by omega, h⟩⟩ h1
          · omega
        have hd1 : decide (n < 0) = false := decide_eq_false hn
        clear h1 hkb
        go_enter Try.func27, Try.ntmps27
        go_wp2_with fail
        refine (HK.out _ hop hkl).mono ?_
        rintro e w' ⟨rfl, rfl⟩
        go_wp2_with fail
        go_ret
        exact ⟨rfl, by go_grown⟩
    exact absurd ⟨⟨by omega, by omega⟩, hkb, fun e => absurd e hc, fun e => absurd e hd⟩ h1
end Go.Proofs.Ytclkpbokngamiaa.Dt
