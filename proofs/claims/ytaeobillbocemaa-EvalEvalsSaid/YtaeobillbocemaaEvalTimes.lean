/-
  The walk of the reference's product: by doubling.
-/
import Derived.Test.YtaeobillbocemaaEvalLong
import Derived.OneCell
import Derived.Deep.DeepCutAuto
namespace Go.Proofs.Ytaeobillbocemaa.Dt
open Go.RowKit Go.Proofs.Ytaeobillbocemaa.By

theorem part_bound {a m q hs ls ht lt : Int} (h0 : 0 ≤ m) (h1 : m < q) (hs1 : Lg (a * m) hs ls) (ht1 : Lg (a * q) ht lt) (b1 : -1099511627776 ≤ ht) (b2 : ht ≤ 1099511627776) : -4611686018427387904 ≤ hs ∧ hs ≤ 4611686018427387900 := by
  obtain ⟨e1, x1, y1⟩ := hs1
  obtain ⟨e2, x2, y2⟩ := ht1
  rcases Int.lt_or_le a 0 with ha | ha
  · have k1 : a * q ≤ a * m := Int.mul_le_mul_of_nonpos_left (by omega) (by omega)
    have k2 : a * m ≤ 0 := Int.mul_nonpos_of_nonpos_of_nonneg (by omega) (by omega)
    constructor <;> omega
  · have k1 : a * m ≤ a * q := Int.mul_le_mul_of_nonneg_left (by omega) (by omega)
    have k2 : 0 ≤ a * m := Int.mul_nonneg (by omega) (by omega)
    constructor <;> omega
theorem over_bound {a b0 m q c ht lt : Int} (h0 : 0 ≤ m) (hq : 0 < q) (hc : 0 < c) (hb : b0 = m + q * c) (ht1 : Lg (a * q) ht lt) (b1 : ht < -1099511627776 ∨ 1099511627776 < ht) : overS (a * b0) = (nullV, 152) := by
  obtain ⟨e2, x2, y2⟩ := ht1
  have hqb : q ≤ b0 := by
    have : q * 1 ≤ q * c := Int.mul_le_mul_of_nonneg_left (by omega) (by omega)
    omega
  unfold overS
  refine if_neg ?_
  unfold inR
  rcases Int.lt_or_le a 0 with ha | ha
  · have k1 : a * b0 ≤ a * q := Int.mul_le_mul_of_nonpos_left (by omega) hqb
    have k2 : a * q ≤ 0 := Int.mul_nonpos_of_nonpos_of_nonneg (by omega) (by omega)
    omega
  · have k1 : a * q ≤ a * b0 := Int.mul_le_mul_of_nonneg_left hqb ha
    have k2 : 0 ≤ a * q := Int.mul_nonneg (by omega) (by omega)
    omega
theorem halve {b0 m q b c bit : Int} (h : b0 = m + q * b) (hb : b = 2 * c + bit) : b0 = (m + q * bit) + (q + q) * c := by
  subst hb
  rw [h, Int.mul_add, ← Int.mul_assoc, Int.mul_comm q 2, Int.add_mul]
  have : 2 * q * c = q * c + q * c := by rw [Int.mul_assoc]; omega
  omega

/-- The reference's walk: what the boxes hold. -/
structure TimesAt (a b0 : Int) (B K : Nat) (w wr : World) (b m q hs ls ht lt : Int) : Prop where
  m0 : 0 ≤ m
  q0 : 0 < q
  mq : 0 < b → m < q
  eq : b0 = m + q * b
  sum : Lg (a * m) hs ls
  step : Lg (a * q) ht lt
  rb : wr.heap[B]? = some (.cells #[.int .u8 0, .int .i64 0, .string ⟨#[]⟩] 23 (0, 0))
  sb : wr.heap[B + 1]? = some (.cells #[.int .i64 hs, .int .i64 ls] 83 (0, 0))
  tb : wr.heap[K]? = some (.cells #[.int .i64 ht, .int .i64 lt] 83 (0, 0))
  bel : Below B w wr

/-- .. behind the sum's step. -/
structure MidAt (a m : Int) (B K : Nat) (w wr : World) (ht lt : Int) : Prop where
  sum : ∃ hs ls, Lg (a * m) hs ls ∧ wr.heap[B + 1]? = some (.cells #[.int .i64 hs, .int .i64 ls] 83 (0, 0))
  rb : wr.heap[B]? = some (.cells #[.int .u8 0, .int .i64 0, .string ⟨#[]⟩] 23 (0, 0))
  tb : wr.heap[K]? = some (.cells #[.int .i64 ht, .int .i64 lt] 83 (0, 0))
  bel : Below B w wr

theorem two_set (w : World) (k : Nat) (x y u v : Value) (t : TypeId) (h : w.heap[k]? = some (.cells #[x, y] t (0, 0))) : ((w.setCell ⟨k, 0, none⟩ u).setCell ⟨k, 1, none⟩ v).heap[k]? = some (.cells #[u, v] t (0, 0)) := by
  rw [heap_setCell_same _ _ _ _ _ _ (heap_setCell_same _ _ _ _ _ _ h)]
  rfl
theorem two_else (w : World) (k j : Nat) (u v : Value) (h : j ≠ k) : ((w.setCell ⟨k, 0, none⟩ u).setCell ⟨k, 1, none⟩ v).heap[j]? = w.heap[j]? := by
  rw [Below.heap_setCell _ _ _ _ (by simpa using h), Below.heap_setCell _ _ _ _ (by simpa using h)]
theorem cells2 (w : World) (k : Nat) (x y : Value) (t : TypeId) (h : w.heap[k]? = some (.cells #[x, y] t (0, 0))) : w.cell? ⟨k, 0, none⟩ = some x ∧ w.cell? ⟨k, 1, none⟩ = some y ∧ w.frozen? ⟨k, 0, none⟩ = false ∧ w.frozen? ⟨k, 1, none⟩ = false := by
  refine ⟨?_, ?_, frozen_of_row w k 0 _ t h, frozen_of_row w k 1 _ t h⟩ <;> (rw [cell_of_row w k _ _ t (0, 0) h]; rfl)
theorem cells3 (w : World) (k : Nat) (x y z : Value) (t : TypeId) (h : w.heap[k]? = some (.cells #[x, y, z] t (0, 0))) : w.cell? ⟨k, 0, none⟩ = some x ∧ w.cell? ⟨k, 1, none⟩ = some y ∧ w.cell? ⟨k, 2, none⟩ = some z ∧ w.frozen? ⟨k, 0, none⟩ = false ∧ w.frozen? ⟨k, 1, none⟩ = false ∧ w.frozen? ⟨k, 2, none⟩ = false := by
  refine ⟨?_, ?_, ?_, frozen_of_row w k 0 _ t h, frozen_of_row w k 1 _ t h, frozen_of_row w k 2 _ t h⟩ <;> (rw [cell_of_row w k _ _ t (0, 0) h]; rfl)

set_option maxHeartbeats 4000000 in
theorem times_pos (a b0 : Int) (w : World) (ha : inR a) (hb : inR b0) (hp : 0 ≤ b0) : Calls Try.prog 74 #[.int .i64 a, .int .i64 b0] w fun e w' => e = .returned (resV (overS (a * b0))) ∧ Below w.heap.size w w' := by
  have HA := Lib.hid ha
  unfold inR at hb
  obtain ⟨hb1, hb2⟩ := hb
  have hd : decide (b0 < 0) = false := decide_eq_false (by omega)
  obtain ⟨R, hR⟩ : ∃ R, R = overS (a * b0) := ⟨_, rfl⟩
  rw [← hR]
  have HR := Lib.hid hR
  have HP := Lib.hid hp
  clear ha hR
  go_enter Try.func74, Try.ntmps74
  go_wp2_with fail
  refine (long a _ HA.out).mono ?_
  rintro e w1 ⟨⟨h, l, hL, rfl⟩, hb1'⟩
  have hbel1 : Below w.heap.size w w1 := (((Below.refl _ _).alloc (Nat.le_refl _) _).alloc (by simp) _).trans (hb1'.mono (by simp; omega))
  have hz1 : w.heap.size + 1 < w1.heap.size := Nat.lt_of_lt_of_le (by simp) hb1'.size
  have r1 : w1.heap[w.heap.size]? = some (.cells #[.int .u8 0, .int .i64 0, .string ⟨#[]⟩] 23 (0, 0)) := by
    rw [hb1'.block _ (by simp; omega), Below.heap_alloc _ _ _ (by simp)]
    exact heap_alloc_new w _
  have s1 : w1.heap[w.heap.size + 1]? = some (.cells #[.int .i64 0, .int .i64 0] 83 (0, 0)) := by
    rw [hb1'.block _ (by simp)]
    have := heap_alloc_new (w.alloc (.cells #[.int .u8 0, .int .i64 0, .string ⟨#[]⟩] 23)) (.cells #[.int .i64 0, .int .i64 0] 83)
    simpa using this
  have HLL := Lib.hid hL
  have hL1 : -3 ≤ h ∧ h ≤ 3 := by have := HA.out; unfold inR at this; have e := hL.eq; have := hL.lo; have := hL.hi; constructor <;> omega
  obtain ⟨hh1, hh2⟩ := hL1
  clear hb1' hL
  go_wp2_with fail
  have hat : TimesAt a b0 w.heap.size w1.heap.size w (w1.alloc (.cells #[.int .i64 h, .int .i64 l] 83)) b0 0 1 0 0 h l :=
    ⟨Int.le_refl _, by omega, fun _ => by omega, by omega, ⟨by rw [Int.mul_zero]; omega, by omega, by omega⟩, by rw [Int.mul_one]; exact HLL.out,
      (Below.heap_alloc _ _ _ (by omega)).trans r1, (Below.heap_alloc _ _ _ (by omega)).trans s1, heap_alloc_new w1 _, hbel1.alloc hbel1.size _⟩
  have HAT := Lib.hid hat
  clear hat r1 s1 hbel1
  go_loopw [1] (fun bv wr => ∃ b m q hs ls ht lt : Int, bv = .int .i64 b ∧ 0 ≤ b ∧ b ≤ 9223372036854775807 ∧ -1099511627776 ≤ ht ∧ ht ≤ 1099511627776 ∧ Hid (TimesAt a b0 w.heap.size w1.heap.size w wr b m q hs ls ht lt)) (fun bv _ => (intOf bv).toNat)
  case atStart => exact ⟨b0, 0, 1, 0, 0, h, l, rfl, by omega, by omega, by omega, by omega, HAT⟩
  case round =>
    obtain ⟨b, m, q, hs, ls, ht, lt, rfl, hb0, hbm, ht1, ht2, hat⟩ := hrel
    clear HAT
    obtain ⟨c0, c1, f0, f1⟩ := cells2 wr _ _ _ _ hat.out.sb
    obtain ⟨d0, d1, g0, g1⟩ := cells2 wr _ _ _ _ hat.out.tb
    obtain ⟨x0, x1, x2, y0, y1, y2⟩ := cells3 wr _ _ _ _ _ hat.out.rb
    have hzr : w1.heap.size < wr.heap.size := (Array.getElem?_eq_some_iff.1 hat.out.tb).1
    by_cases hpos : 0 < b
    · obtain ⟨c, hc⟩ : ∃ c, c = b / 2 := ⟨_, rfl⟩
      have hsb := part_bound hat.out.m0 (hat.out.mq hpos) hat.out.sum hat.out.step ht1 ht2
      have hc0 : 0 ≤ c := by omega
      have hcb : c < b := by omega
      have hbw := hat.out.bel
      have hqp := hat.out.q0
      have hmp := hat.out.m0
      have hcd : b / 2 = c := hc.symm
      have hbit : 0 ≤ b % 2 ∧ b % 2 ≤ 1 := by omega
      have hb2 : b = 2 * c + b % 2 := by omega
      obtain ⟨bit, hbb⟩ : ∃ bit, bit = b % 2 := ⟨_, rfl⟩
      rw [← hbb] at hb2 hbit
      have heq := halve hat.out.eq hb2
      have HEQ := Lib.hid (And.intro heq hb2)
      have HMQ := hat.out.mq hpos
      have HST := Lib.hid hat.out.step
      have HSM := Lib.hid hat.out.sum
      have RB := Lib.hid hat.out.rb
      have SB := Lib.hid hat.out.sb
      have TB := Lib.hid hat.out.tb
      have HBB := Lib.hid hbb
      have HBT := Lib.hid hbit
      clear hat heq hb2 hc hbb hbit
      go_upto_if 44 with (fail)
      go_cut [] (fun wx => Hid (MidAt a (m + q * bit) w.heap.size w1.heap.size w wx ht lt))
      case first =>
        by_cases hodd : b % 2 = 1
        · have ho : (b % 2 == 1) = true := by rw [hodd]; rfl
          have hbit1 : bit = 1 := HBB.out.trans hodd
          subst hbit1
          have hpl := fun W => plus (a * m) (a * q) hs ls ht lt W HSM.out HST.out hsb ⟨by omega, by omega⟩
          rw [← Int.mul_add] at hpl
          have HPL := Lib.hid hpl
          clear hpl hodd
          go_wp2_with fail
          refine (HPL.out _).mono ?_
          rintro e w2 ⟨⟨hs', ls', hsum, rfl⟩, hb2⟩
          have HSUM := Lib.hid hsum
          obtain ⟨hcc, hff⟩ := bcell hb2
          have p0 : w2.cell? ⟨w.heap.size + 1, 0, none⟩ = some (.int .i64 hs) := by rw [hcc _ _ (by omega)]; exact c0
          have p1 : w2.cell? ⟨w.heap.size + 1, 1, none⟩ = some (.int .i64 ls) := by rw [hcc _ _ (by omega)]; exact c1
          have p2 : w2.frozen? ⟨w.heap.size + 1, 0, none⟩ = false := by rw [hff _ _ (by omega)]; exact f0
          have p3 : w2.frozen? ⟨w.heap.size + 1, 1, none⟩ = false := by rw [hff _ _ (by omega)]; exact f1
          have r2 : ((w2.setCell ⟨w.heap.size + 1, 0, none⟩ (.int .i64 hs')).setCell ⟨w.heap.size + 1, 1, none⟩ (.int .i64 ls')).heap[w.heap.size]? = some (.cells #[.int .u8 0, .int .i64 0, .string ⟨#[]⟩] 23 (0, 0)) := by
            rw [two_else _ _ _ _ _ (by omega), hb2.block _ (by omega)]; exact RB.out
          have s2 : ((w2.setCell ⟨w.heap.size + 1, 0, none⟩ (.int .i64 hs')).setCell ⟨w.heap.size + 1, 1, none⟩ (.int .i64 ls')).heap[w.heap.size + 1]? = some (.cells #[.int .i64 hs', .int .i64 ls'] 83 (0, 0)) :=
            two_set _ _ _ _ _ _ _ ((hb2.block _ (by omega)).trans SB.out)
          have t2 : ((w2.setCell ⟨w.heap.size + 1, 0, none⟩ (.int .i64 hs')).setCell ⟨w.heap.size + 1, 1, none⟩ (.int .i64 ls')).heap[w1.heap.size]? = some (.cells #[.int .i64 ht, .int .i64 lt] 83 (0, 0)) := by
            rw [two_else _ _ _ _ _ (by omega), hb2.block _ (by omega)]; exact TB.out
          have hbw2 : Below w.heap.size w ((w2.setCell ⟨w.heap.size + 1, 0, none⟩ (.int .i64 hs')).setCell ⟨w.heap.size + 1, 1, none⟩ (.int .i64 ls')) := ((hbw.trans (hb2.mono (by omega))).setCell (p := ⟨w.heap.size + 1, 0, none⟩) (by simp) _).setCell (p := ⟨w.heap.size + 1, 1, none⟩) (by simp) _
          have FIN := Lib.hid (show MidAt a (m + q * 1) w.heap.size w1.heap.size w _ ht lt by rw [Int.mul_one]; exact MidAt.mk ⟨_, _, hsum, s2⟩ r2 t2 hbw2)
          clear hsum hcc hff hb2 r2 s2 t2 hbw2
          go_wp2_with fail
          go_meet
          exact FIN
        · have ho : (b % 2 == 1) = false := by simpa using hodd
          have hbit0 : bit = 0 := by have := HBB.out; have := HBT.out; omega
          subst hbit0
          have FIN := Lib.hid (show MidAt a (m + q * 0) w.heap.size w1.heap.size w wr ht lt by rw [Int.mul_zero, Int.add_zero]; exact MidAt.mk ⟨_, _, HSM.out, SB.out⟩ RB.out TB.out hbw)
          go_wp2_with fail
          go_meet
          exact FIN
      case rest =>
        obtain ⟨⟨hs', ls', hsum, sb⟩, rb, tb, hbw2⟩ := hcut.out
        clear c0 c1 f0 f1 d0 d1 g0 g1 x0 x1 x2 y0 y1 y2 hbw
        obtain ⟨c0, c1, f0, f1⟩ := cells2 wc _ _ _ _ sb
        obtain ⟨d0, d1, g0, g1⟩ := cells2 wc _ _ _ _ tb
        obtain ⟨x0, x1, x2, y0, y1, y2⟩ := cells3 wc _ _ _ _ _ rb
        have hzx : w1.heap.size < wc.heap.size := (Array.getElem?_eq_some_iff.1 tb).1
        have SB2 := Lib.hid sb
        have RB2 := Lib.hid rb
        have TB2 := Lib.hid tb
        have HSUM := Lib.hid hsum
        have hm' : 0 ≤ m + q * bit := by
          have : 0 ≤ q * bit := Int.mul_nonneg (by omega) HBT.out.1
          omega
        have hm2 : m + q * bit < q + q := by
          have h1 := HBT.out
          have : q * bit ≤ q * 1 := Int.mul_le_mul_of_nonneg_left h1.2 (by omega)
          omega
        clear sb rb tb hsum hcut
        by_cases hcz : 0 < c
        · have hpl := fun W => plus (a * q) (a * q) ht lt ht lt W HST.out HST.out ⟨by omega, by omega⟩ ⟨by omega, by omega⟩
          rw [← Int.mul_add] at hpl
          have HPL := Lib.hid hpl
          clear hpl
          go_wp2_with fail
          refine (HPL.out _).mono ?_
          rintro e w2 ⟨⟨ht', lt', hst, rfl⟩, hb2⟩
          obtain ⟨hcc, hff⟩ := bcell hb2
          have p0 : w2.cell? ⟨w1.heap.size, 0, none⟩ = some (.int .i64 ht) := by rw [hcc _ _ (by omega)]; exact d0
          have p1 : w2.cell? ⟨w1.heap.size, 1, none⟩ = some (.int .i64 lt) := by rw [hcc _ _ (by omega)]; exact d1
          have p2 : w2.frozen? ⟨w1.heap.size, 0, none⟩ = false := by rw [hff _ _ (by omega)]; exact g0
          have p3 : w2.frozen? ⟨w1.heap.size, 1, none⟩ = false := by rw [hff _ _ (by omega)]; exact g1
          have r2 : ((w2.setCell ⟨w1.heap.size, 0, none⟩ (.int .i64 ht')).setCell ⟨w1.heap.size, 1, none⟩ (.int .i64 lt')).heap[w.heap.size]? = some (.cells #[.int .u8 0, .int .i64 0, .string ⟨#[]⟩] 23 (0, 0)) := by
            rw [two_else _ _ _ _ _ (by omega), hb2.block _ (by omega)]; exact RB2.out
          have t2 : ((w2.setCell ⟨w1.heap.size, 0, none⟩ (.int .i64 ht')).setCell ⟨w1.heap.size, 1, none⟩ (.int .i64 lt')).heap[w1.heap.size]? = some (.cells #[.int .i64 ht', .int .i64 lt'] 83 (0, 0)) :=
            two_set _ _ _ _ _ _ _ ((hb2.block _ (by omega)).trans TB2.out)
          have s2 : ((w2.setCell ⟨w1.heap.size, 0, none⟩ (.int .i64 ht')).setCell ⟨w1.heap.size, 1, none⟩ (.int .i64 lt')).heap[w.heap.size + 1]? = some (.cells #[.int .i64 hs', .int .i64 ls'] 83 (0, 0)) := by
            rw [two_else _ _ _ _ _ (by omega), hb2.block _ (by omega)]; exact SB2.out
          have hbw3 : Below w.heap.size w ((w2.setCell ⟨w1.heap.size, 0, none⟩ (.int .i64 ht')).setCell ⟨w1.heap.size, 1, none⟩ (.int .i64 lt')) := ((hbw2.trans (hb2.mono (by omega))).setCell (p := ⟨w1.heap.size, 0, none⟩) (by simp; omega) _).setCell (p := ⟨w1.heap.size, 1, none⟩) (by simp; omega) _
          have T2 := Lib.hid t2
          have S2 := Lib.hid s2
          have R2 := Lib.hid r2
          have HST2 := Lib.hid hst
          have k0 : ((w2.setCell ⟨w1.heap.size, 0, none⟩ (.int .i64 ht')).setCell ⟨w1.heap.size, 1, none⟩ (.int .i64 lt')).cell? ⟨w1.heap.size, 0, none⟩ = some (.int .i64 ht') := (cells2 _ _ _ _ _ t2).1
          have k0' : (w2.setCell ⟨w1.heap.size, 0, none⟩ (.int .i64 ht')).cell? ⟨w1.heap.size, 0, none⟩ = some (.int .i64 ht') := set_same3 _ _ _ _ p0
          obtain ⟨z0, z1, z2, v0, v1, v2⟩ := cells3 _ _ _ _ _ _ r2
          clear hst hcc hff hb2 r2 s2 t2 c0 c1 f0 f1 d0 d1 g0 g1 x0 x1 x2 y0 y1 y2
          by_cases hov1 : ht' < -1099511627776
          · have hov := over_bound hm' (show 0 < q + q by omega) hcz HEQ.out.1 HST2.out (.inl hov1)
            rw [← HR.out] at hov
            have HOV := Lib.hid hov; clear hov
            go_wp2_with fail
            obtain ⟨q0, q1, q2⟩ := filled3 _ w.heap.size _ _ _ (.int .u8 0) (.int .i64 0) (.string ⟨#[]⟩) z0 z1 z2
            refine bodyPost_ret (v := .tuple #[.agg #[.int .u8 0, .int .i64 0, .string ⟨#[]⟩], .int .i64 152]) (by simp [results, Try.results74, go_sem, q0, q1, q2]) rfl ⟨by rw [HOV.out]; rfl, ?_⟩
            go_grown
          · have hdo : decide (ht' < -1099511627776) = false := decide_eq_false hov1
            by_cases hov2 : 1099511627776 < ht'
            · have hov := over_bound hm' (show 0 < q + q by omega) hcz HEQ.out.1 HST2.out (.inr hov2)
              rw [← HR.out] at hov
              have HOV := Lib.hid hov; clear hov
              go_wp2_with fail
              obtain ⟨q0, q1, q2⟩ := filled3 _ w.heap.size _ _ _ (.int .u8 0) (.int .i64 0) (.string ⟨#[]⟩) z0 z1 z2
              refine bodyPost_ret (v := .tuple #[.agg #[.int .u8 0, .int .i64 0, .string ⟨#[]⟩], .int .i64 152]) (by simp [results, Try.results74, go_sem, q0, q1, q2]) rfl ⟨by rw [HOV.out]; rfl, ?_⟩
              go_grown
            · have hdo2 : decide (1099511627776 < ht') = false := decide_eq_false hov2
              have FIN := Lib.hid (TimesAt.mk hm' (show 0 < q + q by omega) (fun _ => hm2) HEQ.out.1 HSUM.out HST2.out R2.out S2.out T2.out hbw3)
              clear k0 z0 z1 z2 v0 v1 v2 hbw3
              go_wp2_with fail
              go_roundw
              case rel => exact ⟨c, m + q * bit, q + q, hs', ls', ht', lt', rfl, by omega, by omega, by omega, by omega, FIN⟩
              case measure => simp [intOf]; omega
        · have hcz' : c = 0 := by omega
          subst hcz'
          have hz : b0 = (m + q * bit) + q * 0 := by have := HEQ.out.1; rw [Int.mul_zero] at this ⊢; exact this
          have FIN := Lib.hid (TimesAt.mk hm' hqp (fun h => absurd h (by omega)) hz HSUM.out HST.out RB2.out SB2.out TB2.out hbw2)
          have hdo : decide (ht < -1099511627776) = false := decide_eq_false (by omega)
          have hdo2 : decide (1099511627776 < ht) = false := decide_eq_false (by omega)
          clear hz
          go_wp2_with fail
          go_roundw
          case rel => exact ⟨0, m + q * bit, q, hs', ls', ht, lt, by rw [hcd], by omega, by omega, by omega, by omega, FIN⟩
          case measure => simp [intOf]; omega
    · have hbz : b = 0 := by omega
      subst hbz
      have hm : m = b0 := by have := hat.out.eq; rw [Int.mul_zero] at this; omega
      have hans := fun W => answer (a * m) hs ls W hat.out.sum
      rw [hm, ← HR.out] at hans
      have HANS := Lib.hid hans
      have hbw := hat.out.bel
      clear hans hm hat
      go_wp2_with fail
      refine (HANS.out _).mono ?_
      rintro e w2 ⟨rfl, hb2⟩
      obtain ⟨hc, hf⟩ := bcell hb2
      have hz2 : w.heap.size < wr.heap.size := by omega
      have k0 : w2.cell? ⟨w.heap.size, 0, none⟩ = some (.int .u8 0) := by rw [hc _ _ hz2]; exact x0
      have k1 : w2.cell? ⟨w.heap.size, 1, none⟩ = some (.int .i64 0) := by rw [hc _ _ hz2]; exact x1
      have k2 : w2.cell? ⟨w.heap.size, 2, none⟩ = some (.string ⟨#[]⟩) := by rw [hc _ _ hz2]; exact x2
      have k3 : w2.frozen? ⟨w.heap.size, 0, none⟩ = false := by rw [hf _ _ hz2]; exact y0
      have k4 : w2.frozen? ⟨w.heap.size, 1, none⟩ = false := by rw [hf _ _ hz2]; exact y1
      have k5 : w2.frozen? ⟨w.heap.size, 2, none⟩ = false := by rw [hf _ _ hz2]; exact y2
      have hbw2 := hbw.trans (hb2.mono (by omega))
      clear hc hf c0 c1 f0 f1 d0 d1 g0 g1 x0 x1 x2 y0 y1 y2 hb2
      have hz3 : w.heap.size < w2.heap.size := cell_lt k0
      go_wp2_with fail
      obtain ⟨q0, q1, q2⟩ := filled3 w2 w.heap.size _ _ _ (.int .u8 (R.1.k : Int)) (.int .i64 R.1.n) (.string R.1.s) k0 k1 k2
      refine bodyPost_ret (v := resV R) (by simp [results, Try.results74, go_sem, q0, q1, q2]) rfl ⟨rfl, ?_⟩
      go_grown
end Go.Proofs.Ytaeobillbocemaa.Dt
