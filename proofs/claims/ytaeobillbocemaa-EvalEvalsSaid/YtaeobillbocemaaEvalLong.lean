/-
  The walks of the reference's numbers in two parts.
-/
import Derived.Test.YtaeobillbocemaaEvalNum
namespace Go.Proofs.Ytaeobillbocemaa.Dt
open Go.RowKit Go.Proofs.Ytaeobillbocemaa.By

theorem res3k (w w1 : World) (k : Nat) (hk : w.heap.size = k) (t : TypeId) (a b c : Value) (hb : Below (w.alloc (.cells #[a, b, c] t)).heap.size (w.alloc (.cells #[a, b, c] t)) w1) :
    w1.cell? ⟨k, 0, none⟩ = some a ∧ w1.cell? ⟨k, 1, none⟩ = some b ∧ w1.cell? ⟨k, 2, none⟩ = some c ∧
    w1.frozen? ⟨k, 0, none⟩ = false ∧ w1.frozen? ⟨k, 1, none⟩ = false ∧ w1.frozen? ⟨k, 2, none⟩ = false ∧ Below k w w1 ∧ k < w1.heap.size := by
  subst hk
  exact res3 w w1 t a b c hb
/-- A number in two parts. -/
structure Lg (n h l : Int) : Prop where
  eq : n = h * 4611686018427387904 + l
  lo : 0 ≤ l
  hi : l < 4611686018427387904

theorem whole (n : Int) (w : World) : Calls Try.prog 58 #[.int .i64 n] w fun e w' => e = .returned (.agg #[.int .u8 1, .int .i64 n, .string ⟨#[]⟩]) ∧ Below w.heap.size w w' := by
  go_enter Try.func58, Try.ntmps58
  go_wp2_with fail
  refine bodyPost_ret (v := .agg #[.int .u8 1, .int .i64 n, .string ⟨#[]⟩]) (by simp [results, Try.results58, go_sem]) rfl ⟨rfl, by go_grown⟩

theorem refYes (b : Bool) (w : World) : Calls Try.prog 63 #[.bool b] w fun e w' => e = .returned (truthV b).val ∧ Below w.heap.size w w' := by
  cases b
  · go_enter Try.func63, Try.ntmps63
    go_wp2_with fail
    refine (whole _ _).mono ?_
    rintro e w1 ⟨rfl, hb⟩
    obtain ⟨c0, c1, c2, f0, f1, f2, hbel, hz⟩ := res3 w w1 _ _ _ _ hb
    clear hb
    go_wp2_with fail
    obtain ⟨q0, q1, q2⟩ := filled3 w1 w.heap.size _ _ _ (.int .u8 1) (.int .i64 0) (.string ⟨#[]⟩) c0 c1 c2
    refine bodyPost_ret (v := .agg #[.int .u8 1, .int .i64 0, .string ⟨#[]⟩]) (by simp [results, Try.results63, go_sem, q0, q1, q2]) rfl ⟨rfl, ?_⟩
    go_grown
  · go_enter Try.func63, Try.ntmps63
    go_wp2_with fail
    refine (whole _ _).mono ?_
    rintro e w1 ⟨rfl, hb⟩
    obtain ⟨c0, c1, c2, f0, f1, f2, hbel, hz⟩ := res3 w w1 _ _ _ _ hb
    clear hb
    go_wp2_with fail
    obtain ⟨q0, q1, q2⟩ := filled3 w1 w.heap.size _ _ _ (.int .u8 1) (.int .i64 1) (.string ⟨#[]⟩) c0 c1 c2
    refine bodyPost_ret (v := .agg #[.int .u8 1, .int .i64 1, .string ⟨#[]⟩]) (by simp [results, Try.results63, go_sem, q0, q1, q2]) rfl ⟨rfl, ?_⟩
    go_grown

/-- What a call hands back: a number in two parts. -/
def LongRet (n : Int) (w : World) (e : Ending) (w' : World) : Prop := (∃ h l, Lg n h l ∧ e = .returned (.agg #[.int .i64 h, .int .i64 l])) ∧ Below w.heap.size w w'

theorem long (n : Int) (w : World) (hn : inR n) : Calls Try.prog 60 #[.int .i64 n] w (LongRet n w) := by
  unfold inR at hn
  obtain ⟨hn1, hn2⟩ := hn
  by_cases hp : 0 ≤ n
  · have hl : Lg n (n / 4611686018427387904) (n % 4611686018427387904) := ⟨by omega, by omega, by omega⟩
    have h2 : decide (n % 4611686018427387904 < 0) = false := decide_eq_false (by omega)
    go_enter Try.func60, Try.ntmps60
    go_wp2_with fail
    refine bodyPost_ret (v := .agg #[.int .i64 (n / 4611686018427387904), .int .i64 (n % 4611686018427387904)]) (by simp [results, Try.results60, go_sem]) rfl ⟨⟨_, _, hl, rfl⟩, by go_grown⟩
  · obtain ⟨d, hd⟩ : ∃ d, d = n.tdiv 4611686018427387904 := ⟨_, rfl⟩
    obtain ⟨r, hr⟩ : ∃ r, r = n.tmod 4611686018427387904 := ⟨_, rfl⟩
    have hdr : n = 4611686018427387904 * d + r := by rw [hd, hr]; exact (Int.mul_tdiv_add_tmod n _).symm
    have hr2 : -4611686018427387904 < r := by
      rw [hr]
      have h1 : (n.tmod 4611686018427387904).natAbs < 4611686018427387904 := by
        rw [Int.natAbs_tmod]; exact Nat.mod_lt _ (by omega)
      omega
    have hr3 : r ≤ 0 := by
      rw [hr, show n = -(-n) by omega, Int.neg_tmod]
      have := Int.tmod_nonneg 4611686018427387904 (show 0 ≤ -n by omega)
      omega
    by_cases h0 : r < 0
    · have hl : Lg n (d - 1) (r + 4611686018427387904) := ⟨by omega, by omega, by omega⟩
      have hd1 : -3 ≤ d := by omega
      have hd2 : d ≤ 3 := by omega
      have hd' := hd.symm
      have hr' := hr.symm
      have HD := Lib.hid hdr
      clear hdr hd hr
      go_enter Try.func60, Try.ntmps60
      go_wp2_with fail
      refine bodyPost_ret (v := .agg #[.int .i64 (d - 1), .int .i64 (r + 4611686018427387904)]) (by simp [results, Try.results60, go_sem]) rfl ⟨⟨_, _, hl, rfl⟩, by go_grown⟩
    · have hl : Lg n d r := ⟨by omega, by omega, by omega⟩
      have hd1 : -3 ≤ d := by omega
      have hd2 : d ≤ 3 := by omega
      have hd' := hd.symm
      have hr' := hr.symm
      have HD := Lib.hid hdr
      clear hdr hd hr
      go_enter Try.func60, Try.ntmps60
      go_wp2_with fail
      refine bodyPost_ret (v := .agg #[.int .i64 (d), .int .i64 (r)]) (by simp [results, Try.results60, go_sem]) rfl ⟨⟨_, _, hl, rfl⟩, by go_grown⟩

theorem plus (a b h1 l1 h2 l2 : Int) (w : World) (ha : Lg a h1 l1) (hb : Lg b h2 l2) (b1 : -4611686018427387904 ≤ h1 ∧ h1 ≤ 4611686018427387900) (b2 : -4611686018427387904 ≤ h2 ∧ h2 ≤ 4611686018427387900) :
    Calls Try.prog 59 #[.agg #[.int .i64 h1, .int .i64 l1], .agg #[.int .i64 h2, .int .i64 l2]] w (LongRet (a + b) w) := by
  obtain ⟨e1, x1, y1⟩ := ha
  obtain ⟨e2, x2, y2⟩ := hb
  obtain ⟨u1, v1⟩ := b1
  obtain ⟨u2, v2⟩ := b2
  by_cases hc : 4611686018427387904 ≤ l1 + l2
  · have hl : Lg (a + b) (h1 + h2 + 1) (l1 + (l2 - 4611686018427387904)) := ⟨by omega, by omega, by omega⟩
    have hd : decide (0 ≤ l1 + (l2 - 4611686018427387904)) = true := decide_eq_true (by omega)
    have HE := Lib.hid (And.intro e1 e2); clear e1 e2
    go_enter Try.func59, Try.ntmps59
    go_wp2_with fail
    refine bodyPost_ret (v := .agg #[.int .i64 (h1 + h2 + 1), .int .i64 (l1 + (l2 - 4611686018427387904))]) (by simp [results, Try.results59, go_sem]) rfl ⟨⟨_, _, hl, rfl⟩, by go_grown⟩
  · have hl : Lg (a + b) (h1 + h2) (l1 + (l2 - 4611686018427387904) + 4611686018427387904) := ⟨by omega, by omega, by omega⟩
    have hd : decide (0 ≤ l1 + (l2 - 4611686018427387904)) = false := decide_eq_false (by omega)
    have HE := Lib.hid (And.intro e1 e2); clear e1 e2
    go_enter Try.func59, Try.ntmps59
    go_wp2_with fail
    refine bodyPost_ret (v := .agg #[.int .i64 (h1 + h2), .int .i64 (l1 + (l2 - 4611686018427387904) + 4611686018427387904)]) (by simp [results, Try.results59, go_sem]) rfl ⟨⟨_, _, hl, rfl⟩, by go_grown⟩

theorem negL (a h l : Int) (w : World) (ha : Lg a h l) (b1 : -4611686018427387904 ≤ h ∧ h ≤ 4611686018427387900) :
    Calls Try.prog 73 #[.agg #[.int .i64 h, .int .i64 l]] w (LongRet (-a) w) := by
  obtain ⟨e1, x1, y1⟩ := ha
  obtain ⟨u1, v1⟩ := b1
  by_cases hc : l = 0
  · subst hc
    have hl : Lg (-a) (-h) 0 := ⟨by omega, by omega, by omega⟩
    have HE := Lib.hid e1; clear e1
    go_enter Try.func73, Try.ntmps73
    go_wp2_with fail
    refine bodyPost_ret (v := .agg #[.int .i64 (-h), .int .i64 0]) (by simp [results, Try.results73, go_sem]) rfl ⟨⟨_, _, hl, rfl⟩, by go_grown⟩
  · have hl : Lg (-a) (-h - 1) (4611686018427387904 - l) := ⟨by omega, by omega, by omega⟩
    have hne : (l == 0) = false := by simpa using hc
    have HE := Lib.hid e1; clear e1
    go_enter Try.func73, Try.ntmps73
    go_wp2_with fail
    refine bodyPost_ret (v := .agg #[.int .i64 (-h - 1), .int .i64 (4611686018427387904 - l)]) (by simp [results, Try.results73, go_sem]) rfl ⟨⟨_, _, hl, rfl⟩, by go_grown⟩

theorem answer (a h l : Int) (w : World) (ha : Lg a h l) :
    Calls Try.prog 61 #[.agg #[.int .i64 h, .int .i64 l]] w fun e w' => e = .returned (resV (overS a)) ∧ Below w.heap.size w w' := by
  obtain ⟨e1, x1, y1⟩ := ha
  by_cases hc : h < -2
  · have ho : overS a = (nullV, 152) := by unfold overS; exact if_neg (by unfold inR; omega)
    rw [ho]
    have HE := Lib.hid e1; clear e1 ho
    go_enter Try.func61, Try.ntmps61
    go_wp2_with fail
    refine bodyPost_ret (v := .tuple #[.agg #[.int .u8 0, .int .i64 0, .string ⟨#[]⟩], .int .i64 152]) (by simp [results, Try.results61, go_sem]) rfl ⟨rfl, by go_grown⟩
  · have hd : decide (h < -2) = false := decide_eq_false hc
    by_cases hc2 : 1 < h
    · have ho : overS a = (nullV, 152) := by unfold overS; exact if_neg (by unfold inR; omega)
      rw [ho]
      have HE := Lib.hid e1; clear e1 ho
      go_enter Try.func61, Try.ntmps61
      go_wp2_with fail
      refine bodyPost_ret (v := .tuple #[.agg #[.int .u8 0, .int .i64 0, .string ⟨#[]⟩], .int .i64 152]) (by simp [results, Try.results61, go_sem]) rfl ⟨rfl, by go_grown⟩
    · have hd2 : decide (1 < h) = false := decide_eq_false hc2
      have ho : overS a = (numV (h * 4611686018427387904 + l), 0) := by rw [e1]; unfold overS; exact if_pos (by unfold inR; omega)
      rw [ho]
      have HE := Lib.hid e1; clear e1 ho
      have b1 : -9223372036854775808 ≤ h * 4611686018427387904 := by omega
      have b2 : h * 4611686018427387904 ≤ 4611686018427387904 := by omega
      go_enter Try.func61, Try.ntmps61
      go_wp2_with fail
      refine (whole _ _).mono ?_
      rintro e w1 ⟨rfl, hb⟩
      obtain ⟨c0, c1, c2, f0, f1, f2, hbel, hz⟩ := res3k _ w1 (w.heap.size + 1) (by simp) _ _ _ _ hb
      clear hb
      go_wp2_with fail
      obtain ⟨q0, q1, q2⟩ := filled3 w1 (w.heap.size + 1) _ _ _ (.int .u8 1) (.int .i64 (h * 4611686018427387904 + l)) (.string ⟨#[]⟩) c0 c1 c2
      refine bodyPost_ret (v := .tuple #[.agg #[.int .u8 1, .int .i64 (h * 4611686018427387904 + l), .string ⟨#[]⟩], .int .i64 0]) (by simp [results, Try.results61, go_sem, q0, q1, q2]) rfl ⟨rfl, ?_⟩
      have hbw := ((Below.refl w.heap.size w).alloc (Nat.le_refl _) _).trans (hbel.mono (Nat.le_succ _))
      go_grown
end Go.Proofs.Ytaeobillbocemaa.Dt
