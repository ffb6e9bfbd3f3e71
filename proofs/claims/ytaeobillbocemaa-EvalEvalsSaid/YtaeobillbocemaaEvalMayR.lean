/-
  The walk of the reference's May: which expressions may be.
-/
import Derived.Test.YtaeobillbocemaaEvalMay
import Derived.Deep.DeepCutAuto
import Derived.Deep.CutBlock
namespace Go.Proofs.Ytaeobillbocemaa.Dt
open Go.RowKit Go.Proofs.Ytaeobillbocemaa.By

/-- May one node be, by its parts (its value's check, its column, how many kids)? -/
def okR (cols : Int) (g op len chk : Nat) (n : Int) : Bool :=
  if op = 1 then decide (len = 0) && decide (chk = 0)
  else if op = 2 then decide (len = 0) && (decide (0 ≤ n) && decide (n < cols))
  else if 3 ≤ op ∧ op ≤ 5 then decide (len = 1)
  else if 6 ≤ op ∧ op ≤ 19 then decide (len = 2)
  else if op = 20 then decide (len ≤ 1) && decide (0 < g)
  else if 21 ≤ op ∧ op ≤ 23 then decide (len = 1) && decide (0 < g)
  else false
theorem okR_eq (cols : Int) (g : Nat) (x : Ex) : okR cols g x.op x.kids.length (checkV x.v) x.n = (oneB cols x && (!groupB x.op || decide (0 < g))) := by
  rw [Bool.eq_iff_iff, Bool.and_eq_true, one_iff, Bool.or_eq_true, Bool.not_eq_true', decide_eq_true_eq]
  have hg : (groupB x.op = false) ↔ ¬ (20 ≤ x.op ∧ x.op ≤ 23) := by simp [groupB]
  rw [hg]
  generalize x.op = op
  generalize x.kids.length = len
  generalize checkV x.v = chk
  generalize x.n = n
  unfold okR kidsB
  by_cases h1 : op = 1
  · subst h1; simp
  rw [if_neg h1, if_neg h1]
  by_cases h2 : op = 2
  · subst h2; simp
  rw [if_neg h2, if_neg h2]
  by_cases h3 : 3 ≤ op ∧ op ≤ 5
  · rw [if_pos h3, if_neg (by omega), if_neg (by omega)]; simp only [decide_eq_true_eq]; omega
  rw [if_neg h3]
  by_cases h6 : 6 ≤ op ∧ op ≤ 19
  · rw [if_pos h6, if_neg (by omega), if_pos h6]; simp only [decide_eq_true_eq]; omega
  rw [if_neg h6]
  by_cases h20 : op = 20
  · subst h20; simp
  rw [if_neg h20, if_neg h20, if_neg h6]
  by_cases h21 : 21 ≤ op ∧ op ≤ 23
  · rw [if_pos h21]; simp only [Bool.and_eq_true, decide_eq_true_eq]; omega
  · rw [if_neg h21]; simp only [Bool.false_eq_true, false_iff]; omega

/-- Groups not at all (0), not within one another (1), anywhere (2). -/
def mayG (cols : Int) (g : Nat) (x : Ex) : Bool := if g = 0 then mayB cols false x else if g = 1 then mayB cols true x else shapedB cols x
def nextG (op g : Nat) : Nat := if 20 ≤ op ∧ g = 1 then 0 else g
theorem may_shaped {cols : Int} {g : Bool} {x : Ex} (h : mayB cols g x = true) : shapedB cols x = true := by
  rw [may_eq, Bool.and_eq_true, Bool.and_eq_true] at h
  exact h.1.1
theorem all_congr' {α : Type} {p q : α → Bool} {l : List α} (h : ∀ x ∈ l, p x = q x) : l.all p = l.all q := by
  rw [Bool.eq_iff_iff, List.all_eq_true, List.all_eq_true]
  exact ⟨fun k x hx => by rw [← h x hx]; exact k x hx, fun k x hx => by rw [h x hx]; exact k x hx⟩
theorem mayG_eq (cols : Int) (g : Nat) (x : Ex) : mayG cols g x = (okR cols g x.op x.kids.length (checkV x.v) x.n && x.kids.all (mayG cols (nextG x.op g))) := by
  rw [okR_eq]
  have hsh : ∀ b, (x.kids.all (shapedB cols) && x.kids.all (mayB cols b)) = x.kids.all (mayB cols b) := by
    intro b
    cases hb : x.kids.all (mayB cols b)
    · simp
    · rw [Bool.and_true]
      rw [List.all_eq_true] at hb ⊢
      exact fun y hy => may_shaped (hb y hy)
  rcases (show g = 0 ∨ g = 1 ∨ 2 ≤ g by omega) with rfl | rfl | h2
  · have e : x.kids.all (mayG cols (nextG x.op 0)) = x.kids.all (mayB cols false) := all_congr' fun y _ => by simp [mayG, nextG]
    rw [e, mayG, if_pos rfl, may_eq, shaped_eq, ← hsh]
    cases oneB cols x <;> cases groupB x.op <;> simp [hsh]
  · rw [mayG, if_neg (by omega), if_pos rfl, may_eq, shaped_eq]
    cases h1 : oneB cols x
    · simp
    · cases hg : groupB x.op
      · have hop : ¬ (20 ≤ x.op) := by
          have := (one_iff cols x).1 h1
          have h3 : ¬ (20 ≤ x.op ∧ x.op ≤ 23) := by simpa [groupB] using hg
          omega
        have e : x.kids.all (mayG cols (nextG x.op 1)) = x.kids.all (mayB cols true) := all_congr' fun y _ => by simp [mayG, nextG, hop]
        rw [e, ← hsh]
        simp [hsh]
      · have hop : 20 ≤ x.op := by
          have h3 : 20 ≤ x.op ∧ x.op ≤ 23 := by simpa [groupB] using hg
          omega
        have e : x.kids.all (mayG cols (nextG x.op 1)) = x.kids.all (mayB cols false) := all_congr' fun y _ => by simp [mayG, nextG, hop]
        rw [e, ← hsh]
        simp [hsh]
  · have e : x.kids.all (mayG cols (nextG x.op g)) = x.kids.all (shapedB cols) := all_congr' fun y _ => by
      have h0 : nextG x.op g = g := if_neg (by omega)
      rw [h0, mayG, if_neg (by omega), if_neg (by omega)]
    rw [e, mayG, if_neg (by omega), if_neg (by omega), shaped_eq, decide_eq_true (show 0 < g by omega)]
    simp

set_option maxRecDepth 100000 in
set_option maxHeartbeats 8000000 in
theorem refMay : ∀ (x : Ex) (cols : Int) (g : Nat) (w : World), 0 ≤ cols → cols ≤ 9223372036854775807 → g ≤ 2 → x.In w → x.Ok →
    Calls Try.prog 33 #[x.val, .int .i64 cols, .int .i64 (g : Int)] w fun e w' => e = .returned (.bool (mayG cols g x)) ∧ Below w.heap.size w w' := by
  refine Ex.ind fun x ih cols g w hc0 hc1 hg2 hin hok => ?_
  rw [mayG_eq]
  rw [Ex.in_iff] at hin
  rw [Ex.ok_iff] at hok
  obtain ⟨hat, hkin⟩ := hin
  obtain ⟨hone, hkok⟩ := hok
  obtain ⟨op, v, t, m, n, kv, ks⟩ := x
  simp only [Ex.op_mk, Ex.v_mk, Ex.t_mk, Ex.m_mk, Ex.n_mk, Ex.kv_mk, Ex.kids_mk, Ex.okOne] at hat hkin hkok hone ih
  simp only [Ex.val, Ex.op_mk, Ex.v_mk, Ex.t_mk, Ex.m_mk, Ex.n_mk, Ex.kv_mk, Ex.kids_mk]
  obtain ⟨a, c, rfl⟩ := hat.shape
  obtain ⟨hop, hv, ht, hm, hn1, hn2, hkl⟩ := hone
  have HAT := Lib.hid hat; clear hat
  have HKI := Lib.hid hkin; clear hkin
  have HKO := Lib.hid hkok; clear hkok
  have IH := Lib.hid ih; clear ih
  have HCH := Lib.hid (fun W => refCheck v W)
  have HC01 := Lib.hid (And.intro hc0 hc1)
  obtain ⟨B, hB⟩ : ∃ B, B = okR cols g op ks.length (checkV v) n := ⟨_, rfl⟩
  rw [← hB]
  have HB := Lib.hid hB
  have HV := Lib.hid hv
  clear hB hv hc0 hc1
  have hx8 := box_cells w (w.alloc (.cells #[.int .u8 (op : Int), .int .u8 (v.k : Int), .int .i64 v.n, .string v.s, .string t, .string m, .int .i64 n, .slice a ks.length c] 26)) (.mk op v t m n (.slice a ks.length c) ks) 26 (Below.refl _ _)
  simp only [Ex.op_mk, Ex.v_mk, Ex.t_mk, Ex.m_mk, Ex.n_mk, Ex.kv_mk] at hx8
  have hbA : Below w.heap.size w (w.alloc (.cells #[.int .u8 (op : Int), .int .u8 (v.k : Int), .int .i64 v.n, .string v.s, .string t, .string m, .int .i64 n, .slice a ks.length c] 26)) := (Below.refl _ _).alloc (Nat.le_refl _) _
  have hzA : w.heap.size < (w.alloc (.cells #[.int .u8 (op : Int), .int .u8 (v.k : Int), .int .i64 v.n, .string v.s, .string t, .string m, .int .i64 n, .slice a ks.length c] 26)).heap.size := by simp
  go_enter Try.func33, Try.ntmps33
  go_upto_block 0 with fail
  generalize hWA : w.alloc (.cells #[.int .u8 (op : Int), .int .u8 (v.k : Int), .int .i64 v.n, .string v.s, .string t, .string m, .int .i64 n, .slice a ks.length c] 26) = WA at *
  clear hWA
  obtain ⟨x0, x1, x2, x3, x4, x5, x6, x7⟩ := hx8
  go_cut [8] (fun ok wx => ok = .bool B ∧ Below WA.heap.size WA wx)
  case first =>
    by_cases hc : op = 1
    · subst hc
      by_cases hn0 : ks.length = 0
      · have ehn0 : ((ks.length : Int) == 0) = true := by first | exact decide_eq_true (by omega) | (simp; omega)

        have hb : B = ((checkV v : Int) == 0) := by rw [HB.out, Bool.eq_iff_iff]; simp [okR, hn0]
        subst hb
        clear hn0
        go_wp2_with fail
        refine (HCH.out _).mono ?_
        rintro e w1 ⟨rfl, hb1⟩
        go_wp2_with fail
        go_meet
        exact ⟨rfl, hb1⟩
      · have ehn0 : ((ks.length : Int) == 0) = false := by first | exact decide_eq_false (by omega) | (simp; omega)

        have hb : B = false := by rw [HB.out]; simp only [okR]; simp [hn0]
        subst hb
        clear hn0
        go_wp2_with fail
        go_meet
        exact ⟨rfl, Below.refl _ _⟩
    have hc0 := hc
    clear hc
    by_cases hc : op = 2
    · subst hc
      by_cases hn0 : ks.length = 0
      · have ehn0 : ((ks.length : Int) == 0) = true := by first | exact decide_eq_true (by omega) | (simp; omega)
        by_cases hp : 0 ≤ n
        · have ehp : decide ((0 : Int) ≤ n) = true := by first | exact decide_eq_true (by omega) | (simp; omega)

          have hb : B = decide (n < cols) := by rw [HB.out]; simp only [okR]; simp [hn0, hp]
          subst hb
          clear hn0 hp
          go_wp2_with fail
          go_meet
          exact ⟨rfl, Below.refl _ _⟩
        · have ehp : decide ((0 : Int) ≤ n) = false := by first | exact decide_eq_false (by omega) | (simp; omega)

          have hb : B = false := by rw [HB.out]; simp only [okR]; simp [hn0, hp]
          subst hb
          clear hn0 hp
          go_wp2_with fail
          go_meet
          exact ⟨rfl, Below.refl _ _⟩
      · have ehn0 : ((ks.length : Int) == 0) = false := by first | exact decide_eq_false (by omega) | (simp; omega)

        have hb : B = false := by rw [HB.out]; simp only [okR]; simp [hn0]
        subst hb
        clear hn0
        go_wp2_with fail
        go_meet
        exact ⟨rfl, Below.refl _ _⟩
    have hc1 := hc
    clear hc
    by_cases hc : 3 ≤ op ∧ op ≤ 5
    · have f0 : ((op : Int) == 1) = false := by simp; omega
      have f1 : ((op : Int) == 2) = false := by simp; omega
      have f2 : decide ((3 : Int) ≤ (op : Int)) = true := decide_eq_true (by omega)
      have f3 : decide ((op : Int) ≤ 5) = true := decide_eq_true (by omega)

      have hb : B = ((ks.length : Int) == 1) := by rw [HB.out]; simp only [okR]; rw [if_neg (by omega), if_neg (by omega), if_pos hc, Bool.eq_iff_iff]; simp; omega
      subst hb
      go_wp2_with fail
      go_meet
      exact ⟨rfl, Below.refl _ _⟩
    have hc2 := hc
    clear hc
    by_cases hc : 6 ≤ op ∧ op ≤ 19
    · have f0 : ((op : Int) == 1) = false := by simp; omega
      have f1 : ((op : Int) == 2) = false := by simp; omega
      have f2 : decide ((3 : Int) ≤ (op : Int)) = true := decide_eq_true (by omega)
      have f3 : decide ((op : Int) ≤ 5) = false := decide_eq_false (by omega)
      have f4 : decide ((6 : Int) ≤ (op : Int)) = true := decide_eq_true (by omega)
      have f5 : decide ((op : Int) ≤ 19) = true := decide_eq_true (by omega)

      have hb : B = ((ks.length : Int) == 2) := by rw [HB.out]; simp only [okR]; rw [if_neg (by omega), if_neg (by omega), if_neg (by omega), if_pos hc, Bool.eq_iff_iff]; simp; omega
      subst hb
      go_wp2_with fail
      go_meet
      exact ⟨rfl, Below.refl _ _⟩
    have hc3 := hc
    clear hc
    by_cases hc : op = 20
    · subst hc
      by_cases hn0 : ks.length ≤ 1
      · have ehn0 : decide ((ks.length : Int) ≤ 1) = true := by first | exact decide_eq_true (by omega) | (simp; omega)

        have hb : B = decide (0 < g) := by rw [HB.out]; simp only [okR]; simp [hn0]
        subst hb
        clear hn0
        go_wp2_with fail
        go_meet
        exact ⟨rfl, Below.refl _ _⟩
      · have ehn0 : decide ((ks.length : Int) ≤ 1) = false := by first | exact decide_eq_false (by omega) | (simp; omega)

        have hb : B = false := by rw [HB.out]; simp only [okR]; simp [hn0]
        subst hb
        clear hn0
        go_wp2_with fail
        go_meet
        exact ⟨rfl, Below.refl _ _⟩
    have hc4 := hc
    clear hc
    by_cases hc : 21 ≤ op ∧ op ≤ 23
    · have f0 : ((op : Int) == 1) = false := by simp; omega
      have f1 : ((op : Int) == 2) = false := by simp; omega
      have f2 : decide ((3 : Int) ≤ (op : Int)) = true := decide_eq_true (by omega)
      have f3 : decide ((op : Int) ≤ 5) = false := decide_eq_false (by omega)
      have f4 : decide ((6 : Int) ≤ (op : Int)) = true := decide_eq_true (by omega)
      have f5 : decide ((op : Int) ≤ 19) = false := decide_eq_false (by omega)
      have f6 : ((op : Int) == 20) = false := by simp; omega
      have f7 : decide ((21 : Int) ≤ (op : Int)) = true := decide_eq_true (by omega)
      have f8 : decide ((op : Int) ≤ 23) = true := decide_eq_true (by omega)
      by_cases hn0 : ks.length = 1
      · have ehn0 : ((ks.length : Int) == 1) = true := by first | exact decide_eq_true (by omega) | (simp; omega)

        have hb : B = decide (0 < g) := by rw [HB.out]; simp only [okR]; rw [if_neg (by omega), if_neg (by omega), if_neg (by omega), if_neg (by omega), if_neg (by omega), if_pos hc]; simp [hn0]
        subst hb
        clear hn0
        go_wp2_with fail
        go_meet
        exact ⟨rfl, Below.refl _ _⟩
      · have ehn0 : ((ks.length : Int) == 1) = false := by first | exact decide_eq_false (by omega) | (simp; omega)

        have hb : B = false := by rw [HB.out]; simp only [okR]; rw [if_neg (by omega), if_neg (by omega), if_neg (by omega), if_neg (by omega), if_neg (by omega), if_pos hc]; simp [hn0]
        subst hb
        go_wp2_with fail
        go_meet
        exact ⟨rfl, Below.refl _ _⟩
    have hc5 := hc
    clear hc
    by_cases hc : op = 0
    · subst hc

      have hb : B = false := by rw [HB.out]; simp only [okR]; simp
      subst hb
      go_wp2_with fail
      go_meet
      exact ⟨rfl, Below.refl _ _⟩
    have hc6 := hc
    clear hc
    have f0 : ((op : Int) == 1) = false := by simp; omega
    have f1 : ((op : Int) == 2) = false := by simp; omega
    have f2 : decide ((3 : Int) ≤ (op : Int)) = true := decide_eq_true (by omega)
    have f3 : decide ((op : Int) ≤ 5) = false := decide_eq_false (by omega)
    have f4 : decide ((6 : Int) ≤ (op : Int)) = true := decide_eq_true (by omega)
    have f5 : decide ((op : Int) ≤ 19) = false := decide_eq_false (by omega)
    have f6 : ((op : Int) == 20) = false := by simp; omega
    have f7 : decide ((21 : Int) ≤ (op : Int)) = true := decide_eq_true (by omega)
    have f8 : decide ((op : Int) ≤ 23) = false := decide_eq_false (by omega)

    have hb : B = false := by rw [HB.out]; simp only [okR]; rw [if_neg (by omega), if_neg (by omega), if_neg (by omega), if_neg (by omega), if_neg (by omega), if_neg (by omega)]
    subst hb
    go_wp2_with fail
    go_meet
    exact ⟨rfl, Below.refl _ _⟩
  case rest =>
    obtain ⟨rfl, hb1⟩ := hcut
    rename World => w1
    have y0 := (hb1.cell (cell_lt x0)).trans x0
    have y7 := (hb1.cell (cell_lt x7)).trans x7
    have HBW := Lib.hid (next hbA hb1)
    have hz1 : w.heap.size < w1.heap.size := Nat.lt_of_lt_of_le hzA hb1.size
    clear x0 x1 x2 x3 x4 x5 x6 x7 hb1 hbA hzA
    obtain ⟨D, hD⟩ : ∃ D, D = decide (20 ≤ op ∧ g = 1) := ⟨_, rfl⟩
    have HD := Lib.hid hD
    clear hD
    go_upto_region 15 with fail
    go_cut [95] (fun cv wx => cv = .bool D ∧ w1 = wx)
    case first =>
      by_cases h20 : 20 ≤ op
      · have e1 : decide ((20 : Int) ≤ (op : Int)) = true := decide_eq_true (by omega)
        have e2 : ((g : Int) == 1) = D := by rw [HD.out, Bool.eq_iff_iff]; simp [h20]; omega
        clear h20
        go_wp2_with fail
        go_meet
        exact ⟨rfl, rfl⟩
      · have e1 : decide ((20 : Int) ≤ (op : Int)) = false := decide_eq_false (by omega)
        have e2 : D = false := by rw [HD.out]; exact decide_eq_false (show ¬ (20 ≤ op ∧ g = 1) by omega)
        subst e2
        clear h20
        go_wp2_with fail
        go_meet
        exact ⟨rfl, rfl⟩
    case rest =>
    obtain ⟨rfl, rfl⟩ := hcut
    go_upto_if 95 with fail
    go_cut [2] (fun gv wx => gv = .int .i64 ((nextG op g : Nat) : Int) ∧ w1 = wx)
    case first =>
      cases D
      · have e : ((nextG op g : Nat) : Int) = (g : Int) := by
          have h := HD.out
          simp only [nextG]
          rw [if_neg (by simpa using h.symm)]
        have E := Lib.hid e
        clear e
        go_wp2_with fail
        go_meet
        exact ⟨by rw [E.out], rfl⟩
      · have e : ((nextG op g : Nat) : Int) = 0 := by
          have h := HD.out
          simp only [nextG]
          rw [if_pos (by simpa using h.symm)]
          rfl
        have E := Lib.hid e
        clear e
        go_wp2_with fail
        go_meet
        exact ⟨by rw [E.out], rfl⟩
    case rest =>
      obtain ⟨rfl, rfl⟩ := hcut
      have hgn : nextG op g ≤ 2 := by unfold nextG; split <;> omega
      generalize hG : nextG op g = G
      rw [hG] at hgn
      have HG := Lib.hid hG
      clear hG
      go_wp2_with fail
      go_loopg [8, 9] ks.length (fun gk ov i wr => ∃ (k : Nat) (ok : Bool), i = .int .i64 (k : Int) ∧ ov = .bool ok ∧ gk = ks.length - k ∧ k ≤ ks.length ∧ Hid (ok = (B && (ks.take k).all (mayG cols G))) ∧ Hid (Below w1.heap.size w1 wr) ∧ wr.cell? ⟨w.heap.size, 7, none⟩ = some (.slice a ks.length c) ∧ w.heap.size < wr.heap.size)
      case atStart => exact ⟨0, B, rfl, rfl, rfl, Nat.zero_le _, by simp [Hid], Lib.hid (Below.refl _ _), y7, hz1⟩
      case round =>
        obtain ⟨k, ok, rfl, rfl, rfl, hkl', hok, hbr, h7, hzr⟩ := hrel
        clear y0 y7
        by_cases hlt : k < ks.length
        · obtain ⟨y, hy⟩ : ∃ y, ks[k]? = some y := ⟨ks[k], by simp⟩
          have hym : y ∈ ks := List.mem_of_getElem? hy
          have hnx : (ok && mayG cols G y) = (B && (ks.take (k + 1)).all (mayG cols G)) := by
            obtain ⟨hk, rfl⟩ := List.getElem?_eq_some_iff.1 hy
            rw [List.take_succ_eq_append_getElem hk, List.all_append, hok.out]
            simp [Bool.and_assoc]
          have HNX := Lib.hid hnx
          have ilt : (k : Int) < (ks.length : Int) := by omega
          clear hnx
          cases ok
          · clear hym hy
            go_wp2_with fail
            go_roundg (ks.length - (k + 1))
            case measure => omega
            case rel => exact ⟨k + 1, false, by go_num, rfl, rfl, by omega, HNX, hbr, h7, hzr⟩
          · obtain ⟨b, o, rfl, hbz, d0, d1, d2, d3, d4, d5, d6, d7⟩ := Ex.at8 (HAT.out.below (next HBW.out hbr.out)) hy
            obtain ⟨ay, cy, eky⟩ := Ex.kv_of (HKI.out y hym)
            have hcall := fun W hb => IH.out y hym cols G W HC01.out.1 HC01.out.2 hgn (Ex.in_below (w := w) hb y (HKI.out y hym)) (HKO.out y hym)
            obtain ⟨R, hR⟩ : ∃ R, R = mayG cols G y := ⟨_, rfl⟩
            rw [← hR] at hcall HNX
            simp only [Ex.val] at hcall
            rw [eky] at d7 hcall
            have HC := Lib.hid hcall
            clear hcall hR hy eky hym
            go_wp2_with fail
            refine (HC.out _ (next HBW.out hbr.out)).mono ?_
            rintro e w2 ⟨rfl, hb2⟩
            have HB2 := Lib.hid (next hbr.out hb2)
            have h72 := (hb2.cell (cell_lt h7)).trans h7
            have hz2 := Nat.lt_of_lt_of_le hzr hb2.size
            clear d0 d1 d2 d3 d4 d5 d6 d7 hb2 h7
            cases R
            · go_wp2_with fail
              go_roundg (ks.length - (k + 1))
              case measure => omega
              case rel => exact ⟨k + 1, false, by go_num, rfl, rfl, by omega, HNX, HB2, h72, hz2⟩
            · go_wp2_with fail
              go_roundg (ks.length - (k + 1))
              case measure => omega
              case rel => exact ⟨k + 1, true, by go_num, rfl, rfl, by omega, HNX, HB2, h72, hz2⟩
        · obtain rfl : k = ks.length := by omega
          have hfin : ok = (B && ks.all (mayG cols G)) := by rw [hok.out, List.take_length]
          have HFIN := Lib.hid hfin
          clear hfin
          go_wp2_with fail
          go_ret
          exact ⟨by rw [HFIN.out, ← HG.out]; first | done | rfl, next HBW.out hbr.out⟩
end Go.Proofs.Ytaeobillbocemaa.Dt
