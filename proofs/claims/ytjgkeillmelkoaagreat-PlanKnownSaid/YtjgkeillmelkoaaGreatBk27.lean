import Derived.Deep.DeepCutAuto
import Derived.Deep.CutBlock
import Derived.Test.YtjgkeillmelkoaaGreatBk26
import Derived.Test.YtjgkeillmelkoaaGreatBk10
import Derived.Test.YtjgkeillmelkoaaGreatBk04
namespace Go.Proofs.YtjgkeillmelkoaaGreat.Dt.Ex
section
variable (o : Nat) (v : V) (t m : ByteArray) (n : Int) (kv : Value) (l : List Ex)
theorem op_mk : (mk o v t m n kv l).op = o := rfl
theorem v_mk : (mk o v t m n kv l).v = v := rfl
theorem t_mk : (mk o v t m n kv l).t = t := rfl
theorem m_mk : (mk o v t m n kv l).m = m := rfl
theorem n_mk : (mk o v t m n kv l).n = n := rfl
theorem kv_mk : (mk o v t m n kv l).kv = kv := rfl
theorem kids_mk : (mk o v t m n kv l).kids = l := rfl
end
end Go.Proofs.YtjgkeillmelkoaaGreat.Dt.Ex
namespace Go.Proofs.YtjgkeillmelkoaaGreat.Et
open Go.Proofs.YtjgkeillmelkoaaGreat.Dt
open Go.RowKit Go.Proofs.YtjgkeillmelkoaaGreat.By

theorem col_get {cols : List Nat} {n : Int} (h0 : 0 ≤ n) (h1 : n < (cols.length : Int)) : ∃ k : Nat, n = (k : Int) ∧ cols[k]? = some (cols.getD n.toNat 0) := by
  obtain ⟨k, rfl⟩ := Int.eq_ofNat_of_zero_le h0
  refine ⟨k, rfl, ?_⟩
  rw [Int.toNat_natCast, List.getD_eq_getElem?_getD, List.getElem?_eq_getElem (by omega)]
  rfl

/-- What is there between two kids. -/
structure KindAt (cols : List Nat) (g : Bool) (ks : List Ex) (op : Nat) (w wr : World) (kv : Value) (k : Nat) (l : List Nat) : Prop where
  own : OwnU wr (w.heap.size + 1) kv l
  sofar : KSofar cols g ks k l
  small : ∀ k ∈ l, k < 256
  op : wr.cell? ⟨w.heap.size, 0, none⟩ = some (.int .u8 (op : Int))
  bel : Below w.heap.size w wr

end Go.Proofs.YtjgkeillmelkoaaGreat.Et
namespace Go.Proofs.YtjgkeillmelkoaaGreat.Et
open Go.Proofs.YtjgkeillmelkoaaGreat.Dt
open Go.RowKit Go.Proofs.YtjgkeillmelkoaaGreat.By

/-- May one node be, by its parts (its value's check, its column, how many kids)? -/
def okR (cols : Int) (g op len chk : Nat) (n : Int) : Bool :=
  if op = 1 then decide (len = 0) && decide (chk = 0)
  else if op = 2 then decide (len = 0) && (decide (0 ≤ n) && decide (n < cols))
  else if 3 ≤ op ∧ op ≤ 5 then decide (len = 1)
  else if 6 ≤ op ∧ op ≤ 19 then decide (len = 2)
  else if op = 20 then decide (len ≤ 1) && decide (0 < g)
  else if 21 ≤ op ∧ op ≤ 23 then decide (len = 1) && decide (0 < g)
  else false
theorem okR_eq (cols : Int) (g : Nat) (x : Ex) : okR cols g x.op x.kids.length (checkV x.v) x.n = (oneB cols x && (!groupB x.op || decide (0 < g))) := by
  rw [Bool.eq_iff_iff, Bool.and_eq_true, one_iff, Bool.or_eq_true, Bool.not_eq_true', decide_eq_true_eq]
  have hg : (groupB x.op = false) ↔ ¬ (20 ≤ x.op ∧ x.op ≤ 23) := by simp [groupB]
  rw [hg]
  generalize x.op = op
  generalize x.kids.length = len
  generalize checkV x.v = chk
  generalize x.n = n
  unfold okR kidsB
  by_cases h1 : op = 1
  · subst h1; simp
  rw [if_neg h1, if_neg h1]
  by_cases h2 : op = 2
  · subst h2; simp
  rw [if_neg h2, if_neg h2]
  by_cases h3 : 3 ≤ op ∧ op ≤ 5
  · rw [if_pos h3, if_neg (by omega), if_neg (by omega)]; simp only [decide_eq_true_eq]; omega
  rw [if_neg h3]
  by_cases h6 : 6 ≤ op ∧ op ≤ 19
  · rw [if_pos h6, if_neg (by omega), if_pos h6]; simp only [decide_eq_true_eq]; omega
  rw [if_neg h6]
  by_cases h20 : op = 20
  · subst h20; simp
  rw [if_neg h20, if_neg h20, if_neg h6]
  by_cases h21 : 21 ≤ op ∧ op ≤ 23
  · rw [if_pos h21]; simp only [Bool.and_eq_true, decide_eq_true_eq]; omega
  · rw [if_neg h21]; simp only [Bool.false_eq_true, false_iff]; omega

/-- Groups not at all (0), not within one another (1), anywhere (2). -/
def mayG (cols : Int) (g : Nat) (x : Ex) : Bool := if g = 0 then mayB cols false x else if g = 1 then mayB cols true x else shapedB cols x
def nextG (op g : Nat) : Nat := if 20 ≤ op ∧ g = 1 then 0 else g
theorem may_shaped {cols : Int} {g : Bool} {x : Ex} (h : mayB cols g x = true) : shapedB cols x = true := by
  rw [may_eq, Bool.and_eq_true, Bool.and_eq_true] at h
  exact h.1.1
theorem all_congr' {α : Type} {p q : α → Bool} {l : List α} (h : ∀ x ∈ l, p x = q x) : l.all p = l.all q := by
  rw [Bool.eq_iff_iff, List.all_eq_true, List.all_eq_true]
  exact ⟨fun k x hx => by rw [← h x hx]; exact k x hx, fun k x hx => by rw [h x hx]; exact k x hx⟩
theorem mayG_eq (cols : Int) (g : Nat) (x : Ex) : mayG cols g x = (okR cols g x.op x.kids.length (checkV x.v) x.n && x.kids.all (mayG cols (nextG x.op g))) := by
  rw [okR_eq]
  have hsh : ∀ b, (x.kids.all (shapedB cols) && x.kids.all (mayB cols b)) = x.kids.all (mayB cols b) := by
    intro b
    cases hb : x.kids.all (mayB cols b)
    · simp
    · rw [Bool.and_true]
      rw [List.all_eq_true] at hb ⊢
      exact fun y hy => may_shaped (hb y hy)
  rcases (show g = 0 ∨ g = 1 ∨ 2 ≤ g by omega) with rfl | rfl | h2
  · have e : x.kids.all (mayG cols (nextG x.op 0)) = x.kids.all (mayB cols false) := all_congr' fun y _ => by simp [mayG, nextG]
    rw [e, mayG, if_pos rfl, may_eq, shaped_eq, ← hsh]
    cases oneB cols x <;> cases groupB x.op <;> simp [hsh]
  · rw [mayG, if_neg (by omega), if_pos rfl, may_eq, shaped_eq]
    cases h1 : oneB cols x
    · simp
    · cases hg : groupB x.op
      · have hop : ¬ (20 ≤ x.op) := by
          have := (one_iff cols x).1 h1
          have h3 : ¬ (20 ≤ x.op ∧ x.op ≤ 23) := by simpa [groupB] using hg
          omega
        have e : x.kids.all (mayG cols (nextG x.op 1)) = x.kids.all (mayB cols true) := all_congr' fun y _ => by simp [mayG, nextG, hop]
        rw [e, ← hsh]
        simp [hsh]
      · have hop : 20 ≤ x.op := by
          have h3 : 20 ≤ x.op ∧ x.op ≤ 23 := by simpa [groupB] using hg
          omega
        have e : x.kids.all (mayG cols (nextG x.op 1)) = x.kids.all (mayB cols false) := all_congr' fun y _ => by simp [mayG, nextG, hop]
        rw [e, ← hsh]
        simp [hsh]
  · have e : x.kids.all (mayG cols (nextG x.op g)) = x.kids.all (shapedB cols) := all_congr' fun y _ => by
      have h0 : nextG x.op g = g := if_neg (by omega)
      rw [h0, mayG, if_neg (by omega), if_neg (by omega)]
    rw [e, mayG, if_neg (by omega), if_neg (by omega), shaped_eq, decide_eq_true (show 0 < g by omega)]
    simp

set_option maxRecDepth 100000 in
set_option maxHeartbeats 8000000 in
theorem refMay : ∀ (x : Ex) (cols : Int) (g : Nat) (w : World), 0 ≤ cols → cols ≤ 9223372036854775807 → g ≤ 2 → x.In w → x.Ok →
    Calls Tryz.prog 97 #[x.val, .int .i64 cols, .int .i64 (g : Int)] w fun e w' => e = .returned (.bool (mayG cols g x)) ∧ Below w.heap.size w w' := by
  refine Ex.ind fun x ih cols g w hc0 hc1 hg2 hin hok => ?_
  rw [mayG_eq]
  rw [Ex.in_iff] at hin
  rw [Ex.ok_iff] at hok
  obtain ⟨hat, hkin⟩ := hin
  obtain ⟨hone, hkok⟩ := hok
  obtain ⟨op, v, t, m, n, kv, ks⟩ := x
  simp only [Ex.op_mk, Ex.v_mk, Ex.t_mk, Ex.m_mk, Ex.n_mk, Ex.kv_mk, Ex.kids_mk, Ex.okOne] at hat hkin hkok hone ih
  simp only [Ex.val, Ex.op_mk, Ex.v_mk, Ex.t_mk, Ex.m_mk, Ex.n_mk, Ex.kv_mk, Ex.kids_mk]
  obtain ⟨a, c, rfl⟩ := hat.shape
  obtain ⟨hop, hv, ht, hm, hn1, hn2, hkl⟩ := hone
  have HAT := Lib.hid hat; clear hat
  have HKI := Lib.hid hkin; clear hkin
  have HKO := Lib.hid hkok; clear hkok
  have IH := Lib.hid ih; clear ih
  have HCH := Lib.hid (fun W => refCheck v W)
  have HC01 := Lib.hid (And.intro hc0 hc1)
  obtain ⟨B, hB⟩ : ∃ B, B = okR cols g op ks.length (checkV v) n := ⟨_, rfl⟩
  rw [← hB]
  have HB := Lib.hid hB
  have HV := Lib.hid hv
  clear hB hv hc0 hc1
  have hx8 := box_cells w (w.alloc (.cells #[.int .u8 (op : Int), .int .u8 (v.k : Int), .int .i64 v.n, .string v.s, .string t, .string m, .int .i64 n, .slice a ks.length c] 44)) (.mk op v t m n (.slice a ks.length c) ks) 44 (Below.refl _ _)
  simp only [Ex.op_mk, Ex.v_mk, Ex.t_mk, Ex.m_mk, Ex.n_mk, Ex.kv_mk] at hx8
  have hbA : Below w.heap.size w (w.alloc (.cells #[.int .u8 (op : Int), .int .u8 (v.k : Int), .int .i64 v.n, .string v.s, .string t, .string m, .int .i64 n, .slice a ks.length c] 44)) := (Below.refl _ _).alloc (Nat.le_refl _) _
  have hzA : w.heap.size < (w.alloc (.cells #[.int .u8 (op : Int), .int .u8 (v.k : Int), .int .i64 v.n, .string v.s, .string t, .string m, .int .i64 n, .slice a ks.length c] 44)).heap.size := by simp
  go_enter Tryz.func97, Tryz.ntmps97
  go_upto_block 0 with fail
  generalize hWA : w.alloc (.cells #[.int .u8 (op : Int), .int .u8 (v.k : Int), .int .i64 v.n, .string v.s, .string t, .string m, .int .i64 n, .slice a ks.length c] 44) = WA at *
  clear hWA
  obtain ⟨x0, x1, x2, x3, x4, x5, x6, x7⟩ := hx8
  go_cut [8] (fun ok wx => ok = .bool B ∧ Below WA.heap.size WA wx)
  case first =>
    by_cases hc : op = 1
    · subst hc
      by_cases hn0 : ks.length = 0
      · have ehn0 : ((ks.length : Int) == 0) = true := by first | exact decide_eq_true (by omega) | (simp; omega)

        have hb : B = ((checkV v : Int) == 0) := by rw [HB.out, Bool.eq_iff_iff]; simp [okR, hn0]
        subst hb
        clear hn0
        go_wp2_with fail
        refine (HCH.out _).mono ?_
        rintro e w1 ⟨rfl, hb1⟩
        go_wp2_with fail
        go_meet
        exact ⟨rfl, hb1⟩
      · have ehn0 : ((ks.length : Int) == 0) = false := by first | exact decide_eq_false (by omega) | (simp; omega)

        have hb : B = false := by rw [HB.out]; simp only [okR]; simp [hn0]
        subst hb
        clear hn0
        go_wp2_with fail
        go_meet
        exact ⟨rfl, Below.refl _ _⟩
    have hc0 := hc
    clear hc
    by_cases hc : op = 2
    · subst hc
      by_cases hn0 : ks.length = 0
      · have ehn0 : ((ks.length : Int) == 0) = true := by first | exact decide_eq_true (by omega) | (simp; omega)
        by_cases hp : 0 ≤ n
        · have ehp : decide ((0 : Int) ≤ n) = true := by first | exact decide_eq_true (by omega) | (simp; omega)

          have hb : B = decide (n < cols) := by rw [HB.out]; simp only [okR]; simp [hn0, hp]
          subst hb
          clear hn0 hp
          go_wp2_with fail
          go_meet
          exact ⟨rfl, Below.refl _ _⟩
        · have ehp : decide ((0 : Int) ≤ n) = false := by first | exact decide_eq_false (by omega) | (simp; omega)

          have hb : B = false := by rw [HB.out]; simp only [okR]; simp [hn0, hp]
          subst hb
          clear hn0 hp
          go_wp2_with fail
          go_meet
          exact ⟨rfl, Below.refl _ _⟩
      · have ehn0 : ((ks.length : Int) == 0) = false := by first | exact decide_eq_false (by omega) | (simp; omega)

        have hb : B = false := by rw [HB.out]; simp only [okR]; simp [hn0]
        subst hb
        clear hn0
        go_wp2_with fail
        go_meet
        exact ⟨rfl, Below.refl _ _⟩
    have hc1 := hc
    clear hc
    by_cases hc : 3 ≤ op ∧ op ≤ 5
    · have f0 : ((op : Int) == 1) = false := by simp; omega
      have f1 : ((op : Int) == 2) = false := by simp; omega
      have f2 : decide ((3 : Int) ≤ (op : Int)) = true := decide_eq_true (by omega)
      have f3 : decide ((op : Int) ≤ 5) = true := decide_eq_true (by omega)

      have hb : B = ((ks.length : Int) == 1) := by rw [HB.out]; simp only [okR]; rw [if_neg (by omega), if_neg (by omega), if_pos hc, Bool.eq_iff_iff]; simp; omega
      subst hb
      go_wp2_with fail
      go_meet
      exact ⟨rfl, Below.refl _ _⟩
    have hc2 := hc
    clear hc
    by_cases hc : 6 ≤ op ∧ op ≤ 19
    · have f0 : ((op : Int) == 1) = false := by simp; omega
      have f1 : ((op : Int) == 2) = false := by simp; omega
      have f2 : decide ((3 : Int) ≤ (op : Int)) = true := decide_eq_true (by omega)
      have f3 : decide ((op : Int) ≤ 5) = false := decide_eq_false (by omega)
      have f4 : decide ((6 : Int) ≤ (op : Int)) = true := decide_eq_true (by omega)
      have f5 : decide ((op : Int) ≤ 19) = true := decide_eq_true (by omega)

      have hb : B = ((ks.length : Int) == 2) := by rw [HB.out]; simp only [okR]; rw [if_neg (by omega), if_neg (by omega), if_neg (by omega), if_pos hc, Bool.eq_iff_iff]; simp; omega
      subst hb
      go_wp2_with fail
      go_meet
      exact ⟨rfl, Below.refl _ _⟩
    have hc3 := hc
    clear hc
    by_cases hc : op = 20
    · subst hc
      by_cases hn0 : ks.length ≤ 1
      · have ehn0 : decide ((ks.length : Int) ≤ 1) = true := by first | exact decide_eq_true (by omega) | (simp; omega)

        have hb : B = decide (0 < g) := by rw [HB.out]; simp only [okR]; simp [hn0]
        subst hb
        clear hn0
        go_wp2_with fail
        go_meet
        exact ⟨rfl, Below.refl _ _⟩
      · have ehn0 : decide ((ks.length : Int) ≤ 1) = false := by first | exact decide_eq_false (by omega) | (simp; omega)

        have hb : B = false := by rw [HB.out]; simp only [okR]; simp [hn0]
        subst hb
        clear hn0
        go_wp2_with fail
        go_meet
        exact ⟨rfl, Below.refl _ _⟩
    have hc4 := hc
    clear hc
    by_cases hc : 21 ≤ op ∧ op ≤ 23
    · have f0 : ((op : Int) == 1) = false := by simp; omega
      have f1 : ((op : Int) == 2) = false := by simp; omega
      have f2 : decide ((3 : Int) ≤ (op : Int)) = true := decide_eq_true (by omega)
      have f3 : decide ((op : Int) ≤ 5) = false := decide_eq_false (by omega)
      have f4 : decide ((6 : Int) ≤ (op : Int)) = true := decide_eq_true (by omega)
      have f5 : decide ((op : Int) ≤ 19) = false := decide_eq_false (by omega)
      have f6 : ((op : Int) == 20) = false := by simp; omega
      have f7 : decide ((21 : Int) ≤ (op : Int)) = true := decide_eq_true (by omega)
      have f8 : decide ((op : Int) ≤ 23) = true := decide_eq_true (by omega)
      by_cases hn0 : ks.length = 1
      · have ehn0 : ((ks.length : Int) == 1) = true := by first | exact decide_eq_true (by omega) | (simp; omega)

        have hb : B = decide (0 < g) := by rw [HB.out]; simp only [okR]; rw [if_neg (by omega), if_neg (by omega), if_neg (by omega), if_neg (by omega), if_neg (by omega), if_pos hc]; simp [hn0]
        subst hb
        clear hn0
        go_wp2_with fail
        go_meet
        exact ⟨rfl, Below.refl _ _⟩
      · have ehn0 : ((ks.length : Int) == 1) = false := by first | exact decide_eq_false (by omega) | (simp; omega)

        have hb : B = false := by rw [HB.out]; simp only [okR]; rw [if_neg (by omega), if_neg (by omega), if_neg (by omega), if_neg (by omega), if_neg (by omega), if_pos hc]; simp [hn0]
        subst hb
        go_wp2_with fail
        go_meet
        exact ⟨rfl, Below.refl _ _⟩
    have hc5 := hc
    clear hc
    by_cases hc : op = 0
    · subst hc

      have hb : B = false := by rw [HB.out]; simp only [okR]; simp
      subst hb
      go_wp2_with fail
      go_meet
      exact ⟨rfl, Below.refl _ _⟩
    have hc6 := hc
    clear hc
    have f0 : ((op : Int) == 1) = false := by simp; omega
    have f1 : ((op : Int) == 2) = false := by simp; omega
    have f2 : decide ((3 : Int) ≤ (op : Int)) = true := decide_eq_true (by omega)
    have f3 : decide ((op : Int) ≤ 5) = false := decide_eq_false (by omega)
    have f4 : decide ((6 : Int) ≤ (op : Int)) = true := decide_eq_true (by omega)
    have f5 : decide ((op : Int) ≤ 19) = false := decide_eq_false (by omega)
    have f6 : ((op : Int) == 20) = false := by simp; omega
    have f7 : decide ((21 : Int) ≤ (op : Int)) = true := decide_eq_true (by omega)
    have f8 : decide ((op : Int) ≤ 23) = false := decide_eq_false (by omega)

    have hb : B = false := by rw [HB.out]; simp only [okR]; rw [if_neg (by omega), if_neg (by omega), if_neg (by omega), if_neg (by omega), if_neg (by omega), if_neg (by omega)]
    subst hb
    go_wp2_with fail
    go_meet
    exact ⟨rfl, Below.refl _ _⟩
  case rest =>
    obtain ⟨rfl, hb1⟩ := hcut
    rename World => w1
    have y0 := (hb1.cell (cell_lt x0)).trans x0
    have y7 := (hb1.cell (cell_lt x7)).trans x7
    have HBW := Lib.hid (next hbA hb1)
    have hz1 : w.heap.size < w1.heap.size := Nat.lt_of_lt_of_le hzA hb1.size
    clear x0 x1 x2 x3 x4 x5 x6 x7 hb1 hbA hzA
    obtain ⟨D, hD⟩ : ∃ D, D = decide (20 ≤ op ∧ g = 1) := ⟨_, rfl⟩
    have HD := Lib.hid hD
    clear hD
    go_upto_region 15 with fail
    go_cut [95] (fun cv wx => cv = .bool D ∧ w1 = wx)
    case first =>
      by_cases h20 : 20 ≤ op
      · have e1 : decide ((20 : Int) ≤ (op : Int)) = true := decide_eq_true (by omega)
        have e2 : ((g : Int) == 1) = D := by rw [HD.out, Bool.eq_iff_iff]; simp [h20]; omega
        clear h20
        go_wp2_with fail
        go_meet
        exact ⟨rfl, rfl⟩
      · have e1 : decide ((20 : Int) ≤ (op : Int)) = false := decide_eq_false (by omega)
        have e2 : D = false := by rw [HD.out]; exact decide_eq_false (show ¬ (20 ≤ op ∧ g = 1) by omega)
        subst e2
        clear h20
        go_wp2_with fail
        go_meet
        exact ⟨rfl, rfl⟩
    case rest =>
    obtain ⟨rfl, rfl⟩ := hcut
    go_upto_if 95 with fail
    go_cut [2] (fun gv wx => gv = .int .i64 ((nextG op g : Nat) : Int) ∧ w1 = wx)
    case first =>
      cases D
      · have e : ((nextG op g : Nat) : Int) = (g : Int) := by
          have h := HD.out
          simp only [nextG]
          rw [if_neg (by simpa using h.symm)]
        have E := Lib.hid e
        clear e
        go_wp2_with fail
        go_meet
        exact ⟨by rw [E.out], rfl⟩
      · have e : ((nextG op g : Nat) : Int) = 0 := by
          have h := HD.out
          simp only [nextG]
          rw [if_pos (by simpa using h.symm)]
          rfl
        have E := Lib.hid e
        clear e
        go_wp2_with fail
        go_meet
        exact ⟨by rw [E.out], rfl⟩
    case rest =>
      obtain ⟨rfl, rfl⟩ := hcut
      have hgn : nextG op g ≤ 2 := by unfold nextG; split <;> omega
      generalize hG : nextG op g = G
      rw [hG] at hgn
      have HG := Lib.hid hG
      clear hG
      go_wp2_with fail
      go_loopg [8, 9] ks.length (fun gk ov i wr => ∃ (k : Nat) (ok : Bool), i = .int .i64 (k : Int) ∧ ov = .bool ok ∧ gk = ks.length - k ∧ k ≤ ks.length ∧ Hid (ok = (B && (ks.take k).all (mayG cols G))) ∧ Hid (Below w1.heap.size w1 wr) ∧ wr.cell? ⟨w.heap.size, 7, none⟩ = some (.slice a ks.length c) ∧ w.heap.size < wr.heap.size)
      case atStart => exact ⟨0, B, rfl, rfl, rfl, Nat.zero_le _, by simp [Hid], Lib.hid (Below.refl _ _), y7, hz1⟩
      case round =>
        obtain ⟨k, ok, rfl, rfl, rfl, hkl', hok, hbr, h7, hzr⟩ := hrel
        clear y0 y7
        by_cases hlt : k < ks.length
        · obtain ⟨y, hy⟩ : ∃ y, ks[k]? = some y := ⟨ks[k], by simp⟩
          have hym : y ∈ ks := List.mem_of_getElem? hy
          have hnx : (ok && mayG cols G y) = (B && (ks.take (k + 1)).all (mayG cols G)) := by
            obtain ⟨hk, rfl⟩ := List.getElem?_eq_some_iff.1 hy
            rw [List.take_succ_eq_append_getElem hk, List.all_append, hok.out]
            simp [Bool.and_assoc]
          have HNX := Lib.hid hnx
          have ilt : (k : Int) < (ks.length : Int) := by omega
          clear hnx
          cases ok
          · clear hym hy
            go_wp2_with fail
            go_roundg (ks.length - (k + 1))
            case measure => omega
            case rel => exact ⟨k + 1, false, by go_num, rfl, rfl, by omega, HNX, hbr, h7, hzr⟩
          · obtain ⟨b, o, rfl, hbz, d0, d1, d2, d3, d4, d5, d6, d7⟩ := Ex.at8 (HAT.out.below (next HBW.out hbr.out)) hy
            obtain ⟨ay, cy, eky⟩ := Ex.kv_of (HKI.out y hym)
            have hcall := fun W hb => IH.out y hym cols G W HC01.out.1 HC01.out.2 hgn (Ex.in_below (w := w) hb y (HKI.out y hym)) (HKO.out y hym)
            obtain ⟨R, hR⟩ : ∃ R, R = mayG cols G y := ⟨_, rfl⟩
            rw [← hR] at hcall HNX
            simp only [Ex.val] at hcall
            rw [eky] at d7 hcall
            have HC := Lib.hid hcall
            clear hcall hR hy eky hym
            go_wp2_with fail
            refine (HC.out _ (next HBW.out hbr.out)).mono ?_
            rintro e w2 ⟨rfl, hb2⟩
            have HB2 := Lib.hid (next hbr.out hb2)
            have h72 := (hb2.cell (cell_lt h7)).trans h7
            have hz2 := Nat.lt_of_lt_of_le hzr hb2.size
            clear d0 d1 d2 d3 d4 d5 d6 d7 hb2 h7
            cases R
            · go_wp2_with fail
              go_roundg (ks.length - (k + 1))
              case measure => omega
              case rel => exact ⟨k + 1, false, by go_num, rfl, rfl, by omega, HNX, HB2, h72, hz2⟩
            · go_wp2_with fail
              go_roundg (ks.length - (k + 1))
              case measure => omega
              case rel => exact ⟨k + 1, true, by go_num, rfl, rfl, by omega, HNX, HB2, h72, hz2⟩
        · obtain rfl : k = ks.length := by omega
          have hfin : ok = (B && ks.all (mayG cols G)) := by rw [hok.out, List.take_length]
          have HFIN := Lib.hid hfin
          clear hfin
          go_wp2_with fail
          go_ret
          exact ⟨by rw [HFIN.out, ← HG.out]; first | done | rfl, next HBW.out hbr.out⟩
end Go.Proofs.YtjgkeillmelkoaaGreat.Et
namespace Go.Proofs.YtjgkeillmelkoaaGreat.Et
open Go.Proofs.YtjgkeillmelkoaaGreat.Dt
open Go.RowKit Go.Proofs.YtjgkeillmelkoaaGreat.By

/-- The loop, for either kind that is wanted. -/
def FitsIn (l : List Nat) (kind k : Nat) : Prop := (l.take k).all (fun k => decide (k = 0 ∨ k = kind)) = true

set_option maxHeartbeats 4000000 in
theorem fit (op : Nat) (v : Value) (l : List Nat) (w : World) (h : U8sAt w v l) (hl : l.length ≤ 140737488351232) (hs : ∀ k ∈ l, k < 256) (ho : op < 256) (h2 : 12 ≤ op → op ≤ 17 → 2 ≤ l.length) :
    Calls Tryz.prog 98 #[.int .u8 (op : Int), v] w fun e w' => e = .returned (.bool (togetherB op l)) ∧ Below w.heap.size w w' := by
  have hat := h
  obtain ⟨a, c, rfl⟩ := h.shape
  have HAT := Lib.hid h; clear h hat
  have HS := Lib.hid hs; clear hs
  unfold togetherB
  by_cases c1 : op = 5 ∨ op = 20 ∨ 22 ≤ op
  · rw [if_pos c1]
    by_cases x1 : op = 5
    · subst x1
      go_enter Tryz.func98, Tryz.ntmps98
      go_wp2_with fail
      go_ret
      exact ⟨rfl, by go_grown⟩
    · have e1 : ((op : Int) == 5) = false := by simp; omega
      by_cases x2 : op = 20
      · subst x2
        go_enter Tryz.func98, Tryz.ntmps98
        go_wp2_with fail
        go_ret
        exact ⟨rfl, by go_grown⟩
      · have e2 : ((op : Int) == 20) = false := by simp; omega
        have x3 : 22 ≤ op := by omega
        have e3 : decide ((22 : Int) ≤ (op : Int)) = true := decide_eq_true (by omega)
        go_enter Tryz.func98, Tryz.ntmps98
        go_wp2_with fail
        go_ret
        exact ⟨rfl, by go_grown⟩
  · rw [if_neg c1]
    have e1 : ((op : Int) == 5) = false := by simp; omega
    have e2 : ((op : Int) == 20) = false := by simp; omega
    have e3 : decide ((22 : Int) ≤ (op : Int)) = false := decide_eq_false (by omega)
    by_cases c3 : 12 ≤ op ∧ op ≤ 17
    · rw [if_neg (by omega), if_pos c3]
      obtain ⟨x1, x2⟩ := c3
      have e5 : decide ((12 : Int) ≤ (op : Int)) = true := decide_eq_true (by omega)
      have e6 : decide ((op : Int) ≤ 17) = true := decide_eq_true (by omega)
      have hl2 := h2 x1 x2
      obtain ⟨p, hp⟩ : ∃ p, l[0]? = some p := ⟨l[0], by simp⟩
      obtain ⟨q, hq⟩ : ∃ q, l[1]? = some q := ⟨l[1], by simp⟩
      obtain ⟨b, o, rfl, hbz, d0⟩ := at1 HAT.out hp
      obtain ⟨b', o', hbo, _, d1⟩ := at1 HAT.out hq
      cases hbo
      rw [Nat.add_zero] at d0
      have gp : l.getD 0 0 = p := by rw [List.getD, hp]; rfl
      have gq : l.getD 1 0 = q := by rw [List.getD, hq]; rfl
      rw [gp, gq]
      have i0 : (0 : Int) < (l.length : Int) := by omega
      have i1 : (1 : Int) < (l.length : Int) := by omega
      clear gp gq hp hq
      have m1 : ((p : Int) == (q : Int)) = decide (p = q) := by rw [Bool.eq_iff_iff]; simp; omega
      have m2 : ((p : Int) == 0) = decide (p = 0) := by rw [Bool.eq_iff_iff]; simp
      have m3 : ((q : Int) == 0) = decide (q = 0) := by rw [Bool.eq_iff_iff]; simp
      go_enter Tryz.func98, Tryz.ntmps98
      by_cases k1 : p = q
      · subst k1
        go_wp2_with fail
        go_quiet (fail)
        go_wp2_with fail
        go_ret
        exact ⟨ret_bool (by simp), drewN_below (Below.refl _ _) _⟩
      · rw [decide_eq_false k1] at m1
        by_cases k2 : p = 0
        · have K2 := Lib.hid k2
          rw [decide_eq_true k2] at m2
          clear k2
          go_wp2_with fail
          go_quiet (fail)
          go_wp2_with fail
          go_ret
          exact ⟨ret_bool (by simp [K2.out]), drewN_below (Below.refl _ _) _⟩
        · rw [decide_eq_false k2] at m2
          by_cases k3 : q = 0
          · have K3 := Lib.hid k3
            rw [decide_eq_true k3] at m3
            clear k3
            go_wp2_with fail
            go_quiet (fail)
            go_wp2_with fail
            go_ret
            exact ⟨ret_bool (by simp [K3.out]), drewN_below (Below.refl _ _) _⟩
          · rw [decide_eq_false k3] at m3
            go_wp2_with fail
            go_quiet (fail)
            go_wp2_with fail
            go_ret
            exact ⟨ret_bool (by simp [k1, k2, k3]), drewN_below (Below.refl _ _) _⟩
    · have hrest : ∀ want : Nat, (want = if op = 11 then 2 else 1) → (if op = 11 then allB 2 l else if 12 ≤ op ∧ op ≤ 17 then decide (l.getD 0 0 = l.getD 1 0 ∨ l.getD 0 0 = 0 ∨ l.getD 1 0 = 0) else allB 1 l) = allB want l := by
        intro want hw
        rw [hw, if_neg c3]
        split <;> rfl
      by_cases c2 : op = 11
      · rw [hrest 2 (by simp [c2])]
        subst c2
        clear hrest h2 c3 c1
        go_enter Tryz.func98, Tryz.ntmps98
        go_wp2_with fail
        go_loop [6] (fun i => ∃ k : Nat, i = .int .i64 (k : Int) ∧ k ≤ l.length ∧ Hid (FitsIn l 2 k)) (fun i => l.length - (intOf i).toNat)
        case atStart => exact ⟨0, rfl, Nat.zero_le _, rfl⟩
        case round =>
          obtain ⟨k, rfl, hkl, hall⟩ := hrel
          by_cases hlt : k < l.length
          · obtain ⟨y, hy⟩ : ∃ y, l[k]? = some y := ⟨l[k], by simp⟩
            have hyb : y < 256 := HS.out y (List.mem_of_getElem? hy)
            obtain ⟨b, o, rfl, hbz, d0⟩ := at1 HAT.out hy
            have HY := Lib.hid hy; clear hy
            have ilt : (k : Int) < (l.length : Int) := by omega
            by_cases h0 : y = 0
            · subst h0
              go_wp2_with fail
              go_round
              case rel => exact ⟨k + 1, by go_num, by omega, all_take hall.out HY.out (by simp)⟩
              case measure => simp [intOf]; omega
            · have e0 : ((y : Int) != 0) = true := by simp; omega
              by_cases h1 : y = 2
              · have e7 : ((y : Int) != 2) = false := by simp [h1]
                have H1 := Lib.hid h1; clear h1
                go_wp2_with fail
                go_round
                case rel => exact ⟨k + 1, by go_num, by omega, all_take hall.out HY.out (by simp [H1.out])⟩
                case measure => simp [intOf]; omega
              · have e7 : ((y : Int) != 2) = true := by simp; omega
                go_wp2_with fail
                go_ret
                exact ⟨ret_bool (by unfold allB; rw [all_not HY.out (by simp [h0, h1])]), by go_grown⟩
          · obtain rfl : k = l.length := by omega
            go_wp2_with fail
            go_ret
            have he := hall.out
            unfold FitsIn at he
            rw [List.take_length] at he
            exact ⟨ret_bool (by unfold allB; rw [he]), by go_grown⟩
      · rw [hrest 1 (by simp [c2])]
        have e4 : ((op : Int) == 11) = false := by simp; omega
        clear hrest h2
        by_cases x1 : 12 ≤ op
        · have e5 : decide ((12 : Int) ≤ (op : Int)) = true := decide_eq_true (by omega)
          have e6 : decide ((op : Int) ≤ 17) = false := decide_eq_false (by omega)
          clear c3 c1
          go_enter Tryz.func98, Tryz.ntmps98
          go_wp2_with fail
          go_loop [6] (fun i => ∃ k : Nat, i = .int .i64 (k : Int) ∧ k ≤ l.length ∧ Hid (FitsIn l 1 k)) (fun i => l.length - (intOf i).toNat)
          case atStart => exact ⟨0, rfl, Nat.zero_le _, rfl⟩
          case round =>
            obtain ⟨k, rfl, hkl, hall⟩ := hrel
            by_cases hlt : k < l.length
            · obtain ⟨y, hy⟩ : ∃ y, l[k]? = some y := ⟨l[k], by simp⟩
              have hyb : y < 256 := HS.out y (List.mem_of_getElem? hy)
              obtain ⟨b, o, rfl, hbz, d0⟩ := at1 HAT.out hy
              have HY := Lib.hid hy; clear hy
              have ilt : (k : Int) < (l.length : Int) := by omega
              by_cases h0 : y = 0
              · subst h0
                go_wp2_with fail
                go_round
                case rel => exact ⟨k + 1, by go_num, by omega, all_take hall.out HY.out (by simp)⟩
                case measure => simp [intOf]; omega
              · have e0 : ((y : Int) != 0) = true := by simp; omega
                by_cases h1 : y = 1
                · have e7 : ((y : Int) != 1) = false := by simp [h1]
                  have H1 := Lib.hid h1; clear h1
                  go_wp2_with fail
                  go_round
                  case rel => exact ⟨k + 1, by go_num, by omega, all_take hall.out HY.out (by simp [H1.out])⟩
                  case measure => simp [intOf]; omega
                · have e7 : ((y : Int) != 1) = true := by simp; omega
                  go_wp2_with fail
                  go_ret
                  exact ⟨ret_bool (by unfold allB; rw [all_not HY.out (by simp [h0, h1])]), by go_grown⟩
            · obtain rfl : k = l.length := by omega
              go_wp2_with fail
              go_ret
              have he := hall.out
              unfold FitsIn at he
              rw [List.take_length] at he
              exact ⟨ret_bool (by unfold allB; rw [he]), by go_grown⟩
        · have e5 : decide ((12 : Int) ≤ (op : Int)) = false := decide_eq_false (by omega)
          clear c3 c1
          go_enter Tryz.func98, Tryz.ntmps98
          go_wp2_with fail
          go_loop [6] (fun i => ∃ k : Nat, i = .int .i64 (k : Int) ∧ k ≤ l.length ∧ Hid (FitsIn l 1 k)) (fun i => l.length - (intOf i).toNat)
          case atStart => exact ⟨0, rfl, Nat.zero_le _, rfl⟩
          case round =>
            obtain ⟨k, rfl, hkl, hall⟩ := hrel
            by_cases hlt : k < l.length
            · obtain ⟨y, hy⟩ : ∃ y, l[k]? = some y := ⟨l[k], by simp⟩
              have hyb : y < 256 := HS.out y (List.mem_of_getElem? hy)
              obtain ⟨b, o, rfl, hbz, d0⟩ := at1 HAT.out hy
              have HY := Lib.hid hy; clear hy
              have ilt : (k : Int) < (l.length : Int) := by omega
              by_cases h0 : y = 0
              · subst h0
                go_wp2_with fail
                go_round
                case rel => exact ⟨k + 1, by go_num, by omega, all_take hall.out HY.out (by simp)⟩
                case measure => simp [intOf]; omega
              · have e0 : ((y : Int) != 0) = true := by simp; omega
                by_cases h1 : y = 1
                · have e7 : ((y : Int) != 1) = false := by simp [h1]
                  have H1 := Lib.hid h1; clear h1
                  go_wp2_with fail
                  go_round
                  case rel => exact ⟨k + 1, by go_num, by omega, all_take hall.out HY.out (by simp [H1.out])⟩
                  case measure => simp [intOf]; omega
                · have e7 : ((y : Int) != 1) = true := by simp; omega
                  go_wp2_with fail
                  go_ret
                  exact ⟨ret_bool (by unfold allB; rw [all_not HY.out (by simp [h0, h1])]), by go_grown⟩
            · obtain rfl : k = l.length := by omega
              go_wp2_with fail
              go_ret
              have he := hall.out
              unfold FitsIn at he
              rw [List.take_length] at he
              exact ⟨ret_bool (by unfold allB; rw [he]), by go_grown⟩
end Go.Proofs.YtjgkeillmelkoaaGreat.Et
