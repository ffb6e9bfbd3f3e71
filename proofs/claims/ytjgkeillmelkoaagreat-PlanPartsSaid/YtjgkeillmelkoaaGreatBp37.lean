import Derived.Deep.DeepCutAuto
import Derived.Test.YtjgkeillmelkoaaGreatBp36
import Derived.Test.YtjgkeillmelkoaaGreatBp09
import Derived.Test.YtjgkeillmelkoaaGreatBp08
import Derived.Test.YtjgkeillmelkoaaGreatBp04
namespace Go.Proofs.YtjgkeillmelkoaaGreat.Dt
open Go.RowKit Go.Proofs.YtjgkeillmelkoaaGreat.By

attribute [local go_sem ↓] veilLd_sm
attribute [local go_sem] run_smLd
set_option maxRecDepth 100000 in
set_option maxHeartbeats 32000000 in
theorem wayW {s index : ByteArray} {many first : Int} {st : PSt} {part : List PE} (w : World)
    (hres : ∀ W, Calls Tryz.prog 6 #[.string s] W fun e w' => ∃ c, e = .returned (.agg c) ∧ New W.heap.size w' (fun u => StR u c.toList st) ∧ Below W.heap.size W w')
    (hk : st.kind = 6 ∨ st.kind = 7) (hsrc : st.src = []) (htab : st.table = ⟨#[116]⟩) (hwh : cntL st.wh ≤ 1000000) (hok : (colsL st.wh).foldl (okStep 3) true = true)
    (hst : stepL 0 ((partsL st.wh).filter simpleB) smallT = (index, part)) (hm : many = (part.length : Int)) (hfirst : part = [] ∨ ∃ y ys, part = y :: ys ∧ y.op = 1 ∧ y.v.n = first) :
    Calls Tryz.prog 9 #[.string s, .string index, .int .i64 many, .int .i64 first] w fun e w' => e = .returned (.bool true) ∧ Below w.heap.size w w' := by
  subst hm
  have HR := Lib.hid hres
  have HS := Lib.hid (smallL w)
  have HP := Lib.hid (fun (v : Value) (va : Option Addr) (vc : Nat) (cs : List Value) (W : World) (hc : CatR W (.slice va [smallT].length vc) [smallT]) (h : StR W cs st) => planW (p := 0) hc (by decide) h hk hsrc (by rw [htab]; decide +kernel) rfl (by decide) (by decide) (by decide) (fun x hx => by obtain rfl := List.mem_singleton.1 hx; decide) hwh hok)
  have HST := Lib.hid hst
  have HFI := Lib.hid hfirst
  clear hres hk hsrc htab hwh hok hst hfirst
  go_enter Tryz.func9, Tryz.ntmps9
  go_wp2_with fail
  refine HS.out.mono ?_
  rintro e1 w1 ⟨v1, rfl, hv1, hb1⟩
  obtain ⟨va, vc, rfl, _⟩ := hv1.here.shape
  have HV1 := Lib.hid hv1.here
  have HB1 := Lib.hid hb1
  clear hv1 hb1 HS
  go_wp2_with fail
  refine (HR.out _).mono ?_
  rintro e2 w2 ⟨c, rfl, hv2, hb2⟩
  have hcc : c = c.toList.toArray := by simp
  have HP2 := Lib.hid (HP.out (.slice none 0 0) va vc c.toList w2 (catR_below HV1.out hb2) hv2.here)
  have HB2 := Lib.hid (next HB1.out hb2)
  rw [← hcc] at HP2
  clear hv2 hb2 HV1 hcc HR HP
  go_wp2_with fail
  refine HP2.out.mono ?_
  rintro e3 w3 ⟨v3, rfl, hsl, hb3⟩
  rw [HST.out] at hsl
  obtain ⟨la, lc, rfl, _⟩ := hsl.shape
  obtain ⟨b, o, cs, rfl, _, ⟨pv, sa, sn, sc, rfl, hpart⟩, hcs⟩ := SlR.get (k := 0) hsl rfl
  have HB3 := Lib.hid (next HB2.out hb3)
  have q0 := hcs 0 _ rfl
  have q1 := hcs 1 _ rfl
  have q2 := hcs 2 _ rfl
  simp only [Nat.zero_mul, Nat.add_zero] at q0 q1 q2
  obtain ⟨pa, pc, rfl, _⟩ := hpart.shape
  change ExsR w3 (.slice pa part.length pc) part at hpart
  change w3.cell? ⟨b, o + 1, none⟩ = some (.slice pa part.length pc) at q1
  have HPT := Lib.hid hpart
  clear hcs hsl hb3 hpart HP2
  have hbx : Below w3.heap.size w3 (w3.alloc (.cells #[.string index, .slice pa part.length pc, .slice sa sn sc] 61)) := (Below.refl _ _).alloc (Nat.le_refl _) _
  have HX := Lib.hid (row_alloc w3 61 #[.string index, .slice pa part.length pc, .slice sa sn sc])
  have HPX := Lib.hid (exsR_below HPT.out hbx)
  have HBX := Lib.hid (next HB3.out hbx)
  clear hbx
  go_upto_region 5 with fail
  clear q0 q1 q2
  generalize w3.alloc (.cells #[.string index, .slice pa part.length pc, .slice sa sn sc] 61) = w4 at *
  generalize w3.heap.size = g at *
  have x0 := HX.out.cell (i := 0) (v := .string index) rfl
  have x1 := HX.out.cell (i := 1) (v := .slice pa part.length pc) rfl
  cases part with
  | nil =>
    go_wp2_with fail
    go_ret
    exact ⟨rfl, HBX.out⟩
  | cons y ys =>
    have hfy : y.op = 1 ∧ y.v.n = first := by
      rcases HFI.out with h | ⟨_, _, h, h1, h2⟩
      · cases h
      · cases h; exact ⟨h1, h2⟩
    obtain ⟨hop, rfl⟩ := hfy
    obtain ⟨b1, o1, k1, rfl, _, p0, p1, p2, p3, p4, p5, p6, p7⟩ := exs_at (k := 0) HPX.out rfl
    simp only [Nat.zero_mul, Nat.add_zero] at p0 p1 p2 p3 p4 p5 p6 p7
    rw [hop] at p0
    clear p3 p4 p5 p6 p7
    clear HST HFI HPT HPX
    generalize hm : (y :: ys).length = m at *
    have hm1 : 0 < m := by rw [← hm]; exact Nat.succ_pos _
    clear hm
    have im0 : ((m : Int) == 0) = false := by simp; omega
    have imn : ¬ (m : Int) = 0 := by omega
    have img : (0 : Int) < (m : Int) := by omega
    have en : (y.v.n == y.v.n) = true := by simp
    clear hm1
    go_wp2_with fail
    go_ret
    exact ⟨rfl, HBX.out⟩
/-- The law's own small thing is done right. -/
theorem works_step : stepL 0 ((partsL st1.wh).filter simpleB) smallT = (⟨#[]⟩, [intE 2, intE 1]) := by kernel_rfl
theorem worksY (w : World) : Calls Tryz.prog 8 #[] w fun e w' => e = .returned (.bool true) ∧ Below w.heap.size w w' := by
  have HW := Lib.hid (wayW (s := tx1T) (index := ⟨#[]⟩) (many := 2) (first := 2) (part := [intE 2, intE 1]) w resolved1 (.inr rfl) rfl rfl (by decide) (by decide) works_step rfl (.inr ⟨_, _, rfl, rfl, rfl⟩))
  go_enter Tryz.func8, Tryz.ntmps8
  go_wp2_with fail
  refine HW.out.mono ?_
  rintro e1 w1 ⟨rfl, hb1⟩
  have HB1 := Lib.hid hb1
  clear hb1 HW
  go_wp2_with fail
  go_ret
  exact ⟨rfl, HB1.out⟩
end Go.Proofs.YtjgkeillmelkoaaGreat.Dt
namespace Go.Proofs.YtjgkeillmelkoaaGreat.Dt
open Go.RowKit Go.Proofs.YtjgkeillmelkoaaGreat.By
set_option linter.unusedVariables false
set_option linter.unusedSimpArgs false

/-- How much an expression is, where so many levels are left. -/
def syE : Nat → PE → Nat
  | 0, _ => 9000
  | k + 1, x => x.kids.foldr (fun y f n => if 9000 < n + syE k y then n + syE k y else f (n + syE k y)) id 1
def syF (k : Nat) : List PE → Nat → Nat
  | [], n => n
  | y :: l, n => if 9000 < n + syE k y then n + syE k y else syF k l (n + syE k y)
theorem syE_succ (k : Nat) (x : PE) : syE (k + 1) x = syF k x.kids (1) := by
  have h : ∀ (l : List PE) (n : Nat), l.foldr (fun y f n => if 9000 < n + syE k y then n + syE k y else f (n + syE k y)) id n = syF k l n := by
    intro l
    induction l with
    | nil => intro n; rfl
    | cons y l ih => intro n; simp only [List.foldr_cons, syF, ih]
  rw [syE, h]
theorem syF_le (k M : Nat) (hM : ∀ y, syE k y ≤ M) : ∀ (l : List PE) (n : Nat), n ≤ 9000 → syF k l n ≤ 9000 + M
  | [], n, h => by show n ≤ _; omega
  | y :: l, n, h => by
    have := hM y
    show (if 9000 < n + syE k y then n + syE k y else syF k l (n + syE k y)) ≤ _
    split
    · omega
    · exact syF_le k M hM l _ (by omega)
theorem syE_le : ∀ (k : Nat) (x : PE), syE k x ≤ 9000 * (k + 1)
  | 0, x => by show 9000 ≤ 9000; omega
  | k + 1, x => by
    have h := syF_le k (9000 * (k + 1)) (syE_le k) x.kids (1) (by omega)
    rw [syE_succ, Nat.mul_succ 9000 (k + 1), Nat.add_comm]
    exact h
set_option maxRecDepth 100000 in
set_option maxHeartbeats 32000000 in
theorem sizeY1 (k : Nat) (x : PE) (ka : Option Addr) (kc : Nat) (w : World) (hk : k ≤ 200) (ht : Short x) (hx : ExsR w (.slice ka x.kids.length kc) x.kids)
    (H : ∀ (y : PE), y ∈ x.kids → ∀ (kv : Value) (W : World), ExsR W kv y.kids → Calls Tryz.prog 10 #[y.val kv, .int .i64 ((201 - k : Nat) : Int)] W fun e w' => e = .returned (.int .i64 (syE k y : Int)) ∧ Below W.heap.size W w') :
    Calls Tryz.prog 10 #[x.val (.slice ka x.kids.length kc), .int .i64 ((200 - k : Nat) : Int)] w fun e w' => e = .returned (.int .i64 (syE (k + 1) x : Int)) ∧ Below w.heap.size w w' := by
  have HH := Lib.hid H
  have HX := Lib.hid hx
  have HKB := Lib.hid hk
  have HZE := Lib.hid (syE_succ k x)
  obtain ⟨hl, hkids⟩ : x.kids.length ≤ 140737488351232 ∧ ∀ y, y ∈ x.kids → Short y := by cases ht with | mk _ a b => exact ⟨a, b⟩
  have HLA := Lib.hid hl
  have HBA : Hid (Below w.heap.size w (w.alloc (.cells #[.int .u8 (x.op : Int), .int .u8 (x.v.k : Int), .int .i64 x.v.n, .string x.v.s, .string x.t, .string x.m, .int .i64 x.n, .slice ka x.kids.length kc] 44))) := Lib.hid ((Below.refl _ _).alloc (Nat.le_refl _) _)
  have HR := Lib.hid (row_alloc w 44 #[.int .u8 (x.op : Int), .int .u8 (x.v.k : Int), .int .i64 x.v.n, .string x.v.s, .string x.t, .string x.m, .int .i64 x.n, .slice ka x.kids.length kc])
  obtain ⟨d, hd⟩ : ∃ d, d = 200 - k := ⟨_, rfl⟩
  rw [← hd]
  have i1 : ¬ (200 : Int) < (d : Int) := by omega
  have HD : Hid ((201 - k : Nat) = d + 1) := Lib.hid (by omega)
  have HD2 : Hid (d ≤ 200) := Lib.hid (by omega)
  unfold PE.val
  clear H hx hk ht hl hkids hd
  go_enter Tryz.func10, Tryz.ntmps10
  go_upto_region 1 with fail
  generalize w.alloc (.cells #[.int .u8 (x.op : Int), .int .u8 (x.v.k : Int), .int .i64 x.v.n, .string x.v.s, .string x.t, .string x.m, .int .i64 x.n, .slice ka x.kids.length kc] 44) = w2 at *
  have l7 := HR.out.cell (i := 7) (v := .slice ka x.kids.length kc) rfl
  go_wp2_with fail
  clear l7 i1
  go_loopg [5, 13] x.kids.length (fun gk nv iv wr => ∃ (i n : Nat), nv = .int .i64 (n : Int) ∧ iv = .int .i64 (i : Int) ∧ gk = x.kids.length - i ∧ i ≤ x.kids.length ∧ n ≤ 9000 ∧ Hid (syF k (x.kids.drop i) n = syF k x.kids (1)) ∧ Hid (Below w2.heap.size w2 wr))
  case atStart => exact ⟨0, 1, rfl, rfl, rfl, Nat.zero_le _, by decide, Lib.hid rfl, Lib.hid (Below.refl _ _)⟩
  case round =>
    obtain ⟨i, n, rfl, rfl, rfl, hi, hn, HF, HBL⟩ := hrel
    by_cases hlt : i < x.kids.length
    · obtain ⟨y, hy⟩ : ∃ z, x.kids[i]? = some z := ⟨x.kids[i], by simp⟩
      obtain ⟨b1, o1, k1, rfl, hk1, p0, p1, p2, p3, p4, p5, p6, p7⟩ := exs_at (exsR_below HX.out (HBA.out.trans (HBL.out.mono HBA.out.size))) hy
      obtain ⟨na, nc, rfl, _⟩ := hk1.shape
      have hbx : Below wr.heap.size wr (wr.alloc (.cells #[.int .u8 (y.op : Int), .int .u8 (y.v.k : Int), .int .i64 y.v.n, .string y.v.s, .string y.t, .string y.m, .int .i64 y.n, .slice na y.kids.length nc] 44)) := (Below.refl _ _).alloc (Nat.le_refl _) _
      have HRX := Lib.hid (row_alloc wr 44 #[.int .u8 (y.op : Int), .int .u8 (y.v.k : Int), .int .i64 y.v.n, .string y.v.s, .string y.t, .string y.m, .int .i64 y.n, .slice na y.kids.length nc])
      have hc := HH.out y (List.mem_of_getElem? hy) (.slice na y.kids.length nc) _ (exsR_below hk1 hbx)
      rw [HD.out] at hc
      unfold PE.val at hc
      have HC := Lib.hid hc
      have HBX := Lib.hid (next HBL.out hbx)
      have hdr : x.kids.drop i = y :: x.kids.drop (i + 1) := by
        rw [List.drop_eq_getElem_cons hlt]
        have h := hy
        rw [List.getElem?_eq_getElem hlt] at h
        cases h
        rfl
      have HDR := Lib.hid hdr
      have ilt : (i : Int) < (x.kids.length : Int) := by omega
      have ige : (0 : Int) ≤ (i : Int) := by omega
      have HLT := Lib.hid hlt
      have hsz := syE_le k y
      have HN := Lib.hid hn
      have HSZ : Hid (syE k y ≤ 9000 * 201) := Lib.hid (Nat.le_trans hsz (Nat.mul_le_mul_left 9000 (by have := HKB.out; omega)))
      clear hy hk1 hbx hc hdr hlt hsz
      go_upto_region 7 with fail
      clear p0 p1 p2 p3 p4 p5 p6 p7
      generalize wr.alloc (.cells #[.int .u8 (y.op : Int), .int .u8 (y.v.k : Int), .int .i64 y.v.n, .string y.v.s, .string y.t, .string y.m, .int .i64 y.n, .slice na y.kids.length nc] 44) = wx at *
      have l0 := HRX.out.cell (i := 0) (v := .int .u8 (y.op : Int)) rfl
      have l1 := HRX.out.cell (i := 1) (v := .int .u8 (y.v.k : Int)) rfl
      have l2 := HRX.out.cell (i := 2) (v := .int .i64 y.v.n) rfl
      have l3 := HRX.out.cell (i := 3) (v := .string y.v.s) rfl
      have l4 := HRX.out.cell (i := 4) (v := .string y.t) rfl
      have l5 := HRX.out.cell (i := 5) (v := .string y.m) rfl
      have l6 := HRX.out.cell (i := 6) (v := .int .i64 y.n) rfl
      have l7 := HRX.out.cell (i := 7) (v := .slice na y.kids.length nc) rfl
      have hd1 : wrap64 ((d : Int) + 1) = ((d + 1 : Nat) : Int) := by have := HD2.out; unfold wrap64; omega
      go_wp2_with fail
      refine HC.out.mono ?_
      rintro e3 w3 ⟨rfl, hb3⟩
      have HB3 := Lib.hid (next HBX.out hb3)
      have hws : wrap64 ((n : Int) + (syE k y : Int)) = ((n + syE k y : Nat) : Int) := by have := HSZ.out; have := HN.out; unfold wrap64; omega
      clear l0 l1 l2 l3 l4 l5 l6 l7 hd1 hb3 HC
      by_cases hbig : 9000 < n + syE k y
      · have ib : (9000 : Int) < ((n + syE k y : Nat) : Int) := by omega
        have HR1 : Hid (syE (k + 1) x = n + syE k y) := Lib.hid (by rw [HZE.out, ← HF.out, HDR.out]; show (if _ then _ else _) = _; rw [if_pos hbig])
        clear hbig
        go_wp2_with fail
        go_ret
        exact ⟨by rw [HR1.out]; show Ending.returned (Value.int .i64 (wrap64 ((n : Int) + (syE k y : Int)))) = _; rw [hws], HBA.out.trans (HB3.out.mono HBA.out.size)⟩
      · have ib : ¬ (9000 : Int) < ((n + syE k y : Nat) : Int) := by omega
        have HF2 : Hid (syF k (x.kids.drop (i + 1)) (n + syE k y) = syF k x.kids (1)) := Lib.hid (by rw [← HF.out, HDR.out]; show _ = (if _ then _ else _); rw [if_neg hbig])
        have HNB : Hid (n + syE k y ≤ 9000) := Lib.hid (by omega)
        clear hbig
        go_wp2_with fail
        go_roundg (x.kids.length - (i + 1))
        case measure => exact Nat.sub_lt_sub_left HLT.out (Nat.lt_succ_self _)
        case rel => exact ⟨i + 1, n + syE k y, by first | rfl | (rw [Int.natCast_add]), congrArg (Value.int .i64) (by have h1 := HLA.out; have h2 := HLT.out; unfold wrap64; omega), rfl, HLT.out, HNB.out, HF2, HB3⟩
    · obtain rfl : i = x.kids.length := by omega
      have HR1 : Hid (syE (k + 1) x = n) := Lib.hid (by rw [HZE.out, ← HF.out, List.drop_length]; rfl)
      clear hlt hi
      go_wp2_with fail
      go_ret
      exact ⟨by rw [HR1.out]; rfl, HBA.out.trans (HBL.out.mono HBA.out.size)⟩
set_option maxRecDepth 100000 in
set_option maxHeartbeats 8000000 in
theorem sizeY0 (x : PE) (kv : Value) (w : World) : Calls Tryz.prog 10 #[x.val kv, .int .i64 201] w fun e w' => e = .returned (.int .i64 9000) ∧ Below w.heap.size w w' := by
  have HBA : Hid (Below w.heap.size w (w.alloc (.cells #[.int .u8 (x.op : Int), .int .u8 (x.v.k : Int), .int .i64 x.v.n, .string x.v.s, .string x.t, .string x.m, .int .i64 x.n, kv] 44))) := Lib.hid ((Below.refl _ _).alloc (Nat.le_refl _) _)
  unfold PE.val
  go_enter Tryz.func10, Tryz.ntmps10
  go_wp2_with fail
  go_ret
  exact ⟨rfl, HBA.out⟩
/-- The law's size of an expression. -/
theorem sizeY : ∀ (k : Nat), k ≤ 201 → ∀ (x : PE) (kv : Value) (w : World), Short x → ExsR w kv x.kids →
    Calls Tryz.prog 10 #[x.val kv, .int .i64 ((201 - k : Nat) : Int)] w fun e w' => e = .returned (.int .i64 (syE k x : Int)) ∧ Below w.heap.size w w'
  | 0, _, x, kv, w, _, _ => sizeY0 x kv w
  | k + 1, hk, x, kv, w, ht, hx => by
    obtain ⟨ka, kc, rfl, _⟩ := hx.shape
    have h := sizeY1 k x ka kc w (by omega) ht hx fun y hy kv W hW => sizeY k (by omega) y kv W (by cases ht with | mk _ _ e => exact e y hy) hW
    rw [show 201 - (k + 1) = 200 - k by omega]
    exact h
theorem sizeYTop (x : PE) (kv : Value) (w : World) (ht : Short x) (hx : ExsR w kv x.kids) : Calls Tryz.prog 10 #[x.val kv, .int .i64 0] w fun e w' => e = .returned (.int .i64 (syE 201 x : Int)) ∧ Below w.heap.size w w' := sizeY 201 (Nat.le_refl _) x kv w ht hx
/-- Where no more than 9000 comes, each node was counted. -/
theorem syF_cnt (k : Nat) (hk : ∀ y, syE k y < 9000 → cntE y = syE k y) : ∀ (l : List PE) (n : Nat), 1 ≤ n → syF k l n < 9000 → n + cntL l = syF k l n
  | [], n, _, h => by rw [cntL]; rfl
  | y :: l, n, h1, h => by
    have e : syF k (y :: l) n = if 9000 < n + syE k y then n + syE k y else syF k l (n + syE k y) := rfl
    rw [e] at h ⊢
    split at h
    · omega
    · rename_i hn
      rw [if_neg hn]
      have hy : cntE y = syE k y := hk y (by omega)
      have := syF_cnt k hk l (n + syE k y) (by omega) h
      rw [cntL]; omega
theorem syE_cnt : ∀ (k : Nat) (x : PE), syE k x < 9000 → cntE x = syE k x
  | 0, x, h => by have e : syE 0 x = 9000 := rfl; omega
  | k + 1, x, h => by
    rw [syE_succ] at h ⊢
    have := syF_cnt k (syE_cnt k) x.kids 1 (Nat.le_refl 1) h
    rw [cnt_kids]; omega
end Go.Proofs.YtjgkeillmelkoaaGreat.Dt
namespace Go.Proofs.YtjgkeillmelkoaaGreat.Dt
open Go.RowKit Go.Proofs.YtjgkeillmelkoaaGreat.By

set_option maxRecDepth 100000 in
set_option maxHeartbeats 16000000 in
theorem sameY1 (xs ys : List PE) (va vb : Value) (w : World) (ha : ExsR w va xs) (hb : ExsR w vb ys) (hla : xs.length ≤ 140737488351232)
    (H : ∀ (i : Nat) (x y : PE), xs[i]? = some x → ys[i]? = some y → ∀ (kx ky : Value) (W : World), ExsR W kx x.kids → ExsR W ky y.kids → Calls Tryz.prog 23 #[x.val kx, y.val ky] W fun e w' => e = .returned (.bool (eqB x y)) ∧ Below W.heap.size W w') :
    Calls Tryz.prog 11 #[va, vb] w fun e w' => e = .returned (.bool (eqB xs ys)) ∧ Below w.heap.size w w' := by
  obtain ⟨aa, ac, rfl, hac⟩ := ha.shape
  obtain ⟨ba, bc, rfl, hbc⟩ := hb.shape
  have HA := Lib.hid ha
  have HB := Lib.hid hb
  have HH := Lib.hid H
  by_cases hlen : xs.length = ys.length
  · have e1 : ((xs.length : Int) != (ys.length : Int)) = false := by simp [hlen]
    have HLEN := Lib.hid hlen
    clear ha hb H hac hbc hlen
    go_enter Tryz.func11, Tryz.ntmps11
    go_wp2_with fail
    go_loopg [14] xs.length (fun gk iv wr => ∃ (i : Nat), iv = .int .i64 (i : Int) ∧ gk = xs.length - i ∧ i ≤ xs.length ∧ Hid (Below w.heap.size w wr) ∧ Hid (xs.take i = ys.take i))
    case atStart => exact ⟨0, rfl, rfl, Nat.zero_le _, Lib.hid (Below.refl _ _), Lib.hid rfl⟩
    case round =>
      obtain ⟨i, rfl, rfl, hi, HBL, HT⟩ := hrel
      by_cases hlt : i < xs.length
      · obtain ⟨x, hx⟩ : ∃ x, xs[i]? = some x := ⟨xs[i], by simp⟩
        obtain ⟨y, hy⟩ : ∃ y, ys[i]? = some y := ⟨ys[i]'(by have := HLEN.out; omega), by simp⟩
        have hwa := exsR_below HA.out HBL.out
        have hwb := exsR_below HB.out HBL.out
        obtain ⟨b1, o1, k1, rfl, hk1, p0, p1, p2, p3, p4, p5, p6, p7⟩ := exs_at hwa hx
        obtain ⟨b2, o2, k2, rfl, hk2, q0, q1, q2, q3, q4, q5, q6, q7⟩ := exs_at hwb hy
        obtain ⟨ka, kc, rfl, _⟩ := hk1.shape
        obtain ⟨ja, jc, rfl, _⟩ := hk2.shape
        have hbx : Below wr.heap.size wr (wr.alloc (.cells #[.int .u8 (x.op : Int), .int .u8 (x.v.k : Int), .int .i64 x.v.n, .string x.v.s, .string x.t, .string x.m, .int .i64 x.n, .slice ka x.kids.length kc] 44)) := (Below.refl _ _).alloc (Nat.le_refl _) _
        have HC : Hid (∀ W, Below (wr.alloc (.cells #[.int .u8 (x.op : Int), .int .u8 (x.v.k : Int), .int .i64 x.v.n, .string x.v.s, .string x.t, .string x.m, .int .i64 x.n, .slice ka x.kids.length kc] 44)).heap.size (wr.alloc (.cells #[.int .u8 (x.op : Int), .int .u8 (x.v.k : Int), .int .i64 x.v.n, .string x.v.s, .string x.t, .string x.m, .int .i64 x.n, .slice ka x.kids.length kc] 44)) W → Calls Tryz.prog 23 #[x.val (.slice ka x.kids.length kc), y.val (.slice ja y.kids.length jc)] W fun e w' => e = .returned (.bool (eqB x y)) ∧ Below W.heap.size W w') := Lib.hid (fun W hW => HH.out i x y hx hy _ _ W (exsR_below (exsR_below hk1 hbx) hW) (exsR_below (exsR_below hk2 hbx) hW))
        have HRX := Lib.hid (row_alloc wr 44 #[.int .u8 (x.op : Int), .int .u8 (x.v.k : Int), .int .i64 x.v.n, .string x.v.s, .string x.t, .string x.m, .int .i64 x.n, .slice ka x.kids.length kc])
        have HBX := Lib.hid (next HBL.out hbx)
        have Q0 := Lib.hid ((hbx.cell (cell_lt q0)).trans q0); have Q1 := Lib.hid ((hbx.cell (cell_lt q1)).trans q1); have Q2 := Lib.hid ((hbx.cell (cell_lt q2)).trans q2); have Q3 := Lib.hid ((hbx.cell (cell_lt q3)).trans q3)
        have Q4 := Lib.hid ((hbx.cell (cell_lt q4)).trans q4); have Q5 := Lib.hid ((hbx.cell (cell_lt q5)).trans q5); have Q6 := Lib.hid ((hbx.cell (cell_lt q6)).trans q6); have Q7 := Lib.hid ((hbx.cell (cell_lt q7)).trans q7)
        have HX := Lib.hid hx
        have HY := Lib.hid hy
        have ilt : (i : Int) < (xs.length : Int) := by omega
        have ilt2 : (i : Int) < (ys.length : Int) := by have := HLEN.out; omega
        have ige : (0 : Int) ≤ (i : Int) := by omega
        have HLT := Lib.hid hlt
        unfold PE.val at HC
        clear hx hy hwa hwb hk1 hk2 hlt hbx q0 q1 q2 q3 q4 q5 q6 q7
        go_upto_region 6 with fail
        clear p0 p1 p2 p3 p4 p5 p6 p7
        generalize wr.alloc (.cells #[.int .u8 (x.op : Int), .int .u8 (x.v.k : Int), .int .i64 x.v.n, .string x.v.s, .string x.t, .string x.m, .int .i64 x.n, .slice ka x.kids.length kc] 44) = wx at *
        generalize wr.heap.size = g at *
        have l0 := lat_cell (HRX.out.cell (i := 0) (v := .int .u8 (x.op : Int)) rfl); have l1 := lat_cell (HRX.out.cell (i := 1) (v := .int .u8 (x.v.k : Int)) rfl); have l2 := lat_cell (HRX.out.cell (i := 2) (v := .int .i64 x.v.n) rfl); have l3 := lat_cell (HRX.out.cell (i := 3) (v := .string x.v.s) rfl)
        have l4 := lat_cell (HRX.out.cell (i := 4) (v := .string x.t) rfl); have l5 := lat_cell (HRX.out.cell (i := 5) (v := .string x.m) rfl); have l6 := lat_cell (HRX.out.cell (i := 6) (v := .int .i64 x.n) rfl); have l7 := lat_cell (HRX.out.cell (i := 7) (v := .slice ka x.kids.length kc) rfl)
        have m0 := lat_cell Q0.out; have m1 := lat_cell Q1.out; have m2 := lat_cell Q2.out; have m3 := lat_cell Q3.out; have m4 := lat_cell Q4.out; have m5 := lat_cell Q5.out; have m6 := lat_cell Q6.out; have m7 := lat_cell Q7.out
        refine wp_region_later (by kernel_rfl) (by kernel_rfl) ?_
        repeat (go_big_quiet_step (exact lat_calls (HC.out _ (lat_below _ _))))
        refine wpQuiet_nil ?_
        refine later_out (fun w2 hb2 => ?_)
        have HB2 := Lib.hid (next HBX.out hb2)
        clear l0 l1 l2 l3 l4 l5 l6 l7 m0 m1 m2 m3 m4 m5 m6 m7 hb2
        by_cases hxy : x = y
        · have e2 : eqB x y = true := eqB_true.2 hxy
          have HT2 : Hid (xs.take (i + 1) = ys.take (i + 1)) := Lib.hid (by
            rw [List.take_add_one, List.take_add_one, HT.out, HX.out, HY.out, hxy])
          rw [e2]
          clear e2 hxy
          go_wp2_with fail
          go_roundg (xs.length - (i + 1))
          case measure => exact Nat.sub_lt_sub_left HLT.out (Nat.lt_succ_self _)
          case rel => exact ⟨i + 1, by go_num, rfl, HLT.out, HB2, HT2⟩
        · have e2 : eqB x y = false := eqB_false hxy
          have HE : Hid (eqB xs ys = false) := Lib.hid (eqB_false fun e => hxy (by have h1 := HX.out; have h2 := HY.out; rw [e, h2] at h1; cases h1; rfl))
          rw [e2]
          clear e2 hxy
          go_wp2_with fail
          go_ret
          exact ⟨by rw [HE.out]; rfl, HB2.out⟩
      · obtain rfl : i = xs.length := by omega
        have HE : Hid (eqB xs ys = true) := Lib.hid (eqB_true.2 (by have h1 := HT.out; have h2 := HLEN.out; rw [List.take_length, h2, List.take_length] at h1; exact h1))
        clear hlt hi
        go_wp2_with fail
        go_ret
        exact ⟨by rw [HE.out]; rfl, HBL.out⟩
  · have e1 : ((xs.length : Int) != (ys.length : Int)) = true := by simp; omega
    have HE : Hid (eqB xs ys = false) := Lib.hid (eqB_false fun e => hlen (by rw [e]))
    clear ha hb H hac hbc hlen
    go_enter Tryz.func11, Tryz.ntmps11
    go_wp2_with fail
    go_ret
    exact ⟨by rw [HE.out]; rfl, Below.refl _ _⟩
/-- The law's same tells whether two rows of expressions are one. -/
theorem sameY {xs ys : List PE} (hs : ∀ x, x ∈ xs → Short x) (hl : xs.length ≤ 140737488351232) {va vb : Value} {w : World} (ha : ExsR w va xs) (hb : ExsR w vb ys) :
    Calls Tryz.prog 11 #[va, vb] w fun e w' => e = .returned (.bool (eqB xs ys)) ∧ Below w.heap.size w w' :=
  sameY1 xs ys va vb w ha hb hl fun _ a b hi _ kx ky W h1 h2 => sameEx (hs a (List.mem_of_getElem? hi)) b kx ky W h1 h2
end Go.Proofs.YtjgkeillmelkoaaGreat.Dt
namespace Go.Proofs.YtjgkeillmelkoaaGreat.Dt
open Go.RowKit Go.Proofs.YtjgkeillmelkoaaGreat.By

mutual
/-- The same expression, without its headers. -/
def Ex.pe : Ex → PE
  | .mk op v t m n _ kids => .mk op v t m n (Ex.peL kids)
def Ex.peL : List Ex → List PE
  | [] => []
  | x :: l => Ex.pe x :: Ex.peL l
end
theorem peL_eq : ∀ l : List Ex, Ex.peL l = l.map Ex.pe
  | [] => rfl
  | x :: l => by rw [Ex.peL, peL_eq l]; rfl
theorem pe_val (e : Ex) : e.val = e.pe.val e.kv := by
  obtain ⟨op, v, t, m, n, kv, l⟩ := e
  rw [Ex.pe]; rfl
theorem pe_kids (e : Ex) : e.pe.kids = e.kids.map Ex.pe := by
  obtain ⟨op, v, t, m, n, kv, l⟩ := e
  rw [Ex.pe, ← peL_eq]; rfl
theorem pe_cells (e : Ex) : e.cells = e.pe.cells e.kv := by
  obtain ⟨op, v, t, m, n, kv, l⟩ := e
  rw [Ex.pe]; rfl
/-- An expression that lies in memory, told in the other way. -/
theorem pe_in {w : World} : ∀ e : Ex, e.In w → ExR w e.cells e.pe := by
  refine Ex.ind fun e ih h => ?_
  obtain ⟨hat, hk⟩ := (Ex.in_iff w e).1 h
  rw [pe_cells]
  obtain ⟨a, c, ekv, hc, hh⟩ := hat
  refine exR_iff.2 ⟨_, rfl, e.kids.map Ex.cells, ⟨a, c, by rw [ekv, List.length_map], by rw [List.length_map]; exact hc, fun i cs hi => ?_⟩, by rw [pe_kids]; simp, fun i cs x hi hx => ?_⟩
  · rw [List.getElem?_map] at hi
    cases hy : e.kids[i]? with
    | none => rw [hy] at hi; cases hi
    | some y =>
      rw [hy] at hi
      cases hi
      exact hh i y hy
  · rw [pe_kids] at hx
    rw [List.getElem?_map] at hi hx
    cases hy : e.kids[i]? with
    | none => rw [hy] at hi; cases hi
    | some y =>
      rw [hy] at hi hx
      cases hi; cases hx
      have hm := List.mem_of_getElem? hy
      exact ⟨rfl, ih y hm (hk y hm)⟩
theorem pe_kidsR {w : World} {e : Ex} (h : e.In w) : ExsR w e.kv e.pe.kids := by
  obtain ⟨kv, e1, h1⟩ := exR_iff.1 (pe_in e h)
  rw [pe_cells] at e1
  have : e.kv = kv := by
    unfold PE.cells at e1
    simpa using e1
  rw [this]; exact h1
theorem pe_short : ∀ e : Ex, e.Ok → Short e.pe := by
  refine Ex.ind fun e ih h => ?_
  obtain ⟨h1, h2⟩ := (Ex.ok_iff e).1 h
  refine .mk _ ?_ fun y hy => ?_
  · rw [pe_kids, List.length_map]
    have := h1.2.2.2.2.2.2
    omega
  · rw [pe_kids] at hy
    obtain ⟨z, hz, rfl⟩ := List.mem_map.1 hy
    exact ih z hz (h2 z hz)
theorem Short.kid {x : PE} (h : Short x) : ∀ y, y ∈ x.kids → Short y := by cases h with | mk _ _ h => exact h
mutual
theorem parts_short : ∀ x : PE, Short x → ∀ y, y ∈ partsE x → Short y
  | .mk op v t m n kids, h, y, hy => by
    rw [partsE] at hy
    split at hy
    · exact parts_shortL kids (fun z hz => h.kid z hz) y hy
    · rw [List.mem_singleton.1 hy]; exact h
theorem parts_shortL : ∀ l : List PE, (∀ z, z ∈ l → Short z) → ∀ y, y ∈ partsL l → Short y
  | [], _, y, hy => by rw [partsL] at hy; cases hy
  | x :: l, h, y, hy => by
    rw [partsL] at hy
    rcases List.mem_append.1 hy with hy | hy
    · exact parts_short x (h x (by simp)) y hy
    · exact parts_shortL l (fun z hz => h z (by simp [hz])) y hy
end
theorem law_and (x y : PE) : partsL [PE.node 18 [x, y]] = partsL [x] ++ partsL [y] := by
  rw [partsL_one, partsL_one, partsL_one, PE.node, partsE, if_pos rfl, partsL, partsL_one]
theorem law_both (x y : PE) : partsL [x, y] = partsL [PE.node 18 [x, y]] := by
  rw [law_and, partsL, partsL_one, partsL_one]
theorem law_or (x y : PE) : partsL [PE.node 19 [x, y]] = [PE.node 19 [x, y]] := by
  rw [partsL_one, PE.node, partsE, if_neg (by decide)]
theorem law_or2 (x y : PE) : (partsL [PE.node 19 [x, y]]).filter simpleB = [] := by
  rw [law_or]; rfl
theorem law_and2 (x y : PE) : (partsL [PE.node 18 [x, y]]).filter simpleB = (partsL [x]).filter simpleB ++ (partsL [y]).filter simpleB := by
  rw [law_and, List.filter_append]
theorem cnt_two {x y : PE} {k : Nat} (hx : cntE x ≤ 300) (hy : cntE y ≤ 300) : cntL [PE.node k [x, y]] ≤ 1000000 ∧ cntL [x] ≤ 1000000 ∧ cntL [y] ≤ 1000000 ∧ cntL [x, y] ≤ 1000000 := by
  have e1 : cntL [PE.node k [x, y]] = cntE x + (cntE y + 0) + 1 + 0 := by rw [cntL, cntL, PE.node, cntE, cntL, cntL, cntL]
  have e2 : ∀ z : PE, cntL [z] = cntE z + 0 := fun z => by rw [cntL, cntL]
  have e3 : cntL [x, y] = cntE x + (cntE y + 0) := by rw [cntL, cntL, cntL]
  rw [e1, e2, e2, e3]
  omega
theorem short_two {x y : PE} {k : Nat} (hx : Short x) (hy : Short y) : Short (PE.node k [x, y]) := .mk _ (by show 2 ≤ _; decide) fun z hz => by
  rcases List.mem_cons.1 hz with rfl | hz
  · exact hx
  · rw [List.mem_singleton.1 hz]; exact hy
end Go.Proofs.YtjgkeillmelkoaaGreat.Dt
namespace Go.Proofs.YtjgkeillmelkoaaGreat.Dt
theorem exT : ExType Tryz.prog 44 :=
  ⟨by kernel_rfl, by kernel_rfl, ⟨5, by kernel_rfl, by kernel_rfl, by kernel_rfl⟩, ⟨42, by kernel_rfl, vT⟩, ⟨9, by kernel_rfl, by kernel_rfl, by kernel_rfl⟩, ⟨9, by kernel_rfl, by kernel_rfl, by kernel_rfl⟩,
    ⟨3, by kernel_rfl, by kernel_rfl, by kernel_rfl⟩, ⟨32, by kernel_rfl, by kernel_rfl, by kernel_rfl⟩⟩
end Go.Proofs.YtjgkeillmelkoaaGreat.Dt
