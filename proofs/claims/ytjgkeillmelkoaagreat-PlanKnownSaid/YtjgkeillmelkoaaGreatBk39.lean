import Derived.Test.YtjgkeillmelkoaaGreatBk38
import Derived.Test.YtjgkeillmelkoaaGreatBk34
import Derived.Test.YtjgkeillmelkoaaGreatBk30
namespace Go.Proofs.YtjgkeillmelkoaaGreat.Dt
open Go.RowKit Go.Proofs.YtjgkeillmelkoaaGreat.By

/-- The sources of the layer's own SELECT. -/
def src6 : List PSrc := [⟨⟨#[116]⟩, ⟨#[]⟩, []⟩, ⟨⟨#[116]⟩, ⟨#[117]⟩, [rx6]⟩]
/-- What is written, step by step. -/
def w6a : OS := oPut ⟨#[83, 69, 76, 69, 67, 84]⟩ ⟨⟨#[]⟩, true⟩
def w6b : OS := oPut ⟨#[42]⟩ w6a
def w6c : OS := oPut ⟨#[70, 82, 79, 77]⟩ w6b
def w6d : OS := oName ⟨#[116]⟩ w6c
def w6e : OS := oMaybe ⟨#[79, 78]⟩ [] w6d
def w6f : OS := oPut ⟨#[74, 79, 73, 78]⟩ w6e
def w6g : OS := oName ⟨#[116]⟩ w6f
def w6h : OS := oAs ⟨#[117]⟩ w6g
def w6i : OS := oMaybe ⟨#[79, 78]⟩ [rx6] w6h
def w6j : OS := oMaybe ⟨#[87, 72, 69, 82, 69]⟩ [] w6i
def w6k : OS := oMaybe ⟨#[72, 65, 86, 73, 78, 71]⟩ [] w6j
theorem k6a : w6a.ok = true ∧ w6a.s.size ≤ 4096 := by decide +kernel
theorem k6b : w6b.ok = true ∧ w6b.s.size ≤ 4096 := by decide +kernel
theorem k6c : w6c.ok = true ∧ w6c.s.size ≤ 4096 := by decide +kernel
theorem k6d : w6d.ok = true ∧ w6d.s.size ≤ 4096 := by decide +kernel
theorem k6e : w6e.ok = true ∧ w6e.s.size ≤ 4096 := by decide +kernel
theorem k6f : w6f.ok = true ∧ w6f.s.size ≤ 4096 := by decide +kernel
theorem k6g : w6g.ok = true ∧ w6g.s.size ≤ 4096 := by decide +kernel
theorem k6i : w6i.ok = true ∧ w6i.s.size ≤ 4096 := by decide +kernel
theorem k6j : w6j.ok = true ∧ w6j.s.size ≤ 4096 := by decide +kernel
theorem k6k : w6k.ok = true ∧ w6k.s.size ≤ 4096 := by decide +kernel
theorem rx6_put : PutW rx6 := putNodeW 18 _ _ (by decide) (by decide) (putNodeW 12 _ _ (by decide) (by decide) (putDotW ⟨#[117]⟩ ⟨#[99]⟩ (by decide) (by decide) (isNameW _ (by decide)) (isNameW _ (by decide))) (putDotW ⟨#[116]⟩ ⟨#[97]⟩ (by decide) (by decide) (isNameW _ (by decide)) (isNameW _ (by decide))) (by decide +kernel))
  (putNodeW 16 _ _ (by decide) (by decide) (putDotW ⟨#[117]⟩ ⟨#[97]⟩ (by decide) (by decide) (isNameW _ (by decide)) (isNameW _ (by decide))) (putIntW 1 (by decide)) (by decide +kernel)) (by decide +kernel)
/-- What lies there while a ⟨#[83, 69, 76, 69, 67, 84]⟩ is written: the statement, the writer, the sources. -/
structure CH (w1 : World) (r : Nat) (w : World) (S : Array Value) (sv : Value) (o : OS) (W : World) : Prop where
  ob : OB w1 r o W
  x : Row w.heap.size 35 S W
  gr : w.grownBy W (some r)
  sr : SlR 3 SrcR w1 sv src6
  hr : r < w.heap.size
theorem CH.step {w1 w W W' : World} {r : Nat} {S : Array Value} {sv : Value} {o o' : OS} (h : CH w1 r w S sv o W) (p : ORow r o' W' ∧ W.grownBy W' (some r)) : CH w1 r w S sv o' W' :=
  ⟨h.ob.post p.1 p.2, h.x.grown p.2 (Nat.ne_of_gt h.hr), grown_trans h.gr p.2, h.sr, h.hr⟩
theorem CH.later {w1 w W W' : World} {r : Nat} {S : Array Value} {sv : Value} {o : OS} (h : CH w1 r w S sv o W) (q : Below W.heap.size W W') : CH w1 r w S sv o W' :=
  ⟨⟨h.ob.row.later q, h.ob.hb.trans (q.mono h.ob.hb.size), h.ob.hr⟩, h.x.later q, grown_trans h.gr (below_grown (r := r) q), h.sr, h.hr⟩
/-- The writer's box while all is right. -/
theorem CH.okRow {w1 w W : World} {r : Nat} {S : Array Value} {sv : Value} {o : OS} (h : CH w1 r w S sv o W) (hk : o.ok = true) : Row r 128 #[.string o.s, .bool true] W := by
  have h1 : Row r 128 #[.string o.s, .bool o.ok] W := h.ob.row
  rw [hk] at h1
  exact h1
theorem CH.same {w1 w W : World} {r : Nat} {S : Array Value} {sv : Value} {o : OS} (h : CH w1 r w S sv o W) (hk : o.ok = true) : CH w1 r w S sv o (W.setCell ⟨r, 1, none⟩ (.bool true)) :=
  h.step ⟨by have h1 := row_set1 (h.okRow hk) (.bool true); unfold ORow oC; rw [hk]; exact h1, grown_set W r 1 (.bool true)⟩
theorem src6_0 : src6[0]? = some ⟨⟨#[116]⟩, ⟨#[]⟩, []⟩ := rfl
attribute [local go_sem ↓] veilSt_sm veilLd_sm
attribute [local go_sem] run_smSt run_smNew run_smLd okRow16 Value.oneCell'
set_option maxRecDepth 100000 in
set_option maxHeartbeats 32000000 in
theorem ochoose6W (w1 : World) (r : Nat) (a4 a5 a6 a7 a8 a9 a11 a12 a13 a14 a10 : Option Addr) (n4 n5 n6 n7 n8 n9 n11 n12 n13 n14 n10 : Nat) (w : World) (h : OB w1 r ⟨⟨#[]⟩, true⟩ w) (hs : SlR 3 SrcR w1 (.slice a10 2 n10) src6) :
    Calls Tryz.prog 65 #[.pointer (some ⟨r, 0, none⟩), .agg #[.int .u8 8, .string ⟨#[]⟩, .string ⟨#[]⟩, .bool false, .slice a4 0 n4, .slice a5 0 n5, .slice a6 0 n6, .slice a7 0 n7, .slice a8 0 n8, .slice a9 0 n9, .slice a10 2 n10, .slice a11 0 n11, .slice a12 0 n12, .slice a13 0 n13, .slice a14 0 n14, .int .i64 (-1)]] w (OPost r w6k w) := by
  obtain ⟨S, hS⟩ : ∃ S : Array Value, S = #[.int .u8 8, .string ⟨#[]⟩, .string ⟨#[]⟩, .bool false, .slice a4 0 n4, .slice a5 0 n5, .slice a6 0 n6, .slice a7 0 n7, .slice a8 0 n8, .slice a9 0 n9, .slice a10 2 n10, .slice a11 0 n11, .slice a12 0 n12, .slice a13 0 n13, .slice a14 0 n14, .int .i64 (-1)] := ⟨_, rfl⟩
  have hb1 := (Below.refl _ w).alloc (Nat.le_refl _) (.cells #[.int .u8 8, .string ⟨#[]⟩, .string ⟨#[]⟩, .bool false, .slice a4 0 n4, .slice a5 0 n5, .slice a6 0 n6, .slice a7 0 n7, .slice a8 0 n8, .slice a9 0 n9, .slice a10 2 n10, .slice a11 0 n11, .slice a12 0 n12, .slice a13 0 n13, .slice a14 0 n14, .int .i64 (-1)] 35)
  have hC0 : CH w1 r w #[.int .u8 8, .string ⟨#[]⟩, .string ⟨#[]⟩, .bool false, .slice a4 0 n4, .slice a5 0 n5, .slice a6 0 n6, .slice a7 0 n7, .slice a8 0 n8, .slice a9 0 n9, .slice a10 2 n10, .slice a11 0 n11, .slice a12 0 n12, .slice a13 0 n13, .slice a14 0 n14, .int .i64 (-1)] (.slice a10 2 n10) ⟨⟨#[]⟩, true⟩ (w.alloc (.cells #[.int .u8 8, .string ⟨#[]⟩, .string ⟨#[]⟩, .bool false, .slice a4 0 n4, .slice a5 0 n5, .slice a6 0 n6, .slice a7 0 n7, .slice a8 0 n8, .slice a9 0 n9, .slice a10 2 n10, .slice a11 0 n11, .slice a12 0 n12, .slice a13 0 n13, .slice a14 0 n14, .int .i64 (-1)] 35)) := ⟨⟨h.row.later hb1, h.hb.trans (hb1.mono h.hb.size), h.hr⟩, row_alloc _ _ _, below_grown (r := r) hb1, hs, h.row.lt⟩
  rw [← hS] at hC0
  have HC1 := Lib.hid hC0
  have HSE := Lib.hid hS
  clear h hs hb1 hC0 hS
  go_enter Tryz.func65, Tryz.ntmps65
  go_upto_region 1 with fail
  rw [← HSE.out]
  generalize w.alloc (.cells S 35) = w1s at *
  have HT := Lib.hid (oputW r ⟨⟨#[]⟩, true⟩ ⟨#[83, 69, 76, 69, 67, 84]⟩ w1s HC1.out.ob.row (by decide))
  go_wp2_with fail
  refine HT.out.mono ?_
  rintro e2 w2 ⟨rfl, hp⟩
  have HC2 : Hid (CH w1 r w S (.slice a10 2 n10) w6a w2) := Lib.hid (HC1.out.step hp)
  clear hp HT HC1
  have c9 := (HC2.out.x).cell (i := 9) (v := .slice a9 0 n9) (by rw [HSE.out]; rfl)
  have HT := Lib.hid (oputW r w6a ⟨#[42]⟩ w2 HC2.out.ob.row (by have := k6a.2; have h1 : (⟨#[42]⟩ : ByteArray).size = 1 := rfl; omega))
  go_wp2_with fail
  refine HT.out.mono ?_
  rintro e3 w3 ⟨rfl, hp⟩
  have HC3 : Hid (CH w1 r w S (.slice a10 2 n10) w6b w3) := Lib.hid (HC2.out.step hp)
  clear hp HT HC2
  clear c9
  have c9 := (HC3.out.x).cell (i := 9) (v := .slice a9 0 n9) (by rw [HSE.out]; rfl)
  have c10 := (HC3.out.x).cell (i := 10) (v := .slice a10 2 n10) (by rw [HSE.out]; rfl)
  have c15 := (HC3.out.x).cell (i := 15) (v := .int .i64 (-1)) (by rw [HSE.out]; rfl)
  have o1 := (HC3.out.okRow k6b.1).cell (i := 1) (v := .bool true) rfl
  have p1 := (HC3.out.okRow k6b.1).free 1
  go_wp2_with fail
  go_loopg [4] 1 (fun gk iv wr => iv = .int .i64 0 ∧ gk = 1 ∧ w3 = wr)
  case atStart => exact ⟨rfl, rfl, rfl⟩
  case round =>
    obtain ⟨rfl, rfl, rfl⟩ := hrel
    have HC4 := Lib.hid (HC3.out.same k6b.1)
    go_upto_region 11 with fail
    clear c9 c10 c15 o1 p1 HC3
    generalize w3.setCell ⟨r, 1, none⟩ (.bool true) = w4 at *
    go_wp2_with fail
    go_loopg [5] 2 (fun gk iv wr => ∃ (i : Nat) (o : OS), iv = .int .i64 (i : Int) ∧ gk = 2 - i ∧ (i = 0 ∧ o = w6b ∨ i = 1 ∧ o = w6e ∨ i = 2 ∧ o = w6i) ∧ Hid (CH w1 r w S (.slice a10 2 n10) o wr))
    case atStart => exact ⟨0, w6b, rfl, rfl, .inl ⟨rfl, rfl⟩, HC4⟩
    case round =>
      obtain ⟨i, o, rfl, rfl, hor, HCR⟩ := hrel
      clear HC4
      rcases hor with ⟨hi, rfl⟩ | ⟨hi, rfl⟩ | ⟨hi, rfl⟩
      · have hx : src6[i]? = some ⟨⟨#[116]⟩, ⟨#[]⟩, []⟩ := by rw [hi]; rfl
        have HI0 := Lib.hid hi
        have i0 : ((i : Int) == 0) = true := by rw [hi]; rfl
        have ilt : (i : Int) < 2 := by omega
        have ige : (0 : Int) ≤ (i : Int) := by omega
        obtain ⟨b1, o1, k1, rfl, p0, p1, p2, hon⟩ := src_at0 HCR.out.sr hx
        have HON := Lib.hid hon
        obtain ⟨na, nc, rfl, _⟩ := hon.shape
        have p0 := (HCR.out.ob.hb.cell (cell_lt p0)).trans p0
        have p1 := (HCR.out.ob.hb.cell (cell_lt p1)).trans p1
        have p2 := (HCR.out.ob.hb.cell (cell_lt p2)).trans p2
        have c10 := (HCR.out.x).cell (i := 10) (v := .slice (some ⟨b1, o1, none⟩) 2 n10) (by rw [HSE.out]; rfl)
        have hbx := (Below.refl _ wr).alloc (Nat.le_refl _) (.cells #[.string ⟨#[116]⟩, .string ⟨#[]⟩, .slice na 0 nc] 80)
        have HC5 := Lib.hid (HCR.out.later hbx)
        have HY := Lib.hid (row_alloc wr 80 #[.string ⟨#[116]⟩, .string ⟨#[]⟩, .slice na 0 nc])
        have HRG : Hid (r < wr.heap.size) := Lib.hid (Nat.lt_trans HCR.out.hr HCR.out.x.lt)
        change Hid (ExsR w1 (.slice na 0 nc) []) at HON
        change wr.cell? ⟨b1, o1 + i * 3 + 2, none⟩ = some (.slice na 0 nc) at p2
        change wr.cell? ⟨b1, o1 + i * 3 + 1, none⟩ = some (.string ⟨#[]⟩) at p1
        change wr.cell? ⟨b1, o1 + i * 3, none⟩ = some (.string ⟨#[116]⟩) at p0
        clear hbx hon hx hi HCR
        go_upto_region 15 with fail
        clear p0 p1 p2 c10
        generalize wr.alloc (.cells #[.string ⟨#[116]⟩, .string ⟨#[]⟩, .slice na 0 nc] 80) = w5 at *
        generalize wr.heap.size = gf at *
        have l0 := HY.out.cell (i := 0) (v := .string ⟨#[116]⟩) rfl
        have l1 := HY.out.cell (i := 1) (v := .string ⟨#[]⟩) rfl
        have l2 := HY.out.cell (i := 2) (v := .slice na 0 nc) rfl
        have HT := Lib.hid (oputW r w6b ⟨#[70, 82, 79, 77]⟩ w5 HC5.out.ob.row (by have := k6b.2; have h1 : (⟨#[70, 82, 79, 77]⟩ : ByteArray).size = 4 := rfl; omega))
        clear l0 l1 l2
        have l0 := HY.out.cell (i := 0) (v := .string ⟨#[116]⟩) rfl
        have l1 := HY.out.cell (i := 1) (v := .string ⟨#[]⟩) rfl
        have l2 := HY.out.cell (i := 2) (v := .slice na 0 nc) rfl
        go_wp2_with fail
        refine HT.out.mono ?_
        rintro e6 w6 ⟨rfl, hp⟩
        have HC6 : Hid (CH w1 r w S (.slice (some ⟨b1, o1, none⟩) 2 n10) w6c w6) := Lib.hid (HC5.out.step hp)
        clear l0 l1 l2
        have HY := Lib.hid (HY.out.grown hp.2 (Nat.ne_of_gt HRG.out))
        have l0 := HY.out.cell (i := 0) (v := .string ⟨#[116]⟩) rfl
        have l1 := HY.out.cell (i := 1) (v := .string ⟨#[]⟩) rfl
        have l2 := HY.out.cell (i := 2) (v := .slice na 0 nc) rfl
        clear hp HT HC5
        have q1 := (HC6.out.okRow k6c.1).cell (i := 1) (v := .bool true) rfl
        have f1 := (HC6.out.okRow k6c.1).free 1
        have HC7 := Lib.hid (HC6.out.same k6c.1)
        have HY := Lib.hid (HY.out.grown (grown_set w6 r 1 (.bool true)) (Nat.ne_of_gt HRG.out))
        go_upto_region 20 with fail
        clear q1 f1 l0 l1 l2 HC6
        generalize w6.setCell ⟨r, 1, none⟩ (.bool true) = w7 at *
        have l0 := HY.out.cell (i := 0) (v := .string ⟨#[116]⟩) rfl
        have l1 := HY.out.cell (i := 1) (v := .string ⟨#[]⟩) rfl
        have l2 := HY.out.cell (i := 2) (v := .slice na 0 nc) rfl
        have HT := Lib.hid (onameW r w6c ⟨#[116]⟩ w7 (isNameW _ (by decide)) HC7.out.ob.row (by have := k6c.2; have h1 : (⟨#[116]⟩ : ByteArray).size = 1 := rfl; omega))
        clear l0 l1 l2
        have l0 := HY.out.cell (i := 0) (v := .string ⟨#[116]⟩) rfl
        have l1 := HY.out.cell (i := 1) (v := .string ⟨#[]⟩) rfl
        have l2 := HY.out.cell (i := 2) (v := .slice na 0 nc) rfl
        go_wp2_with fail
        refine HT.out.mono ?_
        rintro e8 w8 ⟨rfl, hp⟩
        have HC8 : Hid (CH w1 r w S (.slice (some ⟨b1, o1, none⟩) 2 n10) w6d w8) := Lib.hid (HC7.out.step hp)
        clear l0 l1 l2
        have HY := Lib.hid (HY.out.grown hp.2 (Nat.ne_of_gt HRG.out))
        have l0 := HY.out.cell (i := 0) (v := .string ⟨#[116]⟩) rfl
        have l1 := HY.out.cell (i := 1) (v := .string ⟨#[]⟩) rfl
        have l2 := HY.out.cell (i := 2) (v := .slice na 0 nc) rfl
        clear hp HT HC7
        have HT := Lib.hid (oasW r w6d ⟨#[]⟩ w8 (isNameW _ (by decide)) HC8.out.ob.row (by have := k6d.2; have h1 : (⟨#[]⟩ : ByteArray).size = 0 := rfl; omega))
        clear l0 l1 l2
        have l0 := HY.out.cell (i := 0) (v := .string ⟨#[116]⟩) rfl
        have l1 := HY.out.cell (i := 1) (v := .string ⟨#[]⟩) rfl
        have l2 := HY.out.cell (i := 2) (v := .slice na 0 nc) rfl
        go_wp2_with fail
        refine HT.out.mono ?_
        rintro e9 w9 ⟨rfl, hp⟩
        have HC9 : Hid (CH w1 r w S (.slice (some ⟨b1, o1, none⟩) 2 n10) w6d w9) := Lib.hid (HC8.out.step hp)
        clear l0 l1 l2
        have HY := Lib.hid (HY.out.grown hp.2 (Nat.ne_of_gt HRG.out))
        have l0 := HY.out.cell (i := 0) (v := .string ⟨#[116]⟩) rfl
        have l1 := HY.out.cell (i := 1) (v := .string ⟨#[]⟩) rfl
        have l2 := HY.out.cell (i := 2) (v := .slice na 0 nc) rfl
        clear hp HT HC8
        have HT := Lib.hid (omaybeW w1 r w6d ⟨#[79, 78]⟩ [] _ w9 (fun z hz => by cases hz) HON.out HC9.out.ob (by have h := k6e.2; unfold w6e at h; omega))
        clear l0 l1 l2
        have l0 := HY.out.cell (i := 0) (v := .string ⟨#[116]⟩) rfl
        have l1 := HY.out.cell (i := 1) (v := .string ⟨#[]⟩) rfl
        have l2 := HY.out.cell (i := 2) (v := .slice na 0 nc) rfl
        go_wp2_with fail
        refine HT.out.mono ?_
        rintro e10 w10 ⟨rfl, hp⟩
        have HC10 : Hid (CH w1 r w S (.slice (some ⟨b1, o1, none⟩) 2 n10) w6e w10) := Lib.hid (HC9.out.step hp)
        clear l0 l1 l2
        have HY := Lib.hid (HY.out.grown hp.2 (Nat.ne_of_gt HRG.out))
        have l0 := HY.out.cell (i := 0) (v := .string ⟨#[116]⟩) rfl
        have l1 := HY.out.cell (i := 1) (v := .string ⟨#[]⟩) rfl
        have l2 := HY.out.cell (i := 2) (v := .slice na 0 nc) rfl
        clear hp HT HC9
        clear l0 l1 l2
        go_wp2_with fail
        go_roundg (2 - (i + 1))
        case measure => have := HI0.out; omega
        case rel => exact ⟨i + 1, w6e, congrArg (Value.int .i64) (by have := HI0.out; omega), rfl, .inr (.inl ⟨by have := HI0.out; omega, rfl⟩), HC10⟩
      · have hx : src6[i]? = some ⟨⟨#[116]⟩, ⟨#[117]⟩, [rx6]⟩ := by rw [hi]; rfl
        have HI0 := Lib.hid hi
        have i0 : ((i : Int) == 0) = false := by rw [hi]; rfl
        have ilt : (i : Int) < 2 := by omega
        have ige : (0 : Int) ≤ (i : Int) := by omega
        obtain ⟨b1, o1, k1, rfl, p0, p1, p2, hon⟩ := src_at0 HCR.out.sr hx
        have HON := Lib.hid hon
        obtain ⟨na, nc, rfl, _⟩ := hon.shape
        have p0 := (HCR.out.ob.hb.cell (cell_lt p0)).trans p0
        have p1 := (HCR.out.ob.hb.cell (cell_lt p1)).trans p1
        have p2 := (HCR.out.ob.hb.cell (cell_lt p2)).trans p2
        have c10 := (HCR.out.x).cell (i := 10) (v := .slice (some ⟨b1, o1, none⟩) 2 n10) (by rw [HSE.out]; rfl)
        have hbx := (Below.refl _ wr).alloc (Nat.le_refl _) (.cells #[.string ⟨#[116]⟩, .string ⟨#[117]⟩, .slice na 1 nc] 80)
        have HC5 := Lib.hid (HCR.out.later hbx)
        have HY := Lib.hid (row_alloc wr 80 #[.string ⟨#[116]⟩, .string ⟨#[117]⟩, .slice na 1 nc])
        have HRG : Hid (r < wr.heap.size) := Lib.hid (Nat.lt_trans HCR.out.hr HCR.out.x.lt)
        change Hid (ExsR w1 (.slice na 1 nc) [rx6]) at HON
        change wr.cell? ⟨b1, o1 + i * 3 + 2, none⟩ = some (.slice na 1 nc) at p2
        change wr.cell? ⟨b1, o1 + i * 3 + 1, none⟩ = some (.string ⟨#[117]⟩) at p1
        change wr.cell? ⟨b1, o1 + i * 3, none⟩ = some (.string ⟨#[116]⟩) at p0
        clear hbx hon hx hi HCR
        go_upto_region 15 with fail
        clear p0 p1 p2 c10
        generalize wr.alloc (.cells #[.string ⟨#[116]⟩, .string ⟨#[117]⟩, .slice na 1 nc] 80) = w5 at *
        generalize wr.heap.size = gf at *
        have l0 := HY.out.cell (i := 0) (v := .string ⟨#[116]⟩) rfl
        have l1 := HY.out.cell (i := 1) (v := .string ⟨#[117]⟩) rfl
        have l2 := HY.out.cell (i := 2) (v := .slice na 1 nc) rfl
        have HT := Lib.hid (oputW r w6e ⟨#[74, 79, 73, 78]⟩ w5 HC5.out.ob.row (by have := k6e.2; have h1 : (⟨#[74, 79, 73, 78]⟩ : ByteArray).size = 4 := rfl; omega))
        clear l0 l1 l2
        have l0 := HY.out.cell (i := 0) (v := .string ⟨#[116]⟩) rfl
        have l1 := HY.out.cell (i := 1) (v := .string ⟨#[117]⟩) rfl
        have l2 := HY.out.cell (i := 2) (v := .slice na 1 nc) rfl
        go_wp2_with fail
        refine HT.out.mono ?_
        rintro e6 w6 ⟨rfl, hp⟩
        have HC6 : Hid (CH w1 r w S (.slice (some ⟨b1, o1, none⟩) 2 n10) w6f w6) := Lib.hid (HC5.out.step hp)
        clear l0 l1 l2
        have HY := Lib.hid (HY.out.grown hp.2 (Nat.ne_of_gt HRG.out))
        have l0 := HY.out.cell (i := 0) (v := .string ⟨#[116]⟩) rfl
        have l1 := HY.out.cell (i := 1) (v := .string ⟨#[117]⟩) rfl
        have l2 := HY.out.cell (i := 2) (v := .slice na 1 nc) rfl
        clear hp HT HC5
        have q1 := (HC6.out.okRow k6f.1).cell (i := 1) (v := .bool true) rfl
        have f1 := (HC6.out.okRow k6f.1).free 1
        have HC7 := Lib.hid (HC6.out.same k6f.1)
        have HY := Lib.hid (HY.out.grown (grown_set w6 r 1 (.bool true)) (Nat.ne_of_gt HRG.out))
        go_upto_region 20 with fail
        clear q1 f1 l0 l1 l2 HC6
        generalize w6.setCell ⟨r, 1, none⟩ (.bool true) = w7 at *
        have l0 := HY.out.cell (i := 0) (v := .string ⟨#[116]⟩) rfl
        have l1 := HY.out.cell (i := 1) (v := .string ⟨#[117]⟩) rfl
        have l2 := HY.out.cell (i := 2) (v := .slice na 1 nc) rfl
        have HT := Lib.hid (onameW r w6f ⟨#[116]⟩ w7 (isNameW _ (by decide)) HC7.out.ob.row (by have := k6f.2; have h1 : (⟨#[116]⟩ : ByteArray).size = 1 := rfl; omega))
        clear l0 l1 l2
        have l0 := HY.out.cell (i := 0) (v := .string ⟨#[116]⟩) rfl
        have l1 := HY.out.cell (i := 1) (v := .string ⟨#[117]⟩) rfl
        have l2 := HY.out.cell (i := 2) (v := .slice na 1 nc) rfl
        go_wp2_with fail
        refine HT.out.mono ?_
        rintro e8 w8 ⟨rfl, hp⟩
        have HC8 : Hid (CH w1 r w S (.slice (some ⟨b1, o1, none⟩) 2 n10) w6g w8) := Lib.hid (HC7.out.step hp)
        clear l0 l1 l2
        have HY := Lib.hid (HY.out.grown hp.2 (Nat.ne_of_gt HRG.out))
        have l0 := HY.out.cell (i := 0) (v := .string ⟨#[116]⟩) rfl
        have l1 := HY.out.cell (i := 1) (v := .string ⟨#[117]⟩) rfl
        have l2 := HY.out.cell (i := 2) (v := .slice na 1 nc) rfl
        clear hp HT HC7
        have HT := Lib.hid (oasW r w6g ⟨#[117]⟩ w8 (isNameW _ (by decide)) HC8.out.ob.row (by have := k6g.2; have h1 : (⟨#[117]⟩ : ByteArray).size = 1 := rfl; omega))
        clear l0 l1 l2
        have l0 := HY.out.cell (i := 0) (v := .string ⟨#[116]⟩) rfl
        have l1 := HY.out.cell (i := 1) (v := .string ⟨#[117]⟩) rfl
        have l2 := HY.out.cell (i := 2) (v := .slice na 1 nc) rfl
        go_wp2_with fail
        refine HT.out.mono ?_
        rintro e9 w9 ⟨rfl, hp⟩
        have HC9 : Hid (CH w1 r w S (.slice (some ⟨b1, o1, none⟩) 2 n10) w6h w9) := Lib.hid (HC8.out.step hp)
        clear l0 l1 l2
        have HY := Lib.hid (HY.out.grown hp.2 (Nat.ne_of_gt HRG.out))
        have l0 := HY.out.cell (i := 0) (v := .string ⟨#[116]⟩) rfl
        have l1 := HY.out.cell (i := 1) (v := .string ⟨#[117]⟩) rfl
        have l2 := HY.out.cell (i := 2) (v := .slice na 1 nc) rfl
        clear hp HT HC8
        have HT := Lib.hid (omaybeW w1 r w6h ⟨#[79, 78]⟩ [rx6] _ w9 (fun z hz => by obtain rfl := List.mem_singleton.1 hz; exact rx6_put) HON.out HC9.out.ob (by have h := k6i.2; unfold w6i at h; omega))
        clear l0 l1 l2
        have l0 := HY.out.cell (i := 0) (v := .string ⟨#[116]⟩) rfl
        have l1 := HY.out.cell (i := 1) (v := .string ⟨#[117]⟩) rfl
        have l2 := HY.out.cell (i := 2) (v := .slice na 1 nc) rfl
        go_wp2_with fail
        refine HT.out.mono ?_
        rintro e10 w10 ⟨rfl, hp⟩
        have HC10 : Hid (CH w1 r w S (.slice (some ⟨b1, o1, none⟩) 2 n10) w6i w10) := Lib.hid (HC9.out.step hp)
        clear l0 l1 l2
        have HY := Lib.hid (HY.out.grown hp.2 (Nat.ne_of_gt HRG.out))
        have l0 := HY.out.cell (i := 0) (v := .string ⟨#[116]⟩) rfl
        have l1 := HY.out.cell (i := 1) (v := .string ⟨#[117]⟩) rfl
        have l2 := HY.out.cell (i := 2) (v := .slice na 1 nc) rfl
        clear hp HT HC9
        clear l0 l1 l2
        go_wp2_with fail
        go_roundg (2 - (i + 1))
        case measure => have := HI0.out; omega
        case rel => exact ⟨i + 1, w6i, congrArg (Value.int .i64) (by have := HI0.out; omega), rfl, .inr (.inr ⟨by have := HI0.out; omega, rfl⟩), HC10⟩
      · subst hi
        have c10 := (HCR.out.x).cell (i := 10) (v := .slice a10 2 n10) (by rw [HSE.out]; rfl)
        have c11 := (HCR.out.x).cell (i := 11) (v := .slice a11 0 n11) (by rw [HSE.out]; rfl)
        have HT := Lib.hid (omaybeW w1 r w6i ⟨#[87, 72, 69, 82, 69]⟩ [] (.slice a11 0 n11) wr (fun z hz => by cases hz) slR_zero HCR.out.ob (by have h := k6j.2; unfold w6j at h; omega))
        go_wp2_with fail
        refine HT.out.mono ?_
        rintro e6 w6 ⟨rfl, hp⟩
        have HC6 : Hid (CH w1 r w S (.slice a10 2 n10) w6j w6) := Lib.hid (HCR.out.step hp)
        clear hp HT HCR c10 c11
        have c12 := (HC6.out.x).cell (i := 12) (v := .slice a12 0 n12) (by rw [HSE.out]; rfl)
        have c13 := (HC6.out.x).cell (i := 13) (v := .slice a13 0 n13) (by rw [HSE.out]; rfl)
        have HT := Lib.hid (omaybeW w1 r w6j ⟨#[72, 65, 86, 73, 78, 71]⟩ [] (.slice a13 0 n13) w6 (fun z hz => by cases hz) slR_zero HC6.out.ob (by have h := k6k.2; unfold w6k at h; omega))
        go_wp2_with fail
        refine HT.out.mono ?_
        rintro e7 w7 ⟨rfl, hp⟩
        have HC7 : Hid (CH w1 r w S (.slice a10 2 n10) w6k w7) := Lib.hid (HC6.out.step hp)
        clear hp HT HC6 c12 c13
        go_wp2_with fail
        go_loopg [7] 1 (fun gk iv wr => iv = .int .i64 0 ∧ gk = 1 ∧ w7 = wr)
        case atStart => exact ⟨rfl, rfl, rfl⟩
        case round =>
          obtain ⟨rfl, rfl, rfl⟩ := hrel
          have c14 := (HC7.out.x).cell (i := 14) (v := .slice a14 0 n14) (by rw [HSE.out]; rfl)
          have c15 := (HC7.out.x).cell (i := 15) (v := .int .i64 (-1)) (by rw [HSE.out]; rfl)
          go_wp2_with fail
          go_end0
          exact ⟨rfl, HC7.out.ob.row, HC7.out.gr⟩
set_option maxRecDepth 100000 in
set_option maxHeartbeats 16000000 in
theorem print6W (a4 a5 a6 a7 a8 a9 a11 a12 a13 a14 a10 : Option Addr) (n4 n5 n6 n7 n8 n9 n11 n12 n13 n14 n10 : Nat) (w : World) (hs : SlR 3 SrcR w (.slice a10 2 n10) src6) : Calls Tryz.prog 34 #[.agg #[.int .u8 8, .string ⟨#[]⟩, .string ⟨#[]⟩, .bool false, .slice a4 0 n4, .slice a5 0 n5, .slice a6 0 n6, .slice a7 0 n7, .slice a8 0 n8, .slice a9 0 n9, .slice a10 2 n10, .slice a11 0 n11, .slice a12 0 n12, .slice a13 0 n13, .slice a14 0 n14, .int .i64 (-1)]] w fun e w' =>
    e = .returned (.tuple #[.string w6k.s, .int .i64 0]) ∧ Below w.heap.size w w' := by
  have HX := Lib.hid (row_alloc w 35 #[.int .u8 8, .string ⟨#[]⟩, .string ⟨#[]⟩, .bool false, .slice a4 0 n4, .slice a5 0 n5, .slice a6 0 n6, .slice a7 0 n7, .slice a8 0 n8, .slice a9 0 n9, .slice a10 2 n10, .slice a11 0 n11, .slice a12 0 n12, .slice a13 0 n13, .slice a14 0 n14, .int .i64 (-1)])
  have HB1 : Hid (Below w.heap.size w (w.alloc (.cells #[.int .u8 8, .string ⟨#[]⟩, .string ⟨#[]⟩, .bool false, .slice a4 0 n4, .slice a5 0 n5, .slice a6 0 n6, .slice a7 0 n7, .slice a8 0 n8, .slice a9 0 n9, .slice a10 2 n10, .slice a11 0 n11, .slice a12 0 n12, .slice a13 0 n13, .slice a14 0 n14, .int .i64 (-1)] 35))) := Lib.hid ((Below.refl _ _).alloc (Nat.le_refl _) _)
  have HSR := Lib.hid hs
  clear hs
  go_enter Tryz.func34, Tryz.ntmps34
  go_upto_region 1 with fail
  generalize w.alloc (.cells #[.int .u8 8, .string ⟨#[]⟩, .string ⟨#[]⟩, .bool false, .slice a4 0 n4, .slice a5 0 n5, .slice a6 0 n6, .slice a7 0 n7, .slice a8 0 n8, .slice a9 0 n9, .slice a10 2 n10, .slice a11 0 n11, .slice a12 0 n12, .slice a13 0 n13, .slice a14 0 n14, .int .i64 (-1)] 35) = w1 at *
  go_upto_region 2 with fail
  have hb2 := (Below.refl _ w1).alloc (Nat.le_refl _) (.cells #[.string ⟨#[]⟩, .bool true] 128)
  have HO2 := Lib.hid (row_alloc w1 128 #[.string ⟨#[]⟩, .bool true])
  have HX2 := Lib.hid (HX.out.later hb2)
  have HB2 := Lib.hid (next HB1.out hb2)
  have HLT : Hid (w.heap.size < w1.heap.size) := Lib.hid HX.out.lt
  have HSZ : Hid ((w1.alloc (.cells #[.string ⟨#[]⟩, .bool true] 128)).heap.size = w1.heap.size + 1) := Lib.hid (by simp)
  clear hb2 HX HB1
  generalize w1.alloc (.cells #[.string ⟨#[]⟩, .bool true] 128) = w2 at *
  generalize w1.heap.size = r at *
  have hb := HX2.out.b (n := 16) rfl
  have ho := HX2.out.of
  go_upto_region 3 with fail
  clear hb ho
  have hb3 := (Below.refl _ w2).alloc (Nat.le_refl _) (.cells #[.int .u8 8, .string ⟨#[]⟩, .string ⟨#[]⟩, .bool false, .slice a4 0 n4, .slice a5 0 n5, .slice a6 0 n6, .slice a7 0 n7, .slice a8 0 n8, .slice a9 0 n9, .slice a10 2 n10, .slice a11 0 n11, .slice a12 0 n12, .slice a13 0 n13, .slice a14 0 n14, .int .i64 (-1)] 35)
  have HG3 := Lib.hid (row_alloc w2 35 #[.int .u8 8, .string ⟨#[]⟩, .string ⟨#[]⟩, .bool false, .slice a4 0 n4, .slice a5 0 n5, .slice a6 0 n6, .slice a7 0 n7, .slice a8 0 n8, .slice a9 0 n9, .slice a10 2 n10, .slice a11 0 n11, .slice a12 0 n12, .slice a13 0 n13, .slice a14 0 n14, .int .i64 (-1)])
  have HX3 := Lib.hid (HX2.out.later hb3)
  have HO3 := Lib.hid (HO2.out.later hb3)
  have HB3 := Lib.hid (next HB2.out hb3)
  clear hb3 HX2 HO2 HB2
  generalize w2.alloc (.cells #[.int .u8 8, .string ⟨#[]⟩, .string ⟨#[]⟩, .bool false, .slice a4 0 n4, .slice a5 0 n5, .slice a6 0 n6, .slice a7 0 n7, .slice a8 0 n8, .slice a9 0 n9, .slice a10 2 n10, .slice a11 0 n11, .slice a12 0 n12, .slice a13 0 n13, .slice a14 0 n14, .int .i64 (-1)] 35) = w3 at *
  generalize w2.heap.size = g at *
  have d0 := HG3.out.cell (i := 0) (v := .int .u8 8) rfl
  have f0 := HG3.out.free 0
  have hs := setCell_eq_setRow w3 g 0 _ _ _ (.int .u8 0) HG3.out
  have HD4 : Hid (DP w r g #[.int .u8 8, .string ⟨#[]⟩, .string ⟨#[]⟩, .bool false, .slice a4 0 n4, .slice a5 0 n5, .slice a6 0 n6, .slice a7 0 n7, .slice a8 0 n8, .slice a9 0 n9, .slice a10 2 n10, .slice a11 0 n11, .slice a12 0 n12, .slice a13 0 n13, .slice a14 0 n14, .int .i64 (-1)] #[.int .u8 0, .string ⟨#[]⟩, .string ⟨#[]⟩, .bool false, .slice a4 0 n4, .slice a5 0 n5, .slice a6 0 n6, .slice a7 0 n7, .slice a8 0 n8, .slice a9 0 n9, .slice a10 2 n10, .slice a11 0 n11, .slice a12 0 n12, .slice a13 0 n13, .slice a14 0 n14, .int .i64 (-1)] ⟨⟨#[]⟩, true⟩ (w3.setCell ⟨g, 0, none⟩ (.int .u8 0))) := Lib.hid (by
    have h1 := HLT.out
    have h2 := HSZ.out
    rw [hs]
    exact ⟨(setRow_other _ _ _ _ (by omega)).trans HX3.out, HG3.out.set _, ⟨(setRow_other _ _ _ _ (by omega)).trans HO3.out, below_setRow' HB3.out (by omega) _, by omega⟩, h1, by omega⟩)
  clear hs HG3 HX3 HO3 HB3
  go_upto_region 4 with fail
  clear d0 f0
  generalize w3.setCell ⟨g, 0, none⟩ (.int .u8 0) = w4 at *
  have c0 := HD4.out.x.cell (i := 0) (v := .int .u8 8) rfl
  have hb := HD4.out.x.b (n := 16) rfl
  have ho := HD4.out.x.of
  have HC := Lib.hid (ochoose6W w r a4 a5 a6 a7 a8 a9 a11 a12 a13 a14 a10 n4 n5 n6 n7 n8 n9 n11 n12 n13 n14 n10 w4 HD4.out.ob HSR.out)
  go_wp2_with fail
  refine HC.out.mono ?_
  rintro e5 w5 ⟨rfl, hr5, hg5⟩
  have HD5 := Lib.hid (HD4.out.step hr5 hg5)
  clear hr5 hg5 HC HD4 c0 hb ho
  have d9 := HD5.out.lf.cell (i := 9) (v := .slice a9 0 n9) rfl
  have f9 := HD5.out.lf.free 9
  have d10 := HD5.out.lf.cell (i := 10) (v := .slice a10 2 n10) rfl
  have f10 := HD5.out.lf.free 10
  have d11 := HD5.out.lf.cell (i := 11) (v := .slice a11 0 n11) rfl
  have f11 := HD5.out.lf.free 11
  have d12 := HD5.out.lf.cell (i := 12) (v := .slice a12 0 n12) rfl
  have f12 := HD5.out.lf.free 12
  have d13 := HD5.out.lf.cell (i := 13) (v := .slice a13 0 n13) rfl
  have f13 := HD5.out.lf.free 13
  have d14 := HD5.out.lf.cell (i := 14) (v := .slice a14 0 n14) rfl
  have f14 := HD5.out.lf.free 14
  have d15 := HD5.out.lf.cell (i := 15) (v := .int .i64 (-1)) rfl
  have f15 := HD5.out.lf.free 15
  have hs := setCell_eq_setRow w5 g 9 _ _ _ (.slice none 0 0) HD5.out.lf
  have HD6 : Hid (DP w r g #[.int .u8 8, .string ⟨#[]⟩, .string ⟨#[]⟩, .bool false, .slice a4 0 n4, .slice a5 0 n5, .slice a6 0 n6, .slice a7 0 n7, .slice a8 0 n8, .slice a9 0 n9, .slice a10 2 n10, .slice a11 0 n11, .slice a12 0 n12, .slice a13 0 n13, .slice a14 0 n14, .int .i64 (-1)] #[.int .u8 0, .string ⟨#[]⟩, .string ⟨#[]⟩, .bool false, .slice a4 0 n4, .slice a5 0 n5, .slice a6 0 n6, .slice a7 0 n7, .slice a8 0 n8, .slice none 0 0, .slice a10 2 n10, .slice a11 0 n11, .slice a12 0 n12, .slice a13 0 n13, .slice a14 0 n14, .int .i64 (-1)] w6k (w5.setCell ⟨g, 9, none⟩ (.slice none 0 0))) := Lib.hid (by rw [hs]; exact HD5.out.left _)
  clear hs HD5
  have hs := setCell_eq_setRow (w5.setCell ⟨g, 9, none⟩ (.slice none 0 0)) g 10 _ _ _ (.slice none 0 0) HD6.out.lf
  have HD7 : Hid (DP w r g #[.int .u8 8, .string ⟨#[]⟩, .string ⟨#[]⟩, .bool false, .slice a4 0 n4, .slice a5 0 n5, .slice a6 0 n6, .slice a7 0 n7, .slice a8 0 n8, .slice a9 0 n9, .slice a10 2 n10, .slice a11 0 n11, .slice a12 0 n12, .slice a13 0 n13, .slice a14 0 n14, .int .i64 (-1)] #[.int .u8 0, .string ⟨#[]⟩, .string ⟨#[]⟩, .bool false, .slice a4 0 n4, .slice a5 0 n5, .slice a6 0 n6, .slice a7 0 n7, .slice a8 0 n8, .slice none 0 0, .slice none 0 0, .slice a11 0 n11, .slice a12 0 n12, .slice a13 0 n13, .slice a14 0 n14, .int .i64 (-1)] w6k ((w5.setCell ⟨g, 9, none⟩ (.slice none 0 0)).setCell ⟨g, 10, none⟩ (.slice none 0 0))) := Lib.hid (by rw [hs]; exact HD6.out.left _)
  clear hs HD6
  have hs := setCell_eq_setRow ((w5.setCell ⟨g, 9, none⟩ (.slice none 0 0)).setCell ⟨g, 10, none⟩ (.slice none 0 0)) g 11 _ _ _ (.slice none 0 0) HD7.out.lf
  have HD8 : Hid (DP w r g #[.int .u8 8, .string ⟨#[]⟩, .string ⟨#[]⟩, .bool false, .slice a4 0 n4, .slice a5 0 n5, .slice a6 0 n6, .slice a7 0 n7, .slice a8 0 n8, .slice a9 0 n9, .slice a10 2 n10, .slice a11 0 n11, .slice a12 0 n12, .slice a13 0 n13, .slice a14 0 n14, .int .i64 (-1)] #[.int .u8 0, .string ⟨#[]⟩, .string ⟨#[]⟩, .bool false, .slice a4 0 n4, .slice a5 0 n5, .slice a6 0 n6, .slice a7 0 n7, .slice a8 0 n8, .slice none 0 0, .slice none 0 0, .slice none 0 0, .slice a12 0 n12, .slice a13 0 n13, .slice a14 0 n14, .int .i64 (-1)] w6k (((w5.setCell ⟨g, 9, none⟩ (.slice none 0 0)).setCell ⟨g, 10, none⟩ (.slice none 0 0)).setCell ⟨g, 11, none⟩ (.slice none 0 0))) := Lib.hid (by rw [hs]; exact HD7.out.left _)
  clear hs HD7
  have hs := setCell_eq_setRow (((w5.setCell ⟨g, 9, none⟩ (.slice none 0 0)).setCell ⟨g, 10, none⟩ (.slice none 0 0)).setCell ⟨g, 11, none⟩ (.slice none 0 0)) g 12 _ _ _ (.slice none 0 0) HD8.out.lf
  have HD9 : Hid (DP w r g #[.int .u8 8, .string ⟨#[]⟩, .string ⟨#[]⟩, .bool false, .slice a4 0 n4, .slice a5 0 n5, .slice a6 0 n6, .slice a7 0 n7, .slice a8 0 n8, .slice a9 0 n9, .slice a10 2 n10, .slice a11 0 n11, .slice a12 0 n12, .slice a13 0 n13, .slice a14 0 n14, .int .i64 (-1)] #[.int .u8 0, .string ⟨#[]⟩, .string ⟨#[]⟩, .bool false, .slice a4 0 n4, .slice a5 0 n5, .slice a6 0 n6, .slice a7 0 n7, .slice a8 0 n8, .slice none 0 0, .slice none 0 0, .slice none 0 0, .slice none 0 0, .slice a13 0 n13, .slice a14 0 n14, .int .i64 (-1)] w6k ((((w5.setCell ⟨g, 9, none⟩ (.slice none 0 0)).setCell ⟨g, 10, none⟩ (.slice none 0 0)).setCell ⟨g, 11, none⟩ (.slice none 0 0)).setCell ⟨g, 12, none⟩ (.slice none 0 0))) := Lib.hid (by rw [hs]; exact HD8.out.left _)
  clear hs HD8
  have hs := setCell_eq_setRow ((((w5.setCell ⟨g, 9, none⟩ (.slice none 0 0)).setCell ⟨g, 10, none⟩ (.slice none 0 0)).setCell ⟨g, 11, none⟩ (.slice none 0 0)).setCell ⟨g, 12, none⟩ (.slice none 0 0)) g 13 _ _ _ (.slice none 0 0) HD9.out.lf
  have HD10 : Hid (DP w r g #[.int .u8 8, .string ⟨#[]⟩, .string ⟨#[]⟩, .bool false, .slice a4 0 n4, .slice a5 0 n5, .slice a6 0 n6, .slice a7 0 n7, .slice a8 0 n8, .slice a9 0 n9, .slice a10 2 n10, .slice a11 0 n11, .slice a12 0 n12, .slice a13 0 n13, .slice a14 0 n14, .int .i64 (-1)] #[.int .u8 0, .string ⟨#[]⟩, .string ⟨#[]⟩, .bool false, .slice a4 0 n4, .slice a5 0 n5, .slice a6 0 n6, .slice a7 0 n7, .slice a8 0 n8, .slice none 0 0, .slice none 0 0, .slice none 0 0, .slice none 0 0, .slice none 0 0, .slice a14 0 n14, .int .i64 (-1)] w6k (((((w5.setCell ⟨g, 9, none⟩ (.slice none 0 0)).setCell ⟨g, 10, none⟩ (.slice none 0 0)).setCell ⟨g, 11, none⟩ (.slice none 0 0)).setCell ⟨g, 12, none⟩ (.slice none 0 0)).setCell ⟨g, 13, none⟩ (.slice none 0 0))) := Lib.hid (by rw [hs]; exact HD9.out.left _)
  clear hs HD9
  have hs := setCell_eq_setRow (((((w5.setCell ⟨g, 9, none⟩ (.slice none 0 0)).setCell ⟨g, 10, none⟩ (.slice none 0 0)).setCell ⟨g, 11, none⟩ (.slice none 0 0)).setCell ⟨g, 12, none⟩ (.slice none 0 0)).setCell ⟨g, 13, none⟩ (.slice none 0 0)) g 14 _ _ _ (.slice none 0 0) HD10.out.lf
  have HD11 : Hid (DP w r g #[.int .u8 8, .string ⟨#[]⟩, .string ⟨#[]⟩, .bool false, .slice a4 0 n4, .slice a5 0 n5, .slice a6 0 n6, .slice a7 0 n7, .slice a8 0 n8, .slice a9 0 n9, .slice a10 2 n10, .slice a11 0 n11, .slice a12 0 n12, .slice a13 0 n13, .slice a14 0 n14, .int .i64 (-1)] #[.int .u8 0, .string ⟨#[]⟩, .string ⟨#[]⟩, .bool false, .slice a4 0 n4, .slice a5 0 n5, .slice a6 0 n6, .slice a7 0 n7, .slice a8 0 n8, .slice none 0 0, .slice none 0 0, .slice none 0 0, .slice none 0 0, .slice none 0 0, .slice none 0 0, .int .i64 (-1)] w6k ((((((w5.setCell ⟨g, 9, none⟩ (.slice none 0 0)).setCell ⟨g, 10, none⟩ (.slice none 0 0)).setCell ⟨g, 11, none⟩ (.slice none 0 0)).setCell ⟨g, 12, none⟩ (.slice none 0 0)).setCell ⟨g, 13, none⟩ (.slice none 0 0)).setCell ⟨g, 14, none⟩ (.slice none 0 0))) := Lib.hid (by rw [hs]; exact HD10.out.left _)
  clear hs HD10
  have hs := setCell_eq_setRow ((((((w5.setCell ⟨g, 9, none⟩ (.slice none 0 0)).setCell ⟨g, 10, none⟩ (.slice none 0 0)).setCell ⟨g, 11, none⟩ (.slice none 0 0)).setCell ⟨g, 12, none⟩ (.slice none 0 0)).setCell ⟨g, 13, none⟩ (.slice none 0 0)).setCell ⟨g, 14, none⟩ (.slice none 0 0)) g 15 _ _ _ (.int .i64 0) HD11.out.lf
  have HD12 : Hid (DP w r g #[.int .u8 8, .string ⟨#[]⟩, .string ⟨#[]⟩, .bool false, .slice a4 0 n4, .slice a5 0 n5, .slice a6 0 n6, .slice a7 0 n7, .slice a8 0 n8, .slice a9 0 n9, .slice a10 2 n10, .slice a11 0 n11, .slice a12 0 n12, .slice a13 0 n13, .slice a14 0 n14, .int .i64 (-1)] #[.int .u8 0, .string ⟨#[]⟩, .string ⟨#[]⟩, .bool false, .slice a4 0 n4, .slice a5 0 n5, .slice a6 0 n6, .slice a7 0 n7, .slice a8 0 n8, .slice none 0 0, .slice none 0 0, .slice none 0 0, .slice none 0 0, .slice none 0 0, .slice none 0 0, .int .i64 0] w6k (((((((w5.setCell ⟨g, 9, none⟩ (.slice none 0 0)).setCell ⟨g, 10, none⟩ (.slice none 0 0)).setCell ⟨g, 11, none⟩ (.slice none 0 0)).setCell ⟨g, 12, none⟩ (.slice none 0 0)).setCell ⟨g, 13, none⟩ (.slice none 0 0)).setCell ⟨g, 14, none⟩ (.slice none 0 0)).setCell ⟨g, 15, none⟩ (.int .i64 0))) := Lib.hid (by rw [hs]; exact HD11.out.left _)
  clear hs HD11
  go_upto_region 91 with fail
  clear d9 d10 d11 d12 d13 d14 d15 f9 f10 f11 f12 f13 f14 f15
  generalize ((((((w5.setCell ⟨g, 9, none⟩ (.slice none 0 0)).setCell ⟨g, 10, none⟩ (.slice none 0 0)).setCell ⟨g, 11, none⟩ (.slice none 0 0)).setCell ⟨g, 12, none⟩ (.slice none 0 0)).setCell ⟨g, 13, none⟩ (.slice none 0 0)).setCell ⟨g, 14, none⟩ (.slice none 0 0)).setCell ⟨g, 15, none⟩ (.int .i64 0) = w9 at *
  have hz9 : ¬ (4096 : Int) < (w6k.s.size : Int) := by have := k6k.2; omega
  have o0 := (show Row r 128 #[.string w6k.s, .bool w6k.ok] w9 from HD12.out.ob.row).cell (i := 0) (v := .string w6k.s) rfl
  have o1 := (show Row r 128 #[.string w6k.s, .bool w6k.ok] w9 from HD12.out.ob.row).cell (i := 1) (v := .bool w6k.ok) rfl
  rw [k6k.1] at o1
  have hb := HD12.out.lf.b (n := 16) rfl
  have ho := HD12.out.lf.of
  have HC := Lib.hid (emptyW a4 a5 a6 a7 a8 none none none none none none n4 n5 n6 n7 n8 0 0 0 0 0 0 w9)
  go_wp2_with fail
  refine HC.out.mono ?_
  rintro e10 w10 ⟨rfl, hb10⟩
  have HBZ := Lib.hid (HD12.out.ob.hb.trans (hb10.mono HD12.out.ob.hb.size))
  have p0 := (hb10.cell (cell_lt o0)).trans o0
  clear hb10 o0 o1 hb ho HC HD12
  go_wp2_with fail
  go_ret2
  exact ⟨rfl, HBZ.out⟩
end Go.Proofs.YtjgkeillmelkoaaGreat.Dt
