/-
  The walk of lex.Write: tokens as they are written.
-/
import Derived.Test.YtghfaeapgghhlaaDoorLexOne
import Derived.Test.YtghfaeapgghhlaaDoorLexToken
import Derived.Test.YtghfaeapgghhlaaDoorLexEq
import Derived.Test.YtghfaeapgghhlaaDoorLexLong
import Derived.Test.YtghfaeapgghhlaaDoorShelf
namespace Go.Proofs.YtghfaeapgghhlaaDoor.Dt
open Go.RowKit Go.Proofs.YtghfaeapgghhlaaDoor.By

/-- A token's text. -/
def sT (t : Tk) : ByteArray := ⟨(textT t).toArray⟩
theorem sT_list (t : Tk) : (sT t).data.toList = textT t := rfl
theorem sT_size (t : Tk) : (sT t).size = (textT t).length := rfl
theorem joinL_join : ∀ l : List (List UInt8), joinL l = Lib.join l [32]
  | [] => rfl
  | [x] => (Lib.join_one x [32]).symm
  | x :: y :: l => by
    show x ++ 32 :: joinL (y :: l) = _
    rw [joinL_join (y :: l), Lib.join_cons, Lib.join_cons]
    simp [Lib.joinTail]
theorem joinW (v : Value) (l : List ByteArray) (w : World) (h : SsAt w v l) (hl : (joinL (l.map (·.data.toList))).length ≤ 140737488355328) (hn : l.length ≤ 1000000) :
    Calls Tryd.prog 56 #[v, .string ⟨#[32]⟩] w fun e w' => e = .returned (str (joinL (l.map (·.data.toList)))) ∧ Below w.heap.size w w' := by
  obtain ⟨a, c, rfl, hc, hx⟩ := h
  cases l with
  | nil => exact (Tryd.strings_Join_none a c _ w).mono fun _ _ ⟨h1, h2⟩ => ⟨h1, h2 ▸ Below.refl _ _⟩
  | cons x l =>
    obtain ⟨b, o, rfl, h0⟩ := hx 0 x rfl
    rw [joinL_join] at hl ⊢
    refine (Tryd.strings_Join b o c (x :: l) ⟨#[32]⟩ w (fun j y hy => ?_) (cell_lt (h0 0 _ rfl)) (by omega) hc hl).mono fun _ _ ⟨h1, h2⟩ => ⟨h1, h2⟩
    obtain ⟨b', o', e', h1⟩ := hx j y hy
    cases e'
    have := h1 0 _ rfl
    simpa using this
theorem out_iff (o : One) (ts : ByteArray) (tk tn n : Nat) (ta : Int) : o = .tok tk ts.data.toList tn n ↔ ((outT o).2 = 0 ∧ lenO o = n ∧ (⟨(outT o).1.k, (outT o).1.s, (outT o).1.n, ta⟩ : Tk) = ⟨tk, ts, tn, ta⟩) ∧ ∃ k s m j, o = .tok k s m j := by
  cases o with
  | tok k s m j =>
    simp only [outT, lenO, One.tok.injEq, Tk.mk.injEq, true_and, and_true]
    constructor
    · rintro ⟨rfl, rfl, rfl, rfl⟩
      exact ⟨⟨rfl, rfl, ByteArray.ext Array.toArray_toList, rfl⟩, k, _, m, j, rfl, rfl, rfl, rfl⟩
    · rintro ⟨⟨rfl, rfl, rfl, rfl⟩, _⟩
      exact ⟨rfl, rfl, rfl, rfl⟩
  | bad e m => simp
theorem write_bad {l : List Tk} {t : Tk} (ht : t ∈ l) (h : ¬ okT t) : writeL l = ([], 2) := by
  unfold writeL
  rw [if_neg (fun a => h (a t ht))]
theorem write_ok {l : List Tk} (h : ∀ t ∈ l, okT t) : writeL l = (joinL (l.map textT), 0) := by
  unfold writeL
  rw [if_pos h]
set_option maxRecDepth 100000 in
set_option maxHeartbeats 16000000 in
theorem writeW (rv : Value) (l : List Tk) (w : World) (hw : LX w) (h : TksAt w rv l) (ho : ∀ t ∈ l, t.n < 18446744073709551616) (hl : l.length ≤ 1000000) :
    Calls Tryd.prog 28 #[rv] w fun e w' => e = .returned (.tuple #[str (writeL l).1, .int .i64 ((writeL l).2 : Int)]) ∧ Below w.heap.size w w' := by
  obtain ⟨ar, cr, rfl⟩ := h.shape
  have HROW := Lib.hid h
  have HC := Lib.hid (tks_cap2 h).2
  have HL := Lib.hid hl
  have HX := Lib.hid hw
  have HO := Lib.hid ho
  clear h hl hw ho
  obtain ⟨R, hR⟩ : ∃ R, R = writeL l := ⟨_, rfl⟩
  rw [← hR]
  have HR := Lib.hid hR
  clear hR
  go_enter Tryd.func28, Tryd.ntmps28
  go_wp2_with fail
  go_loopg [4, 13] l.length (fun gk ov iv wr => ∃ k : Nat, iv = .int .i64 (k : Int) ∧ gk = l.length - k ∧ k ≤ l.length ∧ Hid (Below w.heap.size w wr) ∧ Hid (OwnS wr w.heap.size ov ((l.take k).map sT)) ∧ Hid (∀ t ∈ l.take k, okT t))
  case atStart => exact ⟨0, rfl, rfl, Nat.zero_le _, Lib.hid (Below.refl _ _), Lib.hid (OwnS.nil _ _), Lib.hid (by simp)⟩
  case round =>
    obtain ⟨k, rfl, rfl, hkl, HBEL, HOWN, HALL⟩ := hrel
    obtain ⟨ao, co, rfl⟩ := HOWN.out.shape
    have hlen : ((l.take k).map sT).length = k := by rw [List.length_map, List.length_take]; omega
    rw [hlen] at HOWN ⊢
    have HLEN := Lib.hid hlen
    clear hlen
    by_cases hlt : k < l.length
    · obtain ⟨t, hy⟩ : ∃ t, l[k]? = some t := ⟨l[k], by simp⟩
      have ilt : (k : Int) < (l.length : Int) := by omega
      have icp : (k : Int) < (cr : Int) := by have := HC.out; omega
      have HLT := Lib.hid hlt
      have hmem : t ∈ l := List.mem_of_getElem? hy
      have HMEM := Lib.hid hmem
      have HTK : Hid (l.take (k + 1) = l.take k ++ [t]) := Lib.hid (by
        have e : l[k] = t := by rw [List.getElem?_eq_getElem hlt] at hy; exact Option.some.inj hy
        rw [List.take_succ_eq_append_getElem hlt]; exact congrArg (fun x => l.take k ++ [x]) e)
      have HN := Lib.hid (HO.out t hmem)
      obtain ⟨b, o, rfl, hbz, d0, d1, d2, d3⟩ := at4 (HROW.out.below HBEL.out) hy
      have hbn : Below wr.heap.size wr (wr.alloc (.cells #[.int .u8 (t.k : Int), .string t.s, .int .u64 (t.n : Int), .int .i64 t.a] 48)) := (Below.refl _ _).alloc (Nat.le_refl _) _
      have HBN := Lib.hid (next HBEL.out hbn)
      have HON := Lib.hid (HOWN.out.below hbn)
      obtain ⟨S, hS⟩ : ∃ S, S = sT t := ⟨_, rfl⟩
      have HS := Lib.hid hS
      have HONE : Hid (t.s.size ≤ 1000 → ∀ W, LX W → Calls Tryd.prog 55 #[.agg #[.int .u8 (t.k : Int), .string t.s, .int .u64 (t.n : Int), .int .i64 t.a]] W fun e w' => e = .returned (.string S) ∧ Below W.heap.size W w') := Lib.hid (fun hs W hW => by rw [hS]; exact lexOneW t.k t.n t.s t.a W hW.toLW HN.out hs)
      have HBAD : Hid (¬ okT t → R = ([], 2)) := Lib.hid (fun h => by rw [HR.out]; exact write_bad hmem h)
      have HOKT : Hid (okT t ↔ S.data.toList ≠ [] ∧ t.s.size ≤ 1000 ∧ oneL S.data.toList = .tok t.k t.s.data.toList t.n S.size) := Lib.hid (by rw [hS]; exact Iff.rfl)
      have HSZ : Hid (t.s.size ≤ 1000 → S.size ≤ 2003) := Lib.hid (fun hs => by rw [hS]; exact textT_len hs HN.out)
      obtain ⟨tk, ts, tn, ta⟩ := t
      clear hy hlt hkl hbz hbn hmem hS
      go_upto_region 5 with fail
      have y0 : (wr.alloc (.cells #[.int .u8 (tk : Int), .string ts, .int .u64 (tn : Int), .int .i64 ta] 48)).cell? ⟨wr.heap.size, 0, none⟩ = some (.int .u8 (tk : Int)) := by go_simp
      have y1 : (wr.alloc (.cells #[.int .u8 (tk : Int), .string ts, .int .u64 (tn : Int), .int .i64 ta] 48)).cell? ⟨wr.heap.size, 1, none⟩ = some (.string ts) := by go_simp
      have y2 : (wr.alloc (.cells #[.int .u8 (tk : Int), .string ts, .int .u64 (tn : Int), .int .i64 ta] 48)).cell? ⟨wr.heap.size, 2, none⟩ = some (.int .u64 (tn : Int)) := by go_simp
      have y3 : (wr.alloc (.cells #[.int .u8 (tk : Int), .string ts, .int .u64 (tn : Int), .int .i64 ta] 48)).cell? ⟨wr.heap.size, 3, none⟩ = some (.int .i64 ta) := by go_simp
      clear d0 d1 d2 d3
      generalize wr.alloc (.cells #[.int .u8 (tk : Int), .string ts, .int .u64 (tn : Int), .int .i64 ta] 48) = w4 at *
      generalize wr.heap.size = bt at *
      have HY := Lib.hid (And.intro y0 (And.intro y1 (And.intro y2 y3)))
      simp only at HONE HOKT HSZ HN
      by_cases hs : 1000 < ts.size
      · have es : (1000 : Int) < (ts.size : Int) := by omega
        have HRS : Hid (R = ([], 2)) := Lib.hid (HBAD.out (fun h => by have h1 := h.2.1; simp only at h1; omega))
        clear hs
        go_wp2_with fail
        go_ret2
        exact ⟨by rw [HRS.out]; rfl, HBN.out⟩
      have es : ¬ (1000 : Int) < (ts.size : Int) := by omega
      have HS1 : Hid (ts.size ≤ 1000) := Lib.hid (by omega)
      clear hs
      go_upto_region 7 with fail
      clear es
      go_wp2_with fail
      refine (HONE.out HS1.out w4 (HX.out.later HBN.out)).mono ?_
      rintro e w5 ⟨rfl, hb5⟩
      have HB5 := Lib.hid (next HBN.out hb5)
      have HO5 := Lib.hid (HON.out.below hb5)
      have HY5 : Hid (w5.cell? ⟨bt, 0, none⟩ = some (.int .u8 (tk : Int)) ∧ w5.cell? ⟨bt, 1, none⟩ = some (.string ts) ∧ w5.cell? ⟨bt, 2, none⟩ = some (.int .u64 (tn : Int)) ∧ w5.cell? ⟨bt, 3, none⟩ = some (.int .i64 ta)) := Lib.hid ⟨(hb5.cell (cell_lt y0)).trans y0, (hb5.cell (cell_lt y1)).trans y1, (hb5.cell (cell_lt y2)).trans y2, (hb5.cell (cell_lt y3)).trans y3⟩
      clear y0 y1 y2 y3 hb5 HY
      have hr0 : RD w5.heap.size S 0 (w5.alloc (.cells #[.string S, .int .i64 0] 84)) := by constructor <;> (simp; try go_simp)
      have hb6 : Below w5.heap.size w5 (w5.alloc (.cells #[.string S, .int .i64 0] 84)) := (Below.refl _ _).alloc (Nat.le_refl _) _
      have HRD := Lib.hid hr0
      have HB6 := Lib.hid (next HB5.out hb6)
      have HO6 := Lib.hid (HO5.out.below hb6)
      have HNB : Hid ((Value.slice ao k co).ownBlock ≠ some w5.heap.size) := Lib.hid (fun e => Nat.lt_irrefl _ (World.ownsRow.lt HO5.out _ e).2)
      have HRW : Hid (w.heap.size ≤ w5.heap.size ∧ bt < w5.heap.size) := Lib.hid ⟨HB5.out.size, cell_lt HY5.out.1⟩
      have HY6 : Hid ((w5.alloc (.cells #[.string S, .int .i64 0] 84)).cell? ⟨bt, 0, none⟩ = some (.int .u8 (tk : Int)) ∧ (w5.alloc (.cells #[.string S, .int .i64 0] 84)).cell? ⟨bt, 1, none⟩ = some (.string ts) ∧ (w5.alloc (.cells #[.string S, .int .i64 0] 84)).cell? ⟨bt, 2, none⟩ = some (.int .u64 (tn : Int)) ∧ (w5.alloc (.cells #[.string S, .int .i64 0] 84)).cell? ⟨bt, 3, none⟩ = some (.int .i64 ta)) := Lib.hid ⟨(hb6.cell (cell_lt HY5.out.1)).trans HY5.out.1, (hb6.cell (cell_lt HY5.out.2.1)).trans HY5.out.2.1, (hb6.cell (cell_lt HY5.out.2.2.1)).trans HY5.out.2.2.1, (hb6.cell (cell_lt HY5.out.2.2.2)).trans HY5.out.2.2.2⟩
      clear hr0 hb6 HO5 HY5
      go_upto_region 9 with fail
      generalize w5.alloc (.cells #[.string S, .int .i64 0] 84) = w6 at *
      obtain ⟨r, hr⟩ : ∃ r, r = w5.heap.size := ⟨_, rfl⟩
      rw [← hr] at HRD HNB HRW ⊢
      clear hr
      by_cases hS0 : S = ⟨#[]⟩
      · subst hS0
        have HRS : Hid (R = ([], 2)) := Lib.hid (HBAD.out (fun h => (HOKT.out.1 h).1 rfl))
        go_wp2_with fail
        go_ret2
        exact ⟨by rw [HRS.out]; rfl, HB6.out⟩
      have hSl : S.data.toList ≠ [] := fun e => hS0 (ByteArray.ext (by rw [← Array.toArray_toList (xs := S.data), e]))
      have es1 : (S.toList == []) = false := by rw [ByteArray.toList_eq]; simpa using hSl
      have es2 : (S.toList == (⟨#[]⟩ : ByteArray).toList) = false := by rw [str_eq]; simpa using hS0
      have HSL := Lib.hid hSl
      have HSP : Hid (0 < S.size) := Lib.hid (by rw [← bytes_list]; exact List.length_pos_iff.2 hSl)
      clear hS0 hSl
      go_upto_region 11 with fail
      clear es1 es2
      go_wp2_with fail
      refine (tokenW w r S 0 w6 ⟨HX.out, HB6.out, HRW.out.1⟩ HRD.out (by have := HSZ.out HS1.out; omega) HSP.out).mono ?_
      rintro e w7 ⟨he, hr7, hg7⟩
      rw [List.drop_zero, Nat.zero_add] at hr7
      rw [List.drop_zero] at he
      have HB7 := Lib.hid (grown_below HB6.out HRW.out.1 hg7 HB6.out.size)
      have HO7 : Hid (OwnS w7 w.heap.size (.slice ao k co) ((l.take k).map sT)) := Lib.hid (World.ownsRow.kept HO6.out hg7 (.inr HNB.out))
      have hY : ∀ i, w7.cell? ⟨bt, i, none⟩ = w6.cell? ⟨bt, i, none⟩ := fun i => cell_grown hg7 (cell_lt HY6.out.1) (fun e => by have h2 := HRW.out.2; have h3 : r = bt := Option.some.inj e; omega) i
      have HY7 : Hid (w7.cell? ⟨bt, 0, none⟩ = some (.int .u8 (tk : Int)) ∧ w7.cell? ⟨bt, 1, none⟩ = some (.string ts) ∧ w7.cell? ⟨bt, 2, none⟩ = some (.int .u64 (tn : Int)) ∧ w7.cell? ⟨bt, 3, none⟩ = some (.int .i64 ta)) := Lib.hid ⟨(hY 0).trans HY6.out.1, (hY 1).trans HY6.out.2.1, (hY 2).trans HY6.out.2.2.1, (hY 3).trans HY6.out.2.2.2⟩
      have HR7 := Lib.hid hr7
      clear hY hr7 hg7 HY6 HO6 HRD HNB
      obtain ⟨p, hp⟩ : ∃ p, p = lenO (oneL S.data.toList) := ⟨_, rfl⟩
      obtain ⟨U, hU⟩ : ∃ U, U = outT (oneL S.data.toList) := ⟨_, rfl⟩
      have hbadc : (∀ k s n m, oneL S.data.toList ≠ .tok k s n m) → U.2 ≠ 0 := by
        intro hno
        rw [hU]
        cases ho : oneL S.data.toList with
        | tok k s n m => exact absurd ho (hno k s n m)
        | bad er m => exact (one_bad HSL.out ho).2
      have hiff : okT ⟨tk, ts, tn, ta⟩ ↔ (U.2 = 0 ∧ p = S.size ∧ (⟨U.1.k, U.1.s, U.1.n, ta⟩ : Tk) = ⟨tk, ts, tn, ta⟩) := by
        rw [HOKT.out, out_iff (oneL S.data.toList) ts tk tn S.size ta, ← hU, ← hp]
        constructor
        · rintro ⟨_, _, h, _⟩; exact h
        · intro h
          refine ⟨HSL.out, HS1.out, h, ?_⟩
          exact Classical.byContradiction fun hn => hbadc (fun k s n m e => hn ⟨k, s, n, m, e⟩) h.1
      rw [outV_eq, ← hU] at he
      rw [← hp] at HR7
      clear hp hU hbadc HOKT HONE HSZ
      obtain ⟨⟨uk, us, un, ua⟩, code⟩ := U
      simp only at he hiff
      subst he
      obtain ⟨B, hB⟩ : ∃ B, B = decide (¬ okT ⟨tk, ts, tn, ta⟩) := ⟨_, rfl⟩
      have HBB : Hid (B = decide (¬ (code = 0 ∧ p = S.size ∧ (⟨uk, us, un, ta⟩ : Tk) = ⟨tk, ts, tn, ta⟩))) := Lib.hid (by rw [hB]; exact decide_eq_decide.2 (not_congr hiff))
      have HBT : Hid (B = true → R = ([], 2)) := Lib.hid (fun h => HBAD.out (of_decide_eq_true (hB ▸ h)))
      have HBF : Hid (B = false → okT ⟨tk, ts, tn, ta⟩) := Lib.hid (fun h => Classical.byContradiction (of_decide_eq_false (hB ▸ h)))
      clear hB hiff
      have hb8 : Below w7.heap.size w7 (w7.alloc (.cells #[.int .u8 (uk : Int), .string us, .int .u64 (un : Int), .int .i64 ua] 48)) := (Below.refl _ _).alloc (Nat.le_refl _) _
      have hb9 : Below w7.heap.size w7 ((w7.alloc (.cells #[.int .u8 (uk : Int), .string us, .int .u64 (un : Int), .int .i64 ua] 48)).setCell ⟨w7.heap.size, 3, none⟩ (.int .i64 ta)) := below_set hb8 (Nat.le_refl _)
      have HB9 := Lib.hid (next HB7.out hb9)
      have HO9 := Lib.hid (HO7.out.below hb9)
      have HR9 := Lib.hid (HR7.out.later hb9)
      have y3 := (hb8.cell (cell_lt HY7.out.2.2.2)).trans HY7.out.2.2.2
      have HY9 := Lib.hid (And.intro ((hb9.cell (cell_lt HY7.out.1)).trans HY7.out.1) (And.intro ((hb9.cell (cell_lt HY7.out.2.1)).trans HY7.out.2.1) (And.intro ((hb9.cell (cell_lt HY7.out.2.2.1)).trans HY7.out.2.2.1) ((hb9.cell (cell_lt HY7.out.2.2.2)).trans HY7.out.2.2.2))))
      clear hb8 hb9
      go_upto_region 12 with fail
      have g0 : (w7.alloc (.cells #[.int .u8 (uk : Int), .string us, .int .u64 (un : Int), .int .i64 ua] 48)).cell? ⟨w7.heap.size, 0, none⟩ = some (.int .u8 (uk : Int)) := by go_simp
      have g1 : (w7.alloc (.cells #[.int .u8 (uk : Int), .string us, .int .u64 (un : Int), .int .i64 ua] 48)).cell? ⟨w7.heap.size, 1, none⟩ = some (.string us) := by go_simp
      have g2 : (w7.alloc (.cells #[.int .u8 (uk : Int), .string us, .int .u64 (un : Int), .int .i64 ua] 48)).cell? ⟨w7.heap.size, 2, none⟩ = some (.int .u64 (un : Int)) := by go_simp
      have g3 : (w7.alloc (.cells #[.int .u8 (uk : Int), .string us, .int .u64 (un : Int), .int .i64 ua] 48)).cell? ⟨w7.heap.size, 3, none⟩ = some (.int .i64 ua) := by go_simp
      have q3 : (w7.alloc (.cells #[.int .u8 (uk : Int), .string us, .int .u64 (un : Int), .int .i64 ua] 48)).frozen? ⟨w7.heap.size, 3, none⟩ = false := by go_simp
      generalize w7.alloc (.cells #[.int .u8 (uk : Int), .string us, .int .u64 (un : Int), .int .i64 ua] 48) = w8 at *
      generalize w7.heap.size = bu at *
      have HG0 := Lib.hid g0
      have HG1 := Lib.hid g1
      have HG2 := Lib.hid g2
      clear g0 g1 g2
      go_upto_region 13 with fail
      have z0 : (w8.setCell ⟨bu, 3, none⟩ (.int .i64 ta)).cell? ⟨bu, 0, none⟩ = some (.int .u8 (uk : Int)) := (set_else3 _ bu 3 0 _ (by decide)).trans HG0.out
      have z1 : (w8.setCell ⟨bu, 3, none⟩ (.int .i64 ta)).cell? ⟨bu, 1, none⟩ = some (.string us) := (set_else3 _ bu 3 1 _ (by decide)).trans HG1.out
      have z2 : (w8.setCell ⟨bu, 3, none⟩ (.int .i64 ta)).cell? ⟨bu, 2, none⟩ = some (.int .u64 (un : Int)) := (set_else3 _ bu 3 2 _ (by decide)).trans HG2.out
      have z3 : (w8.setCell ⟨bu, 3, none⟩ (.int .i64 ta)).cell? ⟨bu, 3, none⟩ = some (.int .i64 ta) := set_same3 w8 ⟨bu, 3, none⟩ _ _ g3
      clear g3 q3 y3
      generalize w8.setCell ⟨bu, 3, none⟩ (.int .i64 ta) = w9 at *
      have HZ := Lib.hid (And.intro z0 (And.intro z1 (And.intro z2 z3)))
      clear z0 z1 z2 z3 HG0 HG1 HG2
      go_cut [51] (fun v wx => v = .bool B ∧ Hid (Below w9.heap.size w9 wx))
      case first =>
        obtain ⟨c0, c1, c2⟩ := HR9.out
        by_cases hc : code = 0
        · by_cases hp : p = S.size
          · obtain ⟨z0, z1, z2, z3⟩ := HZ.out
            obtain ⟨y0, y1, y2, y3⟩ := HY9.out
            have hq : ∀ W, (binOp .neq 48 (.agg #[.int .u8 (uk : Int), .string us, .int .u64 (un : Int), .int .i64 ta]) (.agg #[.int .u8 (tk : Int), .string ts, .int .u64 (tn : Int), .int .i64 ta])).run Tryd.prog W = .ok (.bool B) W := neq_toldT ⟨uk, us, un, ta⟩ ⟨tk, ts, tn, ta⟩ B (by rw [HBB.out]; simp [hc, hp])
            subst hc hp
            go_wp2_with fail
            go_meet
            exact ⟨rfl, Lib.hid (Below.refl _ _)⟩
          · obtain rfl : B = true := by rw [HBB.out]; simp [hp]
            have e1 : ((p : Int) == (S.size : Int)) = false := by first | (simp; done) | (simp; omega)
            have e2 : ((p : Int) != (S.size : Int)) = true := by first | (simp; done) | (simp; omega)
            subst hc
            clear hp
            go_wp2_with fail
            go_meet
            exact ⟨rfl, Lib.hid (Below.refl _ _)⟩
        · obtain rfl : B = true := by rw [HBB.out]; simp [hc]
          have e1 : ((code : Int) == 0) = false := by first | (simp; done) | (simp; omega)
          have e2 : ((code : Int) != 0) = true := by first | (simp; done) | (simp; omega)
          clear hc
          go_wp2_with fail
          go_meet
          exact ⟨rfl, Lib.hid (Below.refl _ _)⟩
      case rest =>
        rename World => w10
        obtain ⟨rfl, hb10⟩ := hcut
        have HB10 := Lib.hid (next HB9.out hb10.out)
        have HO10 := Lib.hid (HO9.out.below hb10.out)
        clear hb10 HB9 HO9 HR9 HY9 HZ
        cases B with
        | true =>
          have HRS := Lib.hid (HBT.out rfl)
          go_wp2_with fail
          go_ret2
          exact ⟨by rw [HRS.out]; rfl, HB10.out⟩
        | false =>
          have HOK := Lib.hid (HBF.out rfl)
          have HKK : Hid (wrap64 ((k : Int) + 1) = ((k + 1 : Nat) : Int)) := Lib.hid (by have h1 := HLT.out; have h2 := HL.out; unfold wrap64; omega)
          have HKX : Hid (k ≤ 1000000) := Lib.hid (by have h1 := HLT.out; have h2 := HL.out; omega)
          have HSRC := Lib.hid (reads_S w10 w.heap.size S HB10.out.size _ rfl)
          go_wp2_with (at_builtin; refine wpList_append_reads rfl (.tmp 52) (.tmp 54) 36 rfl w.heap.size 9 1 16 elS _ ((l.take k).map sT).length (ssCells ((l.take k).map sT)) rfl (World.ownsRow.alloc HO10.out _) _ 1 _ rfl HSRC.out (by simp [Value.oneCell']) (by have h1 := HKX.out; rw [HLEN.out]; unfold maxLen; omega) (by have h1 := HKX.out; rw [HLEN.out]; omega) (by have := HB10.out.size; simp; omega) ?_; intro v' w11 hown11 hgrow11 hbel11; have HB11 := Lib.hid ((HB10.out.alloc HB10.out.size (.cells #[.string S] 9)).trans hbel11); have HO11 : Hid (OwnS w11 w.heap.size v' ((l.take (k + 1)).map sT)) := Lib.hid (by have h := OwnS.snoc hown11; rw [HTK.out, List.map_append]; rw [HS.out] at h; exact h); clear hown11 hgrow11 hbel11)
          go_roundg (l.length - (k + 1))
          case measure => exact Nat.sub_lt_sub_left HLT.out (Nat.lt_succ_self _)
          case rel =>
            refine ⟨k + 1, by first | exact congrArg (Value.int .i64) HKK.out | (simp; done) | (simp; exact HKK.out), rfl, HLT.out, HB11, HO11, Lib.hid ?_⟩
            rw [HTK.out]
            intro x hx
            rcases List.mem_append.1 hx with h | h
            · exact HALL.out x h
            · simp at h; subst h; exact HOK.out
    · obtain rfl : k = l.length := by omega
      have i1 : ¬ (l.length : Int) < (l.length : Int) := by omega
      have hall := HALL.out
      have hown := HOWN.out
      rw [List.take_length] at hall hown
      have HRS : Hid (R = (joinL (l.map textT), 0)) := Lib.hid (by rw [HR.out]; exact write_ok hall)
      have hmm : (l.map sT).map (·.data.toList) = l.map textT := by rw [List.map_map]; rfl
      have hj := joinW (.slice ao l.length co) (l.map sT) wr hown.at_ (by
        rw [hmm]
        have h1 := joinL_len (l.map textT) (fun x hx => by
          obtain ⟨t, ht, rfl⟩ := List.mem_map.1 hx
          exact textT_len (hall t ht).2.1 (HO.out t ht))
        rw [List.length_map] at h1
        have := HL.out
        omega) (by rw [List.length_map]; exact HL.out)
      rw [hmm] at hj
      have HJ := Lib.hid hj
      clear hlt hkl hall hown hmm hj
      go_wp2_with fail
      refine HJ.out.mono ?_
      rintro e w2 ⟨rfl, hb2⟩
      have HB2 := Lib.hid (next HBEL.out hb2)
      clear hb2
      go_wp2_with fail
      go_ret2
      exact ⟨by rw [HRS.out]; rfl, HB2.out⟩
end Go.Proofs.YtghfaeapgghhlaaDoor.Dt
