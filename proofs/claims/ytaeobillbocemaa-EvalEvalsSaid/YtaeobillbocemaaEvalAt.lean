/-
  The walk of the reference's At (no groups) and Eval.
-/
import Derived.Test.YtaeobillbocemaaEvalDo
import Derived.Test.YtaeobillbocemaaEvalMayR
import Derived.Test.YtaeobillbocemaaWalkRow
namespace Go.Proofs.Ytaeobillbocemaa.Dt
open Go.RowKit Go.Proofs.Ytaeobillbocemaa.By

set_option maxRecDepth 100000 in
set_option maxHeartbeats 8000000 in
theorem refAt (rv : Value) (row : List V) (hrok : ∀ v ∈ row, v.ok) (hrl : row.length ≤ 140737488351232) : ∀ (x : Ex) (w : World), x.In w → x.Ok → VsAt w rv row → mayB (row.length : Int) false x = true →
    Calls Try.prog 34 #[x.val, rv, .slice none 0 0] w fun e w' => e = .returned (resV (walkS (rowCol row) noGrp x)) ∧ Below w.heap.size w w' := by
  refine Ex.ind fun x ih w hin hok hrow hm => ?_
  obtain ⟨hsh, hgr, hkids⟩ := may_parts hm
  obtain ⟨⟨ho1, ho2⟩, hkb, _, hcolr⟩ := shaped_parts hsh
  rw [Ex.in_iff] at hin
  rw [Ex.ok_iff] at hok
  obtain ⟨hat, hkin⟩ := hin
  obtain ⟨hone, hkok⟩ := hok
  have heq := walkS_all (rowCol row) noGrp x
  clear hm hsh
  obtain ⟨op, v, t, m, n, kv, ks⟩ := x
  simp only [Ex.op_mk, Ex.v_mk, Ex.t_mk, Ex.m_mk, Ex.n_mk, Ex.kv_mk, Ex.kids_mk, Ex.okOne] at hat hkin hkok hone ih heq ho1 ho2 hkb hcolr hgr hkids
  obtain ⟨R0, hR0⟩ : ∃ R0, R0 = walkS (rowCol row) noGrp (.mk op v t m n kv ks) := ⟨_, rfl⟩
  rw [← hR0] at heq ⊢
  clear hR0
  simp only [Ex.val, Ex.op_mk, Ex.v_mk, Ex.t_mk, Ex.m_mk, Ex.n_mk, Ex.kv_mk]
  obtain ⟨a, c, rfl⟩ := hat.shape
  obtain ⟨ar, cr, rfl⟩ := hrow.shape
  obtain ⟨hop, hv, ht, hmm, hn1, hn2, hkl⟩ := hone
  have HAT := Lib.hid hat; clear hat
  have HKI := Lib.hid hkin; clear hkin
  have HKO := Lib.hid hkok; clear hkok
  have IH := Lib.hid ih; clear ih
  have HX1 := Lib.hid heq; clear heq
  have HV := Lib.hid hv; clear hv
  have HROW := Lib.hid hrow; clear hrow
  have hrok' := Lib.hid (And.intro hrok hrl)
  by_cases c1 : op = 1
  · subst c1
    have hr : R0 = (v, 0) := HX1.out.1 rfl
    subst hr
    clear hrok hrl
    go_enter Try.func34, Try.ntmps34
    go_wp2_with fail
    refine bodyPost_ret (v := .tuple #[v.val, .int .i64 0]) (by simp [results, Try.results34, go_sem]) rfl ⟨rfl, ?_⟩
    go_grown
  have e1 : ((op : Int) == 1) = false := by simp; omega
  by_cases c2 : op = 2
  · subst c2
    obtain ⟨hc0, hc1⟩ := hcolr rfl
    have hr : R0 = (rowCol row n, 0) := HX1.out.2.1 rfl
    subst hr
    obtain ⟨k, rfl, hk⟩ := row_get hc0 hc1
    obtain ⟨X, hX⟩ : ∃ X, X = rowCol row (k : Int) := ⟨_, rfl⟩
    rw [show row.getD ((k : Int)).toNat nullV = X from hX.symm] at hk
    rw [← hX]
    obtain ⟨b, o, rfl, hbz, d0, d1, d2⟩ := at3 HROW.out hk
    clear hX hk hrok hrl
    go_enter Try.func34, Try.ntmps34
    go_wp2_with fail
    refine bodyPost_ret (v := .tuple #[X.val, .int .i64 0]) (by simp [results, Try.results34, go_sem]) rfl ⟨rfl, ?_⟩
    go_grown
  have e2 : ((op : Int) == 2) = false := by simp; omega
  have hbA : Below w.heap.size w ((w.alloc (.cells #[.int .u8 (op : Int), .int .u8 (v.k : Int), .int .i64 v.n, .string v.s, .string t, .string m, .int .i64 n, .slice a ks.length c] 26)).alloc (.cells #[.int .u8 0, .int .i64 0, .string ⟨#[]⟩] 23)) := by go_grown
  have hrb := resBox_new (w.alloc (.cells #[.int .u8 (op : Int), .int .u8 (v.k : Int), .int .i64 v.n, .string v.s, .string t, .string m, .int .i64 n, .slice a ks.length c] 26)) 23
  rw [show (w.alloc (.cells #[.int .u8 (op : Int), .int .u8 (v.k : Int), .int .i64 v.n, .string v.s, .string t, .string m, .int .i64 n, .slice a ks.length c] 26)).heap.size = w.heap.size + 1 by simp] at hrb
  have HRB := Lib.hid hrb
  have HBA := Lib.hid hbA
  have h70 : ((w.alloc (.cells #[.int .u8 (op : Int), .int .u8 (v.k : Int), .int .i64 v.n, .string v.s, .string t, .string m, .int .i64 n, .slice a ks.length c] 26)).alloc (.cells #[.int .u8 0, .int .i64 0, .string ⟨#[]⟩] 23)).cell? ⟨w.heap.size, 7, none⟩ = some (.slice a ks.length c) := by go_simp
  clear hrb hbA
  have hg : groupB op = false := by cases h : groupB op; · rfl
                                    · exact absurd (hgr h) (by simp)
  have h19 : op ≤ 19 := by
    have : ¬ (20 ≤ op ∧ op ≤ 23) := by simpa [groupB] using hg
    omega
  have e20 : decide ((20 : Int) ≤ (op : Int)) = false := decide_eq_false (by omega)
  have hfit := kids_fit hkb (by omega) h19
  have hl2 : ks.length ≤ 2 := by rw [hfit]; split <;> omega
  have hr : R0 = if (walkAll (rowCol row) noGrp ks).2 = 0 then doS op (walkAll (rowCol row) noGrp ks).1 else (nullV, (walkAll (rowCol row) noGrp ks).2) := HX1.out.2.2.2 c1 c2 hg
  have hkm : ∀ y ∈ ks, mayB (row.length : Int) false y = true := by
    intro y hy
    have := hkids y hy
    rwa [Bool.false_and] at this
  have HR := Lib.hid hr
  have HKM := Lib.hid hkm
  have HFIT := Lib.hid hfit
  clear hr hkm hfit hg hkids hgr hkb hcolr hrok hrl
  go_enter Try.func34, Try.ntmps34
  go_wp2_with fail
  go_loopg [8, 9] ks.length (fun gk kv i wr => ∃ (k : Nat) (vs : List V), i = .int .i64 (k : Int) ∧ gk = ks.length - k ∧ k ≤ ks.length ∧ vs.length ≤ 2 ∧ Hid (WalkAt (rowCol row) noGrp ks op w wr kv k vs) ∧ wr.cell? ⟨w.heap.size, 7, none⟩ = some (.slice a ks.length c) ∧ w.heap.size + 1 < wr.heap.size)
  case atStart => exact ⟨0, [], rfl, rfl, Nat.zero_le _, by simp, ⟨OwnV.nil _ _, Sofar.zero _, by simp, HRB.out, by go_simp, HBA.out⟩, h70, by simp⟩
  case round =>
    obtain ⟨k, vs, rfl, rfl, hkl', hlv, hwa, h7, hzr⟩ := hrel
    clear h70
    by_cases hlt : k < ks.length
    · obtain ⟨y, hy⟩ : ∃ y, ks[k]? = some y := ⟨ks[k], by simp⟩
      have hym : y ∈ ks := List.mem_of_getElem? hy
      obtain ⟨b, o, rfl, hbz, d0, d1, d2, d3, d4, d5, d6, d7⟩ := Ex.at8 (HAT.out.below hwa.out.bel) hy
      obtain ⟨ay, cy, eky⟩ := Ex.kv_of (HKI.out y hym)
      have hcall := fun W hb => IH.out y hym W (Ex.in_below (w := w) hb y (HKI.out y hym)) (HKO.out y hym) (HROW.out.below hb) (HKM.out y hym)
      obtain ⟨R, hR⟩ : ∃ R, R = walkS (rowCol row) noGrp y := ⟨_, rfl⟩
      rw [← hR] at hcall
      have hRok : R.1.ok := by rw [hR]; exact walkRow_ok hrok'.out.1 y (HKO.out y hym) (HKM.out y hym)
      simp only [Ex.val] at hcall
      rw [eky] at d7 hcall
      have HC := Lib.hid hcall
      have HRR := Lib.hid hR
      have HROK := Lib.hid hRok
      have HY := Lib.hid hy
      clear hcall hR hRok hy eky
      have ilt : (k : Int) < (ks.length : Int) := by omega
      obtain ⟨ak, ck, rfl⟩ := hwa.out.own.shape
      go_wp2_with fail
      refine (HC.out _ hwa.out.bel).mono ?_
      rintro e w2 ⟨rfl, hb02⟩
      have hbW2 : Below w.heap.size w w2 := next hwa.out.bel hb02
      have hres2 : ResBox (w.heap.size + 1) w2 := hwa.out.res.later hb02
      have hop2 : w2.cell? ⟨w.heap.size, 0, none⟩ = some (.int .u8 (op : Int)) := (hb02.cell (p := ⟨w.heap.size, 0, none⟩) (by show w.heap.size < _; omega)).trans hwa.out.op
      have hown2 : OwnV w2 (w.heap.size + 2) (.slice ak vs.length ck) vs := hwa.out.own.below hb02
      have h72 := (hb02.cell (cell_lt h7)).trans h7
      have hz2 : w.heap.size + 1 < w2.heap.size := hres2.lt
      have HB2 := Lib.hid (And.intro hbW2 (And.intro hres2 (And.intro hop2 (And.intro hown2 h72))))
      clear hbW2 hb02 hres2 hop2 hown2 h7 h72 d0 d1 d2 d3 d4 d5 d6 d7
      by_cases her : R.2 = 0
      · have her1 : ((R.2 : Int) != 0) = false := by simp [her]
        have HER := Lib.hid her; clear her
        have hsrc := reads_V (w2.alloc (.cells #[.int .u8 (R.1.k : Int), .int .i64 R.1.n, .string R.1.s] 23)) (w.heap.size + 2) R.1 (by simp; omega) (w2.heap.size + 1) (by simp)
        go_wp2_with (at_builtin; refine wpList_append_reads rfl (.tmp 55) (.tmp 57) 27 rfl (w.heap.size + 2) 23 3 32 elV _ vs.length (vCells vs) rfl (World.ownsRow.alloc (World.ownsRow.alloc HB2.out.2.2.2.1 _) _) _ 1 _ rfl hsrc (by simp [Value.oneCell']) (by unfold maxLen; omega) (by omega) (by simp; omega) ?_; intro v' w3 hown3 hgrow3 hbel3; have HO3 := Lib.hid (OwnV.snoc hown3); have HB3 := Lib.hid hbel3; clear hown3 hgrow3 hbel3)
        have hbA := ((((Below.refl _ w2).alloc (Nat.le_refl _) (.cells #[.int .u8 (R.1.k : Int), .int .i64 R.1.n, .string R.1.s] 23))).alloc (by simp) (.cells #[.int .u8 (R.1.k : Int), .int .i64 R.1.n, .string R.1.s] 23))
        have fin : WalkAt (rowCol row) noGrp ks op w w3 v' (k + 1) (vs ++ [R.1]) := by
          have hres3 := (HB2.out.2.1.later hbA).below HB3.out (by omega)
          have hop3 : w3.cell? ⟨w.heap.size, 0, none⟩ = some (.int .u8 (op : Int)) := (HB3.out.cell (p := ⟨w.heap.size, 0, none⟩) (by show w.heap.size < _; omega)).trans ((hbA.cell (p := ⟨w.heap.size, 0, none⟩) (by show w.heap.size < _; omega)).trans HB2.out.2.2.1)
          have hbel3 : Below w.heap.size w w3 := (HB2.out.1.trans (hbA.mono (by omega))).trans (HB3.out.mono (by omega))
          refine ⟨HO3.out, ?_, ?_, hres3, hop3, hbel3⟩
          · rw [HRR.out]; exact hwa.out.sofar.next HY.out (by rw [← HRR.out]; exact HER.out)
          · intro z hz
            rcases List.mem_append.1 hz with h | h
            · exact hwa.out.ok z h
            · simp at h; subst h; exact HROK.out
        have h73 : w3.cell? ⟨w.heap.size, 7, none⟩ = some (.slice (some ⟨b, o, none⟩) ks.length c) := (HB3.out.cell (p := ⟨w.heap.size, 7, none⟩) (by show w.heap.size < _; omega)).trans ((hbA.cell (p := ⟨w.heap.size, 7, none⟩) (by show w.heap.size < _; omega)).trans HB2.out.2.2.2.2)
        have hlen' : (vs ++ [R.1]).length ≤ 2 := by
          have := fin.sofar.length (by omega)
          omega
        have hz3 : w.heap.size + 1 < w3.heap.size := fin.res.lt
        have FIN := Lib.hid fin
        clear fin hbA
        go_roundg (ks.length - (k + 1))
        case measure => omega
        case rel => exact ⟨k + 1, vs ++ [R.1], by go_num, rfl, by omega, hlen', FIN, h73, hz3⟩
      · have her1 : ((R.2 : Int) != 0) = true := by simp; omega
        have hfin : R0 = (nullV, R.2) := by
          have := walkAll_err ks k y (fun i hi z hz => hwa.out.sofar.no i hi z hz) HY.out (by rw [← HRR.out]; exact her)
          rw [HR.out, this, ← HRR.out, if_neg her]
        have HFIN := Lib.hid hfin
        clear hfin her
        obtain ⟨c0, c1, c2, f0, f1, f2⟩ := HB2.out.2.1
        have hb2 := HB2.out.1
        go_wp2_with fail
        obtain ⟨q0, q1, q2⟩ := filled3 w2 (w.heap.size + 1) _ _ _ (.int .u8 0) (.int .i64 0) (.string ⟨#[]⟩) c0 c1 c2
        refine bodyPost_ret (v := .tuple #[.agg #[.int .u8 0, .int .i64 0, .string ⟨#[]⟩], .int .i64 (R.2 : Int)]) (by simp [results, Try.results34, go_sem, q0, q1, q2, cell_alloc_lt, hz2]) rfl ⟨by rw [HFIN.out]; rfl, ?_⟩
        go_grown
    · obtain rfl : k = ks.length := by omega
      obtain ⟨ak, ck, rfl⟩ := hwa.out.own.shape
      have hvl := hwa.out.sofar.length (Nat.le_refl _)
      have hwalk := hwa.out.sofar.all
      have hfit : Fits op vs := ⟨by omega, h19, by rw [hvl]; exact HFIT.out⟩
      have hfin : R0 = doS op vs := by rw [HR.out, hwalk, if_pos rfl]
      have hdo := refDo op _ vs wr hwa.out.own.at_ hwa.out.ok hfit
      rw [← hfin] at hdo
      have HDO := Lib.hid hdo
      have hopc := hwa.out.op
      have hres := hwa.out.res
      have hbel := hwa.out.bel
      clear hvl hwalk hfit hfin hdo
      go_wp2_with fail
      refine HDO.out.mono ?_
      rintro e w2 ⟨rfl, hb2⟩
      obtain ⟨c0, c1, c2, f0, f1, f2⟩ := hres.later hb2
      have hb3 := next hbel hb2
      have hz3 := cell_lt c0
      clear hb2 hbel hres hopc h7
      go_wp2_with fail
      obtain ⟨q0, q1, q2⟩ := filled3 w2 (w.heap.size + 1) _ _ _ (.int .u8 (R0.1.k : Int)) (.int .i64 R0.1.n) (.string R0.1.s) c0 c1 c2
      refine bodyPost_ret (v := resV R0) (by simp [results, Try.results34, go_sem, q0, q1, q2]) rfl ⟨rfl, ?_⟩
      go_grown

set_option maxRecDepth 100000 in
set_option maxHeartbeats 4000000 in
theorem refEval (x : Ex) (rv : Value) (row : List V) (w : World) (hin : x.In w) (hok : x.Ok) (hr : VsAt w rv row) (hrok : ∀ v ∈ row, v.ok) (hrl : row.length ≤ 140737488351232) :
    Calls Try.prog 15 #[x.val, rv] w fun e w' => e = .returned (resV (evalS row x)) ∧ Below w.heap.size w w' := by
  unfold evalS
  obtain ⟨ax, cx, ekx⟩ := Ex.kv_of hin
  have hmay := fun W (hb : Below w.heap.size w W) => refMay x (row.length : Int) 0 W (by omega) (by omega) (by omega) (Ex.in_below (w := w) hb x hin) hok
  rw [show mayG (row.length : Int) 0 x = mayB (row.length : Int) false x from if_pos rfl] at hmay
  obtain ⟨ar, cr, rfl⟩ := hr.shape
  have hwalk : mayB (row.length : Int) false x = true → ∀ W, Below w.heap.size w W → Calls Try.prog 34 #[x.val, .slice ar row.length cr, .slice none 0 0] W fun e w' => e = .returned (resV (walkS (rowCol row) noGrp x)) ∧ Below W.heap.size W w' :=
    fun hm W hb => refAt _ row hrok hrl x W (Ex.in_below (w := w) hb x hin) hok (hr.below hb) hm
  have hbA : Below w.heap.size w ((w.alloc (.cells #[.int .u8 (x.op : Int), .int .u8 (x.v.k : Int), .int .i64 x.v.n, .string x.v.s, .string x.t, .string x.m, .int .i64 x.n, .slice ax x.kids.length cx] 26)).alloc (.cells #[.int .u8 0, .int .i64 0, .string ⟨#[]⟩] 23)) := by go_grown
  have hx8 := box_cells w ((w.alloc (.cells #[.int .u8 (x.op : Int), .int .u8 (x.v.k : Int), .int .i64 x.v.n, .string x.v.s, .string x.t, .string x.m, .int .i64 x.n, .slice ax x.kids.length cx] 26)).alloc (.cells #[.int .u8 0, .int .i64 0, .string ⟨#[]⟩] 23)) x 26 (by simp only [exBox, ekx]; go_grown)
  have hrb := resBox_new (w.alloc (.cells #[.int .u8 (x.op : Int), .int .u8 (x.v.k : Int), .int .i64 x.v.n, .string x.v.s, .string x.t, .string x.m, .int .i64 x.n, .slice ax x.kids.length cx] 26)) 23
  rw [show (w.alloc (.cells #[.int .u8 (x.op : Int), .int .u8 (x.v.k : Int), .int .i64 x.v.n, .string x.v.s, .string x.t, .string x.m, .int .i64 x.n, .slice ax x.kids.length cx] 26)).heap.size = w.heap.size + 1 by simp] at hrb
  simp only [Ex.val] at hmay hwalk ⊢
  rw [ekx] at hx8 hmay hwalk ⊢
  have HM := Lib.hid hmay
  have HBA := Lib.hid hbA
  have HRB := Lib.hid hrb
  clear hmay hbA hrb hr hin hok hrok
  obtain ⟨rl, hrl0⟩ : ∃ rl, rl = row.length := ⟨_, rfl⟩
  rw [← hrl0] at hrl hwalk HM ⊢
  obtain ⟨M, hM⟩ : ∃ M, M = mayB (rl : Int) false x := ⟨_, rfl⟩
  rw [← hM] at hwalk HM ⊢
  obtain ⟨R, hR⟩ : ∃ R, R = walkS (rowCol row) noGrp x := ⟨_, rfl⟩
  rw [← hR] at hwalk
  rw [show walkS (fun n => row.getD n.toNat nullV) (fun _ => (nullV, 0)) x = R from hR.symm]
  obtain ⟨S, hS⟩ : ∃ S, S = if M = true then R else (nullV, 2) := ⟨_, rfl⟩
  rw [← hS]
  have HS := Lib.hid hS
  clear hS
  have HWK := Lib.hid hwalk
  clear hwalk hM hR hrl0
  go_enter Try.func15, Try.ntmps15
  go_wp2_with fail
  generalize hW0 : ((w.alloc (.cells #[.int .u8 (x.op : Int), .int .u8 (x.v.k : Int), .int .i64 x.v.n, .string x.v.s, .string x.t, .string x.m, .int .i64 x.n, .slice ax x.kids.length cx] 26)).alloc (.cells #[.int .u8 0, .int .i64 0, .string ⟨#[]⟩] 23)) = W0 at *
  refine (HM.out _ HBA.out).mono ?_
  rintro e w1 ⟨rfl, hb1⟩
  obtain ⟨x0, x1, x2, x3, x4, x5, x6, x7⟩ := hx8
  have y0 := (hb1.cell (cell_lt x0)).trans x0
  have y1 := (hb1.cell (cell_lt x1)).trans x1
  have y2 := (hb1.cell (cell_lt x2)).trans x2
  have y3 := (hb1.cell (cell_lt x3)).trans x3
  have y4 := (hb1.cell (cell_lt x4)).trans x4
  have y5 := (hb1.cell (cell_lt x5)).trans x5
  have y6 := (hb1.cell (cell_lt x6)).trans x6
  have y7 := (hb1.cell (cell_lt x7)).trans x7
  clear x0 x1 x2 x3 x4 x5 x6 x7 hW0
  have hrb1 := HRB.out.later hb1
  have hbel1 := next HBA.out hb1
  clear hb1
  cases M
  · have HSS : S = (nullV, 2) := HS.out
    subst HSS
    obtain ⟨c0, c1, c2, f0, f1, f2⟩ := hrb1
    go_wp2_with fail
    obtain ⟨q0, q1, q2⟩ := filled3 _ (w.heap.size + 1) _ _ _ (.int .u8 0) (.int .i64 0) (.string ⟨#[]⟩) c0 c1 c2
    refine bodyPost_ret (v := .tuple #[.agg #[.int .u8 0, .int .i64 0, .string ⟨#[]⟩], .int .i64 2]) (by simp [results, Try.results15, go_sem, q0, q1, q2]) rfl ⟨rfl, ?_⟩
    go_grown
  · have HSS : S = R := HS.out
    subst HSS
    have HBEL := Lib.hid hbel1
    have HRB1 := Lib.hid hrb1
    clear hbel1 hrb1
    go_wp2_with fail
    refine (HWK.out trivial _ HBEL.out).mono ?_
    rintro e w2 ⟨rfl, hb2⟩
    obtain ⟨c0, c1, c2, f0, f1, f2⟩ := HRB1.out.later hb2
    have hb3 := next HBEL.out hb2
    have hz3 := cell_lt c0
    clear hb2
    go_wp2_with fail
    obtain ⟨q0, q1, q2⟩ := filled3 w2 (w.heap.size + 1) _ _ _ (.int .u8 (S.1.k : Int)) (.int .i64 S.1.n) (.string S.1.s) c0 c1 c2
    refine bodyPost_ret (v := resV S) (by simp [results, Try.results15, go_sem, q0, q1, q2]) rfl ⟨rfl, ?_⟩
    go_grown
end Go.Proofs.Ytaeobillbocemaa.Dt
