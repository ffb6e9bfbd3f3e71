/-
  The walk of package eval's told: what is told of a group.
-/
import Derived.Test.YtclkpbokngamiaaToldIn
import Derived.Deep.DeepCutAuto
namespace Go.Proofs.Ytclkpbokngamiaa.Dt
open Go.RowKit Go.Proofs.Ytclkpbokngamiaa.By

theorem wide_high (t : Int) (h0 : -1329227995784915872903807060280344576 ≤ t) (h1 : t ≤ 1329227995784915872903807060280344576) :
    (inR t → t / 18446744073709551616 = wrap64 (t % 18446744073709551616) / 9223372036854775808 ∧ wrap64 (t % 18446744073709551616) = t) ∧ (¬ inR t → t / 18446744073709551616 ≠ wrap64 (t % 18446744073709551616) / 9223372036854775808) := by
  unfold inR wrap64
  constructor
  · intro h; omega
  · intro h; omega

set_option maxRecDepth 100000 in
set_option maxHeartbeats 16000000 in
theorem told (x : Ex) (rv : Value) (rows : List Rw) (cols : Int) (w : World) (hin : x.In w) (hok : x.Ok) (hg : groupB x.op = true) (hm : mayB cols true x = true) (hrows : RowsAt w rv rows)
    (hrok : ∀ r ∈ rows, (r.l.length : Int) = cols ∧ ∀ v ∈ r.l, v.ok) (hrl : rows.length ≤ 140737488351232) :
    Calls Try.prog 26 #[x.val, rv] w fun e w' => e = .returned (resV (toldS x (rows.map Rw.l))) ∧ Below w.heap.size w w' := by
  obtain ⟨hsh, _, hkids⟩ := may_parts hm
  obtain ⟨⟨ho1, ho2⟩, hkb, _, _⟩ := shaped_parts hsh
  rw [Ex.in_iff] at hin
  rw [Ex.ok_iff] at hok
  obtain ⟨hat, hkin⟩ := hin
  obtain ⟨hone, hkok⟩ := hok
  rw [hg, Bool.not_true, Bool.and_false] at hkids
  have hop20 : 20 ≤ x.op := by simp [groupB] at hg; omega
  obtain ⟨T, hT⟩ : ∃ T, T = toldS x (rows.map Rw.l) := ⟨_, rfl⟩
  rw [← hT]
  unfold toldS at hT
  have HT := Lib.hid hT
  clear hT hsh hm hg
  obtain ⟨x1, hx1⟩ : ∃ x1, x1 = x := ⟨_, rfl⟩
  obtain ⟨op, v, t, m, n, kv, ks⟩ := x
  simp only [Ex.op_mk, Ex.v_mk, Ex.t_mk, Ex.m_mk, Ex.n_mk, Ex.kv_mk, Ex.kids_mk, Ex.okOne] at hat hkin hkok hone hkids hkb ho1 ho2 hop20
  simp only [Ex.val, Ex.op_mk, Ex.v_mk, Ex.t_mk, Ex.m_mk, Ex.n_mk, Ex.kv_mk]
  obtain ⟨ax, cx, rfl⟩ := hat.shape
  obtain ⟨hop, hv, ht, hmm, hn1, hn2, hkl⟩ := hone
  rw [← hx1] at HT
  obtain ⟨ar, cr, rfl⟩ := hrows.at_.shape
  have hinit : ToldAt x1 rows w ((((w.alloc (.cells #[.int .u8 (op : Int), .int .u8 (v.k : Int), .int .i64 v.n, .string v.s, .string t, .string m, .int .i64 n, .slice ax ks.length cx] 27)).alloc (.cells #[.int .u8 0, .int .i64 0, .string ⟨#[]⟩] 23)).alloc (.cells #[.int .i64 0, .int .u64 0] 62)).alloc (.cells #[.int .u8 0, .int .i64 0, .string ⟨#[]⟩] 23)) 0 ⟨0, 0, nullV⟩ := by
    subst hx1
    refine ⟨⟨by go_grown, by rw [Ex.op_mk]; go_simp, by rw [Ex.kv_mk]; go_simp, ?_, ?_, ?_⟩, rfl, by simp, by simp, nullV_ok⟩
    · constructor <;> go_simp
    · intro i u hu
      rcases i with _ | _ | i <;> simp [wideCells] at hu <;> subst hu <;> exact ⟨by go_simp, by go_simp⟩
    · intro i u hu
      rcases i with _ | _ | _ | i <;> simp [V.cells, nullV] at hu <;> subst hu <;> exact ⟨by first | (go_simp; done) | (go_simp; rfl), by go_simp⟩
  have HINIT := Lib.hid hinit
  have HX1 := Lib.hid hx1
  have HAT := Lib.hid hat
  have HKI := Lib.hid hkin
  have HKO := Lib.hid hkok
  have HKM := Lib.hid hkids
  have HROWS := Lib.hid hrows
  have HROK := Lib.hid hrok
  have HOPS := Lib.hid (And.intro ho2 hop20)
  have HRL := Lib.hid hrl
  clear hinit hx1 hat hkin hkok hkids hrows hrok hv ho1 ho2 hkb hop20 hop ht hmm hn1 hn2
  go_enter Try.func26, Try.ntmps26
  go_wp2_with fail
  go_loopg [6, 19] rows.length (fun gk nv i wr => ∃ (k : Nat) (s : Tl), nv = .int .i64 (s.n : Int) ∧ i = .int .i64 (k : Int) ∧ gk = rows.length - k ∧ k ≤ rows.length ∧ s.n ≤ k ∧ Hid (ToldAt x1 rows w wr k s) ∧ w.heap.size + 3 < wr.heap.size)
  case atStart => exact ⟨0, ⟨0, 0, nullV⟩, rfl, rfl, rfl, Nat.zero_le _, Nat.le_refl _, HINIT, by simp⟩
  case round =>
    obtain ⟨k, s, rfl, rfl, rfl, hkl', hsn, hta, hzr⟩ := hrel
    by_cases hlt : k < rows.length
    · obtain ⟨r, hy⟩ : ∃ r, rows[k]? = some r := ⟨rows[k], by simp⟩
      have hrm : r ∈ rows := List.mem_of_getElem? hy
      obtain ⟨b, o, rfl, hbz, dr⟩ := atR (HROWS.out.at_.below hta.out.in_.bel) hy
      have hrat := HROWS.out.rows r hrm
      obtain ⟨a3, c3, e3⟩ := hrat.shape
      rw [e3] at dr hrat
      have HRAT := Lib.hid hrat
      have HROK' := Lib.hid (HROK.out r hrm)
      have hin0 := hta.out.in_
      have hrowS : toldAll x1 ((rows.drop k).map Rw.l) s = toldAll x1 (r.l :: (rows.drop (k + 1)).map Rw.l) s := by
        rw [List.drop_eq_getElem_cons hlt, List.map_cons, show rows[k] = r by simpa [hlt] using hy]
      have HROWS' := Lib.hid hrowS
      rw [HX1.out] at hin0
      simp only [Ex.op_mk, Ex.kv_mk] at hin0
      have M0 := hin0.later ((Below.refl _ wr).alloc (Nat.le_refl _) (.cells #[.slice a3 r.l.length c3] 49))
      have hrc0 : (wr.alloc (.cells #[.slice a3 r.l.length c3] 49)).cell? ⟨wr.heap.size, 0, none⟩ = some (.slice a3 r.l.length c3) := by go_simp
      have ilt : (k : Int) < (rows.length : Int) := by omega
      have BB := Lib.hid (tot_bd hta.out.t0 hta.out.t1 hsn hkl' HRL.out)
      have hw : wrap64 ((s.n : Int) + 1) = (s.n : Int) + 1 := by have := HRL.out; unfold wrap64; omega
      have HTA := Lib.hid (And.intro hta.out (And.intro hsn hkl'))
      have hkk : wrap64 ((k : Int) + 1) = ((k + 1 : Nat) : Int) := by have := HRL.out; unfold wrap64; omega
      have HLT := Lib.hid hlt
      clear hrat e3 hrowS hin0 hy hrm hta hsn hkl' hlt
      go_upto_if 27 with (refine (numberV _).mono ?_; rintro e w1 ⟨rfl, hb1⟩; have M1 := M0.later hb1; have hrc1 := (hb1.cell (cell_lt hrc0)).trans hrc0; have hz1 := hb1.size; simp only [World.size_alloc] at hz1; clear hb1 M0 hrc0 dr; have HM1 := Lib.hid M1; have HRC1 := Lib.hid hrc1; clear hrc1; obtain ⟨hbel, hx0, hx7, hres, htot, hbest⟩ := M1; clear hbel hx0 hres htot hbest; have z0 : w.heap.size < w1.heap.size := by omega)
      have VB1 : Box w1.heap.size (numV 1).cells (w1.alloc (.cells #[.int .u8 ((numV 1).k : Int), .int .i64 (numV 1).n, .string (numV 1).s] 23)) := by
        intro i u hu
        rcases i with _ | _ | _ | i <;> simp [V.cells, numV] at hu <;> subst hu <;> exact ⟨by first | (go_simp; done) | (go_simp; rfl), by go_simp⟩
      have MB1 := HM1.out.alloc (.cells #[.int .u8 ((numV 1).k : Int), .int .i64 (numV 1).n, .string (numV 1).s] 23)
      have HVB := Lib.hid VB1
      have HMB := Lib.hid MB1
      clear VB1 MB1
      generalize hRV : (oneS x1 r.l).1 = RV
      have HRV := Lib.hid hRV
      clear hRV
      have hx7' : (w1.alloc (.cells #[.int .u8 ((numV 1).k : Int), .int .i64 (numV 1).n, .string (numV 1).s] 23)).cell? ⟨w.heap.size, 7, none⟩ = some (.slice ax ks.length cx) := by rw [cell_alloc_lt z0]; exact hx7
      clear hx7
      have hzW : (w1.alloc (.cells #[.int .u8 ((numV 1).k : Int), .int .i64 (numV 1).n, .string (numV 1).s] 23)).heap.size = w1.heap.size + 1 := by simp
      have HBW : Hid (Below w1.heap.size w1 (w1.alloc (.cells #[.int .u8 ((numV 1).k : Int), .int .i64 (numV 1).n, .string (numV 1).s] 23))) := Lib.hid ((Below.refl _ w1).alloc (Nat.le_refl _) _)
      generalize hWW : w1.alloc (.cells #[.int .u8 ((numV 1).k : Int), .int .i64 (numV 1).n, .string (numV 1).s] 23) = WW at *
      clear hWW
      go_cut [] (fun wx => Hid ((oneS x1 r.l).2 = 0 ∧ ToldIn op (.slice ax ks.length cx) w wx s.t s.best ∧ Box w1.heap.size RV.cells wx ∧ RV.ok))
      case first =>
        rcases hks : ks[0]? with _ | y
        · have hk0 : ks.length = 0 := by simpa using hks
          have hone' : oneS x1 r.l = (numV 1, 0) := by
            rw [HX1.out]
            unfold oneS
            rw [Ex.kids_mk, List.eq_nil_of_length_eq_zero hk0]
          have HONE := Lib.hid hone'
          have gk0 : decide (0 < ks.length) = false := decide_eq_false (by omega)
          have gk1 : (0 < ks.length) ↔ False := iff_of_false (by omega) id
          clear hone' hks hk0
          go_wp2_with fail
          · exact (gk1.1 (by assumption)).elim
          go_meet
          have e := HRV.out
          rw [HONE.out] at e
          subst e
          exact ⟨by rw [HONE.out], HMB.out, HVB.out, numV_ok ⟨by omega, by omega⟩⟩
        · obtain ⟨b', o', rfl, hbz', d0, d1, d2, d3, d4, d5, d6, d7⟩ := Ex.at8 (HAT.out.below (next HM1.out.bel HBW.out)) (k := 0) (y := y) hks
          simp only [Nat.zero_mul, Nat.add_zero] at d0 d1 d2 d3 d4 d5 d6 d7
          have hym : y ∈ ks := List.mem_of_getElem? hks
          have hk0 : (0 : Int) < (ks.length : Int) := by have := (List.getElem?_eq_some_iff.1 hks).1; omega
          obtain ⟨ay, cy, eky⟩ := Ex.kv_of (HKI.out y hym)
          have henv : Env cols false w1 32 ⟨wr.heap.size, 0, none⟩ .nilFunc (fun n => r.l.getD n.toNat nullV) (fun _ => (nullV, 0)) := by
            refine ⟨?_, ?_, ?_, ?_, ?_⟩
            · intro args W; go_simp
            · intro n W h0 h1 hb
              exact toldCol _ _ r.l n W ((hb.cell (cell_lt HRC1.out)).trans HRC1.out) (HRAT.out.below (next HM1.out.bel hb)) h0 (by rw [HROK'.out.1]; exact h1)
            · exact fun n _ _ => getD_ok HROK'.out.2 _
            · intro h; cases h
            · intro h; cases h
          have hcall := fun W (hb : Below w1.heap.size w1 W) => walk henv y W hb (Ex.in_below (w := w) (next HM1.out.bel hb) y (HKI.out y hym)) (HKO.out y hym) (HKM.out y hym)
          obtain ⟨R, hR⟩ : ∃ R, R = walkS (fun n => r.l.getD n.toNat nullV) (fun _ => (nullV, 0)) y := ⟨_, rfl⟩
          have HROKV : Hid R.1.ok := Lib.hid (by rw [hR]; exact walkS_ok henv y (HKO.out y hym) (HKM.out y hym))
          rw [← hR] at hcall
          simp only [Ex.val] at hcall
          rw [eky] at d7 hcall
          have HC := Lib.hid hcall
          have hone' : oneS x1 r.l = R := by
            rw [HX1.out, hR]
            unfold oneS
            rw [Ex.kids_mk]
            rcases ks with _ | ⟨y', ys⟩
            · simp at hks
            · simp at hks; subst hks; rfl
          have HONE := Lib.hid hone'
          clear hcall hR eky hym hone' hks henv
          go_wp2_with fail
          refine (HC.out _ HBW.out).mono ?_
          rintro e w2 ⟨rfl, hb2⟩
          have M2 := HMB.out.later hb2
          have V2 := HVB.out.later hb2
          have HM2 := Lib.hid M2
          have HV2 := Lib.hid V2
          have hzz : w1.heap.size < w2.heap.size := V2.lt
          clear hb2 hx7' d0 d1 d2 d3 d4 d5 d6 d7
          obtain ⟨hbel, hx0, hx7, hres, htot, hbest⟩ := M2
          clear hx0 hx7 htot hbest
          have y1 : w.heap.size + 1 < w2.heap.size := by omega
          have v0 := V2 0 _ rfl
          have v1 := V2 1 _ rfl
          have v2 := V2 2 _ rfl
          clear V2
          by_cases her : R.2 = 0
          · have her1 : ((R.2 : Int) != 0) = false := by simp [her]
            have HER := Lib.hid her; clear her hres hbel
            go_wp2_with fail
            go_meet
            have e := HRV.out
            rw [HONE.out] at e
            subst e
            refine ⟨by rw [HONE.out]; exact HER.out, ?_, ?_, HROKV.out⟩
            · repeat (first | exact HM2.out | refine ToldIn.else ?_ (by omega) | refine ToldIn.alloc ?_ _)
            · first
              | exact (((HV2.out.set (i := 0) (by show 0 < 3; omega)).set (i := 1) (by show 1 < 3; omega)).set (i := 2) (by show 2 < 3; omega)).later ((Below.refl _ _).alloc (Nat.le_refl _) _)
              | exact (((HV2.out.later ((Below.refl _ _).alloc (Nat.le_refl _) _)).set (i := 0) (by show 0 < 3; omega)).set (i := 1) (by show 1 < 3; omega)).set (i := 2) (by show 2 < 3; omega)
          · have her1 : ((R.2 : Int) != 0) = true := by simp; omega
            have hfin : T = (nullV, R.2) := by
              rw [HT.out, HTA.out.1.sofar, HROWS'.out, toldAll_err (by rw [HONE.out]; exact her), HONE.out]
              simp [her]
            have HFIN := Lib.hid hfin
            clear hfin her
            obtain ⟨c0, c1, c2, f0, f1, f2⟩ := hres
            go_wp2_with fail
            obtain ⟨q0, q1, q2⟩ := filled3 w2 (w.heap.size + 1) _ _ _ (.int .u8 0) (.int .i64 0) (.string ⟨#[]⟩) c0 c1 c2
            refine bodyPost_ret (v := .tuple #[.agg #[.int .u8 0, .int .i64 0, .string ⟨#[]⟩], .int .i64 (R.2 : Int)]) (by simp [results, Try.results26, go_sem, q0, q1, q2, cell_alloc_lt, y1]) rfl ⟨by rw [HFIN.out]; rfl, ?_⟩
            go_grown
      case rest =>
        rename World => wv
        obtain ⟨hone0, hM, hV, hRok⟩ := hcut
        clear HMB HVB hx7' HBW HRC1
        have HONE0 := Lib.hid hone0
        have HM := Lib.hid hM
        have HV := Lib.hid hV
        have HROKV := Lib.hid hRok
        have hzv : w1.heap.size < wv.heap.size := hV.lt
        obtain ⟨hbel, hx0, hx7, hres, htot, hbest⟩ := hM
        have v0 := hV 0 _ rfl
        have v1 := hV 1 _ rfl
        have v2 := hV 2 _ rfl
        clear hx7 hone0 hRok htot hbest hV
        by_cases kk0 : RV.k = 0
        · have ek0 : ((RV.k : Int) == 0) = true := by simp [kk0]
          have HK0 := Lib.hid kk0; clear kk0 hres hbel
          go_wp2_with fail
          go_roundg (rows.length - (k + 1))
          case measure => have := HLT.out; omega
          case rel =>
            refine ⟨k + 1, s, rfl, by first | exact congrArg (Value.int .i64) hkk | go_num | rfl, rfl, HLT.out, Nat.le_succ_of_le HTA.out.2.1, Lib.hid ⟨?_, ?_, HTA.out.1.t0, HTA.out.1.t1, HTA.out.1.bok⟩, by omega⟩
            · rw [HX1.out]
              exact HM.out
            · rw [HTA.out.1.sofar, HROWS'.out, toldAll_null HONE0.out (by rw [HRV.out]; exact HK0.out)]
        · have ek0 : ((RV.k : Int) == 0) = false := by simp; omega
          go_upto_region 14 with fail
          by_cases hty : op = 21 ∧ RV.k ≠ 1
          · obtain ⟨h21, kk1⟩ := hty
            have ek1 : ((RV.k : Int) != 1) = true := by simp; omega
            have hfin : T = (nullV, 150) := by
              rw [HT.out, HTA.out.1.sofar, HROWS'.out, toldAll_type HONE0.out (by rw [HRV.out]; exact kk0) (by rw [HX1.out]; exact h21) (by rw [HRV.out]; exact kk1)]
              simp
            have HFIN := Lib.hid hfin
            clear hfin kk1 kk0
            subst h21
            obtain ⟨c0, c1, c2, f0, f1, f2⟩ := hres
            go_wp2_with fail
            obtain ⟨q0, q1, q2⟩ := filled3 wv (w.heap.size + 1) _ _ _ (.int .u8 0) (.int .i64 0) (.string ⟨#[]⟩) c0 c1 c2
            refine bodyPost_ret (v := .tuple #[.agg #[.int .u8 0, .int .i64 0, .string ⟨#[]⟩], .int .i64 150]) (by simp [results, Try.results26, go_sem, q0, q1, q2]) rfl ⟨by rw [HFIN.out]; rfl, ?_⟩
            go_grown
          · have HK : Hid (RV.k ≠ 0 ∧ ¬ (op = 21 ∧ RV.k ≠ 1)) := Lib.hid ⟨kk0, hty⟩
            clear hres hbel
            go_cut [52] (fun c wx => c = .bool false ∧ wv = wx)
            case first =>
              by_cases h21 : op = 21
              · have e21 : ((op : Int) == 21) = true := by simp [h21]
                have ek1 : ((RV.k : Int) != 1) = false := by simp; omega
                go_wp2_with fail
                go_meet
                exact ⟨rfl, rfl⟩
              · have e21 : ((op : Int) == 21) = false := by simp; omega
                go_wp2_with fail
                go_meet
                exact ⟨rfl, rfl⟩
            case rest =>
              obtain ⟨rfl, rfl⟩ := hcut
              clear hty kk0 ek0
              obtain ⟨hbel, hx0', hx7, hres, htot, hbest⟩ := HM.out
              have g0 := htot 0 _ rfl
              have g1 := htot 1 _ rfl
              have u2 : w.heap.size + 1 + 1 < wv.heap.size := by omega
              clear hx0' hx7 hres htot hbest hbel
              go_wp2_with fail
              refine (wideAdd s.t RV.n _ BB.out.1 BB.out.2 HROKV.out.2.1).mono ?_
              rintro e w3 ⟨rfl, hb3⟩
              have M3 := HM.out.later hb3
              have V3 := HV.out.later hb3
              have HM3 := Lib.hid M3
              have HV3 := Lib.hid V3
              have hz3 : w1.heap.size < w3.heap.size := V3.lt
              clear v0 v1 v2 g0 g1 hb3 hx0
              obtain ⟨hbel, hx0, hx7, hres, htot, hbest⟩ := M3
              have g0 := htot 0 _ rfl
              have g1 := htot 1 _ rfl
              have b0 := hbest 0 _ rfl
              have b1 := hbest 1 _ rfl
              have b2 := hbest 2 _ rfl
              have v0 := V3 0 _ rfl
              have v1 := V3 1 _ rfl
              have v2 := V3 2 _ rfl
              have u4 : w.heap.size + 1 + 1 < w3.heap.size := by omega
              clear hbel hx7 hres htot hbest V3
              go_wp2_with fail
              refine (compare RV s.best _).mono ?_
              rintro e w4 ⟨rfl, hb4⟩
              have M4 : ToldIn op (.slice ax ks.length cx) w w4 (s.t + RV.n) s.best := (HM3.out.total _).later hb4
              have V4 : Box w1.heap.size RV.cells w4 := by
                refine Box.later ?_ hb4
                exact (HV3.out.else (by omega)).else (by omega)
              have HM4 := Lib.hid M4
              have hz4 : w1.heap.size < w4.heap.size := V4.lt
              clear g0 g1 b0 b1 b2 v0 v1 v2 hb4 hx0 u4 u2
              obtain ⟨hbel, hx0, hx7, hres, htot, hbest⟩ := M4
              have b0 := hbest 0 _ rfl
              have b1 := hbest 1 _ rfl
              have b2 := hbest 2 _ rfl
              have v0 := V4 0 _ rfl
              have v1 := V4 1 _ rfl
              have v2 := V4 2 _ rfl
              clear hbel hx7 hres htot hbest V4
              generalize hC : cmpV RV s.best = C
              obtain ⟨B, hB⟩ : ∃ B, B = bestB x1.op s RV := ⟨_, rfl⟩
              have hB' : B = (s.n == 0 || op == 22 && decide (C < 0) || op == 23 && decide (0 < C)) := by
                rw [hB, HX1.out]
                simp only [bestB, Ex.op_mk, hC]
              have HB := Lib.hid hB
              have HB' := Lib.hid hB'
              clear hC hB hB'
              have hstep : toldStep x1.op s RV = ⟨s.n + 1, s.t + RV.n, if B = true then RV else s.best⟩ := by
                simp [toldStep, HB.out]
              have HSTEP := Lib.hid hstep
              clear hstep
              go_upto_region 19 with fail
              go_cut [82] (fun c wx => c = .bool B ∧ w4 = wx)
              case first =>
                by_cases hn0 : s.n = 0
                · have en : ((s.n : Int) + 1 == 1) = true := by simp [hn0]
                  have hb : B = true := by rw [HB'.out]; simp [hn0]
                  subst hb
                  clear hn0
                  go_wp2_with fail
                  go_meet
                  exact ⟨rfl, rfl⟩
                · have en : ((s.n : Int) + 1 == 1) = false := by simp; omega
                  by_cases h22 : op = 22
                  · have e22 : ((op : Int) == 22) = true := by simp [h22]
                    have e23 : ((op : Int) == 23) = false := by simp [h22]
                    by_cases hl : C < 0
                    · have el : decide (C < 0) = true := decide_eq_true hl
                      have hb : B = true := by rw [HB'.out]; simp [h22, hl]
                      subst hb
                      clear hn0 h22 hl
                      go_wp2_with fail
                      go_meet
                      exact ⟨rfl, rfl⟩
                    · have el : decide (C < 0) = false := decide_eq_false hl
                      have hb : B = false := by rw [HB'.out]; simp [h22, hl, hn0]
                      subst hb
                      clear hn0 h22 hl
                      go_wp2_with fail
                      go_meet
                      exact ⟨rfl, rfl⟩
                  · have e22 : ((op : Int) == 22) = false := by simp; omega
                    by_cases h23 : op = 23
                    · have e23 : ((op : Int) == 23) = true := by simp [h23]
                      by_cases hl : 0 < C
                      · have el : decide (0 < C) = true := decide_eq_true hl
                        have hb : B = true := by rw [HB'.out]; simp [h23, hl]
                        subst hb
                        clear hn0 h22 h23 hl
                        go_wp2_with fail
                        go_meet
                        exact ⟨rfl, rfl⟩
                      · have el : decide (0 < C) = false := decide_eq_false hl
                        have hb : B = false := by rw [HB'.out]; simp [h23, hl, hn0]
                        subst hb
                        clear hn0 h22 h23 hl
                        go_wp2_with fail
                        go_meet
                        exact ⟨rfl, rfl⟩
                    · have e23 : ((op : Int) == 23) = false := by simp; omega
                      have hb : B = false := by rw [HB'.out]; simp [h23, h22, hn0]
                      subst hb
                      clear hn0 h22 h23
                      go_wp2_with fail
                      go_meet
                      exact ⟨rfl, rfl⟩
              case rest =>
                obtain ⟨rfl, rfl⟩ := hcut
                cases B
                · go_wp2_with fail
                  go_roundg (rows.length - (k + 1))
                  case measure => have := HLT.out; omega
                  case rel =>
                    refine ⟨k + 1, ⟨s.n + 1, s.t + RV.n, s.best⟩, by first | rfl | (simp; done) | go_num, by first | exact congrArg (Value.int .i64) hkk | go_num | rfl, rfl, HLT.out, Nat.succ_le_succ HTA.out.2.1, Lib.hid ⟨?_, ?_, tot_lo HTA.out.1.t0 HROKV.out.2.1.1, tot_hi HTA.out.1.t1 HROKV.out.2.1.2, HTA.out.1.bok⟩, ?_⟩
                    · rw [HX1.out]
                      exact HM4.out
                    · rw [HTA.out.1.sofar, HROWS'.out, toldAll_step HONE0.out (by rw [HRV.out]; exact HK.out.1) (by rw [HRV.out, HX1.out]; exact HK.out.2), HRV.out, HSTEP.out]
                      rfl
                    · first | omega | (simp; omega)
                · go_wp2_with fail
                  go_roundg (rows.length - (k + 1))
                  case measure => have := HLT.out; omega
                  case rel =>
                    refine ⟨k + 1, ⟨s.n + 1, s.t + RV.n, RV⟩, by first | rfl | (simp; done) | go_num, by first | exact congrArg (Value.int .i64) hkk | go_num | rfl, rfl, HLT.out, Nat.succ_le_succ HTA.out.2.1, Lib.hid ⟨?_, ?_, tot_lo HTA.out.1.t0 HROKV.out.2.1.1, tot_hi HTA.out.1.t1 HROKV.out.2.1.2, HROKV.out⟩, ?_⟩
                    · rw [HX1.out]
                      exact HM4.out.better _
                    · rw [HTA.out.1.sofar, HROWS'.out, toldAll_step HONE0.out (by rw [HRV.out]; exact HK.out.1) (by rw [HRV.out, HX1.out]; exact HK.out.2), HRV.out, HSTEP.out]
                      rfl
                    · first | omega | (simp; omega)
    · obtain rfl : k = rows.length := by omega
      have hT : T = toldEnd op s := by
        rw [HT.out, hta.out.sofar, List.drop_length]
        simp [toldAll, HX1.out, Ex.op_mk]
      have BB := Lib.hid (tot_bd hta.out.t0 hta.out.t1 hsn hkl' HRL.out)
      have hin0 := hta.out.in_
      rw [HX1.out] at hin0
      simp only [Ex.op_mk, Ex.kv_mk] at hin0
      obtain ⟨hbel, hx0, hx7, hres, htot, hbest⟩ := hin0
      have HRES := Lib.hid hres
      have g0 := htot 0 _ rfl
      have g1 := htot 1 _ rfl
      have b0 := hbest 0 _ rfl
      have b1 := hbest 1 _ rfl
      have b2 := hbest 2 _ rfl
      have u2 : w.heap.size + 1 + 1 < wr.heap.size := by omega
      clear hx7 htot hbest hta hsn hkl' hlt
      by_cases h20 : op = 20
      · subst h20
        have HFIN : Hid (T = (numV s.n, 0)) := Lib.hid (by rw [hT]; simp [toldEnd])
        clear hT hres g0 g1 b0 b1 b2
        go_wp2_with fail
        refine (number (s.n : Int) _).mono ?_
        rintro e wf ⟨rfl, hbf⟩
        obtain ⟨c0, c1, c2, f0, f1, f2⟩ := HRES.out.later hbf
        have hb3 := next hbel hbf
        have hz3 := cell_lt c0
        clear hbf hbel
        go_wp2_with fail
        obtain ⟨q0, q1, q2⟩ := filled3 wf (w.heap.size + 1) _ _ _ (.int .u8 1) (.int .i64 (s.n : Int)) (.string ⟨#[]⟩) c0 c1 c2
        refine bodyPost_ret (v := .tuple #[.agg #[.int .u8 1, .int .i64 (s.n : Int), .string ⟨#[]⟩], .int .i64 0]) (by simp [results, Try.results26, go_sem, q0, q1, q2]) rfl ⟨by rw [HFIN.out]; rfl, ?_⟩
        go_grown

      · have e20 : ((op : Int) == 20) = false := by simp; omega
        have hT1 : T = if s.n = 0 ∨ op ≠ 21 then (s.best, 0) else overS s.t := by rw [hT, toldEnd, if_neg h20]
        clear hT
        by_cases hb : s.n = 0 ∨ op ≠ 21
        · have HFIN : Hid (T = (s.best, 0)) := Lib.hid (by rw [hT1, if_pos hb])
          clear hT1 g0 g1 hres
          go_upto_region 24 with fail
          go_cut [91] (fun c wx => c = .bool true ∧ wr = wx)
          case first =>
            by_cases hn0 : s.n = 0
            · have en : ((s.n : Int) == 0) = true := by simp [hn0]
              clear hn0 hb
              go_wp2_with fail
              go_meet
              exact ⟨rfl, rfl⟩
            · have en : ((s.n : Int) == 0) = false := by simp; omega
              have e21 : ((op : Int) != 21) = true := by simp; omega
              clear hn0 hb
              go_wp2_with fail
              go_meet
              exact ⟨rfl, rfl⟩
          case rest =>
            obtain ⟨rfl, rfl⟩ := hcut
            clear hb
            obtain ⟨c0, c1, c2, f0, f1, f2⟩ := HRES.out
            go_wp2_with fail
            obtain ⟨q0, q1, q2⟩ := filled3 wr (w.heap.size + 1) _ _ _ (.int .u8 (s.best.k : Int)) (.int .i64 s.best.n) (.string s.best.s) c0 c1 c2
            refine bodyPost_ret (v := .tuple #[s.best.val, .int .i64 0]) (by simp [results, Try.results26, go_sem, q0, q1, q2]) rfl ⟨by rw [HFIN.out]; rfl, ?_⟩
            go_grown
        · have en : ((s.n : Int) == 0) = false := by simp; omega
          have e21 : ((op : Int) != 21) = false := by simp; omega
          rw [if_neg hb] at hT1
          have hwide := wide_high s.t BB.out.1 BB.out.2
          generalize hhi : s.t / 18446744073709551616 = hi at *
          generalize hlo : s.t % 18446744073709551616 = lo at *
          generalize hL : wrap64 lo = L at *
          clear hb b0 b1 b2 hhi hlo
          by_cases hr : inR s.t
          · have hne : (hi != L / 9223372036854775808) = false := by have := (hwide.1 hr).1; simp; omega
            have hLt : L = s.t := (hwide.1 hr).2
            have HFIN : Hid (T = (numV L, 0)) := Lib.hid (by rw [hT1, overS, if_pos hr, hLt])
            clear hT1 hwide hr hLt hres
            go_wp2_with fail
            refine (number L _).mono ?_
            rintro e wf ⟨rfl, hbf⟩
            obtain ⟨c0, c1, c2, f0, f1, f2⟩ := HRES.out.later hbf
            have hb3 := next hbel hbf
            have hz3 := cell_lt c0
            clear hbf hbel
            go_wp2_with fail
            obtain ⟨q0, q1, q2⟩ := filled3 wf (w.heap.size + 1) _ _ _ (.int .u8 1) (.int .i64 L) (.string ⟨#[]⟩) c0 c1 c2
            refine bodyPost_ret (v := .tuple #[.agg #[.int .u8 1, .int .i64 L, .string ⟨#[]⟩], .int .i64 0]) (by simp [results, Try.results26, go_sem, q0, q1, q2]) rfl ⟨by rw [HFIN.out]; rfl, ?_⟩
            go_grown

          · have hne : (hi != L / 9223372036854775808) = true := by have := hwide.2 hr; simp; omega
            have HFIN : Hid (T = (nullV, 152)) := Lib.hid (by rw [hT1, overS, if_neg hr])
            clear hT1 hwide hr
            obtain ⟨c0, c1, c2, f0, f1, f2⟩ := hres
            go_wp2_with fail
            obtain ⟨q0, q1, q2⟩ := filled3 wr (w.heap.size + 1) _ _ _ (.int .u8 0) (.int .i64 0) (.string ⟨#[]⟩) c0 c1 c2
            refine bodyPost_ret (v := .tuple #[.agg #[.int .u8 0, .int .i64 0, .string ⟨#[]⟩], .int .i64 152]) (by simp [results, Try.results26, go_sem, q0, q1, q2]) rfl ⟨by rw [HFIN.out]; rfl, ?_⟩
            go_grown
end Go.Proofs.Ytclkpbokngamiaa.Dt
