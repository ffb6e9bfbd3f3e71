/-
  The walks of package eval's kind and Type.
-/
import Derived.Test.YtclkpbokngamiaaTypeSpec
import Derived.Test.YtclkpbokngamiaaEvalTop
import Derived.Deep.DeepCutAuto
namespace Go.Proofs.Ytclkpbokngamiaa.Dt
open Go.RowKit Go.Proofs.Ytclkpbokngamiaa.By

theorem col_get {cols : List Nat} {n : Int} (h0 : 0 ≤ n) (h1 : n < (cols.length : Int)) : ∃ k : Nat, n = (k : Int) ∧ cols[k]? = some (cols.getD n.toNat 0) := by
  obtain ⟨k, rfl⟩ := Int.eq_ofNat_of_zero_le h0
  refine ⟨k, rfl, ?_⟩
  rw [Int.toNat_natCast, List.getD_eq_getElem?_getD, List.getElem?_eq_getElem (by omega)]
  rfl

/-- What is there between two kids. -/
structure KindAt (cols : List Nat) (g : Bool) (ks : List Ex) (op : Nat) (w wr : World) (kv : Value) (k : Nat) (l : List Nat) : Prop where
  own : OwnU wr (w.heap.size + 1) kv l
  sofar : KSofar cols g ks k l
  small : ∀ k ∈ l, k < 256
  op : wr.cell? ⟨w.heap.size, 0, none⟩ = some (.int .u8 (op : Int))
  bel : Below w.heap.size w wr

set_option maxRecDepth 100000 in
set_option maxHeartbeats 8000000 in
theorem kind (cv : Value) (cols : List Nat) (hcs : ∀ k ∈ cols, k < 256) (_hcl : cols.length ≤ 140737488351232) : ∀ (x : Ex) (g : Bool) (w : World), x.In w → x.Ok → U8sAt w cv cols → shapedB (cols.length : Int) x = true →
    Calls Try.prog 28 #[x.val, cv, .bool g] w fun e w' => e = .returned (resK (kindS cols g x)) ∧ Below w.heap.size w w' := by
  refine Ex.ind fun x ih g w hin hok hcv hsh => ?_
  have hsh' := hsh
  rw [shaped_eq, Bool.and_eq_true] at hsh'
  obtain ⟨⟨ho1, ho2⟩, hkb, _, hcolr⟩ := (one_iff _ x).1 hsh'.1
  have hkids := List.all_eq_true.1 hsh'.2
  rw [Ex.in_iff] at hin
  rw [Ex.ok_iff] at hok
  obtain ⟨hat, hkin⟩ := hin
  obtain ⟨hone, hkok⟩ := hok
  have heq := kindS_all cols g x
  clear hsh hsh'
  obtain ⟨op, v, t, m, n, kv, ks⟩ := x
  simp only [Ex.op_mk, Ex.v_mk, Ex.t_mk, Ex.m_mk, Ex.n_mk, Ex.kv_mk, Ex.kids_mk, Ex.okOne] at hat hkin hkok hone ih heq ho1 ho2 hkb hcolr hkids
  obtain ⟨R0, hR0⟩ : ∃ R0, R0 = kindS cols g (.mk op v t m n kv ks) := ⟨_, rfl⟩
  rw [← hR0] at heq ⊢
  clear hR0
  simp only [Ex.val, Ex.op_mk, Ex.v_mk, Ex.t_mk, Ex.m_mk, Ex.n_mk, Ex.kv_mk]
  obtain ⟨a, c, rfl⟩ := hat.shape
  obtain ⟨ac, cc, rfl⟩ := hcv.shape
  obtain ⟨hop, hv, ht, hmm, hn1, hn2, hkl⟩ := hone
  have HAT := Lib.hid hat; clear hat
  have HKI := Lib.hid hkin; clear hkin
  have HKO := Lib.hid hkok; clear hkok
  have IH := Lib.hid ih; clear ih
  have HX1 := Lib.hid heq; clear heq
  have HV := Lib.hid hv; clear hv
  have HCV := Lib.hid hcv; clear hcv
  have HCS := Lib.hid hcs
  have HKB := Lib.hid hkb
  have HKID := Lib.hid hkids
  clear hcs hkb hkids
  by_cases c1 : op = 1
  · subst c1
    have hr : R0 = (v.k, 0) := HX1.out.1 rfl
    subst hr
    go_enter Try.func28, Try.ntmps28
    go_wp2_with fail
    refine bodyPost_ret (v := .tuple #[.int .u8 (v.k : Int), .int .i64 0]) (by simp [results, Try.results28, go_sem]) rfl ⟨rfl, ?_⟩
    go_grown
  have e1 : ((op : Int) == 1) = false := by simp; omega
  by_cases c2 : op = 2
  · subst c2
    obtain ⟨hc0, hc1⟩ := hcolr rfl
    have hr : R0 = (cols.getD n.toNat 0, 0) := HX1.out.2.1 rfl
    subst hr
    obtain ⟨k, rfl, hk⟩ := col_get hc0 hc1
    obtain ⟨X, hX⟩ : ∃ X, X = cols.getD ((k : Int)).toNat 0 := ⟨_, rfl⟩
    rw [← hX] at hk ⊢
    obtain ⟨b, o, rfl, hbz, d0⟩ := at1 HCV.out hk
    clear hX hk
    go_enter Try.func28, Try.ntmps28
    go_wp2_with fail
    refine bodyPost_ret (v := .tuple #[.int .u8 (X : Int), .int .i64 0]) (by simp [results, Try.results28, go_sem]) rfl ⟨rfl, ?_⟩
    go_grown
  have e2 : ((op : Int) == 2) = false := by simp; omega
  have hgc := fun W => group op W hop
  clear hcolr
  cases hgg : (groupB op && !g)
  · have hr := HX1.out.2.2.2 c1 c2 hgg
    obtain ⟨G, hG⟩ : ∃ G, (g && !groupB op) = G := ⟨_, rfl⟩
    simp only [hG] at hr
    have HR := Lib.hid hr
    have HG := Lib.hid hG
    have HGC := Lib.hid hgc
    have h70 : (w.alloc (.cells #[.int .u8 (op : Int), .int .u8 (v.k : Int), .int .i64 v.n, .string v.s, .string t, .string m, .int .i64 n, .slice a ks.length c] 27)).cell? ⟨w.heap.size, 7, none⟩ = some (.slice a ks.length c) := by go_simp
    have h00 : (w.alloc (.cells #[.int .u8 (op : Int), .int .u8 (v.k : Int), .int .i64 v.n, .string v.s, .string t, .string m, .int .i64 n, .slice a ks.length c] 27)).cell? ⟨w.heap.size, 0, none⟩ = some (.int .u8 (op : Int)) := by go_simp
    have HBA : Hid (Below w.heap.size w (w.alloc (.cells #[.int .u8 (op : Int), .int .u8 (v.k : Int), .int .i64 v.n, .string v.s, .string t, .string m, .int .i64 n, .slice a ks.length c] 27))) := Lib.hid ((Below.refl _ _).alloc (Nat.le_refl _) _)
    clear hr hG hgc
    go_enter Try.func28, Try.ntmps28
    go_upto_region 5 with fail
    generalize hWA : w.alloc (.cells #[.int .u8 (op : Int), .int .u8 (v.k : Int), .int .i64 v.n, .string v.s, .string t, .string m, .int .i64 n, .slice a ks.length c] 27) = WA at *
    have hzA : WA.heap.size = w.heap.size + 1 := by rw [← hWA]; simp
    clear hWA
    go_cut [29] (fun cx wx => cx = .bool false ∧ WA = wx)
    case first =>
      cases hgo : groupB op
      · have HGO := Lib.hid hgo
        clear hgo hgg
        go_wp2_with fail
        refine (HGC.out _).mono ?_
        rintro e w' ⟨rfl, rfl⟩
        rw [HGO.out]
        go_wp2_with fail
        go_meet
        exact ⟨rfl, rfl⟩
      · have hgt : g = true := by rw [hgo] at hgg; simpa using hgg
        subst hgt
        have HGO := Lib.hid hgo
        clear hgo hgg
        go_wp2_with fail
        refine (HGC.out _).mono ?_
        rintro e w' ⟨rfl, rfl⟩
        rw [HGO.out]
        go_wp2_with fail
        go_meet
        exact ⟨rfl, rfl⟩
    case rest =>
      obtain ⟨rfl, rfl⟩ := hcut
      go_wp2_with fail
      go_loopg [8, 40] ks.length (fun gk kv i wr => ∃ (k : Nat) (l : List Nat), i = .int .i64 (k : Int) ∧ gk = ks.length - k ∧ k ≤ ks.length ∧ l.length = k ∧ Hid (KindAt cols G ks op w wr kv k l) ∧ w.heap.size < wr.heap.size)
      case atStart => exact ⟨0, [], rfl, rfl, Nat.zero_le _, rfl, ⟨OwnU.nil _ _, KSofar.zero _ _, by simp, h00, HBA.out⟩, by omega⟩
      case round =>
        obtain ⟨k, l, rfl, rfl, hkl', hlv, hwa, hzr⟩ := hrel
        by_cases hlt : k < ks.length
        · obtain ⟨y, hy⟩ : ∃ y, ks[k]? = some y := ⟨ks[k], by simp⟩
          have hym : y ∈ ks := List.mem_of_getElem? hy
          obtain ⟨b, o, rfl, hbz, d0, d1, d2, d3, d4, d5, d6, d7⟩ := Ex.at8 (HAT.out.below hwa.out.bel) hy
          obtain ⟨ay, cy, eky⟩ := Ex.kv_of (HKI.out y hym)
          have hcall := fun W hb => IH.out y hym G W (Ex.in_below (w := w) hb y (HKI.out y hym)) (HKO.out y hym) (HCV.out.below hb) (HKID.out y hym)
          obtain ⟨R, hR⟩ : ∃ R, R = kindS cols G y := ⟨_, rfl⟩
          rw [← hR] at hcall
          have hRok : R.1 < 256 := by rw [hR]; exact kindS_small HCS.out y (HKO.out y hym) G
          simp only [Ex.val] at hcall
          rw [eky] at d7 hcall
          have HC := Lib.hid hcall
          have HRR := Lib.hid hR
          have HROK := Lib.hid hRok
          have HY := Lib.hid hy
          clear hcall hR hRok hy
          have ilt : (k : Int) < (ks.length : Int) := by omega
          obtain ⟨ak, ck, rfl⟩ := hwa.out.own.shape
          have hy8 := box_cells wr (wr.alloc (.cells #[.int .u8 (y.op : Int), .int .u8 (y.v.k : Int), .int .i64 y.v.n, .string y.v.s, .string y.t, .string y.m, .int .i64 y.n, .slice ay y.kids.length cy] 27)) y 27 (by simp only [exBox, eky]; exact Below.refl _ _)
          have hopY : (wr.alloc (.cells #[.int .u8 (y.op : Int), .int .u8 (y.v.k : Int), .int .i64 y.v.n, .string y.v.s, .string y.t, .string y.m, .int .i64 y.n, .slice ay y.kids.length cy] 27)).cell? ⟨w.heap.size, 0, none⟩ = some (.int .u8 (op : Int)) := by rw [cell_alloc_lt hzr]; exact hwa.out.op
          rw [eky] at hy8
          have HBY : Hid (Below wr.heap.size wr (wr.alloc (.cells #[.int .u8 (y.op : Int), .int .u8 (y.v.k : Int), .int .i64 y.v.n, .string y.v.s, .string y.t, .string y.m, .int .i64 y.n, .slice ay y.kids.length cy] 27))) := Lib.hid ((Below.refl _ _).alloc (Nat.le_refl _) _)
          have hzY : (wr.alloc (.cells #[.int .u8 (y.op : Int), .int .u8 (y.v.k : Int), .int .i64 y.v.n, .string y.v.s, .string y.t, .string y.m, .int .i64 y.n, .slice ay y.kids.length cy] 27)).heap.size = wr.heap.size + 1 := by simp
          clear eky hym
          go_upto_region 11 with fail
          generalize hWY : wr.alloc (.cells #[.int .u8 (y.op : Int), .int .u8 (y.v.k : Int), .int .i64 y.v.n, .string y.v.s, .string y.t, .string y.m, .int .i64 y.n, .slice ay y.kids.length cy] 27) = WY at *
          clear hWY d0 d1 d2 d3 d4 d5 d6 d7 h70 h00
          obtain ⟨x0, x1, x2, x3, x4, x5, x6, x7⟩ := hy8
          have l0 := lat_cell x0
          have l1 := lat_cell x1
          have l2 := lat_cell x2
          have l3 := lat_cell x3
          have l4 := lat_cell x4
          have l5 := lat_cell x5
          have l6 := lat_cell x6
          have l7 := lat_cell x7
          have l8 := lat_cell hopY
          go_cut [11, 12] (fun nv ev wx => nv = .int .u8 (R.1 : Int) ∧ ev = .int .i64 (R.2 : Int) ∧ Below WY.heap.size WY wx)
          case first =>
            cases g
            · have hG0 : G = false := by rw [← HG.out]; rfl
              subst hG0
              refine wp_region_later (by kernel_rfl) (by kernel_rfl) ?_
              repeat (go_big_quiet_step ((first | (go_at_call 29; exact lat_calls_same (HGC.out _)) | (go_at_call 28; exact lat_calls (HC.out _ (next (next hwa.out.bel HBY.out) (lat_below _ _)))))))
              refine wpQuiet_nil ?_
              refine later_out (fun wf hbf => ?_)
              go_wp2_with fail
              go_meet
              exact ⟨rfl, rfl, hbf⟩
            · have hG0 : (!groupB op) = G := by rw [← HG.out]; rfl
              refine wp_region_later (by kernel_rfl) (by kernel_rfl) ?_
              repeat (go_big_quiet_step ((first | (go_at_call 29; exact lat_calls_same (HGC.out _)) | (go_at_call 28; exact lat_calls (HC.out _ (next (next hwa.out.bel HBY.out) (lat_below _ _)))))))
              refine wpQuiet_nil ?_
              refine later_out (fun wf hbf => ?_)
              go_wp2_with fail
              go_meet
              exact ⟨rfl, rfl, hbf⟩
          case rest =>
            obtain ⟨rfl, rfl, hb12⟩ := hcut
            rename World => w2
            clear x0 x1 x2 x3 x4 x5 x6 x7 l0 l1 l2 l3 l4 l5 l6 l7 l8 hopY
            have hb02 : Below wr.heap.size wr w2 := next HBY.out hb12
            have hop2 : w2.cell? ⟨w.heap.size, 0, none⟩ = some (.int .u8 (op : Int)) := (hb02.cell (p := ⟨w.heap.size, 0, none⟩) hzr).trans hwa.out.op
            have hown2 : OwnU w2 (w.heap.size + 1) (.slice ak l.length ck) l := hwa.out.own.below hb02
            have hz2 : w.heap.size < w2.heap.size := cell_lt hop2
            have HB2 := Lib.hid (And.intro (next hwa.out.bel hb02) (And.intro hop2 (And.intro hown2 trivial)))
            clear hb02 hop2 hown2 hb12 hzY
            by_cases her : R.2 = 0
            · have her1 : ((R.2 : Int) != 0) = false := by simp [her]
              have HER := Lib.hid her; clear her
              have hsrc : Reads (w2.alloc (.cells #[.int .u8 (R.1 : Int)] 5)) 1 (.slice (some ⟨w2.heap.size, 0, none⟩) 1 1) 1 [.int .u8 (R.1 : Int)] := reads_of_owns (own_one w2 (w.heap.size + 1) 5 (.int .u8 (R.1 : Int)) (by omega))
              go_wp2_with (at_builtin; refine wpList_append_reads rfl (.tmp 60) (.tmp 62) 56 rfl (w.heap.size + 1) 5 1 1 elU8 _ l.length (uCells l) rfl (World.ownsRow.alloc HB2.out.2.2.1 _) _ 1 [.int .u8 (R.1 : Int)] rfl hsrc (by simp [Value.oneCell']) (by unfold maxLen; omega) (by omega) (by simp; omega) ?_; intro v' w3 hown3 hgrow3 hbel3; have HO3 := Lib.hid (OwnU.snoc hown3); have HB3 := Lib.hid hbel3; clear hown3 hgrow3 hbel3)
              have hbA := (Below.refl _ w2).alloc (Nat.le_refl _) (.cells #[.int .u8 (R.1 : Int)] 5)
              have fin : KindAt cols G ks op w w3 v' (k + 1) (l ++ [R.1]) := by
                have hop3 : w3.cell? ⟨w.heap.size, 0, none⟩ = some (.int .u8 (op : Int)) := (HB3.out.cell (p := ⟨w.heap.size, 0, none⟩) (by show w.heap.size < _; omega)).trans ((hbA.cell (p := ⟨w.heap.size, 0, none⟩) (by show w.heap.size < _; omega)).trans HB2.out.2.1)
                have hbel3 : Below w.heap.size w w3 := (HB2.out.1.trans (hbA.mono (by omega))).trans (HB3.out.mono (by omega))
                refine ⟨HO3.out, ?_, ?_, hop3, hbel3⟩
                · rw [HRR.out]; exact hwa.out.sofar.next HY.out (by rw [← HRR.out]; exact HER.out)
                · intro z hz
                  rcases List.mem_append.1 hz with h | h
                  · exact hwa.out.small z h
                  · simp at h; subst h; exact HROK.out
              have hz3 : w.heap.size < w3.heap.size := cell_lt fin.op
              have FIN := Lib.hid fin
              clear fin hbA
              go_roundg (ks.length - (k + 1))
              case measure => omega
              case rel => exact ⟨k + 1, l ++ [R.1], by go_num, rfl, by omega, by simp; omega, FIN, hz3⟩
            · have her1 : ((R.2 : Int) != 0) = true := by simp; omega
              have hfin : R0 = (0, R.2) := by
                have := kindAll_err ks k y (fun i hi z hz => hwa.out.sofar.no i hi z hz) HY.out (by rw [← HRR.out]; exact her)
                rw [HR.out, this, ← HRR.out, if_neg her]
              have HFIN := Lib.hid hfin
              have hb2 := HB2.out.1
              clear hfin her
              go_wp2_with fail
              refine bodyPost_ret (v := .tuple #[.int .u8 0, .int .i64 (R.2 : Int)]) (by simp [results, Try.results28, go_sem]) rfl ⟨by rw [HFIN.out]; rfl, ?_⟩
              go_grown
        · obtain rfl : k = ks.length := by omega
          obtain ⟨ak, ck, rfl⟩ := hwa.out.own.shape
          clear hlv
          have hvl := hwa.out.sofar.length (Nat.le_refl _)
          have hkall := hwa.out.sofar.all
          have hfin : R0 = if togetherB op l = true then (opK op l, 0) else (0, 150) := by rw [HR.out, hkall, if_pos rfl]
          have htog := together op _ l wr hwa.out.own.at_ (by rw [hvl]; omega) hwa.out.small hop (fun h1 h2 => by
            have h := HKB.out
            unfold kidsB at h
            rw [if_neg (by omega), if_neg (by omega), if_neg (by omega), if_pos (by omega)] at h
            have : ks.length = 2 := by simpa using h
            omega)
          have hopc := hwa.out.op
          have hown := hwa.out.own
          have hbel := hwa.out.bel
          have HTOG := Lib.hid htog
          have HOWN := Lib.hid hown
          have HVL := Lib.hid hvl
          clear hkall htog hown hvl
          cases htv : togetherB op l
          · rw [htv] at HTOG hfin
            have HFIN : Hid (R0 = (0, 150)) := Lib.hid (by rw [hfin]; rfl)
            clear htv hfin
            go_wp2_with fail
            refine HTOG.out.mono ?_
            rintro e w2 ⟨rfl, hb2⟩
            have hb3 := next hbel hb2
            clear hb2 hbel
            go_wp2_with fail
            refine bodyPost_ret (v := .tuple #[.int .u8 0, .int .i64 150]) (by simp [results, Try.results28, go_sem]) rfl ⟨by rw [HFIN.out]; rfl, ?_⟩
            go_grown
          · rw [htv] at HTOG hfin
            have hf : R0 = (opK op l, 0) := by rw [hfin]; rfl
            clear htv hfin
            by_cases c11 : op = 11
            · have HFIN : Hid (R0 = (2, 0)) := Lib.hid (by rw [hf, opK, if_pos c11])
              subst c11
              clear hf
              go_wp2_with fail
              refine HTOG.out.mono ?_
              rintro e w2 ⟨rfl, hb2⟩
              have hopd := (hb2.cell (cell_lt hopc)).trans hopc
              have hb3 := next hbel hb2
              have hz3 := cell_lt hopd
              clear hb2 hbel
              go_wp2_with fail
              refine bodyPost_ret (v := .tuple #[.int .u8 2, .int .i64 0]) (by simp [results, Try.results28, go_sem]) rfl ⟨by rw [HFIN.out]; rfl, ?_⟩
              go_grown
            have e11 : ((op : Int) == 11) = false := by simp; omega
            by_cases c22 : 22 ≤ op
            · have hl0 : 0 < l.length := by
                have h := HKB.out
                unfold kidsB at h
                rw [if_neg (by omega), if_neg (by omega), if_neg (by omega), if_neg (by omega)] at h
                have : ks.length = 1 := by simpa using h
                have := HVL.out
                omega
              obtain ⟨q, hq⟩ : ∃ q, l[0]? = some q := ⟨l[0], by simp⟩
              have gq : l.getD 0 0 = q := by rw [List.getD, hq]; rfl
              have HFIN : Hid (R0 = (q, 0)) := Lib.hid (by rw [hf, opK, if_neg c11, if_pos (by omega), gq])
              have HQ := Lib.hid hq
              have hl0' : (0 : Int) < (l.length : Int) := by omega
              clear hf gq hq
              by_cases x22 : op = 22
              · have y22 : ((op : Int) == 22) = true := by simp [x22]
                clear x22
                go_wp2_with fail
                refine HTOG.out.mono ?_
                rintro e w2 ⟨rfl, hb2⟩
                have hopd := (hb2.cell (cell_lt hopc)).trans hopc
                have hb3 := next hbel hb2
                have hz3 := cell_lt hopd
                obtain ⟨b9, o9, e9, hbz9, d9⟩ := at1 (HOWN.out.below hb2).at_ HQ.out
                subst e9
                rw [Nat.add_zero] at d9
                clear hb2 hbel
                go_wp2_with fail
                refine bodyPost_ret (v := .tuple #[.int .u8 (q : Int), .int .i64 0]) (by simp [results, Try.results28, go_sem]) rfl ⟨by rw [HFIN.out]; rfl, ?_⟩
                go_grown

              · have y22 : ((op : Int) == 22) = false := by simp; omega
                have y23 : ((op : Int) == 23) = true := by simp; omega
                go_wp2_with fail
                refine HTOG.out.mono ?_
                rintro e w2 ⟨rfl, hb2⟩
                have hopd := (hb2.cell (cell_lt hopc)).trans hopc
                have hb3 := next hbel hb2
                have hz3 := cell_lt hopd
                obtain ⟨b9, o9, e9, hbz9, d9⟩ := at1 (HOWN.out.below hb2).at_ HQ.out
                subst e9
                rw [Nat.add_zero] at d9
                clear hb2 hbel
                go_wp2_with fail
                refine bodyPost_ret (v := .tuple #[.int .u8 (q : Int), .int .i64 0]) (by simp [results, Try.results28, go_sem]) rfl ⟨by rw [HFIN.out]; rfl, ?_⟩
                go_grown
            · have HFIN : Hid (R0 = (1, 0)) := Lib.hid (by rw [hf, opK, if_neg c11, if_neg (by omega)])
              clear hf
              have y22 : ((op : Int) == 22) = false := by simp; omega
              have y23 : ((op : Int) == 23) = false := by simp; omega

              go_wp2_with fail
              refine HTOG.out.mono ?_
              rintro e w2 ⟨rfl, hb2⟩
              have hopd := (hb2.cell (cell_lt hopc)).trans hopc
              have hb3 := next hbel hb2
              have hz3 := cell_lt hopd
              clear hb2 hbel
              go_wp2_with fail
              refine bodyPost_ret (v := .tuple #[.int .u8 1, .int .i64 0]) (by simp [results, Try.results28, go_sem]) rfl ⟨by rw [HFIN.out]; rfl, ?_⟩
              go_grown
  · have hr := HX1.out.2.2.1 c1 c2 hgg
    have hgo : groupB op = true := by rw [Bool.and_eq_true] at hgg; exact hgg.1
    have hgf : g = false := by rw [hgo] at hgg; simpa using hgg
    subst hgf
    rw [hgo] at hgc
    have HGC := Lib.hid hgc
    have HR := Lib.hid hr
    clear hr hgo hgc hgg
    go_enter Try.func28, Try.ntmps28
    go_wp2_with fail
    refine (HGC.out _).mono ?_
    rintro e w' ⟨rfl, rfl⟩
    go_wp2_with fail
    refine bodyPost_ret (v := .tuple #[.int .u8 0, .int .i64 151]) (by simp [results, Try.results28, go_sem]) rfl ⟨by rw [HR.out]; rfl, ?_⟩
    go_grown

set_option maxRecDepth 100000 in
set_option maxHeartbeats 4000000 in
theorem typeW (x : Ex) (cv : Value) (cols : List Nat) (g : Bool) (w : World) (hcs : ∀ k ∈ cols, k < 256) (hcl : cols.length ≤ 140737488351232) (hin : x.In w) (hok : x.Ok) (hcv : U8sAt w cv cols) :
    Calls Try.prog 15 #[x.val, cv, .bool g] w fun e w' => e = .returned (resK (typeS cols g x)) ∧ Below w.heap.size w w' := by
  unfold typeS
  obtain ⟨ax, cx, ekx⟩ := Ex.kv_of hin
  have hsh := fun W (hb : Below w.heap.size w W) => shaped x (cols.length : Int) W (by omega) (by omega) (Ex.in_below (w := w) hb x hin) hok
  have hkd := fun W (hb : Below w.heap.size w W) hs => kind cv cols hcs hcl x g W (Ex.in_below (w := w) hb x hin) hok (hcv.below hb) hs
  obtain ⟨ac, cc, rfl⟩ := hcv.shape
  have hbA : Below w.heap.size w (w.alloc (.cells #[.int .u8 (x.op : Int), .int .u8 (x.v.k : Int), .int .i64 x.v.n, .string x.v.s, .string x.t, .string x.m, .int .i64 x.n, .slice ax x.kids.length cx] 27)) := (Below.refl _ _).alloc (Nat.le_refl _) _
  have hx8 := box_cells w (w.alloc (.cells #[.int .u8 (x.op : Int), .int .u8 (x.v.k : Int), .int .i64 x.v.n, .string x.v.s, .string x.t, .string x.m, .int .i64 x.n, .slice ax x.kids.length cx] 27)) x 27 (by simp only [exBox, ekx]; exact Below.refl _ _)
  simp only [Ex.val] at hsh hkd ⊢
  rw [ekx] at hx8 hsh hkd ⊢
  have HBA := Lib.hid hbA
  clear hbA hcv hin hok hcs
  obtain ⟨M, hM⟩ : ∃ M, M = shapedB (cols.length : Int) x := ⟨_, rfl⟩
  rw [← hM] at hkd ⊢
  simp only [← hM] at hsh
  obtain ⟨R, hR⟩ : ∃ R, R = kindS cols g x := ⟨_, rfl⟩
  rw [← hR] at hkd ⊢
  have HM := Lib.hid hsh
  have HK := Lib.hid hkd
  clear hsh hkd hM hR
  cases M
  · rw [show (if false = true then R else (0, 2)) = (0, 2) from rfl]
    go_enter Try.func15, Try.ntmps15
    go_wp2_with fail
    refine (HM.out _ HBA.out).mono ?_
    rintro e w1 ⟨rfl, hb1⟩
    have hb3 := next HBA.out hb1
    clear hb1
    go_wp2_with fail
    refine bodyPost_ret (v := .tuple #[.int .u8 0, .int .i64 2]) (by simp [results, Try.results15, go_sem]) rfl ⟨rfl, ?_⟩
    go_grown
  · rw [show (if true = true then R else (0, 2)) = R from rfl]
    go_enter Try.func15, Try.ntmps15
    go_wp2_with fail
    generalize hWA : w.alloc (.cells #[.int .u8 (x.op : Int), .int .u8 (x.v.k : Int), .int .i64 x.v.n, .string x.v.s, .string x.t, .string x.m, .int .i64 x.n, .slice ax x.kids.length cx] 27) = WA at *
    refine (HM.out _ HBA.out).mono ?_
    rintro e w1 ⟨rfl, hb1⟩
    obtain ⟨x0, x1, x2, x3, x4, x5, x6, x7⟩ := hx8
    have y0 := (hb1.cell (cell_lt x0)).trans x0
    have y1 := (hb1.cell (cell_lt x1)).trans x1
    have y2 := (hb1.cell (cell_lt x2)).trans x2
    have y3 := (hb1.cell (cell_lt x3)).trans x3
    have y4 := (hb1.cell (cell_lt x4)).trans x4
    have y5 := (hb1.cell (cell_lt x5)).trans x5
    have y6 := (hb1.cell (cell_lt x6)).trans x6
    have y7 := (hb1.cell (cell_lt x7)).trans x7
    clear x0 x1 x2 x3 x4 x5 x6 x7 hWA
    have HBEL := Lib.hid (next HBA.out hb1)
    clear hb1
    go_wp2_with fail
    refine (HK.out _ HBEL.out trivial).mono ?_
    rintro e w2 ⟨rfl, hb2⟩
    have hb3 := next HBEL.out hb2
    clear hb2
    go_wp2_with fail
    refine bodyPost_ret (v := resK R) (by simp [results, Try.results15, go_sem]) rfl ⟨rfl, ?_⟩
    go_grown
end Go.Proofs.Ytclkpbokngamiaa.Dt
