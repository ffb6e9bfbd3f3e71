import Derived.Test.YtjgkeillmelkoaaGreatBk27
import Derived.Test.YtjgkeillmelkoaaGreatBk21
import Derived.Test.YtjgkeillmelkoaaGreatBk26
namespace Go.Proofs.YtjgkeillmelkoaaGreat.Et
open Go.Proofs.YtjgkeillmelkoaaGreat.Dt
open Go.RowKit Go.Proofs.YtjgkeillmelkoaaGreat.By

set_option maxRecDepth 100000 in
theorem refTypeBad (x : Ex) (cv : Value) (cols : List Nat) (hcl : cols.length ≤ 140737488351232) (g : Bool) (w : World) (hin : x.In w) (hok : x.Ok) (hcv : U8sAt w cv cols) (hsh : shapedB (cols.length : Int) x = false) :
    Calls Tryz.prog 74 #[x.val, cv, .bool g] w fun e w' => e = .returned (resK (0, 2)) ∧ Below w.heap.size w w' := by
  obtain ⟨ax, cx, ekx⟩ := Ex.kv_of hin
  have hmay := fun W (hb : Below w.heap.size w W) => refMay x (cols.length : Int) 2 W (by omega) (by omega) (by omega) (Ex.in_below (w := w) hb x hin) hok
  rw [show mayG (cols.length : Int) 2 x = false from hsh] at hmay
  obtain ⟨ac, cc, rfl⟩ := hcv.shape
  have HBA : Hid (Below w.heap.size w (w.alloc (.cells #[.int .u8 (x.op : Int), .int .u8 (x.v.k : Int), .int .i64 x.v.n, .string x.v.s, .string x.t, .string x.m, .int .i64 x.n, .slice ax x.kids.length cx] 44))) := Lib.hid ((Below.refl _ _).alloc (Nat.le_refl _) _)
  simp only [Ex.val] at hmay ⊢
  rw [ekx] at hmay ⊢
  have HM := Lib.hid hmay
  clear hmay hcv hin hok hsh
  go_enter Tryz.func74, Tryz.ntmps74
  go_wp2_with fail
  refine (HM.out _ HBA.out).mono ?_
  rintro e w1 ⟨rfl, hb1⟩
  have hb3 := next HBA.out hb1
  clear hb1
  go_wp2_with fail
  refine bodyPost_ret (v := .tuple #[.int .u8 0, .int .i64 2]) (by simp [results, Tryz.results74, go_sem]) rfl ⟨rfl, ?_⟩
  go_grown

set_option maxRecDepth 100000 in
set_option maxHeartbeats 8000000 in
theorem refKind (cv : Value) (cols : List Nat) (hcs : ∀ k ∈ cols, k < 256) (hcl : cols.length ≤ 140737488351232) : ∀ (x : Ex) (g : Bool) (w : World), x.In w → x.Ok → U8sAt w cv cols → shapedB (cols.length : Int) x = true →
    Calls Tryz.prog 74 #[x.val, cv, .bool g] w fun e w' => e = .returned (resK (kindS cols g x)) ∧ Below w.heap.size w w' := by
  refine Ex.ind fun x ih g w hin hok hcv hsh => ?_
  have hsh' := hsh
  rw [shaped_eq, Bool.and_eq_true] at hsh'
  obtain ⟨⟨ho1, ho2⟩, hkb, _, hcolr⟩ := (one_iff _ x).1 hsh'.1
  have hkids := List.all_eq_true.1 hsh'.2
  have hmay := fun W (hb : Below w.heap.size w W) => refMay x (cols.length : Int) 2 W (by omega) (by omega) (by omega) (Ex.in_below (w := w) hb x hin) hok
  rw [show mayG (cols.length : Int) 2 x = true from hsh] at hmay
  have hx8 := box_cells w (exBox w x 44) x 44 (Below.refl _ _)
  unfold exBox at hx8
  rw [Ex.in_iff] at hin
  rw [Ex.ok_iff] at hok
  obtain ⟨hat, hkin⟩ := hin
  obtain ⟨hone, hkok⟩ := hok
  have heq := kindS_all cols g x
  clear hsh hsh'
  obtain ⟨op, v, t, m, n, kv, ks⟩ := x
  simp only [Ex.op_mk, Ex.v_mk, Ex.t_mk, Ex.m_mk, Ex.n_mk, Ex.kv_mk, Ex.kids_mk, Ex.okOne] at hat hkin hkok hone ih heq ho1 ho2 hkb hcolr hkids
  obtain ⟨R0, hR0⟩ : ∃ R0, R0 = kindS cols g (.mk op v t m n kv ks) := ⟨_, rfl⟩
  rw [← hR0] at heq ⊢
  clear hR0
  simp only [Ex.val, Ex.op_mk, Ex.v_mk, Ex.t_mk, Ex.m_mk, Ex.n_mk, Ex.kv_mk] at hmay hx8 ⊢
  obtain ⟨a, c, rfl⟩ := hat.shape
  obtain ⟨ac, cc, rfl⟩ := hcv.shape
  obtain ⟨hop, hv, ht, hmm, hn1, hn2, hkl⟩ := hone
  have HAT := Lib.hid hat; clear hat
  have HKI := Lib.hid hkin; clear hkin
  have HKO := Lib.hid hkok; clear hkok
  have IH := Lib.hid ih; clear ih
  have HX1 := Lib.hid heq; clear heq
  have HV := Lib.hid hv; clear hv
  have HCV := Lib.hid hcv; clear hcv
  have HCS := Lib.hid hcs
  have HKB := Lib.hid hkb
  have HKID := Lib.hid hkids
  clear hcs hkb hkids
  have HMAY := Lib.hid hmay
  clear hmay
  have HBA : Hid (Below w.heap.size w (w.alloc (.cells #[.int .u8 (op : Int), .int .u8 (v.k : Int), .int .i64 v.n, .string v.s, .string t, .string m, .int .i64 n, .slice a ks.length c] 44))) := Lib.hid ((Below.refl _ _).alloc (Nat.le_refl _) _)
  by_cases c1 : op = 1
  · have e1 : ((op : Int) == 1) = true := by simp [c1]
    have hr : R0 = (v.k, 0) := HX1.out.1 c1
    subst hr
    clear c1
    go_enter Tryz.func74, Tryz.ntmps74
    go_wp2_with fail
    generalize hWA : w.alloc (.cells #[.int .u8 (op : Int), .int .u8 (v.k : Int), .int .i64 v.n, .string v.s, .string t, .string m, .int .i64 n, .slice a ks.length c] 44) = WA at *
    have hzA : WA.heap.size = w.heap.size + 1 := by rw [← hWA]; simp
    clear hWA
    refine (HMAY.out _ HBA.out).mono ?_
    rintro e w1 ⟨rfl, hb1⟩
    obtain ⟨x0, x1, x2, x3, x4, x5, x6, x7⟩ := hx8
    have y0 := (hb1.cell (cell_lt x0)).trans x0
    have y1 := (hb1.cell (cell_lt x1)).trans x1
    have y6 := (hb1.cell (cell_lt x6)).trans x6
    have y7 := (hb1.cell (cell_lt x7)).trans x7
    have hbel := next HBA.out hb1
    have hz1 : w.heap.size < w1.heap.size := cell_lt y0
    clear x0 x1 x2 x3 x4 x5 x6 x7 hb1 hzA

    go_wp2_with fail
    refine bodyPost_ret (v := .tuple #[.int .u8 (v.k : Int), .int .i64 0]) (by simp [results, Tryz.results74, go_sem]) rfl ⟨rfl, ?_⟩
    go_grown
  have e1 : ((op : Int) == 1) = false := by simp; omega
  by_cases c2 : op = 2
  · have e2 : ((op : Int) == 2) = true := by simp [c2]
    obtain ⟨hc0, hc1⟩ := hcolr c2
    have hr : R0 = (cols.getD n.toNat 0, 0) := HX1.out.2.1 c2
    subst hr
    clear c2
    obtain ⟨k, rfl, hk⟩ := col_get hc0 hc1
    obtain ⟨X, hX⟩ : ∃ X, X = cols.getD ((k : Int)).toNat 0 := ⟨_, rfl⟩
    rw [← hX] at hk ⊢
    have HK := Lib.hid hk
    clear hX hk
    go_enter Tryz.func74, Tryz.ntmps74
    go_wp2_with fail
    generalize hWA : w.alloc (.cells #[.int .u8 (op : Int), .int .u8 (v.k : Int), .int .i64 v.n, .string v.s, .string t, .string m, .int .i64 (k : Int), .slice a ks.length c] 44) = WA at *
    have hzA : WA.heap.size = w.heap.size + 1 := by rw [← hWA]; simp
    clear hWA
    refine (HMAY.out _ HBA.out).mono ?_
    rintro e w1 ⟨rfl, hb1⟩
    obtain ⟨x0, x1, x2, x3, x4, x5, x6, x7⟩ := hx8
    have y0 := (hb1.cell (cell_lt x0)).trans x0
    have y1 := (hb1.cell (cell_lt x1)).trans x1
    have y6 := (hb1.cell (cell_lt x6)).trans x6
    have y7 := (hb1.cell (cell_lt x7)).trans x7
    have hbel := next HBA.out hb1
    have hz1 : w.heap.size < w1.heap.size := cell_lt y0
    clear x0 x1 x2 x3 x4 x5 x6 x7 hb1 hzA

    obtain ⟨b, o, rfl, hbz, d0⟩ := at1 (HCV.out.below hbel) HK.out
    go_wp2_with fail
    refine bodyPost_ret (v := .tuple #[.int .u8 (X : Int), .int .i64 0]) (by simp [results, Tryz.results74, go_sem]) rfl ⟨rfl, ?_⟩
    go_grown
  have e2 : ((op : Int) == 2) = false := by simp; omega
  have e20 : decide ((20 : Int) ≤ (op : Int)) = groupB op := by rw [Bool.eq_iff_iff]; simp [groupB]; omega
  clear hcolr
  cases hgg : (groupB op && !g)
  · have hr := HX1.out.2.2.2 c1 c2 hgg
    obtain ⟨G, hG⟩ : ∃ G, (g && !groupB op) = G := ⟨_, rfl⟩
    simp only [hG] at hr
    have HR := Lib.hid hr
    have HG := Lib.hid hG
    have HGG := Lib.hid hgg
    generalize hgb : groupB op = gb at e20 HG HGG
    clear hr hG hgb hgg
    go_enter Tryz.func74, Tryz.ntmps74
    go_wp2_with fail
    generalize hWA : w.alloc (.cells #[.int .u8 (op : Int), .int .u8 (v.k : Int), .int .i64 v.n, .string v.s, .string t, .string m, .int .i64 n, .slice a ks.length c] 44) = WA at *
    have hzA : WA.heap.size = w.heap.size + 1 := by rw [← hWA]; simp
    clear hWA
    refine (HMAY.out _ HBA.out).mono ?_
    rintro e w1 ⟨rfl, hb1⟩
    obtain ⟨x0, x1, x2, x3, x4, x5, x6, x7⟩ := hx8
    have y0 := (hb1.cell (cell_lt x0)).trans x0
    have y1 := (hb1.cell (cell_lt x1)).trans x1
    have y6 := (hb1.cell (cell_lt x6)).trans x6
    have y7 := (hb1.cell (cell_lt x7)).trans x7
    have hbel := next HBA.out hb1
    have hz1 : w.heap.size < w1.heap.size := cell_lt y0
    clear x0 x1 x2 x3 x4 x5 x6 x7 hb1 hzA

    go_upto_if 33 with fail
    go_cut [2] (fun gv wx => gv = .bool G ∧ w1 = wx)
    case first =>
      cases gb
      · have hG : g = G := by rw [← HG.out]; simp
        subst hG
        go_wp2_with fail
        go_meet
        exact ⟨rfl, rfl⟩
      · have hg : g = true := by simpa using HGG.out
        subst hg
        have hG : G = false := HG.out.symm
        subst hG
        go_wp2_with fail
        go_meet
        exact ⟨rfl, rfl⟩
    case rest =>
      obtain ⟨rfl, rfl⟩ := hcut
      have HB1 := Lib.hid hbel
      have h00 := y0
      have h70 := y7
      clear hbel y0 y1 y6 y7 e20
      go_wp2_with fail
      go_loopg [8, 9] ks.length (fun gk kv i wr => ∃ (k : Nat) (l : List Nat), i = .int .i64 (k : Int) ∧ gk = ks.length - k ∧ k ≤ ks.length ∧ Hid (l.length = k) ∧ Hid (KindAt cols G ks op w wr kv k l) ∧ wr.cell? ⟨w.heap.size, 7, none⟩ = some (.slice a ks.length c) ∧ w.heap.size < wr.heap.size ∧ l.length ≤ 140737488351232)
      case atStart => exact ⟨0, [], rfl, rfl, Nat.zero_le _, rfl, ⟨OwnU.nil _ _, KSofar.zero _ _, by simp, h00, HB1.out⟩, h70, hz1, by simp⟩
      case round =>
        obtain ⟨k, l, rfl, rfl, hkl', hlv, hwa, h7, hzr, hl47⟩ := hrel
        clear h70 h00
        by_cases hlt : k < ks.length
        · obtain ⟨y, hy⟩ : ∃ y, ks[k]? = some y := ⟨ks[k], by simp⟩
          have hym : y ∈ ks := List.mem_of_getElem? hy
          obtain ⟨b, o, rfl, hbz, d0, d1, d2, d3, d4, d5, d6, d7⟩ := Ex.at8 (HAT.out.below hwa.out.bel) hy
          obtain ⟨ay, cy, eky⟩ := Ex.kv_of (HKI.out y hym)
          have hcall := fun W hb => IH.out y hym G W (Ex.in_below (w := w) hb y (HKI.out y hym)) (HKO.out y hym) (HCV.out.below hb) (HKID.out y hym)
          obtain ⟨R, hR⟩ : ∃ R, R = kindS cols G y := ⟨_, rfl⟩
          rw [← hR] at hcall
          have hRok : R.1 < 256 := by rw [hR]; exact kindS_small HCS.out y (HKO.out y hym) G
          simp only [Ex.val] at hcall
          rw [eky] at d7 hcall
          have HC := Lib.hid hcall
          have HRR := Lib.hid hR
          have HROK := Lib.hid hRok
          have HY := Lib.hid hy
          clear hcall hR hRok hy eky hym
          have ilt : (k : Int) < (ks.length : Int) := by omega
          have hl47' : l.length + 1 ≤ 140737488351232 := by have := hlv.out; omega
          obtain ⟨ak, ck, rfl⟩ := hwa.out.own.shape
          go_wp2_with fail
          refine (HC.out _ hwa.out.bel).mono ?_
          rintro e w2 ⟨rfl, hb02⟩
          have hop2 : w2.cell? ⟨w.heap.size, 0, none⟩ = some (.int .u8 (op : Int)) := (hb02.cell (p := ⟨w.heap.size, 0, none⟩) hzr).trans hwa.out.op
          have hown2 : OwnU w2 (w.heap.size + 1) (.slice ak l.length ck) l := hwa.out.own.below hb02
          have h72 := (hb02.cell (cell_lt h7)).trans h7
          have hz2 : w.heap.size < w2.heap.size := cell_lt hop2
          have HB2 := Lib.hid (And.intro (next hwa.out.bel hb02) (And.intro hop2 (And.intro hown2 h72)))
          clear hb02 hop2 hown2 h7 h72 d0 d1 d2 d3 d4 d5 d6 d7
          by_cases her : R.2 = 0
          · have her1 : ((R.2 : Int) != 0) = false := by simp [her]
            have HER := Lib.hid her; clear her
            have hsrc : Reads (w2.alloc (.cells #[.int .u8 (R.1 : Int)] 5)) 1 (.slice (some ⟨w2.heap.size, 0, none⟩) 1 1) 1 [.int .u8 (R.1 : Int)] := reads_of_owns (own_one w2 (w.heap.size + 1) 5 (.int .u8 (R.1 : Int)) (by omega))
            go_wp2_with (at_builtin; refine wpList_append_reads rfl (.tmp 57) (.tmp 59) 147 rfl (w.heap.size + 1) 5 1 1 elU8 _ l.length (uCells l) rfl (World.ownsRow.alloc HB2.out.2.2.1 _) _ 1 [.int .u8 (R.1 : Int)] rfl hsrc (by simp [Value.oneCell']) (by unfold maxLen; omega) (by omega) (by simp; omega) ?_; intro v' w3 hown3 hgrow3 hbel3; have HO3 := Lib.hid (OwnU.snoc hown3); have HB3 := Lib.hid hbel3; clear hown3 hgrow3 hbel3)
            have hbA := (Below.refl _ w2).alloc (Nat.le_refl _) (.cells #[.int .u8 (R.1 : Int)] 5)
            have fin : KindAt cols G ks op w w3 v' (k + 1) (l ++ [R.1]) := by
              have hop3 : w3.cell? ⟨w.heap.size, 0, none⟩ = some (.int .u8 (op : Int)) := (HB3.out.cell (p := ⟨w.heap.size, 0, none⟩) (by show w.heap.size < _; omega)).trans ((hbA.cell (p := ⟨w.heap.size, 0, none⟩) (by show w.heap.size < _; omega)).trans HB2.out.2.1)
              have hbel3 : Below w.heap.size w w3 := (HB2.out.1.trans (hbA.mono (by omega))).trans (HB3.out.mono (by omega))
              refine ⟨HO3.out, ?_, ?_, hop3, hbel3⟩
              · rw [HRR.out]; exact hwa.out.sofar.next HY.out (by rw [← HRR.out]; exact HER.out)
              · intro z hz
                rcases List.mem_append.1 hz with h | h
                · exact hwa.out.small z h
                · simp at h; subst h; exact HROK.out
            have hz3 : w.heap.size < w3.heap.size := cell_lt fin.op
            have h73 : w3.cell? ⟨w.heap.size, 7, none⟩ = some (.slice (some ⟨b, o, none⟩) ks.length c) := (HB3.out.cell (p := ⟨w.heap.size, 7, none⟩) (by show w.heap.size < _; omega)).trans ((hbA.cell (p := ⟨w.heap.size, 7, none⟩) (by show w.heap.size < _; omega)).trans HB2.out.2.2.2)
            have FIN := Lib.hid fin
            clear fin hbA
            go_roundg (ks.length - (k + 1))
            case measure => omega
            case rel => exact ⟨k + 1, l ++ [R.1], by go_num, rfl, by omega, Lib.hid (by have := hlv.out; simp; omega), FIN, h73, hz3, by simp; omega⟩
          · have her1 : ((R.2 : Int) != 0) = true := by simp; omega
            have hfin : R0 = (0, R.2) := by
              have := kindAll_err ks k y (fun i hi z hz => hwa.out.sofar.no i hi z hz) HY.out (by rw [← HRR.out]; exact her)
              rw [HR.out, this, ← HRR.out, if_neg her]
            have HFIN := Lib.hid hfin
            have hb2 := HB2.out.1
            clear hfin her
            go_wp2_with fail
            refine bodyPost_ret (v := .tuple #[.int .u8 0, .int .i64 (R.2 : Int)]) (by simp [results, Tryz.results74, go_sem]) rfl ⟨by rw [HFIN.out]; rfl, ?_⟩
            go_grown
        · obtain rfl : k = ks.length := by omega
          obtain ⟨ak, ck, rfl⟩ := hwa.out.own.shape
          have hvl := hwa.out.sofar.length (Nat.le_refl _)
          have hkall := hwa.out.sofar.all
          have hfin : R0 = if togetherB op l = true then (opK op l, 0) else (0, 150) := by rw [HR.out, hkall, if_pos rfl]
          have htog := fit op _ l wr hwa.out.own.at_ (hl47) hwa.out.small hop (fun h1 h2 => by
            have h := HKB.out
            unfold kidsB at h
            rw [if_neg (by omega), if_neg (by omega), if_neg (by omega), if_pos (by omega)] at h
            have : ks.length = 2 := by simpa using h
            omega)
          have hopc := hwa.out.op
          have hown := hwa.out.own
          have hbel := hwa.out.bel
          have HTOG := Lib.hid htog
          have HOWN := Lib.hid hown
          have HVL := Lib.hid hvl
          clear hkall htog hown hvl
          cases htv : togetherB op l
          · rw [htv] at HTOG hfin
            have HFIN : Hid (R0 = (0, 150)) := Lib.hid (by rw [hfin]; rfl)
            clear htv hfin
            go_wp2_with fail
            refine HTOG.out.mono ?_
            rintro e w2 ⟨rfl, hb2⟩
            have hb3 := next hbel hb2
            clear hb2 hbel
            go_wp2_with fail
            refine bodyPost_ret (v := .tuple #[.int .u8 0, .int .i64 150]) (by simp [results, Tryz.results74, go_sem]) rfl ⟨by rw [HFIN.out]; rfl, ?_⟩
            go_grown
          · rw [htv] at HTOG hfin
            have hf : R0 = (opK op l, 0) := by rw [hfin]; rfl
            clear htv hfin
            by_cases c11 : op = 11
            · have HFIN : Hid (R0 = (2, 0)) := Lib.hid (by rw [hf, opK, if_pos c11])
              subst c11
              clear hf
              go_wp2_with fail
              refine HTOG.out.mono ?_
              rintro e w2 ⟨rfl, hb2⟩
              have hopd := (hb2.cell (cell_lt hopc)).trans hopc
              have hb3 := next hbel hb2
              have hz3 := cell_lt hopd
              clear hb2 hbel
              go_wp2_with fail
              refine bodyPost_ret (v := .tuple #[.int .u8 2, .int .i64 0]) (by simp [results, Tryz.results74, go_sem]) rfl ⟨by rw [HFIN.out]; rfl, ?_⟩
              go_grown
            have e11 : ((op : Int) == 11) = false := by simp; omega
            by_cases c22 : 22 ≤ op
            · have hl0 : 0 < l.length := by
                have h := HKB.out
                unfold kidsB at h
                rw [if_neg (by omega), if_neg (by omega), if_neg (by omega), if_neg (by omega)] at h
                have : ks.length = 1 := by simpa using h
                have := HVL.out
                omega
              obtain ⟨q, hq⟩ : ∃ q, l[0]? = some q := ⟨l[0], by simp⟩
              have gq : l.getD 0 0 = q := by rw [List.getD, hq]; rfl
              have HFIN : Hid (R0 = (q, 0)) := Lib.hid (by rw [hf, opK, if_neg c11, if_pos (by omega), gq])
              have HQ := Lib.hid hq
              have hl0' : (0 : Int) < (l.length : Int) := by omega
              clear hf gq hq
              have y22 : decide ((22 : Int) ≤ (op : Int)) = true := decide_eq_true (by omega)

              go_wp2_with fail
              refine HTOG.out.mono ?_
              rintro e w2 ⟨rfl, hb2⟩
              have hopd := (hb2.cell (cell_lt hopc)).trans hopc
              have hb3 := next hbel hb2
              have hz3 := cell_lt hopd
              obtain ⟨b9, o9, e9, hbz9, d9⟩ := at1 (HOWN.out.below hb2).at_ HQ.out
              subst e9
              rw [Nat.add_zero] at d9
              clear hb2 hbel
              go_wp2_with fail
              refine bodyPost_ret (v := .tuple #[.int .u8 (q : Int), .int .i64 0]) (by simp [results, Tryz.results74, go_sem]) rfl ⟨by rw [HFIN.out]; rfl, ?_⟩
              go_grown
            · have HFIN : Hid (R0 = (1, 0)) := Lib.hid (by rw [hf, opK, if_neg c11, if_neg (by omega)])
              clear hf
              have y22 : decide ((22 : Int) ≤ (op : Int)) = false := decide_eq_false (by omega)

              go_wp2_with fail
              refine HTOG.out.mono ?_
              rintro e w2 ⟨rfl, hb2⟩
              have hopd := (hb2.cell (cell_lt hopc)).trans hopc
              have hb3 := next hbel hb2
              have hz3 := cell_lt hopd
              clear hb2 hbel
              go_wp2_with fail
              refine bodyPost_ret (v := .tuple #[.int .u8 1, .int .i64 0]) (by simp [results, Tryz.results74, go_sem]) rfl ⟨by rw [HFIN.out]; rfl, ?_⟩
              go_grown
  · have hr := HX1.out.2.2.1 c1 c2 hgg
    have hgo : groupB op = true := by rw [Bool.and_eq_true] at hgg; exact hgg.1
    have hgf : g = false := by rw [hgo] at hgg; simpa using hgg
    subst hgf
    rw [hgo] at e20
    have HR := Lib.hid hr
    clear hr hgo hgg
    go_enter Tryz.func74, Tryz.ntmps74
    go_wp2_with fail
    generalize hWA : w.alloc (.cells #[.int .u8 (op : Int), .int .u8 (v.k : Int), .int .i64 v.n, .string v.s, .string t, .string m, .int .i64 n, .slice a ks.length c] 44) = WA at *
    have hzA : WA.heap.size = w.heap.size + 1 := by rw [← hWA]; simp
    clear hWA
    refine (HMAY.out _ HBA.out).mono ?_
    rintro e w1 ⟨rfl, hb1⟩
    obtain ⟨x0, x1, x2, x3, x4, x5, x6, x7⟩ := hx8
    have y0 := (hb1.cell (cell_lt x0)).trans x0
    have y1 := (hb1.cell (cell_lt x1)).trans x1
    have y6 := (hb1.cell (cell_lt x6)).trans x6
    have y7 := (hb1.cell (cell_lt x7)).trans x7
    have hbel := next HBA.out hb1
    have hz1 : w.heap.size < w1.heap.size := cell_lt y0
    clear x0 x1 x2 x3 x4 x5 x6 x7 hb1 hzA

    go_wp2_with fail
    refine bodyPost_ret (v := .tuple #[.int .u8 0, .int .i64 151]) (by simp [results, Tryz.results74, go_sem]) rfl ⟨by rw [HR.out]; rfl, ?_⟩
    go_grown

theorem refType (x : Ex) (cv : Value) (cols : List Nat) (g : Bool) (w : World) (hcs : ∀ k ∈ cols, k < 256) (hcl : cols.length ≤ 140737488351232) (hin : x.In w) (hok : x.Ok) (hcv : U8sAt w cv cols) :
    Calls Tryz.prog 74 #[x.val, cv, .bool g] w fun e w' => e = .returned (resK (typeS cols g x)) ∧ Below w.heap.size w w' := by
  unfold typeS
  cases hs : shapedB (cols.length : Int) x
  · exact refTypeBad x cv cols hcl g w hin hok hcv hs
  · exact refKind cv cols hcs hcl x g w hin hok hcv hs
end Go.Proofs.YtjgkeillmelkoaaGreat.Et
namespace Go.Proofs.YtjgkeillmelkoaaGreat.Dt
open Go.RowKit Go.Proofs.YtjgkeillmelkoaaGreat.By

/-- The same expression, told in both ways. -/
inductive PX : PE → Ex → Prop
  | mk (op : Nat) (v : V) (t m : ByteArray) (n : Int) (kids : List PE) (kv : Value) (l : List Ex) (hl : l.length = kids.length) (h : ∀ (i : Nat) (x : PE) (e : Ex), kids[i]? = some x → l[i]? = some e → PX x e) : PX (.mk op v t m n kids) (.mk op v t m n kv l)
theorem px_list {w : World} : ∀ (cs : List (List Value)) (ks : List PE), cs.length = ks.length → (∀ (i : Nat) (c : List Value) (y : PE), cs[i]? = some c → ks[i]? = some y → ∃ e : Ex, PX y e ∧ e.In w ∧ e.cells = c) →
    ∃ l : List Ex, l.length = ks.length ∧ l.map Ex.cells = cs ∧ (∀ e ∈ l, e.In w) ∧ ∀ (i : Nat) (x : PE) (e : Ex), ks[i]? = some x → l[i]? = some e → PX x e
  | [], [], _, _ => ⟨[], rfl, rfl, fun e he => (by cases he), fun i x e hx => (by simp at hx)⟩
  | c :: cs, k :: ks, hl, h => by
    obtain ⟨e, h1, h2, h3⟩ := h 0 c k rfl rfl
    obtain ⟨l, l1, l2, l3, l4⟩ := px_list cs ks (by simpa using hl) (fun i c y hc hy => h (i + 1) c y (by simpa using hc) (by simpa using hy))
    refine ⟨e :: l, by simp [l1], by simp [h3, l2], fun z hz => ?_, fun i x z hx hz => ?_⟩
    · rcases List.mem_cons.1 hz with rfl | hz
      · exact h2
      · exact l3 z hz
    · rcases i with _ | i
      · simp at hx hz
        subst hx hz
        exact h1
      · exact l4 i x z (by simpa using hx) (by simpa using hz)
  | [], k :: ks, hl, _ => by simp at hl
  | c :: cs, [], hl, _ => by simp at hl
theorem px_of {w : World} {cs : List Value} {x : PE} (h : ExR w cs x) : ∃ e : Ex, PX x e ∧ e.In w ∧ e.cells = cs := by
  induction h with
  | mk x kv cs ha hl h8 hk ih =>
    obtain ⟨l, l1, l2, l3, l4⟩ := px_list cs x.kids hl ih
    obtain ⟨op, v, t, m, n, kids⟩ := x
    refine ⟨.mk op v t m n kv l, .mk op v t m n kids kv l l1 l4, (Ex.in_iff w _).2 ⟨?_, l3⟩, rfl⟩
    obtain ⟨a, c, rfl, hc, hh⟩ := ha
    have e1 : cs.length = l.length := by rw [← l2, List.length_map]
    refine ⟨a, c, by rw [e1]; rfl, by show l.length ≤ c; omega, fun i e he => ?_⟩
    have he' : l[i]? = some e := he
    exact hh i e.cells (by rw [← l2, List.getElem?_map, he']; rfl)
theorem PX.leaf {op : Nat} {v : V} {t m : ByteArray} {n : Int} {e : Ex} (h : PX (.mk op v t m n []) e) : ∃ kv, e = .mk op v t m n kv [] := by
  cases h with
  | mk _ _ _ _ _ _ kv l hl _ =>
    obtain rfl : l = [] := List.eq_nil_of_length_eq_zero hl
    exact ⟨kv, rfl⟩
theorem PX.two {op : Nat} {v : V} {t m : ByteArray} {n : Int} {a b : PE} {e : Ex} (h : PX (.mk op v t m n [a, b]) e) : ∃ kv ea eb, e = .mk op v t m n kv [ea, eb] ∧ PX a ea ∧ PX b eb := by
  cases h with
  | mk _ _ _ _ _ _ kv l hl hh =>
    match l, hl, hh with
    | [ea, eb], _, hh => exact ⟨kv, ea, eb, rfl, hh 0 _ _ rfl rfl, hh 1 _ _ rfl rfl⟩
theorem ok_mk {op : Nat} {v : V} {t m : ByteArray} {n : Int} {kv : Value} {l : List Ex} (h1 : op < 256) (h2 : v.ok) (h3 : t.size ≤ 140737488351232) (h4 : m.size ≤ 140737488351232) (h5 : -9223372036854775808 ≤ n) (h6 : n ≤ 9223372036854775807) (h7 : l.length * 104 ≤ 140737488351232) (h : ∀ y ∈ l, y.Ok) : (Ex.mk op v t m n kv l).Ok :=
  (Ex.ok_iff _).2 ⟨⟨h1, h2, h3, h4, h5, h6, h7⟩, h⟩
theorem ok_leaf {op : Nat} {v : V} {t m : ByteArray} {n : Int} {kv : Value} (h1 : op < 256) (h2 : v.ok) (h3 : t.size ≤ 140737488351232) (h4 : m.size ≤ 140737488351232) (h5 : -9223372036854775808 ≤ n) (h6 : n ≤ 9223372036854775807) : (Ex.mk op v t m n kv []).Ok :=
  ok_mk h1 h2 h3 h4 h5 h6 (by decide) (fun y hy => by cases hy)
theorem ok_two {op : Nat} {kv : Value} {a b : Ex} (h1 : op < 256) (ha : a.Ok) (hb : b.Ok) : (Ex.mk op V00 ⟨#[]⟩ ⟨#[]⟩ 0 kv [a, b]).Ok :=
  ok_mk h1 ⟨by decide, ⟨by decide, by decide⟩, by decide⟩ (by decide) (by decide) (by decide) (by decide) (by show 2 * 104 ≤ _; decide) (fun y hy => by
    rcases List.mem_cons.1 hy with rfl | hy
    · exact ha
    · obtain rfl := List.mem_singleton.1 hy
      exact hb)
/-- A column with its place; the layer's own expressions, with their places. -/
def colE (s : ByteArray) (n : Int) : PE := .mk 2 V00 ⟨#[]⟩ s n []
def px1 : PE := .node 18 [.node 12 [colE ⟨#[98]⟩ 1, intE 1], .node 12 [intE 2, colE ⟨#[97]⟩ 0]]
theorem px1_type (w : World) (c : Array Value) (cv : Value) (h : ExR w c.toList px1) (hu : U8sAt w cv [1, 1, 1]) :
    Calls Tryz.prog 74 #[.agg c, cv, .bool false] w fun e w' => e = .returned (.tuple #[.int .u8 1, .int .i64 0]) ∧ Below w.heap.size w w' := by
  obtain ⟨e, hp, hin, hc⟩ := px_of h
  have hv : (.agg c : Value) = e.val := by
    have : c = e.cells.toArray := by rw [hc]
    rw [this]; rfl
  rw [hv]
  obtain ⟨kv, ea, eb, rfl, ha, hb⟩ := hp.two
  obtain ⟨kv1, e1, e2, rfl, h1, h2⟩ := ha.two
  obtain ⟨kv2, e3, e4, rfl, h3, h4⟩ := hb.two
  obtain ⟨k1, rfl⟩ := h1.leaf
  obtain ⟨k2, rfl⟩ := PX.leaf (h2 : PX (.mk 1 ⟨1, 1, ⟨#[]⟩⟩ ⟨#[]⟩ ⟨#[]⟩ 0 []) e2)
  obtain ⟨k3, rfl⟩ := PX.leaf (h3 : PX (.mk 1 ⟨1, 2, ⟨#[]⟩⟩ ⟨#[]⟩ ⟨#[]⟩ 0 []) e3)
  obtain ⟨k4, rfl⟩ := h4.leaf
  have ht := Et.refType _ cv [1, 1, 1] false w (by decide) (by decide) hin (ok_two (by decide)
    (ok_two (by decide) (ok_leaf (by decide) ⟨by decide, ⟨by decide, by decide⟩, by decide⟩ (by decide) (by decide) (by decide) (by decide)) (ok_leaf (by decide) ⟨by decide, ⟨by decide, by decide⟩, by decide⟩ (by decide) (by decide) (by decide) (by decide)))
    (ok_two (by decide) (ok_leaf (by decide) ⟨by decide, ⟨by decide, by decide⟩, by decide⟩ (by decide) (by decide) (by decide) (by decide)) (ok_leaf (by decide) ⟨by decide, ⟨by decide, by decide⟩, by decide⟩ (by decide) (by decide) (by decide) (by decide)))) hu
  exact ht
end Go.Proofs.YtjgkeillmelkoaaGreat.Dt
