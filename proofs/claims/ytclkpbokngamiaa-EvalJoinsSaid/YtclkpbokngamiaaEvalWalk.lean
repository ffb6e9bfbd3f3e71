/-
  The walk of package eval's walk: what an expression comes to.
-/
import Derived.Test.YtclkpbokngamiaaEvalDoes
import Derived.Test.YtclkpbokngamiaaEvalMay
import Derived.Test.YtclkpbokngamiaaOwnV
namespace Go.Proofs.Ytclkpbokngamiaa.Dt
open Go.RowKit Go.Proofs.Ytclkpbokngamiaa.By

/-- What the calls that tell columns and groups do. -/
structure Env (cols : Int) (g : Bool) (w0 : World) (f : FuncId) (p : Addr) (tf : Value) (col : Int → V) (grp : Ex → V × Nat) : Prop where
  fcall : ∀ args w, (callFunc f args).run Try.prog w = .ok (.enter f args) w
  hcol : ∀ n W, 0 ≤ n → n < cols → Below w0.heap.size w0 W → Calls Try.prog f #[.int .i64 n, .pointer (some p)] W fun e w' => e = .returned (col n).val ∧ Below W.heap.size W w'
  colok : ∀ n, 0 ≤ n → n < cols → (col n).ok
  hgrp : g = true → ∃ h q, tf = .func (.func h) #[] #[.pointer (some q)] ∧ (∀ args w, (callFunc h args).run Try.prog w = .ok (.enter h args) w) ∧ ∀ (y : Ex) W, y.In W → y.Ok → groupB y.op = true → mayB cols true y = true → Below w0.heap.size w0 W →
    Calls Try.prog h #[y.val, .pointer (some q)] W fun e w' => e = .returned (resV (grp y)) ∧ Below W.heap.size W w'
  grpok : g = true → ∀ y : Ex, y.Ok → groupB y.op = true → mayB cols true y = true → (grp y).1.ok

theorem may_parts {cols : Int} {g : Bool} {x : Ex} (h : mayB cols g x = true) : shapedB cols x = true ∧ (groupB x.op = true → g = true) ∧ ∀ y ∈ x.kids, mayB cols (g && !groupB x.op) y = true := by
  rw [may_eq, Bool.and_eq_true, Bool.and_eq_true] at h
  refine ⟨h.1.1, fun hg => ?_, fun y hy => List.all_eq_true.1 h.2 y hy⟩
  have := h.1.2
  rw [hg] at this
  simpa using this
theorem shaped_parts {cols : Int} {x : Ex} (h : shapedB cols x = true) : (1 ≤ x.op ∧ x.op ≤ 23) ∧ kidsB x.op x.kids.length = true ∧ (x.op = 1 → checkV x.v = 0) ∧ (x.op = 2 → 0 ≤ x.n ∧ x.n < cols) := by
  rw [shaped_eq, Bool.and_eq_true] at h
  exact (one_iff cols x).1 h.1
theorem kids_fit {op n : Nat} (h : kidsB op n = true) (h3 : 3 ≤ op) (h19 : op ≤ 19) : n = if op ≤ 5 then 1 else 2 := by
  unfold kidsB at h
  rw [if_neg (by omega), if_neg (by omega), if_neg (by omega)] at h
  by_cases h6 : 6 ≤ op ∧ op ≤ 19
  · rw [if_pos h6] at h; rw [if_neg (by omega)]; simpa using h
  · rw [if_neg h6] at h; rw [if_pos (by omega)]; simpa using h

theorem walkS_ok {cols : Int} {g : Bool} {w0 : World} {f : FuncId} {p : Addr} {tf : Value} {col : Int → V} {grp : Ex → V × Nat} (E : Env cols g w0 f p tf col grp) : ∀ x : Ex, x.Ok → mayB cols g x = true → (walkS col grp x).1.ok := by
  refine Ex.ind fun x ih hok hm => ?_
  obtain ⟨hsh, hgr, hkids⟩ := may_parts hm
  obtain ⟨_, _, _, hcol⟩ := shaped_parts hsh
  have hok' := (Ex.ok_iff x).1 hok
  rw [walkS_eq]
  split
  · exact hok'.1.2.1
  split
  · exact E.colok _ (hcol (by assumption)).1 (hcol (by assumption)).2
  split
  · rename_i hg
    have := hgr hg
    subst this
    exact E.grpok rfl x hok hg hm
  · rename_i hng
    split
    · refine doS_ok _ _ ?_
      rename_i h0
      have hall : ∀ (l : List Ex), (∀ y ∈ l, y ∈ x.kids) → ∀ v ∈ (walkAll col grp l).1, v.ok := by
        intro l
        induction l with
        | nil => intro _ v hv; simp [walkAll] at hv
        | cons y l ihl =>
          intro hsub v hv
          have hy := hsub y List.mem_cons_self
          have hmy := hkids y hy
          rw [show groupB x.op = false by simpa using hng] at hmy
          rw [Bool.not_false, Bool.and_true] at hmy
          rw [walkAll] at hv
          split at hv
          · rcases List.mem_cons.1 hv with rfl | hv
            · exact ih y hy (hok'.2 y hy) hmy
            · exact ihl (fun z hz => hsub z (List.mem_cons_of_mem _ hz)) v hv
          · cases hv
      exact hall x.kids (fun _ h => h)
    · exact nullV_ok

theorem cell_alloc_lt {W : World} {o : Obj} {p : Addr} (h : p.block < W.heap.size) : (W.alloc o).cell? p = W.cell? p := ((Below.refl _ W).alloc (Nat.le_refl _) o).cell h

/-- What is there between two kids. -/
structure WalkAt (col : Int → V) (grp : Ex → V × Nat) (ks : List Ex) (op : Nat) (w wr : World) (kv : Value) (k : Nat) (vs : List V) : Prop where
  own : OwnV wr (w.heap.size + 2) kv vs
  sofar : Sofar col grp ks k vs
  ok : ∀ v ∈ vs, v.ok
  res : ResBox (w.heap.size + 1) wr
  op : wr.cell? ⟨w.heap.size, 0, none⟩ = some (.int .u8 (op : Int))
  bel : Below w.heap.size w wr

set_option maxRecDepth 100000 in
set_option maxHeartbeats 8000000 in
theorem walk {cols : Int} {g : Bool} {w0 : World} {f : FuncId} {p : Addr} {tf : Value} {col : Int → V} {grp : Ex → V × Nat} (E : Env cols g w0 f p tf col grp) : ∀ (x : Ex) (w : World), Below w0.heap.size w0 w → x.In w → x.Ok → mayB cols g x = true →
    Calls Try.prog 21 #[x.val, .func (.func f) #[] #[.pointer (some p)], tf] w fun e w' => e = .returned (resV (walkS col grp x)) ∧ Below w.heap.size w w' := by
  refine Ex.ind fun x ih w hw0 hin hok hm => ?_
  obtain ⟨hsh, hgr, hkids⟩ := may_parts hm
  obtain ⟨⟨ho1, ho2⟩, hkb, _, hcolr⟩ := shaped_parts hsh
  have hxin := hin
  have hxok := hok
  rw [Ex.in_iff] at hin
  rw [Ex.ok_iff] at hok
  obtain ⟨hat, hkin⟩ := hin
  obtain ⟨hone, hkok⟩ := hok
  have heq := walkS_all col grp x
  have HXI := Lib.hid (And.intro hxin (And.intro hxok hm))
  clear hxin hxok hm hsh
  have HW0 := Lib.hid hw0; clear hw0
  have HXX : Hid (∃ z : Ex, z = x) := ⟨x, rfl⟩
  obtain ⟨op, v, t, m, n, kv, ks⟩ := x
  simp only [Ex.op_mk, Ex.v_mk, Ex.t_mk, Ex.m_mk, Ex.n_mk, Ex.kv_mk, Ex.kids_mk, Ex.okOne] at hat hkin hkok hone ih heq ho1 ho2 hkb hcolr hgr hkids
  obtain ⟨R0, hR0⟩ : ∃ R0, R0 = walkS col grp (.mk op v t m n kv ks) := ⟨_, rfl⟩
  rw [← hR0] at heq ⊢
  clear hR0
  simp only [Ex.val, Ex.op_mk, Ex.v_mk, Ex.t_mk, Ex.m_mk, Ex.n_mk, Ex.kv_mk]
  obtain ⟨a, c, rfl⟩ := hat.shape
  obtain ⟨hop, hv, ht, hmm, hn1, hn2, hkl⟩ := hone
  have HAT := Lib.hid hat; clear hat
  have HKI := Lib.hid hkin; clear hkin
  have HKO := Lib.hid hkok; clear hkok
  have IH := Lib.hid ih; clear ih
  have HX1 := Lib.hid heq; clear heq
  have HV := Lib.hid hv; clear hv
  by_cases c1 : op = 1
  · subst c1
    have hr : R0 = (v, 0) := HX1.out.1 rfl
    subst hr
    go_enter Try.func21, Try.ntmps21
    go_wp2_with fail
    refine bodyPost_ret (v := .tuple #[v.val, .int .i64 0]) (by simp [results, Try.results21, go_sem]) rfl ⟨rfl, ?_⟩
    go_grown
  have e1 : ((op : Int) == 1) = false := by simp; omega
  by_cases c2 : op = 2
  · subst c2
    obtain ⟨hc0, hc1⟩ := hcolr rfl
    have hcc := fun W hb => E.hcol n W hc0 hc1 hb
    have hfc := E.fcall
    have hr : R0 = (col n, 0) := HX1.out.2.1 rfl
    subst hr
    obtain ⟨X, hX⟩ : ∃ X, X = col n := ⟨_, rfl⟩
    rw [← hX] at hcc ⊢
    have HCC := Lib.hid hcc
    have hbA : Below w.heap.size w ((w.alloc (.cells #[.int .u8 2, .int .u8 (v.k : Int), .int .i64 v.n, .string v.s, .string t, .string m, .int .i64 n, .slice a ks.length c] 27)).alloc (.cells #[.int .u8 0, .int .i64 0, .string ⟨#[]⟩] 23)) := by go_grown
    have HB0 := Lib.hid (HW0.out.trans (hbA.mono HW0.out.size))
    have hrb := resBox_new (w.alloc (.cells #[.int .u8 2, .int .u8 (v.k : Int), .int .i64 v.n, .string v.s, .string t, .string m, .int .i64 n, .slice a ks.length c] 27)) 23
    rw [show (w.alloc (.cells #[.int .u8 2, .int .u8 (v.k : Int), .int .i64 v.n, .string v.s, .string t, .string m, .int .i64 n, .slice a ks.length c] 27)).heap.size = w.heap.size + 1 by simp] at hrb
    have HRB := Lib.hid hrb
    clear hcc hX hcolr hrb
    go_enter Try.func21, Try.ntmps21
    go_wp2_with fail
    refine (HCC.out _ HB0.out).mono ?_
    rintro e w2 ⟨rfl, hb2⟩
    obtain ⟨c0, c1, c2, f0, f1, f2⟩ := HRB.out.later hb2
    have hb3 := next hbA hb2
    have hz2 := cell_lt c0
    clear hb2 hbA
    go_wp2_with fail
    obtain ⟨q0, q1, q2⟩ := filled3 w2 (w.heap.size + 1) _ _ _ (.int .u8 (X.k : Int)) (.int .i64 X.n) (.string X.s) c0 c1 c2
    refine bodyPost_ret (v := .tuple #[X.val, .int .i64 0]) (by simp [results, Try.results21, go_sem, q0, q1, q2]) rfl ⟨rfl, ?_⟩
    go_grown
  have e2 : ((op : Int) == 2) = false := by simp; omega
  have hgc := fun W => group op W hop
  have hbA : Below w.heap.size w ((w.alloc (.cells #[.int .u8 (op : Int), .int .u8 (v.k : Int), .int .i64 v.n, .string v.s, .string t, .string m, .int .i64 n, .slice a ks.length c] 27)).alloc (.cells #[.int .u8 0, .int .i64 0, .string ⟨#[]⟩] 23)) := by go_grown
  have hrb := resBox_new (w.alloc (.cells #[.int .u8 (op : Int), .int .u8 (v.k : Int), .int .i64 v.n, .string v.s, .string t, .string m, .int .i64 n, .slice a ks.length c] 27)) 23
  rw [show (w.alloc (.cells #[.int .u8 (op : Int), .int .u8 (v.k : Int), .int .i64 v.n, .string v.s, .string t, .string m, .int .i64 n, .slice a ks.length c] 27)).heap.size = w.heap.size + 1 by simp] at hrb
  have HRB := Lib.hid hrb
  have HBA := Lib.hid hbA
  clear hrb hbA
  cases hg : groupB op
  · rw [hg] at hgc
    have HG := Lib.hid hgc
    have h19 : op ≤ 19 := by
      have : ¬ (20 ≤ op ∧ op ≤ 23) := by simpa [groupB] using hg
      omega
    have hfit := kids_fit hkb (by omega) h19
    have hl2 : ks.length ≤ 2 := by rw [hfit]; split <;> omega
    have hr : R0 = if (walkAll col grp ks).2 = 0 then doS op (walkAll col grp ks).1 else (nullV, (walkAll col grp ks).2) := HX1.out.2.2.2 c1 c2 hg
    have hkm : ∀ y ∈ ks, mayB cols g y = true := by
      intro y hy
      have := hkids y hy
      rwa [hg, Bool.not_false, Bool.and_true] at this
    have HR := Lib.hid hr
    have HKM := Lib.hid hkm
    have HFIT := Lib.hid hfit
    clear hr hkm hfit hgc hg hkids hgr hkb
    go_enter Try.func21, Try.ntmps21
    go_wp2_with fail
    refine (HG.out _).mono ?_
    rintro e w' ⟨rfl, rfl⟩
    go_wp2_with fail
    go_loopw [8, 39] (fun kv i wr => ∃ (k : Nat) (vs : List V), i = .int .i64 (k : Int) ∧ k ≤ ks.length ∧ vs.length ≤ 2 ∧ Hid (WalkAt col grp ks op w wr kv k vs) ∧ w.heap.size + 1 < wr.heap.size) (fun _ i _ => ks.length - (intOf i).toNat)
    case atStart => exact ⟨0, [], rfl, Nat.zero_le _, by simp, ⟨OwnV.nil _ _, Sofar.zero _, by simp, HRB.out, by go_simp, HBA.out⟩, by simp⟩
    case round =>
      obtain ⟨k, vs, rfl, hkl', hlv, hwa, hzr⟩ := hrel
      by_cases hlt : k < ks.length
      · obtain ⟨y, hy⟩ : ∃ y, ks[k]? = some y := ⟨ks[k], by simp⟩
        have hym : y ∈ ks := List.mem_of_getElem? hy
        obtain ⟨b, o, rfl, hbz, d0, d1, d2, d3, d4, d5, d6, d7⟩ := Ex.at8 (HAT.out.below hwa.out.bel) hy
        obtain ⟨ay, cy, eky⟩ := Ex.kv_of (HKI.out y hym)
        have hcall := fun W hb0 hb => IH.out y hym W hb0 (Ex.in_below (w := w) hb y (HKI.out y hym)) (HKO.out y hym) (HKM.out y hym)
        obtain ⟨R, hR⟩ : ∃ R, R = walkS col grp y := ⟨_, rfl⟩
        rw [← hR] at hcall
        have hRok : R.1.ok := by rw [hR]; exact walkS_ok E y (HKO.out y hym) (HKM.out y hym)
        simp only [Ex.val] at hcall
        rw [eky] at d7 hcall
        have HC := Lib.hid hcall
        have HRR := Lib.hid hR
        have HROK := Lib.hid hRok
        have HY := Lib.hid hy
        clear hcall hR hRok hy eky
        have ilt : (k : Int) < (ks.length : Int) := by omega
        obtain ⟨ak, ck, rfl⟩ := hwa.out.own.shape
        have hbel := hwa.out.bel
        have hbelY : Below w.heap.size w (wr.alloc (.cells #[.int .u8 (y.op : Int), .int .u8 (y.v.k : Int), .int .i64 y.v.n, .string y.v.s, .string y.t, .string y.m, .int .i64 y.n, .slice ay y.kids.length cy] 27)) := hbel.alloc (by omega) _
        have HBY := Lib.hid (And.intro (HW0.out.trans (hbelY.mono HW0.out.size)) hbelY)
        clear hbel hbelY
        go_wp2_with fail
        refine (HC.out _ HBY.out.1 HBY.out.2).mono ?_
        rintro e w2 ⟨rfl, hb2⟩
        have hbW2 : Below w.heap.size w w2 := HBY.out.2.trans (hb2.mono HBY.out.2.size)
        have hb02 : Below wr.heap.size wr w2 := ((Below.refl _ wr).alloc (Nat.le_refl _) _).trans (hb2.mono (by simp))
        have hres2 : ResBox (w.heap.size + 1) w2 := hwa.out.res.later hb02
        have hop2 : w2.cell? ⟨w.heap.size, 0, none⟩ = some (.int .u8 (op : Int)) := (hb02.cell (p := ⟨w.heap.size, 0, none⟩) (by show w.heap.size < _; omega)).trans hwa.out.op
        have hown2 : OwnV w2 (w.heap.size + 2) (.slice ak vs.length ck) vs := hwa.out.own.below hb02
        have hz2 : w.heap.size + 1 < w2.heap.size := hres2.lt
        have HB2 := Lib.hid (And.intro hbW2 (And.intro hres2 (And.intro hop2 hown2)))
        clear hbW2 hb02 hres2 hop2 hown2 hb2 d0 d1 d2 d3 d4 d5 d6 d7
        by_cases her : R.2 = 0
        · have her1 : ((R.2 : Int) != 0) = false := by simp [her]
          have HER := Lib.hid her; clear her
          have hsrc := reads_V (w2.alloc (.cells #[.int .u8 (R.1.k : Int), .int .i64 R.1.n, .string R.1.s] 23)) (w.heap.size + 2) R.1 (by simp; omega) (w2.heap.size + 1) (by simp)
          go_wp2_with (at_builtin; refine wpList_append_reads rfl (.tmp 54) (.tmp 56) 49 rfl (w.heap.size + 2) 23 3 32 elV _ vs.length (vCells vs) rfl (World.ownsRow.alloc (World.ownsRow.alloc HB2.out.2.2.2 _) _) _ 1 _ rfl hsrc (by simp [Value.oneCell']) (by unfold maxLen; omega) (by omega) (by simp; omega) ?_; intro v' w3 hown3 hgrow3 hbel3; have HO3 := Lib.hid (OwnV.snoc hown3); have HB3 := Lib.hid hbel3; clear hown3 hgrow3 hbel3)
          have hbA := ((((Below.refl _ w2).alloc (Nat.le_refl _) (.cells #[.int .u8 (R.1.k : Int), .int .i64 R.1.n, .string R.1.s] 23))).alloc (by simp) (.cells #[.int .u8 (R.1.k : Int), .int .i64 R.1.n, .string R.1.s] 23))
          have fin : WalkAt col grp ks op w w3 v' (k + 1) (vs ++ [R.1]) := by
            have hres3 := (HB2.out.2.1.later hbA).below HB3.out (by omega)
            have hop3 : w3.cell? ⟨w.heap.size, 0, none⟩ = some (.int .u8 (op : Int)) := (HB3.out.cell (p := ⟨w.heap.size, 0, none⟩) (by show w.heap.size < _; omega)).trans ((hbA.cell (p := ⟨w.heap.size, 0, none⟩) (by show w.heap.size < _; omega)).trans HB2.out.2.2.1)
            have hbel3 : Below w.heap.size w w3 := (HB2.out.1.trans (hbA.mono (by omega))).trans (HB3.out.mono (by omega))
            refine ⟨HO3.out, ?_, ?_, hres3, hop3, hbel3⟩
            · rw [HRR.out]; exact hwa.out.sofar.next HY.out (by rw [← HRR.out]; exact HER.out)
            · intro z hz
              rcases List.mem_append.1 hz with h | h
              · exact hwa.out.ok z h
              · simp at h; subst h; exact HROK.out
          have hlen' : (vs ++ [R.1]).length ≤ 2 := by
            have := fin.sofar.length (by omega)
            omega
          have hz3 : w.heap.size + 1 < w3.heap.size := fin.res.lt
          have FIN := Lib.hid fin
          clear fin hbA
          go_roundw
          case rel => exact ⟨k + 1, vs ++ [R.1], by go_num, by omega, hlen', FIN, hz3⟩
          case measure => simp [intOf]; omega
        · have her1 : ((R.2 : Int) != 0) = true := by simp; omega
          have hfin : R0 = (nullV, R.2) := by
            have := walkAll_err ks k y (fun i hi z hz => hwa.out.sofar.no i hi z hz) HY.out (by rw [← HRR.out]; exact her)
            rw [HR.out, this, ← HRR.out, if_neg her]
          have HFIN := Lib.hid hfin
          have hr3 : ResBox (w.heap.size + 1) (w2.alloc (.cells #[.int .u8 (R.1.k : Int), .int .i64 R.1.n, .string R.1.s] 23)) := HB2.out.2.1.later ((Below.refl _ _).alloc (Nat.le_refl _) _)
          have hb3 : Below w.heap.size w (w2.alloc (.cells #[.int .u8 (R.1.k : Int), .int .i64 R.1.n, .string R.1.s] 23)) := HB2.out.1.alloc (by omega) _
          clear hfin her
          obtain ⟨c0, c1, c2, f0, f1, f2⟩ := HB2.out.2.1
          have hb2 := HB2.out.1
          clear hr3 hb3
          go_wp2_with fail
          obtain ⟨q0, q1, q2⟩ := filled3 w2 (w.heap.size + 1) _ _ _ (.int .u8 0) (.int .i64 0) (.string ⟨#[]⟩) c0 c1 c2
          refine bodyPost_ret (v := .tuple #[.agg #[.int .u8 0, .int .i64 0, .string ⟨#[]⟩], .int .i64 (R.2 : Int)]) (by simp [results, Try.results21, go_sem, q0, q1, q2, cell_alloc_lt, hz2]) rfl ⟨by rw [HFIN.out]; rfl, ?_⟩
          go_grown
      · obtain rfl : k = ks.length := by omega
        obtain ⟨ak, ck, rfl⟩ := hwa.out.own.shape
        have hvl := hwa.out.sofar.length (Nat.le_refl _)
        have hwalk := hwa.out.sofar.all
        have hfit : Fits op vs := ⟨by omega, h19, by rw [hvl]; exact HFIT.out⟩
        have hfin : R0 = doS op vs := by rw [HR.out, hwalk, if_pos rfl]
        have hdo := does op _ vs wr hwa.out.own.at_ hwa.out.ok hfit
        rw [← hfin] at hdo
        have HDO := Lib.hid hdo
        have hopc := hwa.out.op
        have hres := hwa.out.res
        have hbel := hwa.out.bel
        clear hvl hwalk hfit hfin hdo
        go_wp2_with fail
        refine HDO.out.mono ?_
        rintro e w2 ⟨rfl, hb2⟩
        obtain ⟨c0, c1, c2, f0, f1, f2⟩ := hres.later hb2
        have hb3 := next hbel hb2
        have hz3 := cell_lt c0
        clear hb2 hbel hres hopc
        go_wp2_with fail
        obtain ⟨q0, q1, q2⟩ := filled3 w2 (w.heap.size + 1) _ _ _ (.int .u8 (R0.1.k : Int)) (.int .i64 R0.1.n) (.string R0.1.s) c0 c1 c2
        refine bodyPost_ret (v := resV R0) (by simp [results, Try.results21, go_sem, q0, q1, q2]) rfl ⟨rfl, ?_⟩
        go_grown
  · obtain rfl : g = true := hgr hg
    obtain ⟨h, q, rfl, hfc, hcall⟩ := E.hgrp rfl
    have hr : R0 = grp (.mk op v t m n (.slice a ks.length c) ks) := HX1.out.2.2.1 c1 c2 hg
    have hcc := fun W hb0 (hb : Below w.heap.size w W) => hcall (.mk op v t m n (.slice a ks.length c) ks) W (Ex.in_below (w := w) hb _ HXI.out.1) HXI.out.2.1 hg HXI.out.2.2 hb0
    rw [← hr] at hcc
    simp only [Ex.val, Ex.op_mk, Ex.v_mk, Ex.t_mk, Ex.m_mk, Ex.n_mk, Ex.kv_mk] at hcc
    have HCC := Lib.hid hcc
    rw [hg] at hgc
    have HG := Lib.hid hgc
    have HB0 := Lib.hid (HW0.out.trans (HBA.out.mono HW0.out.size))
    clear hr hcc hcall hgc hg hkids hgr hkb hcolr
    go_enter Try.func21, Try.ntmps21
    go_wp2_with fail
    refine (HG.out _).mono ?_
    rintro e w' ⟨rfl, rfl⟩
    go_wp2_with fail
    refine (HCC.out _ HB0.out HBA.out).mono ?_
    rintro e w2 ⟨rfl, hb2⟩
    obtain ⟨c0, c1, c2, f0, f1, f2⟩ := HRB.out.later hb2
    have hb3 := next HBA.out hb2
    have hz2 := cell_lt c0
    clear hb2
    go_wp2_with fail
    obtain ⟨q0, q1, q2⟩ := filled3 w2 (w.heap.size + 1) _ _ _ (.int .u8 (R0.1.k : Int)) (.int .i64 R0.1.n) (.string R0.1.s) c0 c1 c2
    refine bodyPost_ret (v := resV R0) (by simp [results, Try.results21, go_sem, q0, q1, q2]) rfl ⟨rfl, ?_⟩
    go_grown
end Go.Proofs.Ytclkpbokngamiaa.Dt
