/- EvalJoins: the law returns true at every input. -/
import Derived.Test.YtclkpbokngamiaaLift
import Derived.Test.YtclkpbokngamiaaJoinW
import Derived.Test.YtclkpbokngamiaaEvalGreat2
import Derived.Test.YtclkpbokngamiaaTypes
import Derived.Test.YtclkpbokngamiaaAll
namespace Go.Proofs.Ytclkpbokngamiaa.EvalJoins
open Go.ChangeShapes Go.WideShapes Go.ChangeAt Go.RowKit Go.Proofs.Ytclkpbokngamiaa.By
set_option linter.unusedVariables false
-- witness .slice none 0 0
-- witness .slice none 0 0
/- EvalJoins: COUNT of two groups together is the sum of both; so is SUM, where all three are numbers; MIN is one of both. No conditions. -/
open Go.Proofs.Ytclkpbokngamiaa.Dt
theorem elR : By.Elem Try.prog 37 49 1 24 where
  slice := by kernel_rfl
  info := by
    have h : (Try.prog.info? 49).map (fun i => (i.zero, i.size, i.bytes)) = some (some (.slice none 0 0), 1, 24) := by kernel_rfl
    obtain ⟨i, hi, h1, h2, h3⟩ := info_parts h
    exact ⟨i, _, hi, h1, h2, h3, rfl⟩
  pos := by decide
def rCells (l : List Rw) : List Value := l.map Rw.hd
/-- Nil, or somewhere. -/
def Plain (v : Value) : Prop := v = .slice none 0 0 ∨ ∃ ad n c, v = .slice (some ad) n c
theorem reads_rows {w : World} {v : Value} {l : List Rw} (h : RowsAt w v l) (hp : Plain v) : Reads w 1 v l.length (rCells l) := by
  refine ⟨by simp [rCells], ?_⟩
  obtain ⟨a, c, e, hc, h'⟩ := h.at_
  rcases hp with hp | ⟨ad, n, c2, hp⟩
  · rw [hp] at e
    simp only [Value.slice.injEq] at e
    exact .inl ⟨hp, e.2.1.symm⟩
  · rw [hp] at e
    simp only [Value.slice.injEq] at e
    obtain ⟨rfl, rfl, rfl⟩ := e
    refine .inr ⟨ad, _, hp, fun j u hu => ?_⟩
    unfold rCells at hu
    rw [List.getElem?_map] at hu
    cases hj : l[j]? with
    | none => rw [hj] at hu; cases hu
    | some r =>
      rw [hj] at hu
      cases hu
      obtain ⟨b, o, e2, h2⟩ := h' j r hj
      cases e2
      have := h2 0 r.hd rfl
      simpa [Addr.add_lit] using this
theorem rows_oneCell {w : World} {v : Value} {l : List Rw} (h : RowsAt w v l) : ∀ u ∈ rCells l, u.oneCell' = true := by
  intro u hu
  obtain ⟨r, hr, rfl⟩ := List.mem_map.1 hu
  obtain ⟨a, c, e⟩ := (h.rows r hr).shape
  rw [e]; rfl
theorem rows_own {w : World} {base : Nat} {v : Value} {A B : List Rw} (h : w.ownsRow base 49 1 v (A.length + B.length) (rCells A ++ rCells B)) (hA : ∀ r ∈ A, VsAt w r.hd r.l) (hB : ∀ r ∈ B, VsAt w r.hd r.l) : RowsAt w v (A ++ B) := by
  refine ⟨?_, fun r hr => by
    rcases List.mem_append.1 hr with hr | hr
    · exact hA r hr
    · exact hB r hr⟩
  rcases h.2 with ⟨rfl, hn⟩ | ⟨g, cap, cur, rfl, hg, hh, hn, hcap, hsz, ht⟩
  · have h1 : A = [] := List.eq_nil_of_length_eq_zero (by omega)
    have h2 : B = [] := List.eq_nil_of_length_eq_zero (by omega)
    subst h1 h2
    exact SlAt.nil _ _ _
  · refine ⟨_, cap, by rw [List.length_append], by rw [List.length_append]; exact hn, fun i x hx => ⟨g, 0, rfl, fun j u hu => ?_⟩⟩
    rcases j with _ | j <;> simp [Rw.cells] at hu
    subst hu
    have h1 : (rCells A ++ rCells B)[i]? = some x.hd := by
      unfold rCells
      rw [← List.map_append, List.getElem?_map, hx]; rfl
    have := World.ownsRow.cells h rfl i _ h1
    rw [Addr.add_lit] at this
    simpa using this
/-- What there is between the operations that join both groups. -/
structure JoinJ (A B : List Rw) (ra rb : Value) (w0 : World) (dn : Nat → Bool) (us : Nat → Value) (w : World) : Prop where
  bel : Below w0.heap.size w0 w
  h0 : dn 0 = true → dn 2 = false → w.ownsRow w0.heap.size 49 1 (us 0) 0 []
  h1 : dn 1 = true → us 1 = ra
  h3 : dn 3 = true → us 3 = rb
  h2 : dn 2 = true → dn 4 = false → w.ownsRow w0.heap.size 49 1 (us 2) A.length (rCells A)
  h4 : dn 4 = true → w.ownsRow w0.heap.size 49 1 (us 4) (A.length + B.length) (rCells A ++ rCells B)
  h5 : dn 5 = true → ∃ k, w0.heap.size ≤ k ∧ us 5 = .pointer (some ⟨k, 0, none⟩) ∧ w.heap[k]? = some (.cells #[if dn 6 = true then us 4 else .slice none 0 0] 37 (0, 0))
section
variable {A B : List Rw} {ra rb : Value} {w0 w w' : World} {dn : Nat → Bool} {us : Nat → Value}
theorem upd_ne {i j : Nat} (h : j ≠ i) : upd dn i j = dn j := by unfold upd; simp [h]
theorem upd_eq (i : Nat) : upd dn i i = true := by unfold upd; simp
/-- New memory, and a value of no weight. -/
theorem JoinJ.step (h : JoinJ A B ra rb w0 dn us w) (hg : w.grownBy w' none) (i : Nat) (v : Value) (hi : i < 6) (hd2 : dn 2 = true → i ≠ 0) (hd : dn i = false) (hbel : Below w0.heap.size w0 w')
    (n0 : i = 0 → w'.ownsRow w0.heap.size 49 1 v 0 []) (n1 : i = 1 → v = ra) (n3 : i = 3 → v = rb) (n2 : i ≠ 2) (n4 : i ≠ 4) (n5 : i = 5 → dn 6 = false ∧ ∃ k, w0.heap.size ≤ k ∧ v = .pointer (some ⟨k, 0, none⟩) ∧ w'.heap[k]? = some (.cells #[.slice none 0 0] 37 (0, 0))) :
    JoinJ A B ra rb w0 (upd dn i) (fun j => if j = i then v else us j) w' := by
  have kept : ∀ {v : Value} {n : Nat} {xs : List Value}, w.ownsRow w0.heap.size 49 1 v n xs → w'.ownsRow w0.heap.size 49 1 v n xs := fun hv => World.ownsRow.kept (row := none) hv hg (by cases Value.ownBlock _ <;> simp)
  refine ⟨hbel, fun h1 h2 => ?_, fun h1 => ?_, fun h1 => ?_, fun h1 h2 => ?_, fun h1 => ?_, fun h1 => ?_⟩
  · by_cases e : i = 0
    · subst e; exact n0 rfl
    · rw [upd_ne (Ne.symm e)] at h1
      rw [upd_ne (Ne.symm n2)] at h2
      simp only [if_neg (Ne.symm e)]
      exact kept (h.h0 h1 h2)
  · by_cases e : i = 1
    · subst e; exact n1 rfl
    · rw [upd_ne (Ne.symm e)] at h1
      simp only [if_neg (Ne.symm e)]
      exact h.h1 h1
  · by_cases e : i = 3
    · subst e; exact n3 rfl
    · rw [upd_ne (Ne.symm e)] at h1
      simp only [if_neg (Ne.symm e)]
      exact h.h3 h1
  · rw [upd_ne (Ne.symm n2)] at h1
    rw [upd_ne (Ne.symm n4)] at h2
    simp only [if_neg (Ne.symm n2)]
    exact kept (h.h2 h1 h2)
  · rw [upd_ne (Ne.symm n4)] at h1
    simp only [if_neg (Ne.symm n4)]
    exact kept (h.h4 h1)
  · by_cases e : i = 5
    · subst e
      obtain ⟨h6, k, hk, hv, hb⟩ := n5 rfl
      refine ⟨k, hk, hv, ?_⟩
      rw [upd_ne (by omega), h6, if_neg (by decide)]
      exact hb
    · rw [upd_ne (Ne.symm e)] at h1
      obtain ⟨k, hk, hv, hb⟩ := h.h5 h1
      refine ⟨k, hk, by simp only [if_neg (Ne.symm e)]; exact hv, ?_⟩
      rw [upd_ne (by omega)]
      simp only [if_neg (Ne.symm n4)]
      have hlt : k < w.heap.size := by
        rcases Nat.lt_or_ge k w.heap.size with h | h
        · exact h
        · rw [Array.getElem?_eq_none h] at hb; cases hb
      rw [hg.block k hlt (fun e => by cases e)]
      exact hb
/-- A box that is no row's. -/
theorem own_ne {base n k : Nat} {v : Value} {xs : List Value} {cs : Array Value} (h : w.ownsRow base 49 1 v n xs) (hb : w.heap[k]? = some (.cells cs 37 (0, 0))) : v.ownBlock ≠ some k := by
  rcases h.2 with ⟨rfl, _⟩ | ⟨g, cap, cur, rfl, _, hh, _⟩
  · intro e; cases e
  · intro e
    cases e
    rw [hb] at hh
    injection hh with hh
    injection hh with _ h2
    revert h2
    decide
theorem JoinJ.join2 (h : JoinJ A B ra rb w0 dn us w) (h2 : dn 2 = false) (h4 : dn 4 = false) (h6 : dn 6 = false) (hd0 : dn 0 = true) (v' : Value) (hv : w'.ownsRow w0.heap.size 49 1 v' A.length (rCells A)) (hg : w.grownBy w' (us 0).ownBlock) (hbel : Below w0.heap.size w0 w') :
    JoinJ A B ra rb w0 (upd dn 2) (fun j => if j = 2 then v' else us j) w' := by
  refine ⟨hbel, fun _ e => ?_, fun h1 => ?_, fun h1 => ?_, fun _ _ => hv, fun h1 => ?_, fun h1 => ?_⟩
  · rw [upd_eq] at e; cases e
  · rw [upd_ne (by omega)] at h1; exact h.h1 h1
  · rw [upd_ne (by omega)] at h1; exact h.h3 h1
  · rw [upd_ne (by omega), h4] at h1; cases h1
  · rw [upd_ne (by omega)] at h1
    obtain ⟨k, hk, hv5, hb⟩ := h.h5 h1
    refine ⟨k, hk, hv5, ?_⟩
    rw [upd_ne (by omega), h6] at *
    rw [if_neg (by decide)] at *
    have hlt : k < w.heap.size := by
      rcases Nat.lt_or_ge k w.heap.size with h | h
      · exact h
      · rw [Array.getElem?_eq_none h] at hb; cases hb
    rw [hg.block k hlt (fun e => own_ne (h.h0 hd0 h2) hb e.symm)]
    exact hb
theorem JoinJ.join4 (h : JoinJ A B ra rb w0 dn us w) (h2 : dn 2 = true) (h4 : dn 4 = false) (h6 : dn 6 = false) (v' : Value) (hv : w'.ownsRow w0.heap.size 49 1 v' (A.length + B.length) (rCells A ++ rCells B)) (hg : w.grownBy w' (us 2).ownBlock) (hbel : Below w0.heap.size w0 w') :
    JoinJ A B ra rb w0 (upd dn 4) (fun j => if j = 4 then v' else us j) w' := by
  refine ⟨hbel, fun _ e => ?_, fun h1 => ?_, fun h1 => ?_, fun _ e => ?_, fun _ => hv, fun h1 => ?_⟩
  · rw [upd_ne (by omega), h2] at e; cases e
  · rw [upd_ne (by omega)] at h1; exact h.h1 h1
  · rw [upd_ne (by omega)] at h1; exact h.h3 h1
  · rw [upd_eq] at e; cases e
  · rw [upd_ne (by omega)] at h1
    obtain ⟨k, hk, hv5, hb⟩ := h.h5 h1
    refine ⟨k, hk, hv5, ?_⟩
    rw [upd_ne (by omega), h6] at *
    rw [if_neg (by decide)] at *
    have hlt : k < w.heap.size := by
      rcases Nat.lt_or_ge k w.heap.size with h | h
      · exact h
      · rw [Array.getElem?_eq_none h] at hb; cases hb
    rw [hg.block k hlt (fun e => own_ne (h.h2 h2 h4) hb e.symm)]
    exact hb
theorem JoinJ.put (h : JoinJ A B ra rb w0 dn us w) (h2 : dn 2 = true) (h4 : dn 4 = true) (k : Nat) (hk : w0.heap.size ≤ k) (hu : us 5 = .pointer (some ⟨k, 0, none⟩)) (hb : w.heap[k]? = some (.cells #[.slice none 0 0] 37 (0, 0))) :
    JoinJ A B ra rb w0 (upd dn 6) (fun j => if j = 6 then undef else us j) (w.setCell ⟨k, 0, none⟩ (us 4)) := by
  have hg := grown_set w k 0 (us 4)
  refine ⟨below_set h.bel hk, fun _ e => ?_, fun h1 => ?_, fun h1 => ?_, fun _ e => ?_, fun _ => ?_, fun _ => ⟨k, hk, hu, ?_⟩⟩
  · rw [upd_ne (by omega), h2] at e; cases e
  · rw [upd_ne (by omega)] at h1; exact h.h1 h1
  · rw [upd_ne (by omega)] at h1; exact h.h3 h1
  · rw [upd_ne (by omega), h4] at e; cases e
  · exact World.ownsRow.kept (h.h4 h4) hg (.inr (own_ne (h.h4 h4) hb))
  · rw [upd_eq, if_pos rfl]
    unfold World.setCell
    rw [Array.getElem?_modify, if_pos rfl, hb]
    rfl
end
set_option maxRecDepth 100000 in
set_option maxHeartbeats 16000000 in
theorem walk (ra rb : Value) (A B : List Rw) (w : World) (hA : RowsAt w ra A) (hB : RowsAt w rb B) (na : Plain ra) (nb : Plain rb) (oA : ∀ r ∈ A, ∀ v ∈ r.l, v.ok) (oB : ∀ r ∈ B, ∀ v ∈ r.l, v.ok) (lA : A.length ≤ 140737488351232) (lB : B.length ≤ 140737488351232)
    (vA : ∀ r ∈ A, r.l.length ≤ 140737488351232) (vB : ∀ r ∈ B, r.l.length ≤ 140737488351232) :
    Calls Try.prog 4 #[ra, rb] w fun e w' => e = .returned (.bool true) ∧ Below w.heap.size w w' := by
  obtain ⟨a0, c0, rfl⟩ := hA.at_.shape
  obtain ⟨b0, d0, rfl⟩ := hB.at_.shape
  have HA := Lib.hid hA
  have HB := Lib.hid hB
  have HNA := Lib.hid na
  have HNB := Lib.hid nb
  have OA := Lib.hid oA
  have OB := Lib.hid oB
  have LA := Lib.hid lA
  have LB := Lib.hid lB
  have VA := Lib.hid vA
  have VB := Lib.hid vB
  have hba : Box w.heap.size [.slice a0 A.length c0] ((w.alloc (.cells #[.slice a0 A.length c0] 37)).alloc (.cells #[.slice b0 B.length d0] 37)) := fun i u hu => by
    rcases i with _ | i <;> simp at hu
    subst hu
    exact ⟨by go_simp, by go_simp⟩
  have hbb : Box (w.heap.size + 1) [.slice b0 B.length d0] ((w.alloc (.cells #[.slice a0 A.length c0] 37)).alloc (.cells #[.slice b0 B.length d0] 37)) := fun i u hu => by
    rcases i with _ | i <;> simp at hu
    subst hu
    exact ⟨by go_simp, by go_simp⟩
  have HW := Lib.hid (And.intro (show Below w.heap.size w ((w.alloc (.cells #[.slice a0 A.length c0] 37)).alloc (.cells #[.slice b0 B.length d0] 37)) by go_grown) (And.intro hba hbb))
  clear hA hB na nb oA oB lA lB vA vB hba hbb
  go_enter Try.func4, Try.ntmps4
  go_wp2_with fail
  generalize hWA : ((w.alloc (.cells #[.slice a0 A.length c0] 37)).alloc (.cells #[.slice b0 B.length d0] 37)) = WA at *
  clear hWA
  refine (works _).mono ?_
  rintro e w1 ⟨rfl, hb1⟩
  have HW1 := Lib.hid (And.intro (next HW.out.1 hb1) (And.intro (HW.out.2.1.later hb1) (HW.out.2.2.later hb1)))
  clear hb1 HW
  obtain ⟨x0, -⟩ := HW1.out.2.1 0 _ rfl
  go_wp2_with fail
  refine (greatL2 _ A w1 (HA.out.below HW1.out.1) LA.out VA.out OA.out).mono ?_
  clear x0
  rintro e w2 ⟨⟨g1, rfl, hg1⟩, hb2⟩
  have HW2 := Lib.hid (And.intro (next HW1.out.1 hb2) (And.intro (HW1.out.2.1.later hb2) (HW1.out.2.2.later hb2)))
  clear hb2 HW1
  rcases g1 with _ | _
  rotate_left
  · clear hg1
    go_wp2_with fail
    go_ret
    exact ⟨rfl, HW2.out.1⟩
  have GA := Lib.hid (hg1 rfl)
  clear hg1
  obtain ⟨x0, -⟩ := HW2.out.2.2 0 _ rfl
  go_wp2_with fail
  refine (greatL2 _ B w2 (HB.out.below HW2.out.1) LB.out VB.out OB.out).mono ?_
  clear x0
  rintro e w3 ⟨⟨g2, rfl, hg2⟩, hb3⟩
  have HW3 := Lib.hid (And.intro (next HW2.out.1 hb3) (And.intro (HW2.out.2.1.later hb3) (HW2.out.2.2.later hb3)))
  clear hb3 HW2
  rcases g2 with _ | _
  rotate_left
  · clear hg2
    go_wp2_with fail
    go_ret
    exact ⟨rfl, HW3.out.1⟩
  have GB := Lib.hid (hg2 rfl)
  clear hg2
  go_wp2_with fail
  refine wp_region_all (JoinJ A B (.slice a0 A.length c0) (.slice b0 B.length d0) w3) 101 (by simp) (by kernel_rfl) (by kernel_rfl) (fun us => ⟨(Below.refl _ _).drew, fun h => (by cases h), fun h => (by cases h), fun h => (by cases h), fun h => (by cases h), fun h => (by cases h), fun h => (by cases h)⟩) ?_ ?_
  · intro i hi dn us F W hother hat hJ hdi hcl hd
    have no6 : dn 4 = false ∨ dn 5 = false → dn 6 = false := by
      intro h
      cases h6 : dn 6 with
      | false => rfl
      | true =>
        have e4 := hcl 6 _ rfl h6 ⟨4, .data⟩ (by simp) rfl
        have e5 := hcl 6 _ rfl h6 ⟨5, .data⟩ (by simp) rfl
        rcases h with h | h
        · rw [h] at e4; cases e4
        · rw [h] at e5; cases e5
    have no4 : dn 2 = false → dn 4 = false := by
      intro h
      cases h6 : dn 4 with
      | false => rfl
      | true =>
        have e4 := hcl 4 _ rfl h6 ⟨2, .data⟩ (by simp) rfl
        rw [h] at e4; cases e4
    have no2 : dn 0 = false → dn 2 = false := by
      intro h
      cases h6 : dn 2 with
      | false => rfl
      | true =>
        have e4 := hcl 2 _ rfl h6 ⟨0, .data⟩ (by simp) rfl
        rw [h] at e4; cases e4
    match i, hi, hdi with
    | 0, _, hdi =>
      refine op_val rfl rfl (.slice (some ⟨W.heap.size, 0, none⟩) 0 0) (W.alloc (.cells #[] 49)) (by simp only [execOp]; go_simp) ⟨_, rfl, hJ.step (World.grownBy_alloc _ _ _) 0 _ (by omega) (fun h => by rw [no2 hdi] at h; cases h) hdi (next hJ.bel ((Below.refl _ _).alloc (Nat.le_refl _) _)) (fun _ => ?_) (fun h => (by cases h)) (fun h => (by cases h)) (by omega) (by omega) (fun h => (by cases h))⟩
      exact World.ownsRow_lit W #[] 0 hJ.bel.size (by unfold maxLen; omega) rfl
    | 1, _, hdi =>
      have h6 := tmps_of (show F.eval (.tmp 2) = .pointer (some ⟨w.heap.size, 0, none⟩) from hother 2 (by kernel_rfl))
      obtain ⟨x0, -⟩ := (HW3.out.2.1.later hJ.bel) 0 _ rfl
      exact op_val rfl rfl (.slice a0 A.length c0) W (by simp only [execOp]; go_simp) ⟨_, rfl, hJ.step ⟨rfl, rfl, rfl, Nat.le_refl _, fun _ _ _ => rfl⟩ 1 _ (by omega) (fun _ => by omega) hdi hJ.bel (fun h => (by cases h)) (fun _ => rfl) (fun h => (by cases h)) (by omega) (by omega) (fun h => (by cases h))⟩
    | 2, _, hdi =>
      have d0' := hd _ rfl ⟨0, .data⟩ (by simp) rfl
      have d1' := hd _ rfl ⟨1, .data⟩ (by simp) rfl
      have hx := (hat 1 28 (by simp) (by kernel_rfl) (by decide)).trans (hJ.h1 d1')
      exact op_append rfl rfl (.tmp 27) (.tmp 28) 37 rfl w3.heap.size 49 1 24 elR (us 0) 0 [] (hat 0 27 (by simp) (by kernel_rfl) (by decide)) (hJ.h0 d0' hdi) _ A.length (rCells A) hx (reads_rows (HA.out.below (next HW3.out.1 hJ.bel)) HNA.out) (rows_oneCell HA.out)
        (by have := GA.out; unfold maxLen; omega) (by have := GA.out; omega) hJ.bel.size (fun v' w' h1 h2 h3 => ⟨v', rfl, hJ.join2 hdi (no4 hdi) (no6 (.inl (no4 hdi))) d0' v' (by simpa using h1) h2 (hJ.bel.trans h3)⟩)
    | 3, _, hdi =>
      have h6 := tmps_of (show F.eval (.tmp 3) = .pointer (some ⟨w.heap.size + 1, 0, none⟩) from hother 3 (by kernel_rfl))
      obtain ⟨x0, -⟩ := (HW3.out.2.2.later hJ.bel) 0 _ rfl
      exact op_val rfl rfl (.slice b0 B.length d0) W (by simp only [execOp]; go_simp) ⟨_, rfl, hJ.step ⟨rfl, rfl, rfl, Nat.le_refl _, fun _ _ _ => rfl⟩ 3 _ (by omega) (fun _ => by omega) hdi hJ.bel (fun h => (by cases h)) (fun h => (by cases h)) (fun _ => rfl) (by omega) (by omega) (fun h => (by cases h))⟩
    | 4, _, hdi =>
      have d2' := hd _ rfl ⟨2, .data⟩ (by simp) rfl
      have d3' := hd _ rfl ⟨3, .data⟩ (by simp) rfl
      have hx := (hat 3 30 (by simp) (by kernel_rfl) (by decide)).trans (hJ.h3 d3')
      exact op_append rfl rfl (.tmp 29) (.tmp 30) 37 rfl w3.heap.size 49 1 24 elR (us 2) A.length (rCells A) (hat 2 29 (by simp) (by kernel_rfl) (by decide)) (hJ.h2 d2' hdi) _ B.length (rCells B) hx (reads_rows (HB.out.below (next HW3.out.1 hJ.bel)) HNB.out) (rows_oneCell HB.out)
        (by have := GA.out; have := GB.out; unfold maxLen; omega) (by have := GA.out; have := GB.out; omega) hJ.bel.size (fun v' w' h1 h2 h3 => ⟨v', rfl, hJ.join4 d2' hdi (no6 (.inl hdi)) v' h1 h2 (hJ.bel.trans h3)⟩)
    | 5, _, hdi =>
      refine op_val rfl rfl (.pointer (some ⟨W.heap.size, 0, none⟩)) (W.alloc (.cells #[.slice none 0 0] 37)) (by simp only [execOp]; go_simp) ⟨_, rfl, hJ.step (World.grownBy_alloc _ _ _) 5 _ (by omega) (fun _ => by omega) hdi (next hJ.bel ((Below.refl _ _).alloc (Nat.le_refl _) _)) (fun h => (by cases h)) (fun h => (by cases h)) (fun h => (by cases h)) (by omega) (by omega) (fun _ => ⟨no6 (.inr hdi), W.heap.size, hJ.bel.size, rfl, ?_⟩)⟩
      exact heap_alloc_new _ _
    | 6, _, hdi =>
      have d4' := hd _ rfl ⟨4, .data⟩ (by simp) rfl
      have d5' := hd _ rfl ⟨5, .data⟩ (by simp) rfl
      have d2' := hcl 4 _ rfl d4' ⟨2, .data⟩ (by simp) rfl
      obtain ⟨k, hk, hu, hb⟩ := hJ.h5 d5'
      rw [hdi, if_neg (by decide)] at hb
      have h6 := tmps_of ((hat 5 5 (by simp) (by kernel_rfl) (by decide)).trans hu)
      have h7 := tmps_of (hat 4 31 (by simp) (by kernel_rfl) (by decide))
      have z0 : W.cell? ⟨k, 0, none⟩ = some (.slice none 0 0) := by unfold World.cell?; simp [hb]
      have f0 : W.frozen? ⟨k, 0, none⟩ = false := by unfold World.frozen?; simp [hb]
      have hsh : ∃ ad n c, us 4 = .slice ad n c := by
        rcases (hJ.h4 d4').2 with ⟨e, _⟩ | ⟨g, cap, cur, e, _⟩
        · exact ⟨_, _, _, e⟩
        · exact ⟨_, _, _, e⟩
      have hp := hJ.put d2' d4' k hk hu hb
      obtain ⟨ad, n, c, he⟩ := hsh
      rw [he] at h7 hp
      exact op_skip rfl rfl (W.setCell ⟨k, 0, none⟩ (.slice ad n c)) (by simp only [execOp]; go_simp) ⟨undef, rfl, hp⟩
    | n + 7, hi, _ => simp at hi; omega
  intro dn us w4 hall hJ
  obtain ⟨k, hk, hu5, hb5⟩ := hJ.h5 (hall 5 (by simp))
  rw [if_pos (hall 6 (by simp))] at hb5
  have hown := hJ.h4 (hall 4 (by simp))
  have hsh : ∃ ad c, us 4 = .slice ad (A ++ B).length c := by
    rw [List.length_append]
    rcases hown.2 with ⟨e, h⟩ | ⟨g, cap, cur, e, _⟩
    · exact ⟨none, 0, by rw [e, h]⟩
    · exact ⟨_, _, e⟩
  obtain ⟨e0, e1, he⟩ := hsh
  have hC := rows_own hown (fun r hr => (HA.out.below (next HW3.out.1 hJ.bel)).rows r hr) (fun r hr => (HB.out.below (next HW3.out.1 hJ.bel)).rows r hr)
  rw [he] at hC hb5
  have HC := Lib.hid hC
  have hbc : Box k [.slice e0 (A ++ B).length e1] w4 := fun i u hu => by
    rcases i with _ | i <;> simp at hu
    subst hu
    exact ⟨by unfold World.cell?; simp [hb5], by unfold World.frozen?; simp [hb5]⟩
  have HW4 := Lib.hid (And.intro (next HW3.out.1 hJ.bel) (And.intro (HW3.out.2.1.later hJ.bel) (And.intro (HW3.out.2.2.later hJ.bel) hbc)))
  have OC : Hid (∀ r ∈ A ++ B, ∀ v ∈ r.l, v.ok) := Lib.hid (fun r hr => by
    rcases List.mem_append.1 hr with hr | hr
    · exact OA.out r hr
    · exact OB.out r hr)
  have LC : Hid ((A ++ B).length ≤ 140737488351232) := Lib.hid (by have := GA.out; have := GB.out; rw [List.length_append]; omega)
  simp only [List.length_cons, List.length_nil, Nat.zero_add, Nat.reduceAdd, putAll, dstOf, List.getElem?_toArray, List.getElem?_cons_zero, List.getElem?_cons_succ, Option.bind_some, Act.put, hu5]
  simp only [List.setIfInBounds_toArray, List.set_cons_zero, List.set_cons_succ]
  obtain ⟨C, hCC⟩ : ∃ C, C = A ++ B := ⟨_, rfl⟩
  have HCC := Lib.hid hCC
  have HK := Lib.hid hk
  rw [← hCC] at HC HW4 OC LC
  clear hu5 hb5 hown he hC hbc hall hJ HW3 hk hCC
  have HC4 := HC
  clear HC
  obtain ⟨xa, -⟩ := HW4.out.2.1 0 _ rfl
  obtain ⟨xb, -⟩ := HW4.out.2.2.1 0 _ rfl
  obtain ⟨xc, -⟩ := HW4.out.2.2.2 0 _ rfl
  have HJ4 := Lib.hid (joinL 20 w.heap.size (w.heap.size + 1) k a0 b0 e0 c0 d0 e1 A B C w4 (by omega) xa xb xc (Lib.hid (HA.out.below HW4.out.1)) (Lib.hid (HB.out.below HW4.out.1)) (Lib.hid (HC4.out)) OA OB OC LA LB LC)
  clear xa xb xc
  go_wp2_with fail
  refine HJ4.out.mono ?_
  clear HJ4
  rintro e v4 ⟨⟨K, X, Y, Z, HXYZ, rfl⟩, hb4⟩
  have hbA : Below v4.heap.size v4 (((v4.alloc (.cells #[.int .u8 (X.1.k : Int), .int .i64 X.1.n, .string X.1.s] 23)).alloc (.cells #[.int .u8 (Y.1.k : Int), .int .i64 Y.1.n, .string Y.1.s] 23)).alloc (.cells #[.int .u8 (Z.1.k : Int), .int .i64 Z.1.n, .string Z.1.s] 23)) := by go_grown
  have hbX : Box v4.heap.size X.1.cells (((v4.alloc (.cells #[.int .u8 (X.1.k : Int), .int .i64 X.1.n, .string X.1.s] 23)).alloc (.cells #[.int .u8 (Y.1.k : Int), .int .i64 Y.1.n, .string Y.1.s] 23)).alloc (.cells #[.int .u8 (Z.1.k : Int), .int .i64 Z.1.n, .string Z.1.s] 23)) := fun i u hu => by
    rcases i with _ | _ | _ | i <;> simp [V.cells] at hu <;> subst hu <;> exact ⟨by go_simp, by go_simp⟩
  have hbY : Box (v4.heap.size + 1) Y.1.cells (((v4.alloc (.cells #[.int .u8 (X.1.k : Int), .int .i64 X.1.n, .string X.1.s] 23)).alloc (.cells #[.int .u8 (Y.1.k : Int), .int .i64 Y.1.n, .string Y.1.s] 23)).alloc (.cells #[.int .u8 (Z.1.k : Int), .int .i64 Z.1.n, .string Z.1.s] 23)) := fun i u hu => by
    rcases i with _ | _ | _ | i <;> simp [V.cells] at hu <;> subst hu <;> exact ⟨by go_simp, by go_simp⟩
  have hbZ : Box (v4.heap.size + 1 + 1) Z.1.cells (((v4.alloc (.cells #[.int .u8 (X.1.k : Int), .int .i64 X.1.n, .string X.1.s] 23)).alloc (.cells #[.int .u8 (Y.1.k : Int), .int .i64 Y.1.n, .string Y.1.s] 23)).alloc (.cells #[.int .u8 (Z.1.k : Int), .int .i64 Z.1.n, .string Z.1.s] 23)) := fun i u hu => by
    rcases i with _ | _ | _ | i <;> simp [V.cells] at hu <;> subst hu <;> exact ⟨by go_simp, by go_simp⟩
  have HW5 := Lib.hid (And.intro (next (next HW4.out.1 hb4) hbA) (And.intro ((HW4.out.2.1.later hb4).later hbA) (And.intro ((HW4.out.2.2.1.later hb4).later hbA) ((HW4.out.2.2.2.later hb4).later hbA))))
  have HC5 := Lib.hid ((HC4.out.below hb4).below hbA)
  have HBX := Lib.hid hbX
  have HBY := Lib.hid hbY
  have HBZ := Lib.hid hbZ
  clear hb4 HW4 HC4 hbA hbX hbY hbZ
  go_upto_region 8 with fail
  generalize hV : (((v4.alloc (.cells #[.int .u8 (X.1.k : Int), .int .i64 X.1.n, .string X.1.s] 23)).alloc (.cells #[.int .u8 (Y.1.k : Int), .int .i64 Y.1.n, .string Y.1.s] 23)).alloc (.cells #[.int .u8 (Z.1.k : Int), .int .i64 Z.1.n, .string Z.1.s] 23)) = w5 at *
  clear hV
  generalize v4.heap.size = p at *
  obtain ⟨b, hb⟩ : ∃ b, b = (decide (X.2 = 0) && (decide (Y.2 = 0) && decide (Z.2 = 0))) := ⟨_, rfl⟩
  rw [← hb]
  have HOK : Hid (b = true → X.2 = 0 ∧ Y.2 = 0 ∧ Z.2 = 0) := Lib.hid (fun h => by rw [h] at hb; simpa using hb.symm)
  clear hb
  go_cut [50] (fun s wx => s = .bool false ∧ w5 = wx)
  case first =>
    rcases b with _ | _
    · go_wp2_with fail
      go_meet
      exact ⟨rfl, rfl⟩
    · obtain ⟨hX, hY, hZ⟩ := HOK.out rfl
      obtain ⟨xX, xY, xZ⟩ := HXYZ.out
      rw [HCC.out, List.map_append] at xZ
      rw [xX] at hX
      rw [xY] at hY
      rw [xZ] at hZ
      have hlaw := join_count (.slice (some ⟨K, 0, none⟩) 1 1) (.slice (some ⟨K, 0, none⟩) 1 1) (.slice (some ⟨K, 0, none⟩) 1 1) hX hY hZ
      have hn : Z.1.n = X.1.n + Y.1.n := by rw [xX, xY, xZ]; exact hlaw.1
      have h1 : X.1.n = ((someOf (A.map Rw.l)).length : Int) := by rw [xX]; exact hlaw.2.1
      have h2 : Y.1.n = ((someOf (B.map Rw.l)).length : Int) := by rw [xY]; exact hlaw.2.2
      have hw : wrap64 (X.1.n + Y.1.n) = Z.1.n := by
        have g1 := someOf_len (A.map Rw.l)
        have g2 := someOf_len (B.map Rw.l)
        rw [List.length_map] at g1 g2
        have := GA.out
        have := GB.out
        rw [hn, h1, h2]
        unfold wrap64
        omega
      clear hlaw hn h1 h2 hX hY hZ xX xY xZ
      obtain ⟨x1, -⟩ := HBX.out 1 _ rfl
      obtain ⟨y1, -⟩ := HBY.out 1 _ rfl
      obtain ⟨z1, -⟩ := HBZ.out 1 _ rfl
      go_wp2_with fail
      go_meet
      exact ⟨rfl, rfl⟩
  case rest =>
  obtain ⟨rfl, rfl⟩ := hcut
  clear HXYZ HBX HBY HBZ HOK
  obtain ⟨xa, -⟩ := HW5.out.2.1 0 _ rfl
  obtain ⟨xb, -⟩ := HW5.out.2.2.1 0 _ rfl
  obtain ⟨xc, -⟩ := HW5.out.2.2.2 0 _ rfl
  have HJ5 := Lib.hid (joinL 21 w.heap.size (w.heap.size + 1) k a0 b0 e0 c0 d0 e1 A B C w5 (by omega) xa xb xc (Lib.hid (HA.out.below HW5.out.1)) (Lib.hid (HB.out.below HW5.out.1)) (Lib.hid (HC5.out)) OA OB OC LA LB LC)
  clear xa xb xc
  go_wp2_with fail
  refine HJ5.out.mono ?_
  clear HJ5
  rintro e v5 ⟨⟨K, X, Y, Z, HXYZ, rfl⟩, hb5⟩
  have hbA : Below v5.heap.size v5 (((v5.alloc (.cells #[.int .u8 (X.1.k : Int), .int .i64 X.1.n, .string X.1.s] 23)).alloc (.cells #[.int .u8 (Y.1.k : Int), .int .i64 Y.1.n, .string Y.1.s] 23)).alloc (.cells #[.int .u8 (Z.1.k : Int), .int .i64 Z.1.n, .string Z.1.s] 23)) := by go_grown
  have hbX : Box v5.heap.size X.1.cells (((v5.alloc (.cells #[.int .u8 (X.1.k : Int), .int .i64 X.1.n, .string X.1.s] 23)).alloc (.cells #[.int .u8 (Y.1.k : Int), .int .i64 Y.1.n, .string Y.1.s] 23)).alloc (.cells #[.int .u8 (Z.1.k : Int), .int .i64 Z.1.n, .string Z.1.s] 23)) := fun i u hu => by
    rcases i with _ | _ | _ | i <;> simp [V.cells] at hu <;> subst hu <;> exact ⟨by go_simp, by go_simp⟩
  have hbY : Box (v5.heap.size + 1) Y.1.cells (((v5.alloc (.cells #[.int .u8 (X.1.k : Int), .int .i64 X.1.n, .string X.1.s] 23)).alloc (.cells #[.int .u8 (Y.1.k : Int), .int .i64 Y.1.n, .string Y.1.s] 23)).alloc (.cells #[.int .u8 (Z.1.k : Int), .int .i64 Z.1.n, .string Z.1.s] 23)) := fun i u hu => by
    rcases i with _ | _ | _ | i <;> simp [V.cells] at hu <;> subst hu <;> exact ⟨by go_simp, by go_simp⟩
  have hbZ : Box (v5.heap.size + 1 + 1) Z.1.cells (((v5.alloc (.cells #[.int .u8 (X.1.k : Int), .int .i64 X.1.n, .string X.1.s] 23)).alloc (.cells #[.int .u8 (Y.1.k : Int), .int .i64 Y.1.n, .string Y.1.s] 23)).alloc (.cells #[.int .u8 (Z.1.k : Int), .int .i64 Z.1.n, .string Z.1.s] 23)) := fun i u hu => by
    rcases i with _ | _ | _ | i <;> simp [V.cells] at hu <;> subst hu <;> exact ⟨by go_simp, by go_simp⟩
  have HW6 := Lib.hid (And.intro (next (next HW5.out.1 hb5) hbA) (And.intro ((HW5.out.2.1.later hb5).later hbA) (And.intro ((HW5.out.2.2.1.later hb5).later hbA) ((HW5.out.2.2.2.later hb5).later hbA))))
  have HC6 := Lib.hid ((HC5.out.below hb5).below hbA)
  have HBX := Lib.hid hbX
  have HBY := Lib.hid hbY
  have HBZ := Lib.hid hbZ
  clear hb5 HW5 HC5 hbA hbX hbY hbZ
  go_upto_region 11 with fail
  generalize hV : (((v5.alloc (.cells #[.int .u8 (X.1.k : Int), .int .i64 X.1.n, .string X.1.s] 23)).alloc (.cells #[.int .u8 (Y.1.k : Int), .int .i64 Y.1.n, .string Y.1.s] 23)).alloc (.cells #[.int .u8 (Z.1.k : Int), .int .i64 Z.1.n, .string Z.1.s] 23)) = w6 at *
  clear hV
  generalize v5.heap.size = p at *
  obtain ⟨b, hb⟩ : ∃ b, b = (decide (X.2 = 0) && (decide (Y.2 = 0) && decide (Z.2 = 0))) := ⟨_, rfl⟩
  rw [← hb]
  have HOK : Hid (b = true → X.2 = 0 ∧ Y.2 = 0 ∧ Z.2 = 0) := Lib.hid (fun h => by rw [h] at hb; simpa using hb.symm)
  clear hb
  go_cut [82] (fun s wx => s = .bool false ∧ w6 = wx)
  case first =>
    rcases b with _ | _
    · go_wp2_with fail
      go_meet
      exact ⟨rfl, rfl⟩
    · obtain ⟨hX, hY, hZ⟩ := HOK.out rfl
      obtain ⟨xX, xY, xZ⟩ := HXYZ.out
      rw [HCC.out, List.map_append] at xZ
      rw [xX] at hX
      rw [xY] at hY
      rw [xZ] at hZ
      have hlaw := join_sum (.slice (some ⟨K, 0, none⟩) 1 1) (.slice (some ⟨K, 0, none⟩) 1 1) (.slice (some ⟨K, 0, none⟩) 1 1) hX hY hZ
      have hn : Z.1.n = X.1.n + Y.1.n := by rw [xX, xY, xZ]; exact hlaw.1
      have hr : inR (X.1.n + Y.1.n) := by rw [xX, xY]; exact hlaw.2.1
      have hk : Z.1.k = 0 ↔ X.1.k = 0 ∧ Y.1.k = 0 := by rw [xX, xY, xZ]; exact hlaw.2.2
      have hw : wrap64 (X.1.n + Y.1.n) = Z.1.n := by
        have := hr.1
        have := hr.2
        rw [hn]
        unfold wrap64
        omega
      clear hlaw hn hr hX hY hZ xX xY xZ
      obtain ⟨x1, -⟩ := HBX.out 1 _ rfl
      obtain ⟨y1, -⟩ := HBY.out 1 _ rfl
      obtain ⟨z1, -⟩ := HBZ.out 1 _ rfl
      obtain ⟨x0, -⟩ := HBX.out 0 _ rfl
      obtain ⟨y0, -⟩ := HBY.out 0 _ rfl
      obtain ⟨z0, -⟩ := HBZ.out 0 _ rfl
      have qx := zero_bool X.1.k
      have qy := zero_bool Y.1.k
      have qz := zero_bool Z.1.k
      by_cases kx : X.1.k = 0
      · by_cases ky : Y.1.k = 0
        · have kz := hk.2 ⟨kx, ky⟩
          rw [decide_eq_true kx] at qx
          rw [decide_eq_true ky] at qy
          rw [decide_eq_true kz] at qz
          clear kx ky kz hk
          go_wp2_with fail
          go_meet
          exact ⟨rfl, rfl⟩
        · have kz : ¬ Z.1.k = 0 := fun h => ky (hk.1 h).2
          rw [decide_eq_true kx] at qx
          rw [decide_eq_false ky] at qy
          rw [decide_eq_false kz] at qz
          clear kx ky kz hk
          go_wp2_with fail
          go_meet
          exact ⟨rfl, rfl⟩
      · have kz : ¬ Z.1.k = 0 := fun h => kx (hk.1 h).1
        rw [decide_eq_false kx] at qx
        rw [decide_eq_false kz] at qz
        clear kx kz hk qy
        go_wp2_with fail
        go_meet
        exact ⟨rfl, rfl⟩
  case rest =>
  obtain ⟨rfl, rfl⟩ := hcut
  clear HXYZ HBX HBY HBZ HOK
  obtain ⟨xa, -⟩ := HW6.out.2.1 0 _ rfl
  obtain ⟨xb, -⟩ := HW6.out.2.2.1 0 _ rfl
  obtain ⟨xc, -⟩ := HW6.out.2.2.2 0 _ rfl
  have HJ6 := Lib.hid (joinL 22 w.heap.size (w.heap.size + 1) k a0 b0 e0 c0 d0 e1 A B C w6 (by omega) xa xb xc (Lib.hid (HA.out.below HW6.out.1)) (Lib.hid (HB.out.below HW6.out.1)) (Lib.hid (HC6.out)) OA OB OC LA LB LC)
  clear xa xb xc
  go_wp2_with fail
  refine HJ6.out.mono ?_
  clear HJ6
  rintro e v6 ⟨⟨K, X, Y, Z, HXYZ, rfl⟩, hb6⟩
  have hbA : Below v6.heap.size v6 (((v6.alloc (.cells #[.int .u8 (X.1.k : Int), .int .i64 X.1.n, .string X.1.s] 23)).alloc (.cells #[.int .u8 (Y.1.k : Int), .int .i64 Y.1.n, .string Y.1.s] 23)).alloc (.cells #[.int .u8 (Z.1.k : Int), .int .i64 Z.1.n, .string Z.1.s] 23)) := by go_grown
  have hbX : Box v6.heap.size X.1.cells (((v6.alloc (.cells #[.int .u8 (X.1.k : Int), .int .i64 X.1.n, .string X.1.s] 23)).alloc (.cells #[.int .u8 (Y.1.k : Int), .int .i64 Y.1.n, .string Y.1.s] 23)).alloc (.cells #[.int .u8 (Z.1.k : Int), .int .i64 Z.1.n, .string Z.1.s] 23)) := fun i u hu => by
    rcases i with _ | _ | _ | i <;> simp [V.cells] at hu <;> subst hu <;> exact ⟨by go_simp, by go_simp⟩
  have hbY : Box (v6.heap.size + 1) Y.1.cells (((v6.alloc (.cells #[.int .u8 (X.1.k : Int), .int .i64 X.1.n, .string X.1.s] 23)).alloc (.cells #[.int .u8 (Y.1.k : Int), .int .i64 Y.1.n, .string Y.1.s] 23)).alloc (.cells #[.int .u8 (Z.1.k : Int), .int .i64 Z.1.n, .string Z.1.s] 23)) := fun i u hu => by
    rcases i with _ | _ | _ | i <;> simp [V.cells] at hu <;> subst hu <;> exact ⟨by go_simp, by go_simp⟩
  have hbZ : Box (v6.heap.size + 1 + 1) Z.1.cells (((v6.alloc (.cells #[.int .u8 (X.1.k : Int), .int .i64 X.1.n, .string X.1.s] 23)).alloc (.cells #[.int .u8 (Y.1.k : Int), .int .i64 Y.1.n, .string Y.1.s] 23)).alloc (.cells #[.int .u8 (Z.1.k : Int), .int .i64 Z.1.n, .string Z.1.s] 23)) := fun i u hu => by
    rcases i with _ | _ | _ | i <;> simp [V.cells] at hu <;> subst hu <;> exact ⟨by go_simp, by go_simp⟩
  have HW7 := Lib.hid (And.intro (next (next HW6.out.1 hb6) hbA) (And.intro ((HW6.out.2.1.later hb6).later hbA) (And.intro ((HW6.out.2.2.1.later hb6).later hbA) ((HW6.out.2.2.2.later hb6).later hbA))))
  have HC7 := Lib.hid ((HC6.out.below hb6).below hbA)
  have HBX := Lib.hid hbX
  have HBY := Lib.hid hbY
  have HBZ := Lib.hid hbZ
  clear hb6 HW6 HC6 hbA hbX hbY hbZ
  go_upto_region 14 with fail
  generalize hV : (((v6.alloc (.cells #[.int .u8 (X.1.k : Int), .int .i64 X.1.n, .string X.1.s] 23)).alloc (.cells #[.int .u8 (Y.1.k : Int), .int .i64 Y.1.n, .string Y.1.s] 23)).alloc (.cells #[.int .u8 (Z.1.k : Int), .int .i64 Z.1.n, .string Z.1.s] 23)) = w7 at *
  clear hV
  generalize v6.heap.size = p at *
  obtain ⟨b, hb⟩ : ∃ b, b = (decide (X.2 = 0) && (decide (Y.2 = 0) && decide (Z.2 = 0))) := ⟨_, rfl⟩
  rw [← hb]
  have HOK : Hid (b = true → X.2 = 0 ∧ Y.2 = 0 ∧ Z.2 = 0) := Lib.hid (fun h => by rw [h] at hb; simpa using hb.symm)
  clear hb
  go_cut [100] (fun s wx => s = .bool false ∧ w7 = wx)
  case first =>
    rcases b with _ | _
    · go_wp2_with fail
      go_meet
      exact ⟨rfl, rfl⟩
    · obtain ⟨hX, hY, hZ⟩ := HOK.out rfl
      obtain ⟨xX, xY, xZ⟩ := HXYZ.out
      rw [HCC.out, List.map_append] at xZ
      rw [xX] at hX
      rw [xY] at hY
      rw [xZ] at hZ
      have hlaw := join_min (.slice (some ⟨K, 0, none⟩) 1 1) (.slice (some ⟨K, 0, none⟩) 1 1) (.slice (some ⟨K, 0, none⟩) 1 1) hX hY hZ
      have hm : Z.1 = X.1 ∨ Z.1 = Y.1 := by rw [xX, xY, xZ]; exact hlaw
      clear hlaw hX hY hZ xX xY xZ
      obtain ⟨x0, -⟩ := HBX.out 0 _ rfl
      obtain ⟨x1, -⟩ := HBX.out 1 _ rfl
      obtain ⟨x2, -⟩ := HBX.out 2 _ rfl
      obtain ⟨y0, -⟩ := HBY.out 0 _ rfl
      obtain ⟨y1, -⟩ := HBY.out 1 _ rfl
      obtain ⟨y2, -⟩ := HBY.out 2 _ rfl
      obtain ⟨z0, -⟩ := HBZ.out 0 _ rfl
      obtain ⟨z1, -⟩ := HBZ.out 1 _ rfl
      obtain ⟨z2, -⟩ := HBZ.out 2 _ rfl
      by_cases h1 : Z.1 = X.1
      · have hne := fun W => neq_told Z.1 X.1 false (by simp [h1]) W
        simp only [V.val] at hne
        clear h1 hm
        go_wp2_with fail
        go_meet
        exact ⟨rfl, rfl⟩
      · have h2 : Z.1 = Y.1 := hm.resolve_left h1
        have hne := fun W => neq_told Z.1 X.1 true (by simp [h1]) W
        have hne2 := fun W => neq_told Z.1 Y.1 false (by simp [h2]) W
        simp only [V.val] at hne hne2
        clear h1 h2 hm
        go_wp2_with fail
        go_meet
        exact ⟨rfl, rfl⟩
  case rest =>
  obtain ⟨rfl, rfl⟩ := hcut
  clear HXYZ HBX HBY HBZ HOK
  go_wp2_with fail
  go_ret
  exact ⟨rfl, HW7.out.1⟩

theorem arg_plain {H : Type} {enc : TypeId × Value → H} {w : World} {base : Nat} {spare : Nat → Bool} {held : Bool} {t e : TypeId} (ht : Try.prog.underlying t = some (.slice e)) {r : Reach} {b0 : Nat} {v : Value} {d : DataW H} {ps : List MemPlace} (hv : Value.okWide Try.prog w r b0 t v) (h : DataW.Trod enc Try.prog w base spare held t v d ps) : Plain v := by
  obtain ⟨fuel, h⟩ := h
  obtain ⟨a0, len, cap, rfl⟩ := okWide_slice ht hv
  rcases DataW.trod_slice ht h with ⟨h1, _⟩ | ⟨a, len', cap', _, _, _, _, h1, _⟩
  · simp [Value.cells] at h1
    obtain ⟨rfl, rfl, rfl⟩ := h1
    exact .inl rfl
  · exact .inr ⟨a, len', cap', by simpa [Value.cells] using h1⟩
theorem opened {H : Type} (enc : TypeId × Value → H) (W : World) (args : Array Value) (ds : List (DataW H)) (p : List MemPlace) :
    Lift.Owes enc Try.prog 4 Try.f4.params.toList W args ds p := by
  intro hA hval hsz _
  rw [Try.params4] at hA hval hsz
  obtain ⟨v0, vs0, d0, ds0, p0, q0, hargs, rfl, rfl, h0, r0⟩ := trodAll_cons hA
  obtain ⟨v1, vs1, d1, ds1, p1, q1, rfl, rfl, rfl, h1, r1⟩ := trodAll_cons r0
  obtain ⟨rfl, rfl, rfl⟩ := trodAll_nil r1
  obtain rfl : args = #[v0, v1] := by cases args; simp_all
  obtain ⟨base0, hv0⟩ := hval 0 _ v0 rfl rfl
  obtain ⟨A, hrA, hoA, hlA⟩ := arg_Rows vT (u := 49) (by kernel_rfl) (by kernel_rfl) (by kernel_rfl) (by kernel_rfl) hv0 h0 (lim_arg hsz (j := 0) rfl rfl)
  have nA := arg_plain (t := 37) (e := 49) (by kernel_rfl) hv0 h0
  obtain ⟨base1, hv1⟩ := hval 1 _ v1 rfl rfl
  obtain ⟨B, hrB, hoB, hlB⟩ := arg_Rows vT (u := 49) (by kernel_rfl) (by kernel_rfl) (by kernel_rfl) (by kernel_rfl) hv1 h1 (lim_arg hsz (j := 1) rfl rfl)
  have nB := arg_plain (t := 37) (e := 49) (by kernel_rfl) hv1 h1
  exact walk v0 v1 A B W hrA hrB nA nB (fun r hr => (hoA r hr).1) (fun r hr => (hoB r hr).1) (by omega) (by omega) (fun r hr => by have := (hoA r hr).2; omega) (fun r hr => by have := (hoB r hr).2; omega)

theorem own : ownKnob Try.prog.godebug = none := by kernel_rfl
theorem laid : laidOutB Try.prog = true := by kernel_rfl

set_option maxRecDepth 100000 in
theorem lifted (os : Os) (started : os.Started) (H : Type) (enc : TypeId × Value → H) :
    ReturnsInHanded {} Try.checked os 4 .any (Rows.evalJoinsSpec.pre6 enc Try.prog Try.f4 Rows.evalJoinsRow.domain false)
      (Rows.evalJoinsSpec.post enc Try.prog Try.f4 false true false false) := by
  refine Lift.lifted (C := Try.checked) own started (by kernel_rfl) Try.func4
    (ChangeSpec.witness6 (enc := enc) (C := Try.checked) false ⟨#[], #[.slice none 0 0, .slice none 0 0], []⟩ 8 (by kernel_rfl) (by kernel_rfl) (by kernel_rfl) (by kernel_rfl))
    laid (by rw [Try.params4]; intro t ht; simp at ht; rcases ht with rfl | rfl <;> exact ⟨by kernel_rfl, of_decide_eq_true (by kernel_rfl)⟩) rfl 4 rfl Try.underlying4
    (fun ds hds => by match ds, hds with | [_, _], _ => rfl) (opened enc)

theorem said : Rows.EvalJoinsSaid :=
  OpenClaim.holds_of_wide 4 Try.f4 rfl rfl rfl rfl rfl rfl rfl ⟨rfl, rfl, rfl, rfl, rfl⟩ rfl rfl rfl rfl rfl (by kernel_rfl) Try.func4 (by kernel_rfl)
    (of_decide_eq_true (by kernel_rfl)) (by unfold Func.isWrapper; first | (rw [if_pos (by decide +kernel)]; kernel_rfl) | (rw [if_neg (by decide +kernel)]; exact ⟨rfl, rfl⟩))
    (fun os started H enc _ => lifted os started H enc)
#print axioms said
end Go.Proofs.Ytclkpbokngamiaa.EvalJoins
