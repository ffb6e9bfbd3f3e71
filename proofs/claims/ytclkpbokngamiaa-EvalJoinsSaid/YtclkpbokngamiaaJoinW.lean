/-
  The walk of the closure of the law on groups: three folds.
-/
import Derived.Test.YtclkpbokngamiaaKinOps2
import Derived.Test.YtclkpbokngamiaaJoinSpec
import Derived.Deep.DeepCutAuto
namespace Go.Proofs.Ytclkpbokngamiaa.Dt
open Go.RowKit Go.Proofs.Ytclkpbokngamiaa.By

/-- What is stored lies there already. -/
theorem setCell_same {w : World} {k i : Nat} {u : Value} (h : w.cell? ⟨k, i, none⟩ = some u) : w.setCell ⟨k, i, none⟩ u = w := by
  have hm : ∀ f : Obj → Obj, (∀ o, w.heap[k]? = some o → f o = o) → w.heap.modify k f = w.heap := by
    intro f hf
    apply Array.ext_getElem?
    intro j
    rw [Array.getElem?_modify]
    split
    · rename_i hj
      subst hj
      cases hb : w.heap[k]? with
      | none => rfl
      | some o => rw [Option.map_some, hf o hb]
    · rfl
  unfold World.setCell
  rw [hm]
  intro o hb
  unfold World.cell? at h
  rw [hb] at h
  cases o with
  | cells c e f =>
    have hc : c[i]? = some u := h
    have : c.setIfInBounds i u = c := by
      apply Array.ext_getElem?
      intro q
      rw [Array.getElem?_setIfInBounds]
      split
      · rename_i hq
        subst hq
        rw [hc]
        have := (Array.getElem?_eq_some_iff.1 hc).1
        rw [if_pos this]
      · rfl
    show Obj.cells (c.setIfInBounds i u) e f = _
    rw [this]
  | _ => rfl
section
variable {ops : Array Oper} {Q : Exit → Act → World → Prop} {kn : Nat → Kn} {i : Nat} {a : Act} {w : World} {o : Oper}
theorem wanted_not {g t : Nat} {b b' : Bool} (h : o.guard = some (g, b)) (hd : dstOf ops g = some t) (he : a.eval (.tmp t) = .bool b') (hne : (b' == b) = false) : Region.wanted o (yielded ops a.tmps) = false := by
  unfold Region.wanted
  rw [h]
  show (yielded ops a.tmps g == some b) = false
  have h2 : a.tmps[t]? = some (.bool b') := by
    rw [eval_tmp, Array.getD_eq_getD_getElem?] at he
    cases h3 : a.tmps[t]? with
    | none => rw [h3] at he; cases he
    | some v => rw [h3] at he; exact congrArg some he
  unfold yielded
  unfold dstOf at hd
  rw [hd]
  show ((match a.tmps[t]? with | some (.bool b) => some b | _ => none) == some b) = false
  rw [h2]
  simpa using hne
theorem kin_unwanted (ho : ops[i]? = some o) (hw : Region.wanted o (yielded ops a.tmps) = false) (hk : kn i = .is undef) : Kin Try.prog ops Q kn i a w := by
  unfold Kin wpOp
  simp only [ho]
  rw [if_neg (by rw [hw]; decide)]
  exact ⟨undef, by unfold dstOf; rw [ho]; rfl, Below.refl _ _, hk ▸ rfl⟩
theorem kin_andF (ho : ops[i]? = some o) (hw : Region.wanted o (yielded ops a.tmps) = true) {t : Tmp} {B : Operand} (hop : o.op = .pick (.tmp t) B (.const (.bool false))) (hv : a.eval (.tmp t) = .bool false) (hk : kn i = .is (.bool false)) : Kin Try.prog ops Q kn i a w := by
  have h6 := tmps_of hv
  exact kin_same ho hw (.bool false) (by simp only [execOp, hop]; go_simp) (hk ▸ rfl)
/-- A value is stored where it lies already. -/
theorem kin_again (ho : ops[i]? = some o) (hw : Region.wanted o (yielded ops a.tmps) = true) {t s : Tmp} (hop : o.op = .store 23 (.tmp t) (.tmp s)) (k : Nat) (hv : a.eval (.tmp t) = .pointer (some ⟨k, 0, none⟩)) (v : V) (hs : a.eval (.tmp s) = v.val) (w0 : World) (hbox : Box k v.cells w0) (hb : Below w0.heap.size w0 w) (hk : kn i = .is undef) : Kin Try.prog ops Q kn i a w := by
  have h6 := tmps_of hv
  have h7 := tmps_of hs
  have hbx := hbox.later hb
  obtain ⟨c0, f0⟩ := hbx 0 _ rfl
  obtain ⟨c1, f1⟩ := hbx 1 _ rfl
  obtain ⟨c2, f2⟩ := hbx 2 _ rfl
  have hrun : (execOp a.eval o).run Try.prog w = .ok .skip (((w.setCell ⟨k, 0, none⟩ (.int .u8 (v.k : Int))).setCell ⟨k, 1, none⟩ (.int .i64 v.n)).setCell ⟨k, 2, none⟩ (.string v.s)) := by
    simp only [execOp, hop]; go_simp
  rw [setCell_same c0, setCell_same c1, setCell_same c2] at hrun
  unfold Kin wpOp
  simp only [ho]
  rw [if_pos hw]
  refine .inl ?_
  unfold Oper.wp
  rw [hrun, Oper.upon_skip]
  exact ⟨undef, by unfold dstOf; rw [ho]; rfl, Below.refl _ _, hk ▸ rfl⟩
end

def joinX (op K : Nat) : Ex := exOf op (.slice (some ⟨K, 0, none⟩) 1 1) [exC 0]
def zer3v : List Value := [.int .u8 0, .int .i64 0, .string ⟨#[]⟩]
theorem slAt_of_box {K : Nat} {x : Ex} {w : World} (h : Box K x.cells w) : SlAt 8 Ex.cells w (.slice (some ⟨K, 0, none⟩) 1 1) [x] := by
  refine ⟨_, _, rfl, Nat.le_refl _, fun i y hx => ⟨K, 0, rfl, fun j u hu => ?_⟩⟩
  rcases i with _ | i <;> simp at hx
  subst hx
  have := (h j u hu).1
  simpa [Addr.add_lit] using this
/-- What lies there between two folds. -/
structure JAt (op : Nat) (w wr : World) (K E : Nat) (x y z : List Value) : Prop where
  bel : Below w.heap.size w wr
  b0 : Box w.heap.size x wr
  b1 : Box (w.heap.size + 1) y wr
  b2 : Box (w.heap.size + 2) z wr
  bk : Box K (exC 0).cells wr
  be : Box E (joinX op K).cells wr
  hK : w.heap.size + 2 < K
  hE : w.heap.size + 2 < E
section
variable {op : Nat} {w wr wx : World} {K E : Nat} {x y z : List Value}
theorem JAt.later (h : JAt op w wr K E x y z) (hb : Below wr.heap.size wr wx) : JAt op w wx K E x y z :=
  ⟨next h.bel hb, h.b0.later hb, h.b1.later hb, h.b2.later hb, h.bk.later hb, h.be.later hb, h.hK, h.hE⟩
theorem JAt.set0 (h : JAt op w wr K E x y z) (i : Nat) (u : Value) (hi : i < x.length) : JAt op w (wr.setCell ⟨w.heap.size, i, none⟩ u) K E (x.set i u) y z :=
  ⟨below_set h.bel (Nat.le_refl _), h.b0.set hi, h.b1.else (by omega), h.b2.else (by omega), h.bk.else (by have := h.hK; omega), h.be.else (by have := h.hE; omega), h.hK, h.hE⟩
theorem JAt.set1 (h : JAt op w wr K E x y z) (i : Nat) (u : Value) (hi : i < y.length) : JAt op w (wr.setCell ⟨w.heap.size + 1, i, none⟩ u) K E x (y.set i u) z :=
  ⟨below_set h.bel (Nat.le_succ _), h.b0.else (by omega), h.b1.set hi, h.b2.else (by omega), h.bk.else (by have := h.hK; omega), h.be.else (by have := h.hE; omega), h.hK, h.hE⟩
theorem JAt.set2 (h : JAt op w wr K E x y z) (i : Nat) (u : Value) (hi : i < z.length) : JAt op w (wr.setCell ⟨w.heap.size + 2, i, none⟩ u) K E x y (z.set i u) :=
  ⟨below_set h.bel (by omega), h.b0.else (by omega), h.b1.else (by omega), h.b2.set hi, h.bk.else (by have := h.hK; omega), h.be.else (by have := h.hE; omega), h.hK, h.hE⟩
theorem JAt.fill0 (h : JAt op w wr K E zer3v y z) (v : V) : JAt op w (((wr.setCell ⟨w.heap.size, 0, none⟩ (.int .u8 (v.k : Int))).setCell ⟨w.heap.size, 1, none⟩ (.int .i64 v.n)).setCell ⟨w.heap.size, 2, none⟩ (.string v.s)) K E v.cells y z :=
  ((h.set0 0 _ (by simp [zer3v])).set0 1 _ (by simp [zer3v])).set0 2 _ (by simp [zer3v])
theorem JAt.fill1 (h : JAt op w wr K E x zer3v z) (v : V) : JAt op w (((wr.setCell ⟨w.heap.size + 1, 0, none⟩ (.int .u8 (v.k : Int))).setCell ⟨w.heap.size + 1, 1, none⟩ (.int .i64 v.n)).setCell ⟨w.heap.size + 1, 2, none⟩ (.string v.s)) K E x v.cells z :=
  ((h.set1 0 _ (by simp [zer3v])).set1 1 _ (by simp [zer3v])).set1 2 _ (by simp [zer3v])
theorem JAt.fill2 (h : JAt op w wr K E x y zer3v) (v : V) : JAt op w (((wr.setCell ⟨w.heap.size + 2, 0, none⟩ (.int .u8 (v.k : Int))).setCell ⟨w.heap.size + 2, 1, none⟩ (.int .i64 v.n)).setCell ⟨w.heap.size + 2, 2, none⟩ (.string v.s)) K E x y v.cells :=
  ((h.set2 0 _ (by simp [zer3v])).set2 1 _ (by simp [zer3v])).set2 2 _ (by simp [zer3v])
theorem JAt.again0 {v : V} (h : JAt op w wr K E v.cells y z) : JAt op w (((wr.setCell ⟨w.heap.size, 0, none⟩ (.int .u8 (v.k : Int))).setCell ⟨w.heap.size, 1, none⟩ (.int .i64 v.n)).setCell ⟨w.heap.size, 2, none⟩ (.string v.s)) K E v.cells y z :=
  ((h.set0 0 _ (by simp [V.cells])).set0 1 _ (by simp [V.cells])).set0 2 _ (by simp [V.cells])
theorem JAt.again1 {v : V} (h : JAt op w wr K E x v.cells z) : JAt op w (((wr.setCell ⟨w.heap.size + 1, 0, none⟩ (.int .u8 (v.k : Int))).setCell ⟨w.heap.size + 1, 1, none⟩ (.int .i64 v.n)).setCell ⟨w.heap.size + 1, 2, none⟩ (.string v.s)) K E x v.cells z :=
  ((h.set1 0 _ (by simp [V.cells])).set1 1 _ (by simp [V.cells])).set1 2 _ (by simp [V.cells])
theorem JAt.again2 {v : V} (h : JAt op w wr K E x y v.cells) : JAt op w (((wr.setCell ⟨w.heap.size + 2, 0, none⟩ (.int .u8 (v.k : Int))).setCell ⟨w.heap.size + 2, 1, none⟩ (.int .i64 v.n)).setCell ⟨w.heap.size + 2, 2, none⟩ (.string v.s)) K E x y v.cells :=
  ((h.set2 0 _ (by simp [V.cells])).set2 1 _ (by simp [V.cells])).set2 2 _ (by simp [V.cells])
/-- One fold. -/
theorem JAt.fold (h : JAt op w wr K E x y z) (h256 : op < 256) {rv : Value} {A : List Rw} (hA : RowsAt w rv A) (hok : ∀ r ∈ A, ∀ v ∈ r.l, v.ok) (hl : A.length ≤ 140737488351232) :
    Calls Try.prog 14 #[(joinX op K).val, rv, .int .i64 1] wr fun e w' => e = .returned (resV (foldS (A.map Rw.l) 1 (joinX op K))) ∧ Below wr.heap.size wr w' :=
  Dt.fold (joinX op K) rv A 1 wr (exOf_in (slAt_of_box h.bk) (fun y hy => by simp at hy; subst hy; exact exC_in _ _)) (exOf_ok h256 (by simp) (fun y hy => by simp at hy; subst hy; exact exC_ok ⟨by omega, by omega⟩)) (hA.below h.bel) hok hl (by omega) (by omega)
end
theorem join_new (w : World) : Below w.heap.size w (((w.alloc (.cells #[.int .u8 0, .int .i64 0, .string ⟨#[]⟩] 23)).alloc (.cells #[.int .u8 0, .int .i64 0, .string ⟨#[]⟩] 23)).alloc (.cells #[.int .u8 0, .int .i64 0, .string ⟨#[]⟩] 23)) ∧
    Box w.heap.size zer3v (((w.alloc (.cells #[.int .u8 0, .int .i64 0, .string ⟨#[]⟩] 23)).alloc (.cells #[.int .u8 0, .int .i64 0, .string ⟨#[]⟩] 23)).alloc (.cells #[.int .u8 0, .int .i64 0, .string ⟨#[]⟩] 23)) ∧
    Box (w.heap.size + 1) zer3v (((w.alloc (.cells #[.int .u8 0, .int .i64 0, .string ⟨#[]⟩] 23)).alloc (.cells #[.int .u8 0, .int .i64 0, .string ⟨#[]⟩] 23)).alloc (.cells #[.int .u8 0, .int .i64 0, .string ⟨#[]⟩] 23)) ∧
    Box (w.heap.size + 2) zer3v (((w.alloc (.cells #[.int .u8 0, .int .i64 0, .string ⟨#[]⟩] 23)).alloc (.cells #[.int .u8 0, .int .i64 0, .string ⟨#[]⟩] 23)).alloc (.cells #[.int .u8 0, .int .i64 0, .string ⟨#[]⟩] 23)) := by
  refine ⟨by go_grown, fun i u hu => ?_, fun i u hu => ?_, fun i u hu => ?_⟩ <;>
    (rcases i with _ | _ | _ | i <;> simp [zer3v] at hu <;> subst hu <;> exact ⟨by go_simp, by go_simp⟩)
theorem zero_bool (e : Nat) : (((e : Nat) : Int) == 0) = decide (e = 0) := by rw [Bool.eq_iff_iff]; simp

set_option maxRecDepth 100000 in
set_option maxHeartbeats 8000000 in
theorem joinL (op pa pb pc : Nat) (aA aB aC : Option Addr) (cA cB cC : Nat) (A B C : List Rw) (w : World) (h256 : op < 256) (ha : w.cell? ⟨pa, 0, none⟩ = some (.slice aA A.length cA)) (hb : w.cell? ⟨pb, 0, none⟩ = some (.slice aB B.length cB)) (hc : w.cell? ⟨pc, 0, none⟩ = some (.slice aC C.length cC))
    (HA : Hid (RowsAt w (.slice aA A.length cA) A)) (HB : Hid (RowsAt w (.slice aB B.length cB) B)) (HC : Hid (RowsAt w (.slice aC C.length cC) C)) (OA : Hid (∀ r ∈ A, ∀ v ∈ r.l, v.ok)) (OB : Hid (∀ r ∈ B, ∀ v ∈ r.l, v.ok)) (OC : Hid (∀ r ∈ C, ∀ v ∈ r.l, v.ok))
    (LA : Hid (A.length ≤ 140737488351232)) (LB : Hid (B.length ≤ 140737488351232)) (LC : Hid (C.length ≤ 140737488351232)) :
    Calls Try.prog 12 #[.int .u8 (op : Int), .pointer (some ⟨pa, 0, none⟩), .pointer (some ⟨pb, 0, none⟩), .pointer (some ⟨pc, 0, none⟩)] w fun e w' =>
      (∃ K X Y Z, Hid (X = foldS (A.map Rw.l) 1 (joinX op K) ∧ Y = foldS (B.map Rw.l) 1 (joinX op K) ∧ Z = foldS (C.map Rw.l) 1 (joinX op K)) ∧ e = .returned (.tuple #[X.1.val, Y.1.val, Z.1.val, .bool (decide (X.2 = 0) && (decide (Y.2 = 0) && decide (Z.2 = 0)))])) ∧ Below w.heap.size w w' := by
  have HN := Lib.hid (join_new w)
  have H256 := Lib.hid h256
  clear h256
  go_enter Try.func12, Try.ntmps12
  go_wp2_with fail
  generalize hWA : ((w.alloc (.cells #[.int .u8 0, .int .i64 0, .string ⟨#[]⟩] 23)).alloc (.cells #[.int .u8 0, .int .i64 0, .string ⟨#[]⟩] 23)).alloc (.cells #[.int .u8 0, .int .i64 0, .string ⟨#[]⟩] 23) = WA at *
  clear hWA
  refine (columnL 0 _).mono ?_
  rintro e w1 ⟨rfl, hb1⟩
  obtain ⟨n0, n1, n2, n3⟩ := HN.out
  have m0 := next n0 hb1
  have m1 := n1.later hb1
  have m2 := n2.later hb1
  have m3 := n3.later hb1
  have HM := Lib.hid (And.intro m0 (And.intro m1 (And.intro m2 m3)))
  clear n0 n1 n2 n3 hb1 HN m0 m1 m2 m3
  go_wp2_with fail
  have hk : Box w1.heap.size (exC 0).cells (w1.alloc (.cells #[.int .u8 ((exC 0).op : Int), .int .u8 ((exC 0).v.k : Int), .int .i64 (exC 0).v.n, .string (exC 0).v.s, .string (exC 0).t, .string (exC 0).m, .int .i64 (exC 0).n, (exC 0).kv] 27)) := fun i u hu => by
    rcases i with _ | _ | _ | _ | _ | _ | _ | _ | i <;> simp [Ex.cells] at hu <;> subst hu <;> exact ⟨by go_simp, by go_simp⟩
  have HK := Lib.hid hk
  clear hk
  refine (ofL8 op (some ⟨w1.heap.size, 0, none⟩) 1 1 _).mono ?_
  rintro e w2 ⟨rfl, hb2⟩
  have B2 : Below w1.heap.size w1 w2 := next ((Below.refl _ w1).alloc (Nat.le_refl _) _) hb2
  have h2 : JAt op w (w2.alloc (.cells #[.int .u8 (op : Int), .int .u8 0, .int .i64 0, .string ⟨#[]⟩, .string ⟨#[]⟩, .string ⟨#[]⟩, .int .i64 0, .slice (some ⟨w1.heap.size, 0, none⟩) 1 1] 27)) w1.heap.size w2.heap.size zer3v zer3v zer3v := by
    obtain ⟨m0, m1, m2, m3⟩ := HM.out
    have hbe : Below w2.heap.size w2 (w2.alloc (.cells #[.int .u8 (op : Int), .int .u8 0, .int .i64 0, .string ⟨#[]⟩, .string ⟨#[]⟩, .string ⟨#[]⟩, .int .i64 0, .slice (some ⟨w1.heap.size, 0, none⟩) 1 1] 27)) := (Below.refl _ w2).alloc (Nat.le_refl _) _
    have z := m3.lt
    have zz := B2.size
    refine ⟨next (next m0 B2) hbe, (m1.later B2).later hbe, (m2.later B2).later hbe, (m3.later B2).later hbe, (HK.out.later hb2).later hbe, fun i u hu => ?_, z, by omega⟩
    rcases i with _ | _ | _ | _ | _ | _ | _ | _ | i <;> simp [Ex.cells] at hu <;> subst hu <;> exact ⟨by go_simp; try rfl, by go_simp⟩
  have H2 := Lib.hid h2
  clear h2 HM HK hb2 B2
  go_upto_region 2 with fail
  generalize hW2 : w2.alloc (.cells #[.int .u8 (op : Int), .int .u8 0, .int .i64 0, .string ⟨#[]⟩, .string ⟨#[]⟩, .string ⟨#[]⟩, .int .i64 0, .slice (some ⟨w1.heap.size, 0, none⟩) 1 1] 27) = W2 at *
  clear hW2
  generalize w1.heap.size = K at *
  generalize w2.heap.size = E at *
  obtain ⟨x0, -⟩ := H2.out.be 0 _ rfl
  obtain ⟨x1, -⟩ := H2.out.be 1 _ rfl
  obtain ⟨x2, -⟩ := H2.out.be 2 _ rfl
  obtain ⟨x3, -⟩ := H2.out.be 3 _ rfl
  obtain ⟨x4, -⟩ := H2.out.be 4 _ rfl
  obtain ⟨x5, -⟩ := H2.out.be 5 _ rfl
  obtain ⟨x6, -⟩ := H2.out.be 6 _ rfl
  obtain ⟨x7, -⟩ := H2.out.be 7 _ rfl
  have y := (H2.out.bel.cell (cell_lt ha)).trans ha
  have hf := H2.out.fold H256.out HA.out OA.out LA.out
  obtain ⟨X, hX⟩ : ∃ X, X = foldS (A.map Rw.l) 1 (joinX op K) := ⟨_, rfl⟩
  rw [← hX] at hf
  have HF := Lib.hid hf
  have HX := Lib.hid hX
  clear hf hX
  go_wp2_with fail
  refine HF.out.mono ?_
  clear HF x0 x1 x2 x3 x4 x5 x6 x7 y
  rintro e w3 ⟨rfl, hb3⟩
  have HT := H2.out.later hb3
  obtain ⟨c0, f0⟩ := HT.b0 0 _ rfl
  obtain ⟨c1, f1⟩ := HT.b0 1 _ rfl
  obtain ⟨c2, f2⟩ := HT.b0 2 _ rfl
  have HJ := Lib.hid (HT.fill0 X.1)
  clear HT hb3 H2
  go_upto_region 3 with fail
  clear c0 c1 c2 f0 f1 f2
  generalize hW3 : ((w3.setCell ⟨w.heap.size, 0, none⟩ (.int .u8 (X.1.k : Int))).setCell ⟨w.heap.size, 1, none⟩ (.int .i64 X.1.n)).setCell ⟨w.heap.size, 2, none⟩ (.string X.1.s) = W3 at *
  clear hW3
  rename Hid (JAt _ _ _ _ _ _ _ _) => H3
  obtain ⟨x0, -⟩ := H3.out.be 0 _ rfl
  obtain ⟨x1, -⟩ := H3.out.be 1 _ rfl
  obtain ⟨x2, -⟩ := H3.out.be 2 _ rfl
  obtain ⟨x3, -⟩ := H3.out.be 3 _ rfl
  obtain ⟨x4, -⟩ := H3.out.be 4 _ rfl
  obtain ⟨x5, -⟩ := H3.out.be 5 _ rfl
  obtain ⟨x6, -⟩ := H3.out.be 6 _ rfl
  obtain ⟨x7, -⟩ := H3.out.be 7 _ rfl
  have y := (H3.out.bel.cell (cell_lt hb)).trans hb
  have hf := H3.out.fold H256.out HB.out OB.out LB.out
  obtain ⟨Y, hY⟩ : ∃ Y, Y = foldS (B.map Rw.l) 1 (joinX op K) := ⟨_, rfl⟩
  rw [← hY] at hf
  have HF := Lib.hid hf
  have HY := Lib.hid hY
  clear hf hY
  go_wp2_with fail
  refine HF.out.mono ?_
  clear HF x0 x1 x2 x3 x4 x5 x6 x7 y
  rintro e w3 ⟨rfl, hb3⟩
  have HT := H3.out.later hb3
  obtain ⟨c0, f0⟩ := HT.b1 0 _ rfl
  obtain ⟨c1, f1⟩ := HT.b1 1 _ rfl
  obtain ⟨c2, f2⟩ := HT.b1 2 _ rfl
  have HJ := Lib.hid (HT.fill1 Y.1)
  clear HT hb3 H3
  go_upto_region 4 with fail
  clear c0 c1 c2 f0 f1 f2
  generalize hW4 : ((w3.setCell ⟨w.heap.size + 1, 0, none⟩ (.int .u8 (Y.1.k : Int))).setCell ⟨w.heap.size + 1, 1, none⟩ (.int .i64 Y.1.n)).setCell ⟨w.heap.size + 1, 2, none⟩ (.string Y.1.s) = W4 at *
  clear hW4
  rename Hid (JAt _ _ _ _ _ _ _ _) => H4
  obtain ⟨x0, -⟩ := H4.out.be 0 _ rfl
  obtain ⟨x1, -⟩ := H4.out.be 1 _ rfl
  obtain ⟨x2, -⟩ := H4.out.be 2 _ rfl
  obtain ⟨x3, -⟩ := H4.out.be 3 _ rfl
  obtain ⟨x4, -⟩ := H4.out.be 4 _ rfl
  obtain ⟨x5, -⟩ := H4.out.be 5 _ rfl
  obtain ⟨x6, -⟩ := H4.out.be 6 _ rfl
  obtain ⟨x7, -⟩ := H4.out.be 7 _ rfl
  have y := (H4.out.bel.cell (cell_lt hc)).trans hc
  have hf := H4.out.fold H256.out HC.out OC.out LC.out
  obtain ⟨Z, hZ⟩ : ∃ Z, Z = foldS (C.map Rw.l) 1 (joinX op K) := ⟨_, rfl⟩
  rw [← hZ] at hf
  have HF := Lib.hid hf
  have HZ := Lib.hid hZ
  clear hf hZ
  go_wp2_with fail
  refine HF.out.mono ?_
  clear HF x0 x1 x2 x3 x4 x5 x6 x7 y
  rintro e w3 ⟨rfl, hb3⟩
  have HT := H4.out.later hb3
  obtain ⟨c0, f0⟩ := HT.b2 0 _ rfl
  obtain ⟨c1, f1⟩ := HT.b2 1 _ rfl
  obtain ⟨c2, f2⟩ := HT.b2 2 _ rfl
  have HJ := Lib.hid (HT.fill2 Z.1)
  clear HT hb3 H4
  go_upto_region 5 with fail
  clear c0 c1 c2 f0 f1 f2
  generalize hW5 : ((w3.setCell ⟨w.heap.size + 2, 0, none⟩ (.int .u8 (Z.1.k : Int))).setCell ⟨w.heap.size + 2, 1, none⟩ (.int .i64 Z.1.n)).setCell ⟨w.heap.size + 2, 2, none⟩ (.string Z.1.s) = W5 at *
  clear hW5
  rename Hid (JAt _ _ _ _ _ _ _ _) => H5
  clear ha hb hc HA HB HC OA OB OC LA LB LC
  have hxyz : Hid (X = foldS (A.map Rw.l) 1 (joinX op K) ∧ Y = foldS (B.map Rw.l) 1 (joinX op K) ∧ Z = foldS (C.map Rw.l) 1 (joinX op K)) := Lib.hid ⟨HX.out, HY.out, HZ.out⟩
  clear HX HY HZ H256
  have eX := zero_bool X.2
  have eY := zero_bool Y.2
  have eZ := zero_bool Z.2
  by_cases kx : X.2 = 0
  · by_cases ky : Y.2 = 0
    · rw [decide_eq_true kx] at eX
      rw [decide_eq_true ky] at eY
      have hres : (decide (X.2 = 0) && (decide (Y.2 = 0) && decide (Z.2 = 0))) = decide (Z.2 = 0) := by rw [decide_eq_true kx, decide_eq_true ky]; rfl
      have HRES := Lib.hid hres
      clear kx ky hres
      refine wp_region_kin (fun j => ([(.is (V.val X.1)), (.is (V.val Y.1)), (.is (V.val Z.1)), (.is (.int .i64 (X.2 : Int))), (.is (.bool (true))), (.is (.bool (true))), (.is (.int .i64 (Y.2 : Int))), (.is (.bool (true))), (.is (.bool (true))), (.is (.bool (true))), (.is (.int .i64 (Z.2 : Int))), (.is (.bool (decide (Z.2 = 0)))), (.is (.bool (decide (Z.2 = 0)))), (.is (undef)), (.is (undef)), (.is (undef)), (.is (.bool (decide (Z.2 = 0))))] : List Kn).getD j (.is undef)) 48 (by simp) (by kernel_rfl) (by kernel_rfl) ?_ ?_
      · intro i hi A w1 hother hb hd
        match i, hi with
        | 0, _ =>
          have e5 : A.eval (.tmp 5) = .pointer (some ⟨w.heap.size, 0, none⟩) := hother 5 (by kernel_rfl)
          exact kin_loadV rfl (wanted_none rfl) rfl _ e5 X.1 _ H5.out.b0 hb rfl
        | 1, _ =>
          have e6 : A.eval (.tmp 6) = .pointer (some ⟨w.heap.size + 1, 0, none⟩) := hother 6 (by kernel_rfl)
          exact kin_loadV rfl (wanted_none rfl) rfl _ e6 Y.1 _ H5.out.b1 hb rfl
        | 2, _ =>
          have e7 : A.eval (.tmp 7) = .pointer (some ⟨w.heap.size + 1 + 1, 0, none⟩) := hother 7 (by kernel_rfl)
          exact kin_loadV rfl (wanted_none rfl) rfl _ e7 Z.1 _ H5.out.b2 hb rfl
        | 3, _ =>
          have e10 : A.eval (.tmp 10) = .int .i64 (X.2 : Int) := hother 10 (by kernel_rfl)
          exact kin_move rfl (wanted_none rfl) rfl _ e10 rfl
        | 4, _ =>
          have e38 := (hd _ rfl ⟨3, .data⟩ (by simp) rfl).eq (.int .i64 (X.2 : Int)) rfl 38 (by kernel_rfl) (by decide)
          have h6 := tmps_of e38
          have h7 := eX
          exact kin_same rfl (wanted_none rfl) (.bool (true)) (by simp only [execOp]; go_simp) rfl
        | 5, _ =>
          have e39 := (hd _ rfl ⟨4, .data⟩ (by simp) rfl).eq (.bool (true)) rfl 39 (by kernel_rfl) (by decide)
          exact kin_move rfl (wanted_none rfl) rfl _ e39 rfl
        | 6, _ =>
          have hg := (hd _ rfl ⟨5, .guard⟩ (by simp) rfl).eq (.bool true) rfl 40 (by kernel_rfl) (by decide)
          have e11 : A.eval (.tmp 11) = .int .i64 (Y.2 : Int) := hother 11 (by kernel_rfl)
          exact kin_move rfl (wanted_some rfl (by kernel_rfl) hg) rfl _ e11 rfl
        | 7, _ =>
          have hg := (hd _ rfl ⟨5, .guard⟩ (by simp) rfl).eq (.bool true) rfl 40 (by kernel_rfl) (by decide)
          have e41 := (hd _ rfl ⟨6, .data⟩ (by simp) rfl).eq (.int .i64 (Y.2 : Int)) rfl 41 (by kernel_rfl) (by decide)
          have h6 := tmps_of e41
          have h7 := eY
          exact kin_same rfl (wanted_some rfl (by kernel_rfl) hg) (.bool (true)) (by simp only [execOp]; go_simp) rfl
        | 8, _ =>
          have e40 := (hd _ rfl ⟨5, .data⟩ (by simp) rfl).eq (.bool (true)) rfl 40 (by kernel_rfl) (by decide)
          have e42 := (hd _ rfl ⟨7, .data⟩ (by simp) rfl).eq (.bool (true)) rfl 42 (by kernel_rfl) (by decide)
          exact kin_and rfl (wanted_none rfl) rfl (true) e40 e42 rfl
        | 9, _ =>
          have e43 := (hd _ rfl ⟨8, .data⟩ (by simp) rfl).eq (.bool (true)) rfl 43 (by kernel_rfl) (by decide)
          exact kin_move rfl (wanted_none rfl) rfl _ e43 rfl
        | 10, _ =>
          have hg := (hd _ rfl ⟨9, .guard⟩ (by simp) rfl).eq (.bool true) rfl 44 (by kernel_rfl) (by decide)
          have e12 : A.eval (.tmp 12) = .int .i64 (Z.2 : Int) := hother 12 (by kernel_rfl)
          exact kin_move rfl (wanted_some rfl (by kernel_rfl) hg) rfl _ e12 rfl
        | 11, _ =>
          have hg := (hd _ rfl ⟨9, .guard⟩ (by simp) rfl).eq (.bool true) rfl 44 (by kernel_rfl) (by decide)
          have e45 := (hd _ rfl ⟨10, .data⟩ (by simp) rfl).eq (.int .i64 (Z.2 : Int)) rfl 45 (by kernel_rfl) (by decide)
          have h6 := tmps_of e45
          have h7 := eZ
          exact kin_same rfl (wanted_some rfl (by kernel_rfl) hg) (.bool (decide (Z.2 = 0))) (by simp only [execOp]; go_simp) rfl
        | 12, _ =>
          have e44 := (hd _ rfl ⟨9, .data⟩ (by simp) rfl).eq (.bool (true)) rfl 44 (by kernel_rfl) (by decide)
          have e46 := (hd _ rfl ⟨11, .data⟩ (by simp) rfl).eq (.bool (decide (Z.2 = 0))) rfl 46 (by kernel_rfl) (by decide)
          exact kin_and rfl (wanted_none rfl) rfl (decide (Z.2 = 0)) e44 e46 rfl
        | 13, _ =>
          have e35 := (hd _ rfl ⟨0, .data⟩ (by simp) rfl).eq (V.val X.1) rfl 35 (by kernel_rfl) (by decide)
          have e5 : A.eval (.tmp 5) = .pointer (some ⟨w.heap.size, 0, none⟩) := hother 5 (by kernel_rfl)
          exact kin_again rfl (wanted_none rfl) rfl _ e5 X.1 e35 _ H5.out.b0 hb rfl
        | 14, _ =>
          have e36 := (hd _ rfl ⟨1, .data⟩ (by simp) rfl).eq (V.val Y.1) rfl 36 (by kernel_rfl) (by decide)
          have e6 : A.eval (.tmp 6) = .pointer (some ⟨w.heap.size + 1, 0, none⟩) := hother 6 (by kernel_rfl)
          exact kin_again rfl (wanted_none rfl) rfl _ e6 Y.1 e36 _ H5.out.b1 hb rfl
        | 15, _ =>
          have e37 := (hd _ rfl ⟨2, .data⟩ (by simp) rfl).eq (V.val Z.1) rfl 37 (by kernel_rfl) (by decide)
          have e7 : A.eval (.tmp 7) = .pointer (some ⟨w.heap.size + 1 + 1, 0, none⟩) := hother 7 (by kernel_rfl)
          exact kin_again rfl (wanted_none rfl) rfl _ e7 Z.1 e37 _ H5.out.b2 hb rfl
        | 16, _ =>
          have e47 := (hd _ rfl ⟨12, .data⟩ (by simp) rfl).eq (.bool (decide (Z.2 = 0))) rfl 47 (by kernel_rfl) (by decide)
          exact kin_assign rfl (wanted_none rfl) rfl _ e47 rfl
        | n + 17, hi => simp at hi; omega
      intro us w6 hb6 hh
      have h16 : us 16 = .bool (decide (Z.2 = 0)) := hh 16 (by simp)
      have HT := H5.out.later hb6
      obtain ⟨c0, -⟩ := HT.b0 0 _ rfl
      obtain ⟨c1, -⟩ := HT.b0 1 _ rfl
      obtain ⟨c2, -⟩ := HT.b0 2 _ rfl
      obtain ⟨d0, -⟩ := HT.b1 0 _ rfl
      obtain ⟨d1, -⟩ := HT.b1 1 _ rfl
      obtain ⟨d2, -⟩ := HT.b1 2 _ rfl
      obtain ⟨g0, -⟩ := HT.b2 0 _ rfl
      obtain ⟨g1, -⟩ := HT.b2 1 _ rfl
      obtain ⟨g2, -⟩ := HT.b2 2 _ rfl
      have HBL := Lib.hid HT.bel
      clear hh HT hb6 H5
      simp only [List.length_cons, List.length_nil, Nat.zero_add, Nat.reduceAdd, putAll, dstOf, List.getElem?_toArray, List.getElem?_cons_zero, List.getElem?_cons_succ, Option.bind_some, Act.put, h16]
      clear h16
      simp only [List.setIfInBounds_toArray, List.set_cons_zero, List.set_cons_succ]
      go_wp2_with fail
      refine bodyPost_ret (v := .tuple #[X.1.val, Y.1.val, Z.1.val, .bool (decide (Z.2 = 0))]) (by simp [results, Try.results12, go_sem, c0, c1, c2, d0, d1, d2, g0, g1, g2]) rfl ⟨⟨K, X, Y, Z, hxyz, by rw [HRES.out]⟩, HBL.out⟩
    · rw [decide_eq_true kx] at eX
      rw [decide_eq_false ky] at eY
      have hres : (decide (X.2 = 0) && (decide (Y.2 = 0) && decide (Z.2 = 0))) = false := by rw [decide_eq_false ky]; simp
      have HRES := Lib.hid hres
      clear kx ky hres
      refine wp_region_kin (fun j => ([(.is (V.val X.1)), (.is (V.val Y.1)), (.is (V.val Z.1)), (.is (.int .i64 (X.2 : Int))), (.is (.bool (true))), (.is (.bool (true))), (.is (.int .i64 (Y.2 : Int))), (.is (.bool (false))), (.is (.bool (false))), (.is (.bool (false))), (.is (undef)), (.is (undef)), (.is (.bool false)), (.is (undef)), (.is (undef)), (.is (undef)), (.is (.bool false))] : List Kn).getD j (.is undef)) 48 (by simp) (by kernel_rfl) (by kernel_rfl) ?_ ?_
      · intro i hi A w1 hother hb hd
        match i, hi with
        | 0, _ =>
          have e5 : A.eval (.tmp 5) = .pointer (some ⟨w.heap.size, 0, none⟩) := hother 5 (by kernel_rfl)
          exact kin_loadV rfl (wanted_none rfl) rfl _ e5 X.1 _ H5.out.b0 hb rfl
        | 1, _ =>
          have e6 : A.eval (.tmp 6) = .pointer (some ⟨w.heap.size + 1, 0, none⟩) := hother 6 (by kernel_rfl)
          exact kin_loadV rfl (wanted_none rfl) rfl _ e6 Y.1 _ H5.out.b1 hb rfl
        | 2, _ =>
          have e7 : A.eval (.tmp 7) = .pointer (some ⟨w.heap.size + 1 + 1, 0, none⟩) := hother 7 (by kernel_rfl)
          exact kin_loadV rfl (wanted_none rfl) rfl _ e7 Z.1 _ H5.out.b2 hb rfl
        | 3, _ =>
          have e10 : A.eval (.tmp 10) = .int .i64 (X.2 : Int) := hother 10 (by kernel_rfl)
          exact kin_move rfl (wanted_none rfl) rfl _ e10 rfl
        | 4, _ =>
          have e38 := (hd _ rfl ⟨3, .data⟩ (by simp) rfl).eq (.int .i64 (X.2 : Int)) rfl 38 (by kernel_rfl) (by decide)
          have h6 := tmps_of e38
          have h7 := eX
          exact kin_same rfl (wanted_none rfl) (.bool (true)) (by simp only [execOp]; go_simp) rfl
        | 5, _ =>
          have e39 := (hd _ rfl ⟨4, .data⟩ (by simp) rfl).eq (.bool (true)) rfl 39 (by kernel_rfl) (by decide)
          exact kin_move rfl (wanted_none rfl) rfl _ e39 rfl
        | 6, _ =>
          have hg := (hd _ rfl ⟨5, .guard⟩ (by simp) rfl).eq (.bool true) rfl 40 (by kernel_rfl) (by decide)
          have e11 : A.eval (.tmp 11) = .int .i64 (Y.2 : Int) := hother 11 (by kernel_rfl)
          exact kin_move rfl (wanted_some rfl (by kernel_rfl) hg) rfl _ e11 rfl
        | 7, _ =>
          have hg := (hd _ rfl ⟨5, .guard⟩ (by simp) rfl).eq (.bool true) rfl 40 (by kernel_rfl) (by decide)
          have e41 := (hd _ rfl ⟨6, .data⟩ (by simp) rfl).eq (.int .i64 (Y.2 : Int)) rfl 41 (by kernel_rfl) (by decide)
          have h6 := tmps_of e41
          have h7 := eY
          exact kin_same rfl (wanted_some rfl (by kernel_rfl) hg) (.bool (false)) (by simp only [execOp]; go_simp) rfl
        | 8, _ =>
          have e40 := (hd _ rfl ⟨5, .data⟩ (by simp) rfl).eq (.bool (true)) rfl 40 (by kernel_rfl) (by decide)
          have e42 := (hd _ rfl ⟨7, .data⟩ (by simp) rfl).eq (.bool (false)) rfl 42 (by kernel_rfl) (by decide)
          exact kin_and rfl (wanted_none rfl) rfl (false) e40 e42 rfl
        | 9, _ =>
          have e43 := (hd _ rfl ⟨8, .data⟩ (by simp) rfl).eq (.bool (false)) rfl 43 (by kernel_rfl) (by decide)
          exact kin_move rfl (wanted_none rfl) rfl _ e43 rfl
        | 10, _ =>
          have hg := (hd _ rfl ⟨9, .guard⟩ (by simp) rfl).eq (.bool false) rfl 44 (by kernel_rfl) (by decide)
          exact kin_unwanted rfl (wanted_not rfl (by kernel_rfl) hg (by decide)) rfl
        | 11, _ =>
          have hg := (hd _ rfl ⟨9, .guard⟩ (by simp) rfl).eq (.bool false) rfl 44 (by kernel_rfl) (by decide)
          exact kin_unwanted rfl (wanted_not rfl (by kernel_rfl) hg (by decide)) rfl
        | 12, _ =>
          have e44 := (hd _ rfl ⟨9, .data⟩ (by simp) rfl).eq (.bool (false)) rfl 44 (by kernel_rfl) (by decide)
          exact kin_andF rfl (wanted_none rfl) rfl e44 rfl
        | 13, _ =>
          have e35 := (hd _ rfl ⟨0, .data⟩ (by simp) rfl).eq (V.val X.1) rfl 35 (by kernel_rfl) (by decide)
          have e5 : A.eval (.tmp 5) = .pointer (some ⟨w.heap.size, 0, none⟩) := hother 5 (by kernel_rfl)
          exact kin_again rfl (wanted_none rfl) rfl _ e5 X.1 e35 _ H5.out.b0 hb rfl
        | 14, _ =>
          have e36 := (hd _ rfl ⟨1, .data⟩ (by simp) rfl).eq (V.val Y.1) rfl 36 (by kernel_rfl) (by decide)
          have e6 : A.eval (.tmp 6) = .pointer (some ⟨w.heap.size + 1, 0, none⟩) := hother 6 (by kernel_rfl)
          exact kin_again rfl (wanted_none rfl) rfl _ e6 Y.1 e36 _ H5.out.b1 hb rfl
        | 15, _ =>
          have e37 := (hd _ rfl ⟨2, .data⟩ (by simp) rfl).eq (V.val Z.1) rfl 37 (by kernel_rfl) (by decide)
          have e7 : A.eval (.tmp 7) = .pointer (some ⟨w.heap.size + 1 + 1, 0, none⟩) := hother 7 (by kernel_rfl)
          exact kin_again rfl (wanted_none rfl) rfl _ e7 Z.1 e37 _ H5.out.b2 hb rfl
        | 16, _ =>
          have e47 := (hd _ rfl ⟨12, .data⟩ (by simp) rfl).eq (.bool false) rfl 47 (by kernel_rfl) (by decide)
          exact kin_assign rfl (wanted_none rfl) rfl _ e47 rfl
        | n + 17, hi => simp at hi; omega
      intro us w6 hb6 hh
      have h16 : us 16 = .bool (false) := hh 16 (by simp)
      have HT := H5.out.later hb6
      obtain ⟨c0, -⟩ := HT.b0 0 _ rfl
      obtain ⟨c1, -⟩ := HT.b0 1 _ rfl
      obtain ⟨c2, -⟩ := HT.b0 2 _ rfl
      obtain ⟨d0, -⟩ := HT.b1 0 _ rfl
      obtain ⟨d1, -⟩ := HT.b1 1 _ rfl
      obtain ⟨d2, -⟩ := HT.b1 2 _ rfl
      obtain ⟨g0, -⟩ := HT.b2 0 _ rfl
      obtain ⟨g1, -⟩ := HT.b2 1 _ rfl
      obtain ⟨g2, -⟩ := HT.b2 2 _ rfl
      have HBL := Lib.hid HT.bel
      clear hh HT hb6 H5
      simp only [List.length_cons, List.length_nil, Nat.zero_add, Nat.reduceAdd, putAll, dstOf, List.getElem?_toArray, List.getElem?_cons_zero, List.getElem?_cons_succ, Option.bind_some, Act.put, h16]
      clear h16
      simp only [List.setIfInBounds_toArray, List.set_cons_zero, List.set_cons_succ]
      go_wp2_with fail
      refine bodyPost_ret (v := .tuple #[X.1.val, Y.1.val, Z.1.val, .bool (false)]) (by simp [results, Try.results12, go_sem, c0, c1, c2, d0, d1, d2, g0, g1, g2]) rfl ⟨⟨K, X, Y, Z, hxyz, by rw [HRES.out]⟩, HBL.out⟩
  · rw [decide_eq_false kx] at eX
    have hres : (decide (X.2 = 0) && (decide (Y.2 = 0) && decide (Z.2 = 0))) = false := by rw [decide_eq_false kx]; rfl
    have HRES := Lib.hid hres
    clear kx hres
    refine wp_region_kin (fun j => ([(.is (V.val X.1)), (.is (V.val Y.1)), (.is (V.val Z.1)), (.is (.int .i64 (X.2 : Int))), (.is (.bool (false))), (.is (.bool (false))), (.is (undef)), (.is (undef)), (.is (.bool false)), (.is (.bool false)), (.is (undef)), (.is (undef)), (.is (.bool false)), (.is (undef)), (.is (undef)), (.is (undef)), (.is (.bool false))] : List Kn).getD j (.is undef)) 48 (by simp) (by kernel_rfl) (by kernel_rfl) ?_ ?_
    · intro i hi A w1 hother hb hd
      match i, hi with
      | 0, _ =>
        have e5 : A.eval (.tmp 5) = .pointer (some ⟨w.heap.size, 0, none⟩) := hother 5 (by kernel_rfl)
        exact kin_loadV rfl (wanted_none rfl) rfl _ e5 X.1 _ H5.out.b0 hb rfl
      | 1, _ =>
        have e6 : A.eval (.tmp 6) = .pointer (some ⟨w.heap.size + 1, 0, none⟩) := hother 6 (by kernel_rfl)
        exact kin_loadV rfl (wanted_none rfl) rfl _ e6 Y.1 _ H5.out.b1 hb rfl
      | 2, _ =>
        have e7 : A.eval (.tmp 7) = .pointer (some ⟨w.heap.size + 1 + 1, 0, none⟩) := hother 7 (by kernel_rfl)
        exact kin_loadV rfl (wanted_none rfl) rfl _ e7 Z.1 _ H5.out.b2 hb rfl
      | 3, _ =>
        have e10 : A.eval (.tmp 10) = .int .i64 (X.2 : Int) := hother 10 (by kernel_rfl)
        exact kin_move rfl (wanted_none rfl) rfl _ e10 rfl
      | 4, _ =>
        have e38 := (hd _ rfl ⟨3, .data⟩ (by simp) rfl).eq (.int .i64 (X.2 : Int)) rfl 38 (by kernel_rfl) (by decide)
        have h6 := tmps_of e38
        have h7 := eX
        exact kin_same rfl (wanted_none rfl) (.bool (false)) (by simp only [execOp]; go_simp) rfl
      | 5, _ =>
        have e39 := (hd _ rfl ⟨4, .data⟩ (by simp) rfl).eq (.bool (false)) rfl 39 (by kernel_rfl) (by decide)
        exact kin_move rfl (wanted_none rfl) rfl _ e39 rfl
      | 6, _ =>
        have hg := (hd _ rfl ⟨5, .guard⟩ (by simp) rfl).eq (.bool false) rfl 40 (by kernel_rfl) (by decide)
        exact kin_unwanted rfl (wanted_not rfl (by kernel_rfl) hg (by decide)) rfl
      | 7, _ =>
        have hg := (hd _ rfl ⟨5, .guard⟩ (by simp) rfl).eq (.bool false) rfl 40 (by kernel_rfl) (by decide)
        exact kin_unwanted rfl (wanted_not rfl (by kernel_rfl) hg (by decide)) rfl
      | 8, _ =>
        have e40 := (hd _ rfl ⟨5, .data⟩ (by simp) rfl).eq (.bool (false)) rfl 40 (by kernel_rfl) (by decide)
        exact kin_andF rfl (wanted_none rfl) rfl e40 rfl
      | 9, _ =>
        have e43 := (hd _ rfl ⟨8, .data⟩ (by simp) rfl).eq (.bool false) rfl 43 (by kernel_rfl) (by decide)
        exact kin_move rfl (wanted_none rfl) rfl _ e43 rfl
      | 10, _ =>
        have hg := (hd _ rfl ⟨9, .guard⟩ (by simp) rfl).eq (.bool false) rfl 44 (by kernel_rfl) (by decide)
        exact kin_unwanted rfl (wanted_not rfl (by kernel_rfl) hg (by decide)) rfl
      | 11, _ =>
        have hg := (hd _ rfl ⟨9, .guard⟩ (by simp) rfl).eq (.bool false) rfl 44 (by kernel_rfl) (by decide)
        exact kin_unwanted rfl (wanted_not rfl (by kernel_rfl) hg (by decide)) rfl
      | 12, _ =>
        have e44 := (hd _ rfl ⟨9, .data⟩ (by simp) rfl).eq (.bool false) rfl 44 (by kernel_rfl) (by decide)
        exact kin_andF rfl (wanted_none rfl) rfl e44 rfl
      | 13, _ =>
        have e35 := (hd _ rfl ⟨0, .data⟩ (by simp) rfl).eq (V.val X.1) rfl 35 (by kernel_rfl) (by decide)
        have e5 : A.eval (.tmp 5) = .pointer (some ⟨w.heap.size, 0, none⟩) := hother 5 (by kernel_rfl)
        exact kin_again rfl (wanted_none rfl) rfl _ e5 X.1 e35 _ H5.out.b0 hb rfl
      | 14, _ =>
        have e36 := (hd _ rfl ⟨1, .data⟩ (by simp) rfl).eq (V.val Y.1) rfl 36 (by kernel_rfl) (by decide)
        have e6 : A.eval (.tmp 6) = .pointer (some ⟨w.heap.size + 1, 0, none⟩) := hother 6 (by kernel_rfl)
        exact kin_again rfl (wanted_none rfl) rfl _ e6 Y.1 e36 _ H5.out.b1 hb rfl
      | 15, _ =>
        have e37 := (hd _ rfl ⟨2, .data⟩ (by simp) rfl).eq (V.val Z.1) rfl 37 (by kernel_rfl) (by decide)
        have e7 : A.eval (.tmp 7) = .pointer (some ⟨w.heap.size + 1 + 1, 0, none⟩) := hother 7 (by kernel_rfl)
        exact kin_again rfl (wanted_none rfl) rfl _ e7 Z.1 e37 _ H5.out.b2 hb rfl
      | 16, _ =>
        have e47 := (hd _ rfl ⟨12, .data⟩ (by simp) rfl).eq (.bool false) rfl 47 (by kernel_rfl) (by decide)
        exact kin_assign rfl (wanted_none rfl) rfl _ e47 rfl
      | n + 17, hi => simp at hi; omega
    intro us w6 hb6 hh
    have h16 : us 16 = .bool (false) := hh 16 (by simp)
    have HT := H5.out.later hb6
    obtain ⟨c0, -⟩ := HT.b0 0 _ rfl
    obtain ⟨c1, -⟩ := HT.b0 1 _ rfl
    obtain ⟨c2, -⟩ := HT.b0 2 _ rfl
    obtain ⟨d0, -⟩ := HT.b1 0 _ rfl
    obtain ⟨d1, -⟩ := HT.b1 1 _ rfl
    obtain ⟨d2, -⟩ := HT.b1 2 _ rfl
    obtain ⟨g0, -⟩ := HT.b2 0 _ rfl
    obtain ⟨g1, -⟩ := HT.b2 1 _ rfl
    obtain ⟨g2, -⟩ := HT.b2 2 _ rfl
    have HBL := Lib.hid HT.bel
    clear hh HT hb6 H5
    simp only [List.length_cons, List.length_nil, Nat.zero_add, Nat.reduceAdd, putAll, dstOf, List.getElem?_toArray, List.getElem?_cons_zero, List.getElem?_cons_succ, Option.bind_some, Act.put, h16]
    clear h16
    simp only [List.setIfInBounds_toArray, List.set_cons_zero, List.set_cons_succ]
    go_wp2_with fail
    refine bodyPost_ret (v := .tuple #[X.1.val, Y.1.val, Z.1.val, .bool (false)]) (by simp [results, Try.results12, go_sem, c0, c1, c2, d0, d1, d2, g0, g1, g2]) rfl ⟨⟨K, X, Y, Z, hxyz, by rw [HRES.out]⟩, HBL.out⟩
end Go.Proofs.Ytclkpbokngamiaa.Dt
