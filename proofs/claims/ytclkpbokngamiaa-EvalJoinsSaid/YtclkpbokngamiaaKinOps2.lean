/-
  More operations of great regions: values, rows, folds.
-/
import Derived.Test.YtclkpbokngamiaaKinOps
namespace Go.Proofs.Ytclkpbokngamiaa.Dt
open Go.RowKit Go.Proofs.Ytclkpbokngamiaa.By

/-- The same, with the frame behind the region known by its slots alone. -/
theorem wp_region_kin' {P : Program} {id : Nat} {Q : Exit → Act → World → Prop} {a0 : Act} {w : World} {l : List Oper} (kn : Nat → Kn) (N : Nat) (hN : a0.tmps.size = N) (hm : P.follows .mixedOrders = true) (hB : mixB .any l.toArray = true)
    (hops : ∀ i, i < l.length → ∀ (A : Act) w1, (∀ t, ((List.range l.length).all fun j => dstOf l.toArray j != some t) = true → A.eval (.tmp t) = a0.eval (.tmp t)) → Below w.heap.size w w1 →
      (∀ oi, l.toArray[i]? = some oi → ∀ e ∈ oi.after, Region.binds .any e = true → Known l.toArray kn N A w1 e.on) → Kin P l.toArray Q kn i A w1)
    (hend : ∀ (F : Act) w1, Below w.heap.size w w1 → (∀ j t, j < l.length → dstOf l.toArray j = some t → t < N → (kn j).holds (F.eval (.tmp t)) w1) → F.defers = a0.defers → F.tmps.size = N → Q .normal F w1) :
    (Code.region id l.toArray true).wp P Q a0 w := by
  have hap : apartB l.toArray l.toArray.size = true := by simp only [mixB, Bool.and_eq_true] at hB; exact hB.1
  rw [List.size_toArray] at hap
  refine wp_region_kin kn N hN hm hB hops fun us w1 hb hh => hend _ w1 hb (fun j t hj hd ht => ?_) ?_ ?_
  · rw [eval_at hap us a0 hd (by rw [hN]; exact ht) l.length hj (Nat.le_refl _)]
    exact hh j hj
  · have : ∀ k, (putAll l.toArray us k a0).defers = a0.defers := by
      intro k
      induction k with
      | zero => rfl
      | succ k ih =>
        rw [putAll]
        cases dstOf l.toArray k with
        | none => exact ih
        | some d => exact ih
    exact this _
  · rw [putAll_size]; exact hN
instance (v : V) : Decidable v.ok := by unfold V.ok; exact inferInstance
theorem okV (v : V) (h : decide v.ok = true := by kernel_rfl) : v.ok := of_decide_eq_true h
theorem rows_three (W : World) (t : TypeId) (h1 h2 h3 : Value) (l1 l2 l3 : List V) : SlAt 1 Rw.cells (W.alloc (.cells #[h1, h2, h3] t)) (.slice (some ⟨W.heap.size, 0, none⟩) 3 3) [⟨h1, l1⟩, ⟨h2, l2⟩, ⟨h3, l3⟩] := by
  refine ⟨_, _, rfl, Nat.le_refl _, fun i x hx => ⟨W.heap.size, 0, rfl, fun j u hu => ?_⟩⟩
  rcases i with _ | _ | _ | i <;> simp at hx <;> subst hx <;> (rcases j with _ | j <;> simp [Rw.cells] at hu <;> subst hu <;> go_simp)
section
variable {ops : Array Oper} {Q : Exit → Act → World → Prop} {kn : Nat → Kn} {i : Nat} {a : Act} {w : World} {o : Oper}
theorem kin_works (ho : ops[i]? = some o) (hw : Region.wanted o (yielded ops a.tmps) = true) {at_ : Array TypeId} (hop : o.op = .call { callee := .value (.func 6), args := #[], argTypes := at_ }) (hk : kn i = .is (.bool true)) : Kin Try.prog ops Q kn i a w := by
  refine kin_call ho hw 6 #[] (by simp only [execOp, hop]; go_simp) ((works w).mono ?_)
  rintro e w' ⟨rfl, hb⟩
  exact ⟨⟨_, rfl, hk ▸ rfl⟩, hb⟩
theorem kin_number (ho : ops[i]? = some o) (hw : Region.wanted o (yielded ops a.tmps) = true) {A : Operand} {at_ : Array TypeId} (hop : o.op = .call { callee := .value (.func 17), args := #[A], argTypes := at_ }) (n : Int) (hA : A = .const (.int .i64 n)) (hk : kn i = .is (numV n).val) : Kin Try.prog ops Q kn i a w := by
  subst hA
  refine kin_call ho hw 17 #[.int .i64 n] (by simp only [execOp, hop]; go_simp) ((numberL n w).mono ?_)
  rintro e w' ⟨rfl, hb⟩
  exact ⟨⟨_, rfl, hk ▸ rfl⟩, hb⟩
theorem kin_text (ho : ops[i]? = some o) (hw : Region.wanted o (yielded ops a.tmps) = true) {A : Operand} {at_ : Array TypeId} (hop : o.op = .call { callee := .value (.func 18), args := #[A], argTypes := at_ }) (s : ByteArray) (hA : A = .const (.string s)) (hk : kn i = .is (V.mk 2 0 s).val) : Kin Try.prog ops Q kn i a w := by
  subst hA
  refine kin_call ho hw 18 #[.string s] (by simp only [execOp, hop]; go_simp) ((textL s w).mono ?_)
  rintro e w' ⟨rfl, hb⟩
  exact ⟨⟨_, rfl, hk ▸ rfl⟩, hb⟩
theorem kin_column (ho : ops[i]? = some o) (hw : Region.wanted o (yielded ops a.tmps) = true) {A : Operand} {at_ : Array TypeId} (hop : o.op = .call { callee := .value (.func 13), args := #[A], argTypes := at_ }) (n : Int) (hA : A = .const (.int .i64 n)) (hk : kn i = .is (exC n).val) : Kin Try.prog ops Q kn i a w := by
  subst hA
  refine kin_call ho hw 13 #[.int .i64 n] (by simp only [execOp, hop]; go_simp) ((columnL n w).mono ?_)
  rintro e w' ⟨rfl, hb⟩
  exact ⟨⟨_, rfl, hk ▸ rfl⟩, hb⟩
theorem kin_with (ho : ops[i]? = some o) (hw : Region.wanted o (yielded ops a.tmps) = true) {t : Tmp} {at_ : Array TypeId} (hop : o.op = .call { callee := .value (.func 7), args := #[.tmp t], argTypes := at_ }) (v : V) (hv : a.eval (.tmp t) = v.val) (hk : kn i = .is (exV v).val) : Kin Try.prog ops Q kn i a w := by
  have h6 := tmps_of hv
  refine kin_call ho hw 7 #[v.val] (by simp only [execOp, hop]; go_simp) ((withL v w).mono ?_)
  rintro e w' ⟨rfl, hb⟩
  exact ⟨⟨_, rfl, hk ▸ rfl⟩, hb⟩
theorem kin_two (ho : ops[i]? = some o) (hw : Region.wanted o (yielded ops a.tmps) = true) {A : Operand} {t s : Tmp} {at_ : Array TypeId} (hop : o.op = .call { callee := .value (.func 16), args := #[A, .tmp t, .tmp s], argTypes := at_ }) (op : Nat) (h256 : op < 256) (hA : a.eval A = .int .u8 (op : Int)) (x y : V)
    (hx : a.eval (.tmp t) = x.val) (hy : a.eval (.tmp s) = y.val) (okx : x.ok) (oky : y.ok) (P : Ex → Prop) (hk : kn i = .ex P) (hP : ∀ kv, P (exOf op kv [exV x, exV y])) : Kin Try.prog ops Q kn i a w := by
  have h6 := tmps_of hx
  have h7 := tmps_of hy
  refine kin_call ho hw 16 #[.int .u8 (op : Int), x.val, y.val] (by
      simp only [execOp, hop]
      cases A with
      | tmp t' => have h8 := tmps_of hA; go_simp
      | const v' => obtain rfl : v' = _ := hA; go_simp
      | global g => cases hA
      | func f => cases hA) ((twoL op x y w).mono ?_)
  rintro e w' ⟨⟨kv, rfl, hs⟩, hb⟩
  exact ⟨⟨_, rfl, hk ▸ ⟨_, rfl, exOf_in hs (fun z hz => by simp at hz; rcases hz with rfl | rfl <;> exact exV_in _ _), exOf_ok h256 (by simp) (fun z hz => by
    simp at hz
    rcases hz with rfl | rfl
    · exact exV_ok okx
    · exact exV_ok oky), hP kv⟩⟩, hb⟩
theorem kin_vs1 (ho : ops[i]? = some o) (hw : Region.wanted o (yielded ops a.tmps) = true) {t : Tmp} (hop : o.op = .buildSlice 49 1 #[(0, .tmp t)]) (v : V) (hv : a.eval (.tmp t) = v.val) (hk : kn i = .vs [v]) : Kin Try.prog ops Q kn i a w := by
  have h6 := tmps_of hv
  have hs := vs_one w v
  exact kin_val ho hw (.slice (some ⟨w.heap.size, 0, none⟩) 1 1) (w.alloc (.cells #[.int .u8 (v.k : Int), .int .i64 v.n, .string v.s] 23)) (by simp only [execOp, hop]; go_simp) ((Below.refl _ _).alloc (Nat.le_refl _) _) (by rw [hk]; exact hs)
theorem kin_rows3 (ho : ops[i]? = some o) (hw : Region.wanted o (yielded ops a.tmps) = true) {t s r : Tmp} (hop : o.op = .buildSlice 37 3 #[(0, .tmp t), (1, .tmp s), (2, .tmp r)]) (vt vs vr : Value) (ht : a.eval (.tmp t) = vt) (hs : a.eval (.tmp s) = vs) (hr : a.eval (.tmp r) = vr) (l1 l2 l3 : List V)
    (k1 : (Kn.vs l1).holds vt w) (k2 : (Kn.vs l2).holds vs w) (k3 : (Kn.vs l3).holds vr w) (hk : kn i = .rows [l1, l2, l3]) : Kin Try.prog ops Q kn i a w := by
  obtain ⟨a1, c1, rfl⟩ := SlAt.shape k1
  obtain ⟨a2, c2, rfl⟩ := SlAt.shape k2
  obtain ⟨a3, c3, rfl⟩ := SlAt.shape k3
  have h6 := tmps_of ht
  have h7 := tmps_of hs
  have h8 := tmps_of hr
  have hro := rows_three w 49 (.slice a1 l1.length c1) (.slice a2 l2.length c2) (.slice a3 l3.length c3) l1 l2 l3
  have hb : Below w.heap.size w (w.alloc (.cells #[.slice a1 l1.length c1, .slice a2 l2.length c2, .slice a3 l3.length c3] 49)) := by go_grown
  refine kin_val ho hw (.slice (some ⟨w.heap.size, 0, none⟩) 3 3) _ (by simp only [execOp, hop]; go_simp) hb (hk ▸ ⟨_, ⟨hro, fun q hq => ?_⟩, rfl⟩)
  simp only [List.mem_cons, List.not_mem_nil, or_false] at hq
  rcases hq with rfl | rfl | rfl
  · exact SlAt.below k1 hb
  · exact SlAt.below k2 hb
  · exact SlAt.below k3 hb
theorem kin_fold (ho : ops[i]? = some o) (hw : Region.wanted o (yielded ops a.tmps) = true) {t s : Tmp} {A : Operand} {at_ : Array TypeId} (hop : o.op = .call { callee := .value (.func 14), args := #[.tmp t, .tmp s, A], argTypes := at_ })
    (v u : Value) (hv : a.eval (.tmp t) = v) (hu : a.eval (.tmp s) = u) (P : Ex → Prop) (hx : (Kn.ex P).holds v w) (rows : List (List V)) (hr : (Kn.rows rows).holds u w) (hrok : ∀ r ∈ rows, ∀ v ∈ r, v.ok) (hl : rows.length ≤ 100) (cols : Int) (hc0 : 0 ≤ cols) (hc1 : cols ≤ 9223372036854775807)
    (hA : A = .const (.int .i64 cols)) (r : V × Nat) (hk : kn i = .is (resV r)) (hP : ∀ x, P x → foldS rows cols x = r) : Kin Try.prog ops Q kn i a w := by
  subst hA
  obtain ⟨x, rfl, hin, hok, hp⟩ := hx
  obtain ⟨rs, hrs, rfl⟩ := hr
  have h6 := tmps_of hv
  have h7 := tmps_of hu
  have hfo := fold x u rs cols w hin hok hrs (fun q hq v hv => hrok q.l (List.mem_map_of_mem hq) v hv) (by simp at hl; omega) hc0 hc1
  rw [hP x hp] at hfo
  refine kin_call ho hw 14 #[x.val, u, .int .i64 cols] (by simp only [execOp, hop]; go_simp) (hfo.mono ?_)
  rintro e w' ⟨rfl, hb⟩
  exact ⟨⟨_, rfl, hk ▸ rfl⟩, hb⟩
theorem kin_fold0 (ho : ops[i]? = some o) (hw : Region.wanted o (yielded ops a.tmps) = true) {t : Tmp} {A : Operand} {at_ : Array TypeId} (hop : o.op = .call { callee := .value (.func 14), args := #[.tmp t, .const (.slice none 0 0), A], argTypes := at_ })
    (v : Value) (hv : a.eval (.tmp t) = v) (P : Ex → Prop) (hx : (Kn.ex P).holds v w) (cols : Int) (hc0 : 0 ≤ cols) (hc1 : cols ≤ 9223372036854775807)
    (hA : A = .const (.int .i64 cols)) (r : V × Nat) (hk : kn i = .is (resV r)) (hP : ∀ x, P x → foldS [] cols x = r) : Kin Try.prog ops Q kn i a w := by
  subst hA
  obtain ⟨x, rfl, hin, hok, hp⟩ := hx
  have h6 := tmps_of hv
  have hfo := fold x (.slice none 0 0) [] cols w hin hok ⟨SlAt.nil _ _ _, fun q hq => by cases hq⟩ (fun q hq => by cases hq) (by simp) hc0 hc1
  rw [List.map_nil, hP x hp] at hfo
  refine kin_call ho hw 14 #[x.val, .slice none 0 0, .int .i64 cols] (by simp only [execOp, hop]; go_simp) (hfo.mono ?_)
  rintro e w' ⟨rfl, hb⟩
  exact ⟨⟨_, rfl, hk ▸ rfl⟩, hb⟩
end
end Go.Proofs.Ytclkpbokngamiaa.Dt
