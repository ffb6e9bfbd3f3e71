/-
  The operations of the laws' own great regions, each by the kind of what it hands back.
-/
import Derived.Test.YtclkpbokngamiaaKin
import Derived.Test.YtclkpbokngamiaaLogicLaw
namespace Go.Proofs.Ytclkpbokngamiaa.Dt
open Go.RowKit Go.Proofs.Ytclkpbokngamiaa.By

section
variable {ops : Array Oper} {Q : Exit → Act → World → Prop} {kn : Nat → Kn} {i : Nat} {a : Act} {w : World} {o : Oper}
/-- A slice of one expression, of two. -/
theorem kin_kids1 (ho : ops[i]? = some o) (hw : Region.wanted o (yielded ops a.tmps) = true) {t : Tmp} (hop : o.op = .buildSlice 25 1 #[(0, .tmp t)]) (x : Ex) (hx : a.eval (.tmp t) = x.val) (hin : x.In w) (hok : x.Ok) (P : List Ex → Prop) (hk : kn i = .kids P) (hP : P [x]) : Kin Try.prog ops Q kn i a w := by
  obtain ⟨ax, cx, ekx⟩ := Ex.kv_of hin
  have h6 := tmps_of hx
  have hs := ex_one w x
  simp only [Ex.val, ekx] at h6 hs
  have hb : Below w.heap.size w (w.alloc (.cells #[.int .u8 (x.op : Int), .int .u8 (x.v.k : Int), .int .i64 x.v.n, .string x.v.s, .string x.t, .string x.m, .int .i64 x.n, .slice ax x.kids.length cx] 27)) := by go_grown
  refine kin_val ho hw (.slice (some ⟨w.heap.size, 0, none⟩) 1 1) _ (by simp only [execOp, hop]; go_simp) hb (hk ▸ ⟨_, _, _, [x], rfl, hs, ?_, by simp, hP⟩)
  intro y hy
  obtain rfl := List.mem_singleton.1 hy
  exact ⟨Ex.in_below hb _ hin, hok⟩
theorem ex_pair (W : World) (x y : Ex) : SlAt 8 Ex.cells (W.alloc (.cells #[.int .u8 (x.op : Int), .int .u8 (x.v.k : Int), .int .i64 x.v.n, .string x.v.s, .string x.t, .string x.m, .int .i64 x.n, x.kv, .int .u8 (y.op : Int), .int .u8 (y.v.k : Int), .int .i64 y.v.n, .string y.v.s, .string y.t, .string y.m, .int .i64 y.n, y.kv] 27)) (.slice (some ⟨W.heap.size, 0, none⟩) 2 2) [x, y] := by
  refine ⟨_, _, rfl, Nat.le_refl _, fun i y hx => ⟨W.heap.size, 0, rfl, fun j u hu => ?_⟩⟩
  rcases i with _ | _ | i <;> simp at hx <;> subst hx <;> (rcases j with _ | _ | _ | _ | _ | _ | _ | _ | j <;> simp [Ex.cells] at hu <;> subst hu <;> go_simp)
theorem kin_kids2 (ho : ops[i]? = some o) (hw : Region.wanted o (yielded ops a.tmps) = true) {t s : Tmp} (hop : o.op = .buildSlice 25 2 #[(0, .tmp t), (1, .tmp s)]) (x y : Ex) (hx : a.eval (.tmp t) = x.val) (hy : a.eval (.tmp s) = y.val) (hin : x.In w) (hok : x.Ok) (hin2 : y.In w) (hok2 : y.Ok) (P : List Ex → Prop) (hk : kn i = .kids P) (hP : P [x, y]) : Kin Try.prog ops Q kn i a w := by
  obtain ⟨ax, cx, ekx⟩ := Ex.kv_of hin
  obtain ⟨ay, cy, eky⟩ := Ex.kv_of hin2
  have h6 := tmps_of hx
  have h7 := tmps_of hy
  have hs := ex_pair w x y
  simp only [Ex.val, ekx, eky] at h6 h7 hs
  have hb : Below w.heap.size w (w.alloc (.cells #[.int .u8 (x.op : Int), .int .u8 (x.v.k : Int), .int .i64 x.v.n, .string x.v.s, .string x.t, .string x.m, .int .i64 x.n, .slice ax x.kids.length cx, .int .u8 (y.op : Int), .int .u8 (y.v.k : Int), .int .i64 y.v.n, .string y.v.s, .string y.t, .string y.m, .int .i64 y.n, .slice ay y.kids.length cy] 27)) := by go_grown
  refine kin_val ho hw (.slice (some ⟨w.heap.size, 0, none⟩) 2 2) _ (by simp only [execOp, hop]; go_simp) hb (hk ▸ ⟨_, _, _, [x, y], rfl, hs, ?_, by simp, hP⟩)
  intro z hz
  simp only [List.mem_cons, List.not_mem_nil, or_false] at hz
  rcases hz with rfl | rfl
  · exact ⟨Ex.in_below hb _ hin, hok⟩
  · exact ⟨Ex.in_below hb _ hin2, hok2⟩
/-- An operation of a slice of expressions. -/
theorem kin_of (ho : ops[i]? = some o) (hw : Region.wanted o (yielded ops a.tmps) = true) {A : Operand} {t : Tmp} {at_ : Array TypeId} (hop : o.op = .call { callee := .value (.func 9), args := #[A, .tmp t], argTypes := at_ }) (op : Nat) (h256 : op < 256) (hA : a.eval A = .int .u8 (op : Int))
    (v : Value) (hv : a.eval (.tmp t) = v) (K : List Ex → Prop) (hkids : (Kn.kids K).holds v w) (P : Ex → Prop) (hk : kn i = .ex P) (hP : ∀ kv ks, K ks → P (exOf op kv ks)) : Kin Try.prog ops Q kn i a w := by
  obtain ⟨ad, n, c, ks, rfl, hs, hi, hl, hK⟩ := hkids
  have h6 := tmps_of hv
  refine kin_call ho hw 9 #[.int .u8 (op : Int), .slice ad n c] (by
      simp only [execOp, hop]
      cases A with
      | tmp t' => have h8 := tmps_of hA; go_simp
      | const v' => obtain rfl : v' = _ := hA; go_simp
      | global g => cases hA
      | func f => cases hA) ((ofL op ad n c ks w).mono ?_)
  rintro e w' ⟨rfl, hb⟩
  exact ⟨⟨_, rfl, hk ▸ ⟨_, rfl, exOf_in (hs.below hb) (fun y hy => Ex.in_below hb y (hi y hy).1), exOf_ok h256 hl (fun y hy => (hi y hy).2), hP _ _ hK⟩⟩, hb⟩
/-- An operation of none. -/
theorem kin_of0 (ho : ops[i]? = some o) (hw : Region.wanted o (yielded ops a.tmps) = true) {A : Operand} {at_ : Array TypeId} (hop : o.op = .call { callee := .value (.func 9), args := #[A, .const (.slice none 0 0)], argTypes := at_ }) (op : Nat) (h256 : op < 256) (hA : a.eval A = .int .u8 (op : Int))
    (P : Ex → Prop) (hk : kn i = .ex P) (hP : ∀ kv, P (exOf op kv [])) : Kin Try.prog ops Q kn i a w := by
  refine kin_call ho hw 9 #[.int .u8 (op : Int), .slice none 0 0] (by
      simp only [execOp, hop]
      cases A with
      | tmp t' => have h8 := tmps_of hA; go_simp
      | const v' => obtain rfl : v' = _ := hA; go_simp
      | global g => cases hA
      | func f => cases hA) ((ofL op none 0 0 [] w).mono ?_)
  rintro e w' ⟨rfl, hb⟩
  exact ⟨⟨_, rfl, hk ▸ ⟨_, rfl, exOf_in (SlAt.nil _ _ _) (fun y hy => by cases hy), exOf_ok h256 (by simp) (fun y hy => by cases hy), hP _⟩⟩, hb⟩
/-- What an expression comes to. -/
theorem kin_eval (ho : ops[i]? = some o) (hw : Region.wanted o (yielded ops a.tmps) = true) {t : Tmp} {at_ : Array TypeId} (hop : o.op = .call { callee := .value (.func 8), args := #[.tmp t, .const (.slice none 0 0)], argTypes := at_ })
    (v : Value) (hv : a.eval (.tmp t) = v) (P : Ex → Prop) (hx : (Kn.ex P).holds v w) (r : V × Nat) (hk : kn i = .is (resV r)) (hP : ∀ x, P x → evalS [] x = r) : Kin Try.prog ops Q kn i a w := by
  obtain ⟨x, rfl, hin, hok, hp⟩ := hx
  have h6 := tmps_of hv
  have hev := evalW x (.slice none 0 0) [] w hin hok (SlAt.nil _ _ _) (fun v hv => by cases hv) (by simp)
  rw [hP x hp] at hev
  refine kin_call ho hw 8 #[x.val, .slice none 0 0] (by simp only [execOp, hop]; go_simp) (hev.mono ?_)
  rintro e w' ⟨rfl, hb⟩
  exact ⟨⟨_, rfl, hk ▸ rfl⟩, hb⟩
/-- What is to come. -/
theorem kin_is (ho : ops[i]? = some o) (hw : Region.wanted o (yielded ops a.tmps) = true) {t : Tmp} {A : Operand} {at_ : Array TypeId} (hop : o.op = .call { callee := .value (.func 10), args := #[.tmp t, A], argTypes := at_ })
    (v : V) (e : Nat) (hv : a.eval (.tmp t) = v.val) (hA : a.eval A = .int .i64 (e : Int)) (hk : kn i = .got v e) : Kin Try.prog ops Q kn i a w := by
  have h6 := tmps_of hv
  refine kin_call ho hw 10 #[v.val, .int .i64 (e : Int)] (by
      simp only [execOp, hop]
      cases A with
      | tmp t' => have h8 := tmps_of hA; go_simp
      | const v' => obtain rfl : v' = _ := hA; go_simp
      | global g => cases hA
      | func f => cases hA) ((isL v e w).mono ?_)
  rintro r w' ⟨⟨p, q, rfl, hc⟩, hb⟩
  exact ⟨⟨_, rfl, hk ▸ ⟨p, q, rfl, hc⟩⟩, hb⟩
/-- It has come. -/
theorem kin_yes (ho : ops[i]? = some o) (hw : Region.wanted o (yielded ops a.tmps) = true) {t s u : Tmp} {at_ : Array TypeId} (hop : o.op = .call { callee := .value (.tmp t), args := #[.tmp s, .tmp u], argTypes := at_ })
    (f : Value) (hf : a.eval (.tmp t) = f) (v : V) (e : Nat) (hg : (Kn.got v e).holds f w) (hv : a.eval (.tmp s) = v.val) (he : a.eval (.tmp u) = .int .i64 (e : Int)) (hk : kn i = .is (.bool true)) : Kin Try.prog ops Q kn i a w := by
  obtain ⟨p, q, rfl, hc⟩ := hg
  have h6 := tmps_of hf
  have h7 := tmps_of hv
  have h8 := tmps_of he
  refine kin_call ho hw 23 #[v.val, .int .i64 (e : Int), .pointer (some p), .pointer (some q)] (by simp only [execOp, hop]; go_simp) ((isYes v e p q w hc).mono ?_)
  rintro r w' ⟨rfl, hb⟩
  exact ⟨⟨_, rfl, hk ▸ rfl⟩, hb⟩
/-- Parts of a result. -/
theorem kin_ext0 (ho : ops[i]? = some o) (hw : Region.wanted o (yielded ops a.tmps) = true) {t : Tmp} (hop : o.op = .extract (.tmp t) 0) (r : V × Nat) (hv : a.eval (.tmp t) = resV r) (hk : kn i = .is r.1.val) : Kin Try.prog ops Q kn i a w := by
  have h6 := tmps_of hv
  simp only [resV] at h6
  exact kin_same ho hw r.1.val (by simp only [execOp, hop]; go_simp) (hk ▸ rfl)
theorem kin_ext1 (ho : ops[i]? = some o) (hw : Region.wanted o (yielded ops a.tmps) = true) {t : Tmp} (hop : o.op = .extract (.tmp t) 1) (r : V × Nat) (hv : a.eval (.tmp t) = resV r) (hk : kn i = .is (.int .i64 (r.2 : Int))) : Kin Try.prog ops Q kn i a w := by
  have h6 := tmps_of hv
  simp only [resV] at h6
  exact kin_same ho hw (.int .i64 (r.2 : Int)) (by simp only [execOp, hop]; go_simp) (hk ▸ rfl)
theorem kin_move (ho : ops[i]? = some o) (hw : Region.wanted o (yielded ops a.tmps) = true) {A : Operand} (hop : o.op = .move A) (v : Value) (hv : a.eval A = v) (hk : kn i = .is v) : Kin Try.prog ops Q kn i a w :=
  kin_same ho hw v (by simp only [execOp, hop, hv]; go_simp) (hk ▸ rfl)
theorem kin_assign (ho : ops[i]? = some o) (hw : Region.wanted o (yielded ops a.tmps) = true) {A : Operand} (hop : o.op = .assign A) (v : Value) (hv : a.eval A = v) (hk : kn i = .is v) : Kin Try.prog ops Q kn i a w :=
  kin_same ho hw v (by simp only [execOp, hop, hv]; go_simp) (hk ▸ rfl)
theorem kin_not (ho : ops[i]? = some o) (hw : Region.wanted o (yielded ops a.tmps) = true) {t : Tmp} {T : TypeId} (hop : o.op = .unOp .not T (.tmp t)) (b : Bool) (hv : a.eval (.tmp t) = .bool b) (hk : kn i = .is (.bool !b)) : Kin Try.prog ops Q kn i a w := by
  have h6 := tmps_of hv
  exact kin_same ho hw (.bool !b) (by simp only [execOp, hop]; go_simp) (hk ▸ rfl)
/-- 'a || b', 'a && b', behind both. -/
theorem kin_or (ho : ops[i]? = some o) (hw : Region.wanted o (yielded ops a.tmps) = true) {t s : Tmp} (hop : o.op = .pick (.tmp t) (.const (.bool true)) (.tmp s)) (b : Bool) (hv : a.eval (.tmp t) = .bool false) (hs : a.eval (.tmp s) = .bool b) (hk : kn i = .is (.bool b)) : Kin Try.prog ops Q kn i a w := by
  have h6 := tmps_of hv
  have h7 := tmps_of hs
  exact kin_same ho hw (.bool b) (by simp only [execOp, hop]; go_simp) (hk ▸ rfl)
theorem kin_and (ho : ops[i]? = some o) (hw : Region.wanted o (yielded ops a.tmps) = true) {t s : Tmp} (hop : o.op = .pick (.tmp t) (.tmp s) (.const (.bool false))) (b : Bool) (hv : a.eval (.tmp t) = .bool true) (hs : a.eval (.tmp s) = .bool b) (hk : kn i = .is (.bool b)) : Kin Try.prog ops Q kn i a w := by
  have h6 := tmps_of hv
  have h7 := tmps_of hs
  exact kin_same ho hw (.bool b) (by simp only [execOp, hop]; go_simp) (hk ▸ rfl)
/-- A value's box is read; an expression's. -/
theorem kin_loadV (ho : ops[i]? = some o) (hw : Region.wanted o (yielded ops a.tmps) = true) {t : Tmp} (hop : o.op = .load 23 (.tmp t)) (k : Nat) (hv : a.eval (.tmp t) = .pointer (some ⟨k, 0, none⟩)) (v : V) (w0 : World) (hbox : Box k v.cells w0) (hb : Below w0.heap.size w0 w) (hk : kn i = .is v.val) : Kin Try.prog ops Q kn i a w := by
  have h6 := tmps_of hv
  have hbx := hbox.later hb
  have c0 := (hbx 0 _ rfl).1
  have c1 := (hbx 1 _ rfl).1
  have c2 := (hbx 2 _ rfl).1
  exact kin_same ho hw v.val (by simp only [execOp, hop]; go_simp) (hk ▸ rfl)
theorem kin_loadE (ho : ops[i]? = some o) (hw : Region.wanted o (yielded ops a.tmps) = true) {t : Tmp} (hop : o.op = .load 27 (.tmp t)) (k : Nat) (hv : a.eval (.tmp t) = .pointer (some ⟨k, 0, none⟩)) (v : V) (w0 : World) (hbox : Box k (exV v).cells w0) (hb : Below w0.heap.size w0 w) (hk : kn i = .is (exV v).val) : Kin Try.prog ops Q kn i a w := by
  have h6 := tmps_of hv
  have hbx := hbox.later hb
  have c0 := (hbx 0 _ rfl).1
  have c1 := (hbx 1 _ rfl).1
  have c2 := (hbx 2 _ rfl).1
  have c3 := (hbx 3 _ rfl).1
  have c4 := (hbx 4 _ rfl).1
  have c5 := (hbx 5 _ rfl).1
  have c6 := (hbx 6 _ rfl).1
  have c7 := (hbx 7 _ rfl).1
  exact kin_same ho hw (exV v).val (by simp only [execOp, hop]; go_simp) (hk ▸ rfl)
end
end Go.Proofs.Ytclkpbokngamiaa.Dt
