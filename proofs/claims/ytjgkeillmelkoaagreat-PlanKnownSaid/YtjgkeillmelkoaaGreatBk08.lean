import Derived.Test.YtjgkeillmelkoaaGreatBk06
import Derived.Test.YtjgkeillmelkoaaGreatBk07
import Derived.Test.YtjgkeillmelkoaaGreatBk05
namespace Go.Proofs.YtjgkeillmelkoaaGreat.Dt
open Go.RowKit Go.Proofs.YtjgkeillmelkoaaGreat.By

section
variable {P : Program} {w : World}
theorem pl_append_where (base : Nat) (t ty e : TypeId) (i : TypeInfo) (z : Value) (size bytes : Nat) (ht : P.underlying t = some (.slice e)) (hi : P.info? e = some i) (hz : i.zero = some z)
    (hsize : i.size = size) (hby : i.bytes = bytes) (hzs : z.cells.size = size) (hsz : 0 < size)
    (v : Value) (n : Nat) (xs : List Value) (hown : w.ownsRow base e size v n xs)
    (a : Addr) (m c : Nat) (news : List Value) (hl : news.length = m * size) (hnews : ∀ j u, news[j]? = some u → w.cell? (a.add j) = some u) (h1 : ∀ u ∈ news, u.oneCell' = true)
    (h63 : n + m ≤ maxLen) (hbytes : (n + m) * bytes ≤ 140737488355328) (v' : Value) (w' : World) (hr : (Builtin.append_ #[t, t] ty #[v, .slice (some a) m c]).run P w = .ok v' w') (hiff : v' = .slice none 0 0 ↔ v = .slice none 0 0 ∧ m = 0) :
    v'.ownBlock = v.ownBlock ∨ v'.ownBlock = some w.heap.size := by
  subst hsize
  subst hby
  have hsmall : n + m ≤ 9223372036854775807 := by simp only [maxLen] at h63; omega
  rcases hown.2 with ⟨rfl, rfl⟩ | ⟨g, cap, cur, rfl, hbg, hg, hnc, hcm, hcs, htake⟩
  · rcases Nat.eq_zero_or_pos m with h0 | hm
    · exact .inl (by rw [hiff.2 ⟨rfl, h0⟩])
    have h := run_append_nil (P := P) w t ty e i z ht hi hz a m c news hl hnews (by omega) (by omega) (by have hb := hbytes; simp only [Nat.zero_add] at hb; omega)
    rw [h] at hr
    cases hr
    exact .inr rfl
  · by_cases hroom : n + m ≤ cap
    · have hfit : n * i.size + news.length ≤ cur.size := by rw [hl, hcs, ← Nat.add_mul]; exact Nat.mul_le_mul_right _ hroom
      have h := run_append_room (P := P) w t ty e i ht hi g n cap cur hg a m c news hl hnews h1 hroom hfit
      rw [h] at hr
      cases hr
      exact .inl rfl
    · have holds : ∀ j u, xs[j]? = some u → w.cell? ((⟨g, 0, none⟩ : Addr).add j) = some u := hown.cells (g := g) rfl
      have h := run_append_grow (P := P) w t ty e i z ht hi hz ⟨g, 0, none⟩ n cap xs hown.1 holds a m c news hl hnews (by omega) (by omega) (growslice_fits (by omega) hbytes)
      rw [h] at hr
      cases hr
      exact .inr rfl
/-- A slice value of m elements of so many cells each reads as these cells. -/
def PRd (w : World) (size : Nat) (v : Value) (m : Nat) (xs : List Value) : Prop := xs.length = m * size ∧ ((∃ c, v = .slice none 0 c ∧ m = 0) ∨ ∃ ad c, v = .slice (some ad) m c ∧ ∀ j u, xs[j]? = some u → w.cell? (ad.add j) = some u)
/-- Append run once: what it makes, and where. -/
theorem pl_run_append (t ty e : TypeId) (size bytes : Nat) (E : Elem P t e size bytes) (base : Nat) (v : Value) (n : Nat) (xs : List Value) (hown : w.ownsRow base e size v n xs)
    (sv : Value) (m : Nat) (news : List Value) (hr : PRd w size sv m news) (h1 : ∀ u ∈ news, u.oneCell' = true) (h63 : n + m ≤ maxLen) (hbytes : (n + m) * bytes ≤ 140737488355328) (hbase : base ≤ w.heap.size) :
    ∃ v' w', (Builtin.append_ #[t, t] ty #[v, sv]).run P w = .ok v' w' ∧ w'.ownsRow base e size v' (n + m) (xs ++ news) ∧ w.grownBy w' v.ownBlock ∧ (v'.ownBlock = v.ownBlock ∨ v'.ownBlock = some w.heap.size) := by
  obtain ⟨i, z, hi, hz, hsize, hby, hzs⟩ := E.info
  rcases hr.2 with ⟨c, rfl, rfl⟩ | ⟨ad, c, rfl, hc⟩
  · have hn : news = [] := by simpa using hr.1
    subst hn
    have hrun : (Builtin.append_ #[t, t] ty #[v, .slice none 0 c]).run P w = .ok v w := by
      rcases hown.2 with ⟨rfl, rfl⟩ | ⟨g, cap, cur, rfl, _, _, hnc, _⟩
      · simp [Builtin.append_, run_underlying E.slice, sizeOf, typeInfo, hi, Builtin.lenOf, Builtin.firstCells]
      · simp [Builtin.append_, run_underlying E.slice, sizeOf, typeInfo, hi, Builtin.lenOf, Builtin.firstCells, hnc, storeCells]
    exact ⟨v, w, hrun, by simpa using hown, ⟨rfl, rfl, rfl, Nat.le_refl _, fun _ _ _ => rfl⟩, .inl rfl⟩
  · obtain ⟨v', w', h2, h3, h4, h5⟩ := run_append_own (P := P) w base t ty e i z size bytes E.slice hi hz hsize hby hzs E.pos v n xs hown ad m c news hr.1 hc h1 h63 hbytes hbase
    exact ⟨v', w', h2, h3, h4, pl_append_where base t ty e i z size bytes E.slice hi hz hsize hby hzs E.pos v n xs hown ad m c news hr.1 hc h1 h63 hbytes v' w' h2 h5⟩
end
/-- A slice told by a relation, as cells. -/
theorem prd_of {α : Type} {size : Nat} {R : World → List Value → α → Prop} {w : World} {v : Value} {l : List α} (h : SlR size R w v l) : ∃ cs : List (List Value), PRd w size v l.length cs.flatten ∧ cs.length = l.length ∧ ∀ (i : Nat) (c : List Value) (x : α), cs[i]? = some c → l[i]? = some x → c.length = size ∧ R w c x := by
  obtain ⟨cs, ⟨a, c, rfl, hc, hat⟩, hl, hR⟩ := h
  have hs : ∀ c ∈ cs, c.length = size := fun c hc => by
    obtain ⟨i, hi⟩ := List.getElem?_of_mem hc
    have hil : i < l.length := by rw [← hl]; exact (List.getElem?_eq_some_iff.1 hi).1
    exact (hR i c l[i] hi (by simp [hil])).1
  have hlen : ∀ ds : List (List Value), (∀ c ∈ ds, c.length = size) → ds.flatten.length = ds.length * size := fun ds => by
    induction ds with
    | nil => intro _; simp
    | cons d ds ih =>
      intro h
      rw [List.flatten_cons, List.length_append, h d (by simp), ih (fun c hc => h c (by simp [hc])), List.length_cons, Nat.add_mul]; omega
  refine ⟨cs, ⟨by rw [hlen cs hs, hl], ?_⟩, hl, hR⟩
  cases a with
  | none =>
    left
    have h0 : cs.length = 0 := by
      rcases Nat.eq_zero_or_pos cs.length with h | h
      · exact h
      · obtain ⟨b, o, e, _⟩ := hat 0 cs[0] (by simp [h])
        cases e
    exact ⟨c, by rw [h0], by omega⟩
  | some ad =>
    right
    refine ⟨ad, c, by rw [← hl], fun j u hu => ?_⟩
    have hj : j < cs.length * size := by rw [← hlen cs hs]; exact (List.getElem?_eq_some_iff.1 hu).1
    have hsz : 0 < size := by rcases Nat.eq_zero_or_pos size with h | h; (rw [h] at hj; omega); exact h
    have hi : j / size < cs.length := Nat.div_lt_of_lt_mul (by rw [Nat.mul_comm]; exact hj)
    obtain ⟨b, o, e, hcell⟩ := hat (j / size) cs[j / size] (by simp [hi])
    cases e
    have hmod : j % size < (cs[j / size]).length := by rw [hs _ (List.getElem_mem _)]; exact Nat.mod_lt _ hsz
    have hget := flatten_get cs (j / size) cs[j / size] (j % size) ((cs[j / size])[j % size]'hmod) hs (by simp [hi]) (List.getElem?_eq_getElem hmod)
    have hjj : j / size * size + j % size = j := by rw [Nat.mul_comm]; exact Nat.div_add_mod j size
    rw [hjj] at hget
    rw [hget] at hu
    cases hu
    have := hcell (j % size) _ (List.getElem?_eq_getElem hmod)
    rw [Nat.add_assoc, hjj] at this
    rw [Addr.add_lit]
    exact this
theorem pl_cells_ok {w0 : World} {X : List PE} {ds : List (List Value)} (hd : ds.length = X.length) (hX : ∀ (i : Nat) (c : List Value) (x : PE), ds[i]? = some c → X[i]? = some x → c.length = 8 ∧ ExR w0 c x) : ∀ u ∈ ds.flatten, u.oneCell' = true := by
  intro u hu
  obtain ⟨c, hc, hu⟩ := List.mem_flatten.1 hu
  obtain ⟨i, hi⟩ := List.getElem?_of_mem hc
  have hil : i < X.length := by rw [← hd]; exact (List.getElem?_eq_some_iff.1 hi).1
  exact (ex_cells (hX i c X[i] hi (by simp [hil])).2).2 u hu
theorem pl_list_run {P : Program} {ops : Array Oper} {rest : List Oper} {o : Oper} {a : Act} {w : World} {Q : Exit → Act → World → Prop} (hgd : o.guard = none) (s x : Operand) (t : TypeId)
    (ho : o.op = .call { callee := .builtin .append, args := #[s, x], argTypes := #[t, t] }) {v sv : Value} (hs : a.eval s = v) (hx : a.eval x = sv) {v' : Value} {w' : World} (hr : (Builtin.append_ #[t, t] o.type #[v, sv]).run P w = .ok v' w')
    (h : wpList P ops Q rest (a.put o.dst v') w') : wpList P ops Q (o :: rest) a w := by
  refine wpList_plain hgd fun K hK => ?_
  unfold Oper.wp execOp
  simp only [ho, resolve, invoke, builtin, Sem.run_bind, Sem.run_pure, Result.andThen_ok, List.map_toArray, List.map_cons, List.map_nil, hs, hx, hr]
  exact hK _ _ h

/-- A row of the call's own, from block 'lo' on, of expressions that lie in 'w0'. -/
def PRow (w0 : World) (lo : Nat) (w : World) (v : Value) (E : List PE) : Prop := ∃ cs : List (List Value), w.ownsRow lo 44 8 v E.length cs.flatten ∧ cs.length = E.length ∧ ∀ (i : Nat) (c : List Value) (x : PE), cs[i]? = some c → E[i]? = some x → c.length = 8 ∧ ExR w0 c x
section
variable {w0 w w' : World} {lo : Nat} {v : Value} {E : List PE}
theorem pl_grown (hb : Below w.heap.size w w') : w.grownBy w' none := ⟨hb.os, hb.tape, hb.output, hb.size, fun k hk _ => hb.block k hk⟩
theorem prow_nil (w0 : World) (lo : Nat) (w : World) : PRow w0 lo w (.slice none 0 0) [] := ⟨[], World.ownsRow_nil _ _ _ _, rfl, fun i c x h => by simp at h⟩
theorem PRow.shape (h : PRow w0 lo w v E) : ∃ a c, v = .slice a E.length c := by
  obtain ⟨cs, h1, _⟩ := h
  rcases h1.2 with ⟨rfl, hn⟩ | ⟨g, cap, cur, rfl, _⟩
  · exact ⟨none, 0, by rw [hn]⟩
  · exact ⟨_, _, rfl⟩
theorem PRow.later (h : PRow w0 lo w v E) (hb : Below w.heap.size w w') : PRow w0 lo w' v E := by
  obtain ⟨cs, h1, h2, h3⟩ := h
  exact ⟨cs, World.ownsRow.kept h1 (pl_grown hb) (by cases v.ownBlock <;> simp), h2, h3⟩
/-- .. where only blocks below it have changed. -/
theorem PRow.down {lo2 : Nat} (h : PRow w0 lo w v E) (hl : lo2 ≤ lo) : PRow w0 lo2 w v E := by
  obtain ⟨cs, ⟨h0, h1⟩, h2, h3⟩ := h
  refine ⟨cs, ⟨h0, ?_⟩, h2, h3⟩
  rcases h1 with h | ⟨g, cap, cur, a, b, c⟩
  · exact .inl h
  · exact .inr ⟨g, cap, cur, a, Nat.le_trans hl b, c⟩
theorem PRow.lt (h : PRow w0 lo w v E) : ∀ k, v.ownBlock = some k → lo ≤ k ∧ k < w.heap.size := by
  obtain ⟨cs, h1, _⟩ := h
  exact World.ownsRow.lt h1
theorem PRow.exs (h : PRow w0 lo w v E) (hb : Below w0.heap.size w0 w) : ExsR w v E := by
  obtain ⟨cs, hown, hlen, hel⟩ := h
  have hs : ∀ c ∈ cs, c.length = 8 := fun c hc => by
    obtain ⟨i, hi⟩ := List.getElem?_of_mem hc
    have hil : i < E.length := by rw [← hlen]; exact (List.getElem?_eq_some_iff.1 hi).1
    exact (hel i c E[i] hi (by simp [hil])).1
  refine ⟨cs, ?_, hlen, fun i c x hc hx => ⟨(hel i c x hc hx).1, exR_below (hel i c x hc hx).2 hb⟩⟩
  rcases hown.2 with ⟨rfl, hn⟩ | ⟨g, cap, cur, rfl, hg, hh, hn, hcap, hsz, ht⟩
  · obtain rfl : cs = [] := List.eq_nil_of_length_eq_zero (hlen.trans hn)
    exact SlAt.nil _ _ _
  · refine ⟨_, cap, by rw [hlen], by rw [hlen]; exact hn, fun i x hx => ⟨g, 0, rfl, fun j y hj => ?_⟩⟩
    have h1 := World.ownsRow.cells hown rfl (i * 8 + j) y (flatten_get cs i x j y hs hx hj)
    rw [Addr.add_lit, ← Nat.add_assoc] at h1
    exact h1
/-- One of a row literal. -/
theorem prow_lit {g : Nat} {c : Array Value} {x : PE} (hr : Row g 44 c w) (hc : c.size = 8) (hx : ExR w0 c.toList x) (hl : lo ≤ g) : PRow w0 lo w (.slice (some ⟨g, 0, none⟩) 1 1) [x] := by
  refine ⟨[c.toList], ⟨by simp [hc], .inr ⟨g, 1, c, rfl, hl, hr, Nat.le_refl _, by decide, by simp [hc], ?_⟩⟩, rfl, fun i d y hd hy => ?_⟩
  · simp [List.take_of_length_le, hc]
  · rcases i with _ | i
    · simp at hd hy; subst hd hy; exact ⟨by simp [hc], hx⟩
    · simp at hd
theorem PRow.rd {sv : Value} {X : List PE} {lo2 : Nat} (h : PRow w0 lo2 w sv X) : ∃ ds : List (List Value), PRd w 8 sv X.length ds.flatten ∧ ds.length = X.length ∧ ∀ (i : Nat) (c : List Value) (x : PE), ds[i]? = some c → X[i]? = some x → c.length = 8 ∧ ExR w0 c x := by
  obtain ⟨ds, hown, hlen, hel⟩ := h
  refine ⟨ds, ⟨hown.1, ?_⟩, hlen, hel⟩
  rcases hown.2 with ⟨rfl, hn⟩ | ⟨g, cap, cur, rfl, hg, hh, hn, hcap, hsz, ht⟩
  · exact .inl ⟨0, rfl, hn⟩
  · exact .inr ⟨_, cap, rfl, fun j u hu => World.ownsRow.cells hown rfl j u hu⟩
/-- Append run once. -/
theorem PRow.run {sv : Value} {X : List PE} {lo2 : Nat} (h : PRow w0 lo w v E) (hX : PRow w0 lo2 w sv X) (ty : TypeId) (hsz : E.length + X.length ≤ 1000000000) (hlo : lo ≤ w.heap.size) :
    ∃ v' w', (Builtin.append_ #[32, 32] ty #[v, sv]).run Tryz.prog w = .ok v' w' ∧ PRow w0 lo w' v' (E ++ X) ∧ Below lo w w' := by
  obtain ⟨cs, h1, h2, h3⟩ := h
  obtain ⟨ds, hr, hd, hel⟩ := hX.rd
  obtain ⟨v', w', r1, r2, r3, r4⟩ := pl_run_append (P := Tryz.prog) 32 ty 44 8 104 elEx lo v E.length cs.flatten h1 sv X.length ds.flatten hr (pl_cells_ok hd hel) (by unfold maxLen; omega) (by omega) hlo
  refine ⟨v', w', r1, ⟨cs ++ ds, by simpa using r2, by simp [h2, hd], fun i c x hc hx => ?_⟩, (Below.refl lo w).grown r3 hlo (fun k hk => (World.ownsRow.lt h1 k hk).1)⟩
  rcases Nat.lt_or_ge i cs.length with hi | hi
  · rw [List.getElem?_append_left hi] at hc
    rw [List.getElem?_append_left (by rw [← h2]; exact hi)] at hx
    exact h3 i c x hc hx
  · rw [List.getElem?_append_right hi] at hc
    rw [List.getElem?_append_right (by rw [← h2]; exact hi), ← h2] at hx
    exact hel _ c x hc hx
end
theorem pl_exLd (W : World) (q o : Nat) (cs : List Value) (h8 : cs.length = 8) (hc : ∀ (j : Nat) (u : Value), cs[j]? = some u → W.cell? ⟨q, o + j, none⟩ = some u) : (veilLd 44 ⟨q, o, none⟩).run Tryz.prog W = .ok (.agg cs.toArray) W := by
  have hl : (loadCells ⟨q, o, none⟩ cs.length).run Tryz.prog W = .ok cs.toArray W := run_loadCells_list (P := Tryz.prog) W ⟨q, o, none⟩ cs (fun j v hv => by rw [Addr.add_lit]; exact hc j v hv)
  obtain ⟨fs, hu⟩ := ex_struct
  have hi := ex_size
  cases hq : Tryz.prog.info? 44 with
  | none => rw [hq] at hi; cases hi
  | some i =>
    have hs : i.size = 8 := by simpa [hq] using hi
    have hagg : (isAgg 44).run Tryz.prog W = .ok true W := by
      unfold isAgg
      rw [Sem.run_bind, run_underlying hu W]
      rfl
    rw [h8] at hl
    unfold veilLd
    simp [loadVar, Sem.run_bind, hagg, sizeOf, typeInfo, hq, hs, hl]
end Go.Proofs.YtjgkeillmelkoaaGreat.Dt
namespace Go.Proofs.YtjgkeillmelkoaaGreat.By
open Go.RowKit

theorem wp_region_head {P : Program} {id : Nat} {Q : Exit → Act → World → Prop} {a0 : Act} {w : World} {l : List Oper} (n : Nat) (J : (Nat → Bool) → (Nat → Value) → World → Prop) (N : Nat) (hN : a0.tmps.size = N) (hm : P.follows .mixedOrders = true) (hB : growB .any l.toArray n = true)
    (h0 : ∀ us, J (fun _ => false) us w.drew)
    (hext : ∀ dn dn' us w1, (∀ j, j < n → dn j = dn' j) → J dn us w1 → J dn' us w1)
    (hops : ∀ i, i < n → ∀ (dn : Nat → Bool) (us : Nat → Value) (A : Act) w1, (∀ t, ((List.range n).all fun j => dstOf l.toArray j != some t) = true → A.eval (.tmp t) = a0.eval (.tmp t)) → (∀ j t, j < n → dstOf l.toArray j = some t → t < N → A.eval (.tmp t) = us j) →
      J dn us w1 → dn i = false → (∀ oi, l.toArray[i]? = some oi → ∀ e ∈ oi.after, Region.binds .any e = true → e.on < n ∧ dn e.on = true) →
      wpOp P l.toArray Q i (fun a' w' => ∃ v, a' = A.put (dstOf l.toArray i) v ∧ J (upd dn i) (fun j => if j = i then v else us j) w') A w1)
    (htail : ∀ (dn : Nat → Bool) (us : Nat → Value) w1, (∀ j, j < n → dn j = true) → J dn us w1 → wpList P l.toArray Q (l.drop n) (putAll l.toArray us n a0) w1) :
    (Code.region id l.toArray true).wp P Q a0 w := by
  simp only [growB, Bool.and_eq_true, decide_eq_true_eq] at hB
  obtain ⟨⟨⟨⟨⟨hn, hs⟩, hc⟩, hap⟩, hback⟩, hseq⟩ := hB
  have hn' : n < l.length := by simpa using hn
  obtain ⟨us0, hus0⟩ := putAll_old (ops := l.toArray) (n := n) a0
  have main : ∀ (f : Nat) (done : Array Bool) (us : Nat → Value) (w1 : World), (done.toList.take n).count false = f → HeadInv .any l.toArray n done →
      J (dnOf done) us w1 → wpAny P .any l.toArray Q (f + (l.toArray.size - n)) done (putAll l.toArray us n a0) w1 := by
    intro f
    induction f with
    | zero =>
      intro done us w1 hcnt inv hJ
      have hall : ∀ j, j < n → done.getD j false = true := by
        intro j hj
        cases h : done.getD j false with
        | true => rfl
        | false =>
          exfalso
          have hjs : j < done.size := by rw [inv.size]; omega
          have h2 : done[j] = false := by simpa [hjs] using h
          have : 0 < (done.toList.take n).count false := List.count_pos_iff.2 (by
            rw [← h2]
            refine List.mem_iff_getElem.2 ⟨j, by simp; omega, by simp⟩)
          omega
      have hdone : done = Array.replicate n true ++ Array.replicate (l.toArray.size - n) false := by
        apply Array.ext
        · rw [inv.size]; simp; omega
        · intro j h1 h2
          by_cases hj : j < n
          · have := hall j hj
            rw [Array.getElem_append_left (by simpa using hj)]
            simpa [h1] using this
          · have := inv.tail j (by omega) (by rw [← inv.size]; exact h1)
            rw [Array.getElem_append_right (by simp; omega)]
            simpa [h1] using this
      rw [Nat.zero_add]
      have hl := htail (dnOf done) us w1 (fun j hj => hall j hj) hJ
      have hdl : (l.drop n).length = l.toArray.size - n := by simp
      have := wpAny_of_seq (md := .any) (Q' := Q) (l.drop n) n done (putAll l.toArray us n a0) w1 (fun j => by simp [List.getElem?_drop]) (by rw [hdl, hdone]; exact hseq) hl
      rwa [hdl] at this
    | succ f ih =>
      intro done us w1 hcnt inv hJ
      have hex : ∃ i, i < n ∧ done.getD i true = false := by
        obtain ⟨j, hj, he⟩ := List.mem_iff_getElem.1 (List.count_pos_iff.1 (show 0 < (done.toList.take n).count false by omega))
        simp at hj he
        exact ⟨j, by omega, by simp [show j < done.size by omega, he]⟩
      obtain ⟨i0, hi0, hun⟩ := hex
      rw [show f + 1 + (l.toArray.size - n) = (f + (l.toArray.size - n)) + 1 by omega]
      refine ⟨fun hr => ?_, fun i hi => ?_⟩
      · exfalso
        have least : ∀ m, m < n → done.getD m true = false → ∃ i, i < n ∧ done.getD i true = false ∧ ∀ j, j < i → done.getD j true ≠ false := by
          intro m
          induction m using Nat.strongRecOn with
          | _ m ihm =>
            intro hm hu
            by_cases hx : ∃ j, j < m ∧ done.getD j true = false
            · obtain ⟨j, hj, hj2⟩ := hx
              exact ihm j hj (by omega) hj2
            · exact ⟨m, hm, hu, fun j hj h => hx ⟨j, hj, h⟩⟩
        obtain ⟨i, hin, hui, hlow⟩ := least i0 hi0 hun
        have hi : i ∈ Region.ready .any l.toArray done := by
          obtain ⟨o, ho⟩ : ∃ o, l.toArray[i]? = some o := ⟨l.toArray[i]'(by omega), by simp⟩
          refine mem_ready.2 ⟨hui, o, ho, fun e he hb => ?_⟩
          have h1 := List.all_eq_true.1 hback i (List.mem_range.2 hin)
          rw [ho] at h1
          simp only [Option.map_some, Option.getD_some, Array.all_eq_true_iff_forall_mem] at h1
          have h2 := h1 e he
          rw [hb] at h2
          have h3 : e.on < i := by simpa using h2
          have h4 := hlow e.on h3
          have h5 : e.on < done.size := by rw [inv.size]; omega
          simp [h5] at h4 ⊢
          exact h4
        rw [hr] at hi
        cases hi
      · have hin : i < n := Nat.lt_of_not_le fun hle => tail_waits hs hc hn inv _ i0 rfl hi0 hun i hle hi
        obtain ⟨_, oi, hoi, hafter⟩ := mem_ready.1 hi
        obtain ⟨hlt, hfalse⟩ := ready_false hi
        have hupd : ∀ j, dnOf (done.setIfInBounds i true) j = upd (dnOf done) i j := by
          intro j
          unfold upd
          by_cases hj : j = i
          · subst hj
            unfold dnOf
            simp [hlt]
          · rw [show dnOf (done.setIfInBounds i true) j = dnOf done j from getD_set_ne false (Ne.symm hj)]; simp [hj]
        have hg := hops i hin (dnOf done) us _ w1 (fun t ht => eval_other us a0 t n fun j hj he => by
            have := List.all_eq_true.1 ht j (List.mem_range.2 hj)
            rw [he] at this
            simp at this) (fun j t hj hd ht => eval_at hap us a0 hd (by rw [hN]; exact ht) n hj (Nat.le_refl _)) hJ
          (by unfold dnOf; simpa [hlt] using hfalse) (fun o ho e he hb => by
          rw [hoi] at ho
          cases ho
          have hd := hafter e he hb
          have hon : e.on < n := by
            apply Nat.lt_of_not_le
            intro hle
            rcases Nat.lt_or_ge e.on l.toArray.size with h | h
            · have := inv.tail e.on hle h
              rw [getD_both this] at hd
              cases hd
            · rw [Array.getD_eq_getD_getElem?, Array.getElem?_eq_none (by rw [inv.size]; exact h)] at hd
              cases hd
          exact ⟨hon, hd⟩)
        refine wpOp_mono (fun a' w' hK => ?_) hg
        obtain ⟨v, rfl, hJ'⟩ := hK
        rw [putAll_put hap us i v n hin (Nat.le_refl _)]
        refine ih _ _ _ ?_ (inv.set hi hin) (hext _ _ _ _ (fun j _ => (hupd j).symm) hJ')
        rw [Array.toList_setIfInBounds, List.take_set, List.count_set (by simp; omega)]
        have e : ((done.toList.take n)[i]'(by simp; omega) == false) = true := by simp [hfalse]
        rw [if_pos e, if_neg (by decide)]
        omega
  have inv0 : HeadInv .any l.toArray n (Array.replicate l.toArray.size false) :=
    ⟨by simp, fun j oj _ hl => (by rw [getD_replicate_false] at hl; cases hl), fun t _ ht => getD_in (by simpa using ht) (getD_replicate_false _ _)⟩
  have hfalse0 : ∀ j, dnOf (Array.replicate l.toArray.size false) j = false := fun j => by
    unfold dnOf
    rw [getD_replicate_false]
  have := main n (Array.replicate l.toArray.size false) us0 w.drew (by rw [Array.toList_replicate, List.take_replicate, List.count_replicate_self]; simp; omega) inv0 (hext _ _ _ _ (fun j _ => (hfalse0 j).symm) (h0 us0))
  rw [hus0 n (Nat.le_refl _)] at this
  refine wp_region_any hm ?_
  have hsz : n + (l.toArray.size - n) = l.toArray.size := by simp; omega
  rw [hsz] at this
  exact this


/-- What one operation does. -/
def Kig (P : Program) (ops : Array Oper) (Q : Exit → Act → World → Prop) (r : Nat) (kn : Nat → Value → World → Prop) (st : (Nat → Bool) → World → Prop) (dn : Nat → Bool) (i : Nat) (a : Act) (w : World) : Prop :=
  wpOp P ops Q i (fun a' w' => ∃ v, a' = a.put (dstOf ops i) v ∧ w.grownBy w' (some r) ∧ kn i v w' ∧ st (upd dn i) w') a w
/-- What is known of the values of some operations, in whatever order they come, while one block 'r' changes under operations that wait for one another: 'st' tells of the world by what is done. -/
theorem wp_region_kig {P : Program} {id : Nat} {Q : Exit → Act → World → Prop} {a0 : Act} {w : World} {l : List Oper} (n r : Nat) (kn : Nat → Value → World → Prop) (st : (Nat → Bool) → World → Prop) (N : Nat) (hN : a0.tmps.size = N) (hm : P.follows .mixedOrders = true) (hB : growB .any l.toArray n = true)
    (hlater : ∀ j v w1 w2, kn j v w1 → w.grownBy w1 (some r) → w1.grownBy w2 (some r) → kn j v w2)
    (hext : ∀ dn dn' w1, (∀ j, j < n → dn j = dn' j) → st dn w1 → st dn' w1)
    (h0 : st (fun _ => false) w.drew)
    (hops : ∀ i, i < n → ∀ (dn : Nat → Bool) (A : Act) w1, (∀ t, ((List.range n).all fun j => dstOf l.toArray j != some t) = true → A.eval (.tmp t) = a0.eval (.tmp t)) → w.grownBy w1 (some r) → st dn w1 → dn i = false →
      (∀ oi, l.toArray[i]? = some oi → ∀ e ∈ oi.after, Region.binds .any e = true → dn e.on = true ∧ Known l.toArray kn N A w1 e.on) →
      Kig P l.toArray Q r kn st dn i A w1)
    (htail : ∀ (us : Nat → Value) w1, w.grownBy w1 (some r) → st (fun _ => true) w1 → (∀ j, j < n → kn j (us j) w1) → wpList P l.toArray Q (l.drop n) (putAll l.toArray us n a0) w1) :
    (Code.region id l.toArray true).wp P Q a0 w := by
  refine wp_region_head n (fun dn us w1 => w.grownBy w1 (some r) ∧ st dn w1 ∧ ∀ j, j < n → dn j = true → kn j (us j) w1) N hN hm hB ?_ ?_ ?_ ?_
  · exact fun us => ⟨⟨rfl, rfl, rfl, Nat.le_refl _, fun _ _ _ => rfl⟩, h0, fun j _ h => by cases h⟩
  · exact fun dn dn' us w1 he ⟨h1, h2, h3⟩ => ⟨h1, hext dn dn' w1 he h2, fun j hj hd => h3 j hj (by rw [he j hj]; exact hd)⟩
  · intro i hi dn us A w1 hother hat ⟨hg, hst, hk⟩ hdi hd
    have hg1 := hops i hi dn A w1 hother hg hst hdi fun oi ho e he hb => by
      obtain ⟨hon, hdn⟩ := hd oi ho e he hb
      exact ⟨hdn, us e.on, hk e.on hon hdn, fun t ht htN => hat e.on t hon ht htN⟩
    refine wpOp_mono (fun a' w' hK => ?_) hg1
    obtain ⟨v, rfl, hg2, hkv, hst2⟩ := hK
    refine ⟨v, rfl, ⟨hg2.os.trans hg.os, hg2.tape.trans hg.tape, hg2.output.trans hg.output, Nat.le_trans hg.size hg2.size, fun k hk hn => (hg2.block k (Nat.lt_of_lt_of_le hk hg.size) hn).trans (hg.block k hk hn)⟩, hst2, fun j hj hdj => ?_⟩
    by_cases hji : j = i
    · subst hji; simpa using hkv
    · simp only [if_neg hji]
      exact hlater j _ _ _ (hk j hj (by unfold upd at hdj; simpa [hji] using hdj)) hg hg2
  · intro dn us w1 hall ⟨hg, hst, hk⟩
    exact htail us w1 hg (hext dn _ w1 (fun j hj => hall j hj) hst) fun j hj => hk j hj (hall j hj)
section
variable {P : Program} {ops : Array Oper} {Q : Exit → Act → World → Prop} {kn : Nat → Value → World → Prop} {st : (Nat → Bool) → World → Prop} {i r : Nat} {a : Act} {w : World} {o : Oper} {dn : Nat → Bool}
theorem grown_refl (w : World) (r : Option Nat) : w.grownBy w r := ⟨rfl, rfl, rfl, Nat.le_refl _, fun _ _ _ => rfl⟩
/-- An operation that leaves the world as it is. -/
theorem kig_same (ho : ops[i]? = some o) (hg : o.guard = none) (v : Value) (hrun : (execOp a.eval o).run P w = .ok (.value v) w) (hk : kn i v w) (hst : st (upd dn i) w) :
    Kig P ops Q r kn st dn i a w := by
  unfold Kig wpOp
  simp only [ho]
  rw [if_pos (wanted_none hg)]
  refine .inl ?_
  unfold Oper.wp
  rw [hrun, Oper.upon_value]
  exact ⟨v, by unfold dstOf; rw [ho]; rfl, grown_refl _ _, hk, hst⟩
theorem kig_val (ho : ops[i]? = some o) (hg : o.guard = none) (v : Value) (w' : World) (hrun : (execOp a.eval o).run P w = .ok (.value v) w') (hgr : w.grownBy w' (some r)) (hk : kn i v w') (hst : st (upd dn i) w') :
    Kig P ops Q r kn st dn i a w := by
  unfold Kig wpOp
  simp only [ho]
  rw [if_pos (wanted_none hg)]
  refine .inl ?_
  unfold Oper.wp
  rw [hrun, Oper.upon_value]
  exact ⟨v, by unfold dstOf; rw [ho]; rfl, hgr, hk, hst⟩
theorem kig_call (ho : ops[i]? = some o) (hg : o.guard = none) (f : FuncId) (args : Array Value) (hrun : (execOp a.eval o).run P w = .ok (.enter f args) w) (hc : Calls P f args w fun e w' => ∃ v, e = .returned v ∧ w.grownBy w' (some r) ∧ kn i v w' ∧ st (upd dn i) w') :
    Kig P ops Q r kn st dn i a w := by
  unfold Kig wpOp
  simp only [ho]
  rw [if_pos (wanted_none hg)]
  refine .inl ?_
  unfold Oper.wp
  rw [hrun, Oper.upon_enter]
  refine hc.mono ?_
  rintro e w' ⟨v, rfl, h1, h2, h3⟩
  exact ⟨v, by unfold dstOf; rw [ho]; rfl, h1, h2, h3⟩
end
end Go.Proofs.YtjgkeillmelkoaaGreat.By
namespace Go.Proofs.YtjgkeillmelkoaaGreat.Dt
open Go.RowKit Go.Proofs.YtjgkeillmelkoaaGreat.By

theorem Row.free {g : Nat} {t : TypeId} {cs : Array Value} {w : World} (h : Row g t cs w) (i : Nat) : w.frozen? ⟨g, i, none⟩ = false := by
  unfold World.frozen?
  rw [h]
  simp
theorem veilBs_ex (n : Nat) (ps : Array (Nat × Value)) : Instr.buildSlice 32 n ps = veilBs 32 n ps := rfl
end Go.Proofs.YtjgkeillmelkoaaGreat.Dt
