/-
  A builder beside a row of bytes that is none of its own: what is written to the builder leaves that row as it was. (The shelf's contracts keep every block but rows of bytes.)
-/
import Derived.Test.YtghfaeapgghhlaaDoorKeyB
import Derived.Test.YtghfaeapgghhlaaDoorLexR
import Derived.Lib.FrozenHead2
namespace Go.Proofs.YtghfaeapgghhlaaDoor.By
open Go.RowKit
section
variable {P : Program} {w : World} {base : Nat} {t u ty e : TypeId} {i : TypeInfo} {v v' : Value} {n : Nat} {xs : List Value} {w' : World}

/-- Where a row lies behind an append: where it lay, or in a new block. -/
theorem where_slice (ht : P.underlying t = some (.slice e)) (hi : P.info? e = some i) (hz : i.zero = some (.int .u8 0)) (hsize : i.size = 1) (hby : i.bytes = 1)
    (hown : w.ownsRowF base e 1 v n xs) (a : Addr) (m c : Nat) (news : List Value) (hl : news.length = m) (hnews : ∀ j u, news[j]? = some u → w.cell? (a.add j) = some u) (h1 : ∀ u ∈ news, u.oneCell' = true)
    (h63 : n + m ≤ 140737488355328) (hr : (Builtin.append_ #[t, t] ty #[v, .slice (some a) m c]).run P w = .ok v' w') : ∀ k, v'.ownBlock = some k → v.ownBlock = some k ∨ w.heap.size ≤ k := by
  intro k hk
  rcases hown.2 with ⟨rfl, rfl⟩ | ⟨g, cap, cur, fz, rfl, hbg, hg, hfz, hnc, hcm, hcs, htake⟩
  · obtain ⟨v2, w2, r2, o2, _, _⟩ := run_append_ownF (P := P) w w.heap.size t ty e i (.int .u8 0) 1 1 ht hi hz hsize hby rfl (by decide) (.slice none 0 0) 0 xs ⟨hown.1, .inl ⟨rfl, rfl⟩⟩ a m c news (by omega) hnews h1 (by unfold maxLen; omega) (by omega) (Nat.le_refl _)
    rw [hr] at r2
    injection r2 with e1 e2
    subst e1
    exact .inr (World.ownsRowF.lt o2 k hk).1
  · have hxl : xs.length = n := by simpa using hown.1
    by_cases hroom : n + m ≤ cap
    · have r2 := run_append_roomF (P := P) w t ty e i ht hi g n cap cur fz hg (by rw [hsize]; simpa using hfz) a m c news (by rw [hsize]; omega) hnews h1 hroom (by rw [hsize]; omega)
      rw [hr] at r2
      injection r2 with e1 e2
      subst e1
      exact .inl hk
    · have r2 := run_append_grow (P := P) w t ty e i (.int .u8 0) ht hi hz ⟨g, 0, none⟩ n cap xs (by rw [hsize]; omega) (hown.cells (g := g) rfl) a m c news (by rw [hsize]; omega) hnews (by omega) (by omega) (growslice_fits (by omega) (by rw [hby]; omega))
      rw [hr] at r2
      injection r2 with e1 e2
      subst e1
      simp [Value.ownBlock] at hk
      exact .inr (by omega)
theorem where_string (ht : P.underlying t = some (.slice e)) (hu : P.underlying u = some .string) (hi : P.info? e = some i) (hz : i.zero = some (.int .u8 0)) (hsize : i.size = 1) (hby : i.bytes = 1)
    (hown : w.ownsRowF base e 1 v n xs) (s : ByteArray) (h63 : n + s.size ≤ 140737488355328) (hr : (Builtin.append_ #[t, u] ty #[v, .string s]).run P w = .ok v' w') : ∀ k, v'.ownBlock = some k → v.ownBlock = some k ∨ w.heap.size ≤ k := by
  intro k hk
  rcases hown.2 with ⟨rfl, rfl⟩ | ⟨g, cap, cur, fz, rfl, hbg, hg, hfz, hnc, hcm, hcs, htake⟩
  · obtain ⟨v2, w2, r2, o2, _, _⟩ := Lib.run_append_own_stringF (P := P) w w.heap.size t u ty e i ht hu hi hz hsize hby (.slice none 0 0) 0 xs ⟨hown.1, .inl ⟨rfl, rfl⟩⟩ s (by unfold maxLen; omega) (by omega) (Nat.le_refl _)
    rw [hr] at r2
    injection r2 with e1 e2
    subst e1
    exact .inr (World.ownsRowF.lt o2 k hk).1
  · have hxl : xs.length = n := by simpa using hown.1
    by_cases hroom : n + s.size ≤ cap
    · have r2 := Lib.run_append_room_stringF (P := P) w t u ty e i ht hu hi hsize g n cap cur fz hg (by simpa using hfz) s hroom (by omega)
      rw [hr] at r2
      injection r2 with e1 e2
      subst e1
      exact .inl hk
    · have r2 := Lib.run_append_grow_string (P := P) w t u ty e i (.int .u8 0) ht hu hi hz ⟨g, 0, none⟩ n cap xs (by rw [hsize]; omega) (hown.cells (g := g) rfl) s (by omega) (by omega) (by rw [hby]; exact growslice_fits (by omega) (by omega))
      rw [hr] at r2
      injection r2 with e1 e2
      subst e1
      simp [Value.ownBlock] at hk
      exact .inr (by omega)
theorem wpList_append_slQ {ops : Array Oper} {rest : List Oper} {o : Oper} {a : Act} {Q : Exit → Act → World → Prop} (hgd : o.guard = none) (s x : Operand) (t : TypeId)
    (ho : o.op = .call { callee := .builtin .append, args := #[s, x], argTypes := #[t, t] }) (base : Nat) (e : TypeId) (i : TypeInfo)
    (ht : P.underlying t = some (.slice e)) (hi : P.info? e = some i) (hz : i.zero = some (.int .u8 0)) (hsize : i.size = 1) (hby : i.bytes = 1)
    (v : Value) (n : Nat) (xs : List Value) (hs : a.eval s = v) (hown : w.ownsRowF base e 1 v n xs) (ad : Addr) (m c : Nat) (news : List Value) (hx : a.eval x = .slice (some ad) m c) (hl : news.length = m) (hnews : ∀ j u, news[j]? = some u → w.cell? (ad.add j) = some u) (h1 : ∀ u ∈ news, u.oneCell' = true)
    (h63 : n + m ≤ 140737488355328) (hbase : base ≤ w.heap.size)
    (h : ∀ v' w', w'.ownsRowF base e 1 v' (n + m) (xs ++ news) → w.grownBy w' v.ownBlock → (∀ k, v'.ownBlock = some k → v.ownBlock = some k ∨ w.heap.size ≤ k) → wpList P ops Q rest (a.put o.dst v') w') : wpList P ops Q (o :: rest) a w := by
  refine wpList_plain hgd fun K hK => ?_
  obtain ⟨v', w', hr, h2, h3, -⟩ := run_append_ownF (P := P) w base t o.type e i (.int .u8 0) 1 1 ht hi hz hsize hby rfl (by decide) v n xs hown ad m c news (by omega) hnews h1 (by unfold maxLen; omega) (by omega) hbase
  have hw := where_slice ht hi hz hsize hby hown ad m c news hl hnews h1 h63 hr
  unfold Oper.wp execOp
  simp only [ho, resolve, invoke, builtin, Sem.run_bind, Sem.run_pure, Result.andThen_ok, List.map_toArray, List.map_cons, List.map_nil, hs, hx, hr]
  exact hK _ _ (h v' w' h2 h3 hw)
theorem wpList_append_strQ {ops : Array Oper} {rest : List Oper} {o : Oper} {a : Act} {Q : Exit → Act → World → Prop} (hgd : o.guard = none) (sl x : Operand)
    (ho : o.op = .call { callee := .builtin .append, args := #[sl, x], argTypes := #[t, u] })
    (ht : P.underlying t = some (.slice e)) (hu : P.underlying u = some .string) (hi : P.info? e = some i) (hz : i.zero = some (.int .u8 0)) (hsize : i.size = 1) (hby : i.bytes = 1)
    (hs : a.eval sl = v) (hown : w.ownsRowF base e 1 v n xs) (s : ByteArray) (hx : a.eval x = .string s)
    (h63 : n + s.size ≤ 140737488355328) (hbase : base ≤ w.heap.size)
    (h : ∀ v' w', w'.ownsRowF base e 1 v' (n + s.size) (xs ++ Lib.strCells s) → w.grownBy w' v.ownBlock → (∀ k, v'.ownBlock = some k → v.ownBlock = some k ∨ w.heap.size ≤ k) → wpList P ops Q rest (a.put o.dst v') w') : wpList P ops Q (o :: rest) a w := by
  refine wpList_plain hgd fun K hK => ?_
  obtain ⟨v', w', hr, h2, h3, -⟩ := Lib.run_append_own_stringF (P := P) w base t u o.type e i ht hu hi hz hsize hby v n xs hown s (by unfold maxLen; omega) (by omega) hbase
  have hw := where_string ht hu hi hz hsize hby hown s h63 hr
  unfold Oper.wp execOp
  simp only [ho, resolve, invoke, builtin, Sem.run_bind, Sem.run_pure, Result.andThen_ok, List.map_toArray, List.map_cons, List.map_nil, hs, hx, hr]
  exact hK _ _ (h v' w' h2 h3 hw)
end
end Go.Proofs.YtghfaeapgghhlaaDoor.By
namespace Go.Proofs.YtghfaeapgghhlaaDoor.Dt
open Go.RowKit Go.Proofs.YtghfaeapgghhlaaDoor.By

/-- A block that is neither the builder's nor its row's. -/
def Apart (q b : Nat) (w : World) : Prop := q < w.heap.size ∧ q ≠ b ∧ ∀ v, w.cell? ⟨b, 1, none⟩ = some v → v.ownBlock ≠ some q
theorem Apart.new {B b : Nat} {l : List UInt8} {w w' : World} (h : BuildB B b l w) (hb : Below w.heap.size w w') (hs : w.heap.size < w'.heap.size) : Apart w.heap.size b w' := by
  have one : ∀ p, Lib.BuilderAtF 57 5 B b p (Lib.byteCells l) w → Apart w.heap.size b w' := by
    rintro p ⟨hB, v, hv, hown, hne⟩
    have hlt : b < w.heap.size := (Array.getElem?_eq_some_iff.1 hv).1
    refine ⟨hs, by omega, fun v' hv' hk => ?_⟩
    have hc : w.cell? ⟨b, 1, none⟩ = some v := by rw [Lib.cell_of_heap hv]; rfl
    have hv2 : w'.cell? ⟨b, 1, none⟩ = some v := (hb.cell (cell_lt hc)).trans hc
    rw [hv2] at hv'
    cases hv'
    have := (World.ownsRowF.lt hown _ hk).2
    omega
  rcases h with h | h
  · exact one _ h
  · exact one _ h
theorem cells_kept {w w' : World} {q i : Nat} {u : Value} (h : w.cell? ⟨q, i, none⟩ = some u) (hk : w'.heap[q]? = w.heap[q]?) : w'.cell? ⟨q, i, none⟩ = some u := by
  unfold World.cell? at *
  simp only at *
  rw [hk]
  exact h
theorem BuildB.lt {B b : Nat} {l : List UInt8} {w : World} (h : BuildB B b l w) : b < w.heap.size := by
  rcases h with ⟨_, v, hv, _⟩ | ⟨_, v, hv, _⟩
  · exact (Array.getElem?_eq_some_iff.1 hv).1
  · exact (Array.getElem?_eq_some_iff.1 hv).1
theorem builderLen (B b : Nat) (l : List UInt8) (w : World) (h : BuildB B b l w) : Calls Tryd.prog 32 #[.pointer (some ⟨b, 0, none⟩)] w fun e w' => e = .returned (.int .i64 (l.length : Int)) ∧ w' = w :=
  (Tryd.Builder_Len_f B b (Lib.byteCells l) w h).mono fun _ _ ⟨h1, h2⟩ => ⟨by rw [h1, Lib.byteCells_length], h2⟩
theorem Apart.later {q b : Nat} {w w' : World} (h : Apart q b w) (hb : Below w.heap.size w w') (hl : b < w.heap.size) : Apart q b w' :=
  ⟨Nat.lt_of_lt_of_le h.1 hb.size, h.2.1, fun v hv => h.2.2 v ((hb.cell (p := ⟨b, 1, none⟩) hl).symm.trans hv)⟩
set_option maxHeartbeats 4000000 in
set_option maxRecDepth 100000 in
theorem copyCheckQ (B b : Nat) (l : List UInt8) (w : World) (h : BuildB B b l w) (q : Nat) (hq : Apart q b w) :
    Calls Tryd.prog 57 #[.pointer (some ⟨b, 0, none⟩)] w fun e w' => e = .returned (.tuple #[]) ∧ Lib.BuilderAtF 57 5 B b (.pointer (some ⟨b, 0, none⟩)) (Lib.byteCells l) w' ∧ Below B w w' ∧ Apart q b w' ∧ w'.heap[q]? = w.heap[q]? ∧ w'.heap.size = w.heap.size := by
  rcases h with h | h
  · refine (Any.Builder_copyCheck_fresh { Tryd.lays155 with } (Tryd.Builder_Extra_155).toX72 b w h.cell0 h.shape h.frozen0).mono ?_
    rintro e w' ⟨rfl, rfl⟩
    refine ⟨rfl, h.used _, (Below.refl B w).setCell (p := ⟨b, 0, none⟩) h.1 _, ⟨by simpa using hq.1, hq.2.1, fun v hv => ?_⟩, ?_, by simp⟩
    · rw [set_other w b b 0 1 _ (fun e => absurd e.2 (by decide))] at hv
      exact hq.2.2 v hv
    · exact (grown_set w b 0 _).block q hq.1 (fun e => hq.2.1 (Option.some.inj e))
  · refine (Any.Builder_copyCheck_used { Tryd.lays155 with } (Tryd.Builder_Extra_155).toX72 b w h.cell0).mono ?_
    rintro e w' ⟨rfl, rfl⟩
    exact ⟨rfl, h, Below.refl B _, hq, rfl, rfl⟩
theorem infoU8 : ∃ i, Tryd.prog.info? 5 = some i ∧ i.zero = some (.int .u8 0) ∧ i.size = 1 ∧ i.bytes = 1 := info_parts (by kernel_rfl)
set_option maxHeartbeats 4000000 in
set_option maxRecDepth 100000 in
theorem writeByteQ (B b : Nat) (l : List UInt8) (c : UInt8) (w : World) (h : BuildB B b l w) (hlen : l.length + 1 ≤ 140737488355328) (hBw : B ≤ w.heap.size) (q : Nat) (hq : Apart q b w) :
    Calls Tryd.prog 31 #[.pointer (some ⟨b, 0, none⟩), .int .u8 (c.toNat : Int)] w fun e w' => e = .returned .nilIface ∧ BuildB B b (l ++ [c]) w' ∧ Below B w w' ∧ Apart q b w' ∧ w'.heap[q]? = w.heap[q]? := by
  obtain ⟨i0, hi, hz0, hz1, hz2⟩ := infoU8
  go_enter Tryd.func31, Tryd.ntmps31
  go_wp2_with fail
  refine (copyCheckQ B b l w h q hq).mono ?_
  rintro e w1 ⟨rfl, h1, hb1, hq1, hk1, hz⟩
  clear hz
  obtain ⟨hB, v, hbk, hown, hne⟩ := h1
  have c0 : w1.cell? ⟨b, 0, none⟩ = some (.pointer (some ⟨b, 0, none⟩)) := by rw [Lib.cell_of_heap hbk]; rfl
  have c1 : w1.cell? ⟨b, 1, none⟩ = some v := by rw [Lib.cell_of_heap hbk]; rfl
  have hlt : b < w1.heap.size := cell_lt c0
  go_wp2_with (at_builtin; refine wpList_append_slQ rfl (.tmp 11) (.tmp 13) 55 rfl B 5 i0 Tryd.underlying55 hi hz0 hz1 hz2 _ _ _ rfl (hown.alloc _) ⟨w1.heap.size, 0, none⟩ 1 1 [.int .u8 (c.toNat : Int)] rfl rfl ?c1 ?c2 ?c3 ?c5 ?_)
  case c1 =>
    intro j u hj
    match j, hj with
    | 0, hj => simp at hj; subst hj; simp [Addr.add]
  case c2 => intro u hu; simp at hu; subst hu; rfl
  case c3 => rw [Lib.byteCells_length]; omega
  case c5 => have := hb1.size; simp; omega
  intro v' w2 hown' hgrow hwh
  have hb2 : w2.heap[b]? = some (.cells #[.pointer (some ⟨b, 0, none⟩), v] 57 (0, 0)) := by
    rw [hgrow.block b (by simp; omega) (fun e => hne e.symm), Lib.alloc_old w1 _ b hlt]
    exact hbk
  have d0 : w2.cell? ⟨b, 0, none⟩ = some (.pointer (some ⟨b, 0, none⟩)) := by rw [Lib.cell_of_heap hb2]; rfl
  have d1 : w2.cell? ⟨b, 1, none⟩ = some v := by rw [Lib.cell_of_heap hb2]; rfl
  have f1 : w2.frozen? ⟨b, 1, none⟩ = false := Lib.frozen_of_heap hb2 1
  obtain ⟨g, cap, rfl⟩ : ∃ g cap, v' = .slice (some ⟨g, 0, none⟩) ((Lib.byteCells l).length + 1) cap := by
    rcases hown'.2 with ⟨_, h0⟩ | ⟨g, cap, cur, fz, hv, _⟩
    · omega
    · exact ⟨g, cap, hv⟩
  have hq2 : w2.heap[q]? = w.heap[q]? := by
    rw [hgrow.block q (by simp; have := hq1.1; omega) (fun e => hq1.2.2 v c1 e.symm), Lib.alloc_old w1 _ q hq1.1]
    exact hk1
  go_wp2_with fail
  go_ret
  refine ⟨rfl, .inr ?_, ?_, ⟨by have := hgrow.size; have := hq1.1; simp at *; omega, hq.2.1, fun v2 hv2 => ?_⟩, ?_⟩
  · have e : Lib.byteCells (l ++ [c]) = Lib.byteCells l ++ [.int .u8 (c.toNat : Int)] := by simp [Lib.byteCells]
    rw [e]
    exact Lib.BuilderAtF.put (T := 57) (e := 5) hB hb2 (bs' := Lib.byteCells l ++ [.int .u8 (c.toNat : Int)]) (by simpa using hown') (by decide)
  · exact ((hb1.alloc (by have := hb1.size; omega) _).grown hgrow (by have := hb1.size; simp; omega) (fun k hk => (hown.lt k hk).1)).setCell (p := ⟨b, 1, none⟩) hB _
  · rw [set_same3 w2 ⟨b, 1, none⟩ _ _ d1] at hv2
    cases hv2
    intro e
    rcases hwh q e with h | h
    · exact hq1.2.2 v c1 h
    · have h2 := hq1.1; have h3 : w1.heap.size + 1 ≤ q := by simpa using h
      omega
  · rw [(grown_set w2 b 1 _).block q (by have h2 := hgrow.size; have h3 := hq1.1; simp at h2; omega) (fun e => hq.2.1 (Option.some.inj e))]
    exact hq2
set_option maxHeartbeats 4000000 in
set_option maxRecDepth 100000 in
theorem writeStringQ (B b : Nat) (l : List UInt8) (s : ByteArray) (w : World) (h : BuildB B b l w) (hlen : l.length + s.size ≤ 140737488355328) (hBw : B ≤ w.heap.size) (q : Nat) (hq : Apart q b w) :
    Calls Tryd.prog 30 #[.pointer (some ⟨b, 0, none⟩), .string s] w fun e w' => e = .returned (.tuple #[.int .i64 s.size, .nilIface]) ∧ BuildB B b (l ++ s.data.toList) w' ∧ Below B w w' ∧ Apart q b w' ∧ w'.heap[q]? = w.heap[q]? := by
  obtain ⟨i0, hi, hz0, hz1, hz2⟩ := infoU8
  go_enter Tryd.func30, Tryd.ntmps30
  go_wp2_with fail
  refine (copyCheckQ B b l w h q hq).mono ?_
  rintro e w1 ⟨rfl, h1, hb1, hq1, hk1, hz⟩
  clear hz
  obtain ⟨hB, v, hbk, hown, hne⟩ := h1
  have c0 : w1.cell? ⟨b, 0, none⟩ = some (.pointer (some ⟨b, 0, none⟩)) := by rw [Lib.cell_of_heap hbk]; rfl
  have c1 : w1.cell? ⟨b, 1, none⟩ = some v := by rw [Lib.cell_of_heap hbk]; rfl
  have hlt : b < w1.heap.size := cell_lt c0
  go_wp2_with (at_builtin; refine wpList_append_strQ (base := B) (e := 5) (i := i0) rfl _ _ rfl (by kernel_rfl) (by kernel_rfl) hi hz0 hz1 hz2 (by rfl) hown s (by rfl) ?c3 ?c5 ?_)
  case c3 => rw [Lib.byteCells_length]; omega
  case c5 => have := hb1.size; omega
  intro v' w2 hown' hgrow hwh
  have hb2 : w2.heap[b]? = some (.cells #[.pointer (some ⟨b, 0, none⟩), v] 57 (0, 0)) := by
    rw [hgrow.block b hlt (fun e => hne e.symm)]
    exact hbk
  have d0 : w2.cell? ⟨b, 0, none⟩ = some (.pointer (some ⟨b, 0, none⟩)) := by rw [Lib.cell_of_heap hb2]; rfl
  have d1 : w2.cell? ⟨b, 1, none⟩ = some v := by rw [Lib.cell_of_heap hb2]; rfl
  have f1 : w2.frozen? ⟨b, 1, none⟩ = false := Lib.frozen_of_heap hb2 1
  obtain ⟨ao, n', cap, rfl⟩ : ∃ ao n' cap, v' = .slice ao n' cap := by
    rcases hown'.2 with ⟨hv, _⟩ | ⟨g, cap, cur, fz, hv, _⟩
    · exact ⟨_, _, _, hv⟩
    · exact ⟨_, _, _, hv⟩
  have hq2 : w2.heap[q]? = w.heap[q]? := by
    rw [hgrow.block q hq1.1 (fun e => hq1.2.2 v c1 e.symm)]
    exact hk1
  go_wp2_with fail
  go_ret2
  refine ⟨rfl, .inr ?_, ?_, ⟨by have := hgrow.size; have := hq1.1; simp at *; omega, hq.2.1, fun v2 hv2 => ?_⟩, ?_⟩
  · have e : Lib.byteCells (l ++ s.data.toList) = Lib.byteCells l ++ Lib.strCells s := by simp [Lib.byteCells, Lib.strCells]
    rw [e]
    exact Lib.BuilderAtF.put (T := 57) (e := 5) hB hb2 (bs' := Lib.byteCells l ++ Lib.strCells s) (by simpa [Lib.strCells_length] using hown') (by decide)
  · exact (hb1.grown hgrow (by have := hb1.size; omega) (fun k hk => (hown.lt k hk).1)).setCell (p := ⟨b, 1, none⟩) hB _
  · rw [set_same3 w2 ⟨b, 1, none⟩ _ _ d1] at hv2
    cases hv2
    intro e
    rcases hwh q e with h | h
    · exact hq1.2.2 v c1 h
    · have := hq1.1; omega
  · rw [(grown_set w2 b 1 _).block q (by have := hgrow.size; have := hq1.1; omega) (fun e => hq.2.1 (Option.some.inj e))]
    exact hq2
end Go.Proofs.YtghfaeapgghhlaaDoor.Dt
