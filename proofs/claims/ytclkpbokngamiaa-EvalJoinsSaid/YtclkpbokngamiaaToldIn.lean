/-
  What lies in the boxes of package eval's told.
-/
import Derived.Test.YtclkpbokngamiaaBox
import Derived.Test.YtclkpbokngamiaaToldSpec
namespace Go.Proofs.Ytclkpbokngamiaa.Dt
open Go.RowKit Go.Proofs.Ytclkpbokngamiaa.By

set_option maxRecDepth 100000 in
theorem toldCol (b : Nat) (rv : Value) (row : List V) (n : Int) (w : World) (hp : w.cell? ⟨b, 0, none⟩ = some rv) (hr : VsAt w rv row) (h0 : 0 ≤ n) (h1 : n < (row.length : Int)) :
    Calls Try.prog 32 #[.int .i64 n, .pointer (some ⟨b, 0, none⟩)] w fun e w' => e = .returned (row.getD n.toNat nullV).val ∧ Below w.heap.size w w' := by
  obtain ⟨k, rfl, hk⟩ := row_get h0 h1
  obtain ⟨y, hy⟩ : ∃ y, y = row.getD ((k : Int)).toNat nullV := ⟨_, rfl⟩
  rw [← hy] at hk ⊢
  clear hy
  obtain ⟨a, c, rfl⟩ := hr.shape
  obtain ⟨b', o', rfl, hbz, d0, d1, d2⟩ := at3 hr hk
  have hz := cell_lt hp
  clear hr hk
  go_enter Try.func32, Try.ntmps32
  go_wp2_with fail
  refine bodyPost_ret (v := y.val) (by simp [results, Try.results32, go_sem]) rfl ⟨rfl, ?_⟩
  go_grown

theorem atR {w : World} {a : Option Addr} {n c k : Nat} {l : List Rw} {y : Rw} (h : SlAt 1 Rw.cells w (.slice a n c) l) (hk : l[k]? = some y) :
    ∃ b o, a = some ⟨b, o, none⟩ ∧ b < w.heap.size ∧ w.cell? ⟨b, o + k, none⟩ = some y.hd := by
  obtain ⟨a', c', e, _, h⟩ := h
  simp only [Value.slice.injEq] at e
  obtain ⟨rfl, _, _⟩ := e
  obtain ⟨b, o, rfl, h'⟩ := h k y hk
  have h0 := h' 0 _ rfl
  rw [Nat.mul_one, Nat.add_zero] at h0
  exact ⟨b, o, rfl, cell_lt h0, h0⟩

/-- What lies in the boxes. -/
structure ToldIn (op : Nat) (kv : Value) (w W : World) (t : Int) (best : V) : Prop where
  bel : Below w.heap.size w W
  op : W.cell? ⟨w.heap.size, 0, none⟩ = some (.int .u8 (op : Int))
  kids : W.cell? ⟨w.heap.size, 7, none⟩ = some kv
  res : ResBox (w.heap.size + 1) W
  tot : Box (w.heap.size + 1 + 1) (wideCells t) W
  best : Box (w.heap.size + 1 + 1 + 1) best.cells W
section
variable {op : Nat} {kv : Value} {w W W' : World} {t : Int} {best : V}
theorem ToldIn.later (h : ToldIn op kv w W t best) (hb : Below W.heap.size W W') : ToldIn op kv w W' t best :=
  ⟨next h.bel hb, (hb.cell (p := ⟨w.heap.size, 0, none⟩) (cell_lt h.op)).trans h.op, (hb.cell (p := ⟨w.heap.size, 7, none⟩) (cell_lt h.kids)).trans h.kids, h.res.later hb, h.tot.later hb, h.best.later hb⟩
theorem ToldIn.lt (h : ToldIn op kv w W t best) : w.heap.size + 3 < W.heap.size := h.best.lt
theorem ToldIn.alloc (h : ToldIn op kv w W t best) (o : Obj) : ToldIn op kv w (W.alloc o) t best := h.later ((Below.refl _ W).alloc (Nat.le_refl _) o)
theorem below_set {B j i : Nat} {u : Value} (h : Below B w W) (hj : B ≤ j) : Below B w (W.setCell ⟨j, i, none⟩ u) := by
  have hsz := h.size
  go_grown
theorem ResBox.else {k j i : Nat} {u : Value} (h : ResBox k W) (hj : j ≠ k) : ResBox k (W.setCell ⟨j, i, none⟩ u) := by
  have hs : ∀ i', (W.setCell ⟨j, i, none⟩ u).cell? ⟨k, i', none⟩ = W.cell? ⟨k, i', none⟩ := fun i' => set_other _ _ _ _ _ _ (fun e => hj e.1)
  exact ⟨(hs 0).trans h.c0, (hs 1).trans h.c1, (hs 2).trans h.c2, by rw [World.frozen?_setCell]; exact h.f0, by rw [World.frozen?_setCell]; exact h.f1, by rw [World.frozen?_setCell]; exact h.f2⟩
theorem ToldIn.else (h : ToldIn op kv w W t best) {j i : Nat} {u : Value} (hj : w.heap.size + 3 < j) : ToldIn op kv w (W.setCell ⟨j, i, none⟩ u) t best :=
  ⟨below_set h.bel (by omega), (set_other _ _ _ _ _ _ (by omega)).trans h.op, (set_other _ _ _ _ _ _ (by omega)).trans h.kids, h.res.else (by omega), h.tot.else (by omega), h.best.else (by omega)⟩
theorem ToldIn.total (h : ToldIn op kv w W t best) (t' : Int) : ToldIn op kv w ((W.setCell ⟨w.heap.size + 1 + 1, 0, none⟩ (.int .i64 (t' / 18446744073709551616))).setCell ⟨w.heap.size + 1 + 1, 1, none⟩ (.int .u64 (t' % 18446744073709551616))) t' best :=
  ⟨below_set (below_set h.bel (by omega)) (by omega), (set_other _ _ _ _ _ _ (by omega)).trans ((set_other _ _ _ _ _ _ (by omega)).trans h.op), (set_other _ _ _ _ _ _ (by omega)).trans ((set_other _ _ _ _ _ _ (by omega)).trans h.kids),
    (h.res.else (by omega)).else (by omega), (h.tot.set (i := 0) (by show 0 < 2; omega)).set (i := 1) (by show 1 < 2; omega), (h.best.else (by omega)).else (by omega)⟩
theorem ToldIn.better (h : ToldIn op kv w W t best) (v : V) : ToldIn op kv w (((W.setCell ⟨w.heap.size + 1 + 1 + 1, 0, none⟩ (.int .u8 (v.k : Int))).setCell ⟨w.heap.size + 1 + 1 + 1, 1, none⟩ (.int .i64 v.n)).setCell ⟨w.heap.size + 1 + 1 + 1, 2, none⟩ (.string v.s)) t v :=
  ⟨below_set (below_set (below_set h.bel (by omega)) (by omega)) (by omega), (set_other _ _ _ _ _ _ (by omega)).trans ((set_other _ _ _ _ _ _ (by omega)).trans ((set_other _ _ _ _ _ _ (by omega)).trans h.op)),
    (set_other _ _ _ _ _ _ (by omega)).trans ((set_other _ _ _ _ _ _ (by omega)).trans ((set_other _ _ _ _ _ _ (by omega)).trans h.kids)),
    ((h.res.else (by omega)).else (by omega)).else (by omega), ((h.tot.else (by omega)).else (by omega)).else (by omega), ((h.best.set (i := 0) (by show 0 < 3; omega)).set (i := 1) (by show 1 < 3; omega)).set (i := 2) (by show 2 < 3; omega)⟩
end
/-- What is there between two rows. -/
structure ToldAt (x : Ex) (rows : List Rw) (w wr : World) (k : Nat) (s : Tl) : Prop where
  in_ : ToldIn x.op x.kv w wr s.t s.best
  sofar : toldAll x (rows.map Rw.l) ⟨0, 0, nullV⟩ = toldAll x ((rows.drop k).map Rw.l) s
  t0 : -((s.n : Int) * 9223372036854775808) ≤ s.t
  t1 : s.t ≤ (s.n : Int) * 9223372036854775808
  bok : s.best.ok

theorem tot_bd {n k l : Nat} {t : Int} (t0 : -((n : Int) * 9223372036854775808) ≤ t) (t1 : t ≤ (n : Int) * 9223372036854775808) (hn : n ≤ k) (hk : k ≤ l) (hl : l ≤ 140737488351232) : -1329227995784915872903807060280344576 ≤ t ∧ t ≤ 1329227995784915872903807060280344576 := by
  have h : n ≤ 140737488351232 := Nat.le_trans hn (Nat.le_trans hk hl)
  omega
theorem tot_lo {n : Nat} {t v : Int} (t0 : -((n : Int) * 9223372036854775808) ≤ t) (h : -9223372036854775808 ≤ v) : -(((n + 1 : Nat) : Int) * 9223372036854775808) ≤ t + v := by omega
theorem tot_hi {n : Nat} {t v : Int} (t1 : t ≤ (n : Int) * 9223372036854775808) (h : v ≤ 9223372036854775807) : t + v ≤ ((n + 1 : Nat) : Int) * 9223372036854775808 := by omega

theorem numberV (w : World) : Calls Try.prog 31 #[.int .i64 1] w fun e w' => e = .returned (numV 1).val ∧ Below w.heap.size w w' := number 1 w

end Go.Proofs.Ytclkpbokngamiaa.Dt
