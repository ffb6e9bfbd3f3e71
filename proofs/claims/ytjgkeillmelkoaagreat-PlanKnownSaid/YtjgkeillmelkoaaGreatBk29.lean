import Derived.Test.YtjgkeillmelkoaaGreatBk22
import Derived.Test.YtjgkeillmelkoaaGreatBk28
import Derived.Test.YtjgkeillmelkoaaGreatBk05
namespace Go.Proofs.YtjgkeillmelkoaaGreat.Dt
open Go.RowKit Go.Proofs.YtjgkeillmelkoaaGreat.By

theorem res_ct {fn : Func} {p q : Tmp} (h : fn.results = #[.cell p 44, .tmp q]) (tmps : Array Value) (w : World) (k : Nat) (u : TypeId) (v : Value) (ds : Array Value)
    (hp : tmps.getD p undef = .pointer (some ⟨k, 0, none⟩)) (hq : tmps.getD q undef = v) (hk : Row k u ds w) (hd : ds.size = 8) : (results fn tmps).run Tryz.prog w = .ok (.tuple #[.agg ds, v]) w := by
  obtain ⟨gs, hv⟩ := ex_struct
  have hi := ex_size
  have hp' : tmps[p]?.getD undef = .pointer (some ⟨k, 0, none⟩) := by simpa using hp
  have hq' : tmps[q]?.getD undef = v := by simpa using hq
  simp [results, h, hp', hq', asAddr, run_loadVar_row w k u 44 ds (0, 0) _ hk hv rfl (by rw [hi, hd])]
theorem run_exLdAt (W : World) (q o : Nat) (y : PE) (na : Option Addr) (nc : Nat) (p0 : W.cell? ⟨q, o, none⟩ = some (.int .u8 (y.op : Int))) (p1 : W.cell? ⟨q, o + 1, none⟩ = some (.int .u8 (y.v.k : Int))) (p2 : W.cell? ⟨q, o + 2, none⟩ = some (.int .i64 y.v.n)) (p3 : W.cell? ⟨q, o + 3, none⟩ = some (.string y.v.s))
    (p4 : W.cell? ⟨q, o + 4, none⟩ = some (.string y.t)) (p5 : W.cell? ⟨q, o + 5, none⟩ = some (.string y.m)) (p6 : W.cell? ⟨q, o + 6, none⟩ = some (.int .i64 y.n)) (p7 : W.cell? ⟨q, o + 7, none⟩ = some (.slice na y.kids.length nc)) :
    (veilLd 44 ⟨q, o, none⟩).run Tryz.prog W = .ok (.agg #[.int .u8 (y.op : Int), .int .u8 (y.v.k : Int), .int .i64 y.v.n, .string y.v.s, .string y.t, .string y.m, .int .i64 y.n, .slice na y.kids.length nc]) W := by
  unfold veilLd
  go_simp
/-- What put makes of an expression. -/
def PtW (l : List PSo) (x y : PE) : Prop := ∀ (la : Option Addr) (lc : Nat) (kv : Value) (W : World), SosR W (.slice la l.length lc) l → ExsR W kv x.kids → Calls Tryz.prog 71 #[.slice la l.length lc, x.val kv] W fun e w' =>
  ∃ cs, e = .returned (.tuple #[.agg cs, .bool true]) ∧ ExN W.heap.size w' cs y ∧ Below W.heap.size W w'
attribute [local go_sem ↓] veilSt_ex veilLd_ex veilBs_ex
attribute [local go_sem] run_exSt run_exNew run_exLd okRow8 Value.oneCell'
set_option maxRecDepth 100000 in
set_option maxHeartbeats 16000000 in
theorem putColW (l : List PSo) (t m : ByteArray) (n k : Int) (hl : l.length ≤ 1000) (hcl : ∀ y ∈ l, y.2.cols.length ≤ 1000) (hm : meansL t m l 0 = [k]) : PtW l (.mk 2 V00 t m n []) (.mk 2 V00 t m k []) := by
  intro la lc kv W hs hk
  obtain ⟨ka, kc, rfl, _⟩ := hk.shape
  have hb1 : Below W.heap.size W (W.alloc (.cells #[.int .u8 2, .int .u8 0, .int .i64 0, .string ⟨#[]⟩, .string t, .string m, .int .i64 n, .slice ka 0 kc] 44)) := (Below.refl _ _).alloc (Nat.le_refl _) _
  have h1 := row_alloc W 44 #[.int .u8 2, .int .u8 0, .int .i64 0, .string ⟨#[]⟩, .string t, .string m, .int .i64 n, .slice ka 0 kc]
  have ha2 := (Below.refl _ (W.alloc (.cells #[.int .u8 2, .int .u8 0, .int .i64 0, .string ⟨#[]⟩, .string t, .string m, .int .i64 n, .slice ka 0 kc] 44))).alloc (Nat.le_refl _) (.cells exZ 44)
  have h2 := row_alloc (W.alloc (.cells #[.int .u8 2, .int .u8 0, .int .i64 0, .string ⟨#[]⟩, .string t, .string m, .int .i64 n, .slice ka 0 kc] 44)) 44 exZ
  rw [show (W.alloc (.cells #[.int .u8 2, .int .u8 0, .int .i64 0, .string ⟨#[]⟩, .string t, .string m, .int .i64 n, .slice ka 0 kc] 44)).heap.size = W.heap.size + 1 by simp] at h2
  have HX := Lib.hid (h1.later ha2)
  have HZ := Lib.hid h2
  have HB := Lib.hid (next hb1 ha2)
  have HS := Lib.hid (sosR_below hs (next hb1 ha2))
  have HMS := Lib.hid hm
  have HL := Lib.hid hl
  have HCL := Lib.hid hcl
  clear hb1 h1 ha2 h2 hs hk hm hl hcl
  show Calls _ _ #[_, .agg #[.int .u8 2, .int .u8 0, .int .i64 0, .string ⟨#[]⟩, .string t, .string m, .int .i64 n, .slice ka 0 kc]] _ _
  go_enter Tryz.func71, Tryz.ntmps71
  go_upto_region 1 with fail
  generalize (W.alloc (.cells #[.int .u8 2, .int .u8 0, .int .i64 0, .string ⟨#[]⟩, .string t, .string m, .int .i64 n, .slice ka 0 kc] 44)).alloc (.cells exZ 44) = w2 at *
  have c0 := HX.out.cell (i := 0) (v := .int .u8 2) rfl
  have hb := HX.out.b (n := 8) rfl
  have ho := HX.out.of
  have hc := meansW l la lc (.mk 2 V00 t m n []) ka 0 kc w2 HL.out HCL.out HS.out
  have HC : Hid (Calls Tryz.prog 95 #[.slice la l.length lc, .agg #[.int .u8 2, .int .u8 0, .int .i64 0, .string ⟨#[]⟩, .string t, .string m, .int .i64 n, .slice ka 0 kc]] w2 fun e w' => ∃ v, e = .returned v ∧ New w2.heap.size w' (fun u => IntsR u v [k]) ∧ Below w2.heap.size w2 w') := Lib.hid (by
    rw [← HMS.out]; exact hc)
  clear hc
  go_wp2_with fail
  refine HC.out.mono ?_
  rintro e3 w3 ⟨v, rfl, hv, hb3⟩
  obtain ⟨va, vc, rfl, _⟩ := hv.here.shape
  obtain ⟨b, o, rfl, d0⟩ := int_at (k := 0) hv.here rfl
  simp only [Nat.add_zero] at d0
  have HX3 := Lib.hid (HX.out.later hb3)
  have HZ3 := Lib.hid (HZ.out.later hb3)
  have HB3 := Lib.hid (next HB.out hb3)
  have c6 := HX3.out.cell (i := 6) (v := .int .i64 n) rfl
  have f6 := HX3.out.free 6
  have hs6 := setCell_eq_setRow w3 W.heap.size 6 _ _ _ (.int .i64 k) HX3.out
  have HX4 : Hid (Row W.heap.size 44 #[.int .u8 2, .int .u8 0, .int .i64 0, .string ⟨#[]⟩, .string t, .string m, .int .i64 k, .slice ka 0 kc] (w3.setCell ⟨W.heap.size, 6, none⟩ (.int .i64 k))) := Lib.hid (by rw [hs6]; exact HX3.out.set _)
  have HZ4 : Hid (Row (W.heap.size + 1) 44 exZ (w3.setCell ⟨W.heap.size, 6, none⟩ (.int .i64 k))) := Lib.hid (by rw [hs6]; exact (setRow_other _ _ _ _ (by omega)).trans HZ3.out)
  have HB4 : Hid (Below W.heap.size W (w3.setCell ⟨W.heap.size, 6, none⟩ (.int .i64 k))) := Lib.hid (below_set HB3.out (Nat.le_refl _))
  clear hv hb3 c0 hb ho HC HX HZ HB hs6
  go_upto_region 6 with fail
  clear d0 c6 f6
  generalize w3.setCell ⟨W.heap.size, 6, none⟩ (.int .i64 k) = w4 at *
  have hb := HX4.out.b (n := 8) rfl
  have ho := HX4.out.of
  have hz := HZ4.out.b (n := 8) rfl
  go_wp2_with fail
  exact bodyPost_ret (v := .tuple #[.agg #[.int .u8 2, .int .u8 0, .int .i64 0, .string ⟨#[]⟩, .string t, .string m, .int .i64 k, .slice ka 0 kc], .bool true]) (res_ct rfl _ _ (W.heap.size + 1) _ _ _ rfl rfl (HZ4.out.set _) rfl) rfl
    ⟨_, rfl, exD_mk (x := .mk 2 V00 t m k []) (fun u _ => ⟨[], ⟨ka, kc, rfl, Nat.zero_le _, fun i x h => by simp at h⟩, rfl, fun i c x h => by simp at h⟩), below_setRow' HB4.out (by omega) _⟩
set_option maxRecDepth 100000 in
set_option maxHeartbeats 16000000 in
theorem putValW (l : List PSo) (v : V) : PtW l (.val1 v) (.val1 v) := by
  intro la lc kv W hs hk
  obtain ⟨ka, kc, rfl, _⟩ := hk.shape
  have hb1 : Below W.heap.size W (W.alloc (.cells #[.int .u8 1, .int .u8 (v.k : Int), .int .i64 v.n, .string v.s, .string ⟨#[]⟩, .string ⟨#[]⟩, .int .i64 0, .slice ka 0 kc] 44)) := (Below.refl _ _).alloc (Nat.le_refl _) _
  have h1 := row_alloc W 44 #[.int .u8 1, .int .u8 (v.k : Int), .int .i64 v.n, .string v.s, .string ⟨#[]⟩, .string ⟨#[]⟩, .int .i64 0, .slice ka 0 kc]
  have ha2 := (Below.refl _ (W.alloc (.cells #[.int .u8 1, .int .u8 (v.k : Int), .int .i64 v.n, .string v.s, .string ⟨#[]⟩, .string ⟨#[]⟩, .int .i64 0, .slice ka 0 kc] 44))).alloc (Nat.le_refl _) (.cells exZ 44)
  have h2 := row_alloc (W.alloc (.cells #[.int .u8 1, .int .u8 (v.k : Int), .int .i64 v.n, .string v.s, .string ⟨#[]⟩, .string ⟨#[]⟩, .int .i64 0, .slice ka 0 kc] 44)) 44 exZ
  rw [show (W.alloc (.cells #[.int .u8 1, .int .u8 (v.k : Int), .int .i64 v.n, .string v.s, .string ⟨#[]⟩, .string ⟨#[]⟩, .int .i64 0, .slice ka 0 kc] 44)).heap.size = W.heap.size + 1 by simp] at h2
  have HX := Lib.hid (h1.later ha2)
  have HZ := Lib.hid h2
  have HB := Lib.hid (next hb1 ha2)
  have HSZ : Hid (((W.alloc (.cells #[.int .u8 1, .int .u8 (v.k : Int), .int .i64 v.n, .string v.s, .string ⟨#[]⟩, .string ⟨#[]⟩, .int .i64 0, .slice ka 0 kc] 44)).alloc (.cells exZ 44)).heap.size = W.heap.size + 2) := Lib.hid (by simp)
  clear hb1 h1 ha2 h2 hs hk
  show Calls _ _ #[_, .agg #[.int .u8 1, .int .u8 (v.k : Int), .int .i64 v.n, .string v.s, .string ⟨#[]⟩, .string ⟨#[]⟩, .int .i64 0, .slice ka 0 kc]] _ _
  go_enter Tryz.func71, Tryz.ntmps71
  go_upto_region 1 with fail
  generalize (W.alloc (.cells #[.int .u8 1, .int .u8 (v.k : Int), .int .i64 v.n, .string v.s, .string ⟨#[]⟩, .string ⟨#[]⟩, .int .i64 0, .slice ka 0 kc] 44)).alloc (.cells exZ 44) = w2 at *
  have c0 := HX.out.cell (i := 0) (v := .int .u8 1) rfl
  have c7 := HX.out.cell (i := 7) (v := .slice ka 0 kc) rfl
  go_wp2_with fail
  go_loopg [7, 8] 0 (fun gk ov iv wr => ov = .slice none 0 0 ∧ iv = .int .i64 0 ∧ w2 = wr)
  case atStart => exact ⟨rfl, rfl, rfl⟩
  case round =>
    obtain ⟨rfl, rfl, rfl⟩ := hrel
    have f7 := HX.out.free 7
    have hs7 := setCell_eq_setRow w2 W.heap.size 7 _ _ _ (.slice none 0 0) HX.out
    have HX4 : Hid (Row W.heap.size 44 #[.int .u8 1, .int .u8 (v.k : Int), .int .i64 v.n, .string v.s, .string ⟨#[]⟩, .string ⟨#[]⟩, .int .i64 0, .slice none 0 0] (w2.setCell ⟨W.heap.size, 7, none⟩ (.slice none 0 0))) := Lib.hid (by rw [hs7]; exact HX.out.set _)
    have HZ4 : Hid (Row (W.heap.size + 1) 44 exZ (w2.setCell ⟨W.heap.size, 7, none⟩ (.slice none 0 0))) := Lib.hid (by rw [hs7]; exact (setRow_other _ _ _ _ (by omega)).trans HZ.out)
    have HB4 : Hid (Below W.heap.size W (w2.setCell ⟨W.heap.size, 7, none⟩ (.slice none 0 0))) := Lib.hid (below_set HB.out (Nat.le_refl _))
    clear hs7
    go_upto_region 16 with fail
    clear c0 c7 f7
    generalize w2.setCell ⟨W.heap.size, 7, none⟩ (.slice none 0 0) = w4 at *
    have hb := HX4.out.b (n := 8) rfl
    have ho := HX4.out.of
    have hz := HZ4.out.b (n := 8) rfl
    go_wp2_with fail
    exact bodyPost_ret (v := .tuple #[.agg #[.int .u8 1, .int .u8 (v.k : Int), .int .i64 v.n, .string v.s, .string ⟨#[]⟩, .string ⟨#[]⟩, .int .i64 0, .slice none 0 0], .bool true]) (res_ct rfl _ _ (W.heap.size + 1) _ _ _ rfl rfl (HZ4.out.set _) rfl) rfl
      ⟨_, rfl, exD_mk (x := .val1 v) (fun _ _ => SlR.nil _ _ _), below_setRow' HB4.out (by omega) _⟩
/-- What lies there while kids are put. -/
structure PQ (W : World) (X : Array Value) (l : List PSo) (la : Option Addr) (lc : Nat) (v : Value) (done : List PE) (cs : List (List Value)) (w : World) : Prop where
  hb : Below W.heap.size W w
  x : Row W.heap.size 44 X w
  z : Row (W.heap.size + 1) 44 exZ w
  own : OwnL 44 8 ExR (W.heap.size + 2) w v done cs
theorem PQ.later {W w w' : World} {X : Array Value} {l : List PSo} {la : Option Addr} {lc : Nat} {v : Value} {done : List PE} {cs : List (List Value)} (h : PQ W X l la lc v done cs w) (hb : Below w.heap.size w w') : PQ W X l la lc v done cs w' :=
  ⟨next h.hb hb, h.x.later hb, h.z.later hb, h.own.later hb⟩
set_option maxRecDepth 100000 in
set_option maxHeartbeats 16000000 in
theorem putTwoW (l : List PSo) (op : Nat) (a b a' b' : PE) (hop : op ≠ 2) (ha : PtW l a a') (hb : PtW l b b') : PtW l (.node op [a, b]) (.node op [a', b']) := by
  intro la lc kv W hs hk
  obtain ⟨ka, kc, rfl, _⟩ := hk.shape
  have hb1 : Below W.heap.size W (W.alloc (.cells #[.int .u8 (op : Int), .int .u8 0, .int .i64 0, .string ⟨#[]⟩, .string ⟨#[]⟩, .string ⟨#[]⟩, .int .i64 0, .slice ka 2 kc] 44)) := (Below.refl _ _).alloc (Nat.le_refl _) _
  have h1 := row_alloc W 44 #[.int .u8 (op : Int), .int .u8 0, .int .i64 0, .string ⟨#[]⟩, .string ⟨#[]⟩, .string ⟨#[]⟩, .int .i64 0, .slice ka 2 kc]
  have ha2 := (Below.refl _ (W.alloc (.cells #[.int .u8 (op : Int), .int .u8 0, .int .i64 0, .string ⟨#[]⟩, .string ⟨#[]⟩, .string ⟨#[]⟩, .int .i64 0, .slice ka 2 kc] 44))).alloc (Nat.le_refl _) (.cells exZ 44)
  have h2 := row_alloc (W.alloc (.cells #[.int .u8 (op : Int), .int .u8 0, .int .i64 0, .string ⟨#[]⟩, .string ⟨#[]⟩, .string ⟨#[]⟩, .int .i64 0, .slice ka 2 kc] 44)) 44 exZ
  rw [show (W.alloc (.cells #[.int .u8 (op : Int), .int .u8 0, .int .i64 0, .string ⟨#[]⟩, .string ⟨#[]⟩, .string ⟨#[]⟩, .int .i64 0, .slice ka 2 kc] 44)).heap.size = W.heap.size + 1 by simp] at h2
  have HX := Lib.hid (h1.later ha2)
  have HZ := Lib.hid h2
  have HB := Lib.hid (next hb1 ha2)
  have HSZ : Hid (((W.alloc (.cells #[.int .u8 (op : Int), .int .u8 0, .int .i64 0, .string ⟨#[]⟩, .string ⟨#[]⟩, .string ⟨#[]⟩, .int .i64 0, .slice ka 2 kc] 44)).alloc (.cells exZ 44)).heap.size = W.heap.size + 2) := Lib.hid (by simp)
  have HS := Lib.hid hs
  have HK := Lib.hid hk
  have HPA := Lib.hid ha
  have HPB := Lib.hid hb
  have e2 : ((op : Int) == 2) = false := by simp; omega
  clear hb1 h1 ha2 h2 hs hk ha hb hop
  show Calls _ _ #[_, .agg #[.int .u8 (op : Int), .int .u8 0, .int .i64 0, .string ⟨#[]⟩, .string ⟨#[]⟩, .string ⟨#[]⟩, .int .i64 0, .slice ka 2 kc]] _ _
  go_enter Tryz.func71, Tryz.ntmps71
  go_upto_region 1 with fail
  generalize (W.alloc (.cells #[.int .u8 (op : Int), .int .u8 0, .int .i64 0, .string ⟨#[]⟩, .string ⟨#[]⟩, .string ⟨#[]⟩, .int .i64 0, .slice ka 2 kc] 44)).alloc (.cells exZ 44) = w2 at *
  have c0 := HX.out.cell (i := 0) (v := .int .u8 (op : Int)) rfl
  have HQ : Hid (PQ W #[.int .u8 (op : Int), .int .u8 0, .int .i64 0, .string ⟨#[]⟩, .string ⟨#[]⟩, .string ⟨#[]⟩, .int .i64 0, .slice ka 2 kc] l la lc (.slice none 0 0) [] [] w2) := Lib.hid ⟨HB.out, HX.out, HZ.out, OwnL.nil _ _ _ _ _⟩
  go_wp2_with fail
  clear c0 e2 HB HX HZ
  go_loopg [7, 8] 2 (fun gk ov iv wr => ∃ (i : Nat) (cs : List (List Value)), iv = .int .i64 (i : Int) ∧ gk = 2 - i ∧ i ≤ 2 ∧ Hid (PQ W #[.int .u8 (op : Int), .int .u8 0, .int .i64 0, .string ⟨#[]⟩, .string ⟨#[]⟩, .string ⟨#[]⟩, .int .i64 0, .slice ka 2 kc] l la lc ov ([a', b'].take i) cs wr))
  case atStart => exact ⟨0, [], rfl, rfl, by decide, HQ⟩
  case round =>
    obtain ⟨i, cs, rfl, rfl, hi, HQ⟩ := hrel
    obtain ⟨oa, oc, rfl⟩ := HQ.out.own.shape
    have c7 := HQ.out.x.cell (i := 7) (v := .slice ka 2 kc) rfl
    by_cases hlt : i < 2
    · obtain ⟨y, y', hy, hy', hp⟩ : ∃ y y', [a, b][i]? = some y ∧ [a', b'][i]? = some y' ∧ PtW l y y' := by
        match i, hlt with
        | 0, _ => exact ⟨a, a', rfl, rfl, HPA.out⟩
        | 1, _ => exact ⟨b, b', rfl, rfl, HPB.out⟩
      have ilt : (i : Int) < 2 := by omega
      have ige : (0 : Int) ≤ (i : Int) := by omega
      have HTK : Hid ([a', b'].take (i + 1) = [a', b'].take i ++ [y']) := Lib.hid (by rw [List.take_add_one, hy']; rfl)
      obtain ⟨q1, o1, k1, e1, hk1, p0, p1, p2, p3, p4, p5, p6, p7⟩ := exs_at (exsR_below HK.out HQ.out.hb) hy
      subst e1
      obtain ⟨na, nc, rfl, _⟩ := hk1.shape
      have hc := hp la lc (.slice na y.kids.length nc) wr (sosR_below HS.out HQ.out.hb) hk1
      unfold PE.val at hc
      have HC := Lib.hid hc
      have HLT := Lib.hid hlt
      have hle : ([a', b'].take i).length = i := by simp; omega
      have HLE := Lib.hid hle
      rw [hle] at HQ ⊢
      have HMW : Hid (∀ k, (Value.slice oa i oc).ownBlock = some k → k < wr.heap.size ∧ W.heap.size + 2 ≤ k) := Lib.hid (fun k hk => ⟨(World.ownsRow.lt HQ.out.own.own k hk).2, (World.ownsRow.lt HQ.out.own.own k hk).1⟩)
      have i3 : wrap64 ((i : Int) + 1) = ((i + 1 : Nat) : Int) := ar_s (by omega)
      have hld := run_exLdAt wr q1 (o1 + i * 8) y na nc p0 p1 p2 p3 p4 p5 p6 p7
      clear hy hy' hp hk1 hc hlt hi hle p0 p1 p2 p3 p4 p5 p6 p7
      go_wp2_with fail
      refine HC.out.mono ?_
      rintro e3 w3 ⟨c, rfl, hx3, hb3⟩
      clear c7 HC hld
      have hok := hx3.ok
      have hsz := hx3.size
      have hb4 := (Below.refl _ w3).alloc (Nat.le_refl _) (.cells c 44)
      have HQ4 := Lib.hid ((HQ.out.later hb3).later hb4)
      have HX4 := Lib.hid (hx3.later hb4)
      have HR4 := Lib.hid (row_alloc w3 44 c)
      have HLW : Hid (W.heap.size + 2 ≤ wr.heap.size) := Lib.hid (by have h1 := HQ.out.z.lt; omega)
      have HW43 : Hid (wr.heap.size ≤ w3.heap.size) := Lib.hid hb3.size
      clear hb3 hb4 HQ
      go_upto_region 14 with fail
      generalize w3.alloc (.cells c 44) = w4 at *
      generalize w3.heap.size = g at *
      have hrb := HR4.out.b (n := 8) hsz
      have hro := HR4.out.of
      have hbs : (veilBs 32 1 #[(0, .agg c)]).run Tryz.prog w4 = .ok (.slice (some ⟨w4.heap.size, 0, none⟩) 1 1) (w4.alloc (.cells c 44)) := run_bs1 w4 c hsz
      have hb5 := (Below.refl _ w4).alloc (Nat.le_refl _) (.cells c 44)
      have HQ5 := Lib.hid (HQ4.out.later hb5)
      have HX5 := Lib.hid (HX4.out.later hb5)
      have HN5 := Lib.hid (row_alloc w4 44 c)
      have HC8 : Hid (c.toList.length = 8) := Lib.hid (by simpa using hsz)
      have HC1 : Hid (∀ u ∈ c.toList, u.oneCell' = true) := Lib.hid (fun u hu => by have h := (okRow_iff.1 hok).2; exact Array.all_eq_true_iff_forall_mem.1 h u (by simpa using hu))
      have HM : Hid (∀ k, (Value.slice oa i oc).ownBlock = some k → k < wr.heap.size ∧ W.heap.size + 2 ≤ k) := HMW
      have HCC : Hid (cs.length ≤ 2) := Lib.hid (by have h1 := HQ5.out.own.len; have h2 := HLE.out; have h3 := HLT.out; omega)
      have HBS : Hid (W.heap.size + 2 ≤ (w4.alloc (.cells c 44)).heap.size) := Lib.hid (by have h1 := HQ5.out.z.lt; omega)
      clear hb5 hsz HQ4 HX4
      go_upto_region 10 with (at_builtin; refine wpList_append_one rfl (.tmp 46) (.tmp 48) 32 rfl (W.heap.size + 2) 44 8 104 elEx (.slice oa i oc) cs.length cs.flatten rfl HQ5.out.own.own w4.heap.size 1 c.toList rfl HC8.out (fun j u hj => HN5.out.cell (by simpa using hj)) HC1.out (by have := HCC.out; unfold maxLen; omega) (by have := HCC.out; omega) HBS.out ?_; intro v' w9 hown9 hg9 hv9; have HQZ : Hid (PQ W _ l la lc v' ([a', b'].take (i + 1)) (cs ++ [c.toList]) w9) := Lib.hid ⟨HQ5.out.hb.trans ⟨hg9.os, hg9.tape, hg9.output, hg9.size, fun k hk => hg9.block k (by have h1 := HBS.out; omega) (fun e => by have := (HM.out _ e.symm).2; omega)⟩, (hg9.block _ HQ5.out.x.lt (fun e => by have := (HM.out _ e.symm).2; omega)).trans HQ5.out.x, (hg9.block _ HQ5.out.z.lt (fun e => by have := (HM.out _ e.symm).2; omega)).trans HQ5.out.z, by rw [HTK.out]; exact HQ5.out.own.snoc hown9 hg9 hv9 HC8.out HX5.out.new HLW.out (fun k hk => (HM.out k hk).1)⟩; clear hown9 hg9 hv9; obtain ⟨va', vc', hv'⟩ := HQZ.out.own.shape; rw [show ([a', b'].take (i + 1)).length = i + 1 by (have := HLT.out; simp; omega)] at hv'; subst hv')
      clear hrb hro hbs hok
      go_wp2_with fail
      go_roundg (2 - (i + 1))
      case measure => exact Nat.sub_lt_sub_left HLT.out (Nat.lt_succ_self _)
      case rel => exact ⟨i + 1, _, by go_num, rfl, HLT.out, HQZ⟩
    · obtain rfl : i = 2 := by omega
      have HQ2 : Hid (PQ W _ l la lc (.slice oa 2 oc) [a', b'] cs wr) := HQ
      have f7 := HQ2.out.x.free 7
      have hs7 := setCell_eq_setRow wr W.heap.size 7 _ _ _ (.slice oa 2 oc) HQ2.out.x
      have HX4 : Hid (Row W.heap.size 44 #[.int .u8 (op : Int), .int .u8 0, .int .i64 0, .string ⟨#[]⟩, .string ⟨#[]⟩, .string ⟨#[]⟩, .int .i64 0, .slice oa 2 oc] (wr.setCell ⟨W.heap.size, 7, none⟩ (.slice oa 2 oc))) := Lib.hid (by rw [hs7]; exact HQ2.out.x.set _)
      have HZ4 : Hid (Row (W.heap.size + 1) 44 exZ (wr.setCell ⟨W.heap.size, 7, none⟩ (.slice oa 2 oc))) := Lib.hid (by rw [hs7]; exact (setRow_other _ _ _ _ (by omega)).trans HQ2.out.z)
      have HB4 : Hid (Below W.heap.size W (wr.setCell ⟨W.heap.size, 7, none⟩ (.slice oa 2 oc))) := Lib.hid (below_set HQ2.out.hb (Nat.le_refl _))
      have HE4 : Hid (ExD (fun b => W.heap.size + 2 ≤ b) (wr.setCell ⟨W.heap.size, 7, none⟩ (.slice oa 2 oc)) #[.int .u8 (op : Int), .int .u8 0, .int .i64 0, .string ⟨#[]⟩, .string ⟨#[]⟩, .string ⟨#[]⟩, .int .i64 0, .slice oa 2 oc] (.node op [a', b'])) := Lib.hid (by
        have h := exD_op (op := op) HQ2.out.own.done
        rw [hs7]
        exact ExD.set h (by omega))
      clear hs7 hlt hi HQ HQ2
      go_upto_region 16 with fail
      clear c7 f7
      generalize wr.setCell ⟨W.heap.size, 7, none⟩ (.slice oa 2 oc) = w4 at *
      have hb := HX4.out.b (n := 8) rfl
      have ho := HX4.out.of
      have hz := HZ4.out.b (n := 8) rfl
      go_wp2_with fail
      exact bodyPost_ret (v := .tuple #[.agg #[.int .u8 (op : Int), .int .u8 0, .int .i64 0, .string ⟨#[]⟩, .string ⟨#[]⟩, .string ⟨#[]⟩, .int .i64 0, .slice oa 2 oc], .bool true]) (res_ct rfl _ _ (W.heap.size + 1) _ _ _ rfl rfl (HZ4.out.set _) rfl) rfl
        ⟨_, rfl, (ExD.set HE4.out (g := W.heap.size + 1) (by omega)).step (Nat.le_refl _) fun b hb _ => ⟨by omega, rfl⟩, below_setRow' HB4.out (by omega) _⟩
end Go.Proofs.YtjgkeillmelkoaaGreat.Dt
namespace Go.Proofs.YtjgkeillmelkoaaGreat.Dt
open Go.RowKit Go.Proofs.YtjgkeillmelkoaaGreat.By

/-- What Type says of a condition. -/
def TyW (l : List PSo) (y : PE) : Prop := ∀ (w : World) (c : Array Value) (cv : Value), ExR w c.toList y → U8sAt w cv (kindsL l) → Calls Tryz.prog 74 #[.agg c, cv, .bool false] w fun e w' => e = .returned (.tuple #[.int .u8 1, .int .i64 0]) ∧ Below w.heap.size w w'
/-- What is known of the operations of 'Type(x, Kinds(l), group)'. -/
def OnKn (l : List PSo) (la : Option Addr) (lc : Nat) (c : Array Value) (j : Nat) (v : Value) (w : World) : Prop := match j with
  | 0 => v = .agg c
  | 1 => v = .slice la l.length lc
  | 2 => U8sAt w v (kindsL l)
  | 3 => v = .bool false
  | 4 => v = .tuple #[.int .u8 1, .int .i64 0]
  | 5 => v = .tuple #[.int .u8 1, .int .i64 0]
  | 6 => v = .int .u8 1
  | 7 => v = .int .i64 0
  | 8 => v = .int .u8 1
  | _ => v = .int .i64 0
theorem OnKn.later {l : List PSo} {la : Option Addr} {lc : Nat} {c : Array Value} (j : Nat) (v : Value) (w1 w2 : World) (h : OnKn l la lc c j v w1) (hb : Below w1.heap.size w1 w2) : OnKn l la lc c j v w2 :=
  match j, h with
  | 0, h => h
  | 1, h => h
  | 2, h => SlAt.below h hb
  | 3, h => h
  | 4, h => h
  | 5, h => h
  | 6, h => h
  | 7, h => h
  | 8, h => h
  | _ + 9, h => h
attribute [local go_sem ↓] veilSt_ex veilLd_ex
attribute [local go_sem] run_exSt run_exNew run_exLd okRow8 Value.oneCell'
set_option maxRecDepth 100000 in
set_option maxHeartbeats 16000000 in
theorem oneW (l : List PSo) (la : Option Addr) (lc : Nat) (x y : PE) (kv : Value) (W : World) (hl : l.length ≤ 1000) (hcl : ∀ y ∈ l, y.2.cols.length ≤ 1000) (hp : PtW l x y) (ht : TyW l y) (hs : SosR W (.slice la l.length lc) l) (hk : ExsR W kv x.kids) :
    Calls Tryz.prog 39 #[.slice la l.length lc, x.val kv, .int .u8 1, .bool false] W fun e w' => ∃ cs, e = .returned (.tuple #[.agg cs, .int .i64 0]) ∧ ExN W.heap.size w' cs y ∧ Below W.heap.size W w' := by
  obtain ⟨ka, kc, rfl, _⟩ := hk.shape
  have hb1 : Below W.heap.size W (W.alloc (.cells (exA x (.slice ka x.kids.length kc)) 44)) := (Below.refl _ _).alloc (Nat.le_refl _) _
  have h1 := row_alloc W 44 (exA x (.slice ka x.kids.length kc))
  have ha2 := (Below.refl _ (W.alloc (.cells (exA x (.slice ka x.kids.length kc)) 44))).alloc (Nat.le_refl _) (.cells exZ 44)
  have h2 := row_alloc (W.alloc (.cells (exA x (.slice ka x.kids.length kc)) 44)) 44 exZ
  rw [show (W.alloc (.cells (exA x (.slice ka x.kids.length kc)) 44)).heap.size = W.heap.size + 1 by simp] at h2
  have HX := Lib.hid (h1.later ha2)
  have HZ := Lib.hid h2
  have HB := Lib.hid (next hb1 ha2)
  have hc := hp la lc (.slice ka x.kids.length kc) _ (sosR_below hs (next hb1 ha2)) (exsR_below hk (next hb1 ha2))
  unfold PE.val at hc
  have HC := Lib.hid hc
  have HS := Lib.hid hs
  have HT := Lib.hid ht
  have HL := Lib.hid hl
  have HCL := Lib.hid hcl
  clear hb1 h1 ha2 h2 hs hk hp ht hc hl hcl
  unfold PE.val
  go_enter Tryz.func39, Tryz.ntmps39
  go_upto_region 1 with fail
  generalize (W.alloc (.cells #[.int .u8 (x.op : Int), .int .u8 (x.v.k : Int), .int .i64 x.v.n, .string x.v.s, .string x.t, .string x.m, .int .i64 x.n, .slice ka x.kids.length kc] 44)).alloc (.cells exZ 44) = w2 at *
  have hb := HX.out.b (n := 8) rfl
  have ho := HX.out.of
  go_wp2_with fail
  refine HC.out.mono ?_
  rintro e3 w3 ⟨c, rfl, hx3, hb3⟩
  have hok := hx3.ok
  have HX3 := HX.out.later hb3
  have hb := HX3.b (n := 8) rfl
  have HX4 : Hid (Row W.heap.size 44 c (w3.setRow W.heap.size c)) := Lib.hid (HX3.set c)
  have HZ4 : Hid (Row (W.heap.size + 1) 44 exZ (w3.setRow W.heap.size c)) := Lib.hid ((setRow_other _ _ _ _ (by omega)).trans (HZ.out.later hb3))
  have HB4 : Hid (Below W.heap.size W (w3.setRow W.heap.size c)) := Lib.hid (below_setRow' (next HB.out hb3) (Nat.le_refl _) c)
  have HXN : Hid (ExN w2.heap.size (w3.setRow W.heap.size c) c y) := Lib.hid (hx3.set (by have := HX.out.lt; omega))
  have HLT : Hid (W.heap.size + 1 < w2.heap.size) := Lib.hid HZ.out.lt
  clear hx3 hb3 HX3 HC HX HZ HB ho
  go_upto_region 4 with fail
  clear hb hok
  generalize w3.setRow W.heap.size c = w4 at *
  refine wp_region_kip (OnKn l la lc c) 47 rfl (by kernel_rfl) (by kernel_rfl) OnKn.later ?_ ?_
  · intro i hi A A2 hother hbW hd
    match i, hi with
    | 0, hi =>
      have h0 := tmps_at (show A.eval (.tmp 5) = .pointer (some ⟨W.heap.size, 0, none⟩) from hother 5 (by kernel_rfl))
      have hr := HX4.out.later hbW
      have hb := hr.b (n := 8) HXN.out.size
      have ho := hr.of
      clear hother hd hi hr
      exact kip_same rfl (wanted_none rfl) (.agg c) (by simp only [execOp]; go_simp) rfl
    | 1, hi =>
      have h0 := tmps_at (show A.eval (.tmp 0) = .slice la l.length lc from hother 0 (by kernel_rfl))
      clear hother hd hi
      exact kip_same rfl (wanted_none rfl) (.slice la l.length lc) (by simp only [execOp]; go_simp) rfl
    | 2, hi =>
      have h0 := tmps_at ((hd _ rfl ⟨1, .data⟩ (by simp) rfl).eq (.slice la l.length lc) (fun _ h => h) 24 (by kernel_rfl) (by decide))
      have hkk := kindsW l la lc A2 HL.out HCL.out (sosR_below HS.out (HB4.out.trans (hbW.mono HB4.out.size)))
      clear hother hd hi
      refine kip_call rfl (wanted_none rfl) 75 #[.slice la l.length lc] (by simp only [execOp]; go_simp) (hkk.mono ?_)
      rintro e w' ⟨v, rfl, hv, hb⟩
      exact ⟨⟨v, rfl, hv⟩, hb⟩
    | 3, hi =>
      have h0 := tmps_at (show A.eval (.tmp 3) = .bool false from hother 3 (by kernel_rfl))
      clear hother hd hi
      exact kip_same rfl (wanted_none rfl) (.bool false) (by simp only [execOp]; go_simp) rfl
    | 4, hi =>
      have h0 := tmps_at ((hd _ rfl ⟨0, .data⟩ (by simp) rfl).eq (.agg c) (fun _ h => h) 23 (by kernel_rfl) (by decide))
      have h1 := tmps_at ((hd _ rfl ⟨3, .data⟩ (by simp) rfl).eq (.bool false) (fun _ h => h) 26 (by kernel_rfl) (by decide))
      obtain ⟨kv2, hu, h2⟩ := (hd _ rfl ⟨2, .data⟩ (by simp) rfl).get 25 (by kernel_rfl) (by decide)
      have h2 := tmps_at h2
      have htt := HT.out A2 c kv2 ((HXN.out.later hbW).new.here) hu
      clear hother hd hi
      refine kip_call rfl (wanted_none rfl) 74 #[.agg c, kv2, .bool false] (by simp only [execOp]; go_simp) (htt.mono ?_)
      rintro e w' ⟨rfl, hb⟩
      exact ⟨⟨_, rfl, rfl⟩, hb⟩
    | 5, hi =>
      have h0 := tmps_at ((hd _ rfl ⟨4, .data⟩ (by simp) rfl).eq (.tuple #[.int .u8 1, .int .i64 0]) (fun _ h => h) 27 (by kernel_rfl) (by decide))
      clear hother hd hi
      exact kip_same rfl (wanted_none rfl) (.tuple #[.int .u8 1, .int .i64 0]) (by simp only [execOp]; go_simp) rfl
    | 6, hi =>
      have h0 := tmps_at ((hd _ rfl ⟨5, .data⟩ (by simp) rfl).eq (.tuple #[.int .u8 1, .int .i64 0]) (fun _ h => h) 22 (by kernel_rfl) (by decide))
      clear hother hd hi
      exact kip_same rfl (wanted_none rfl) (.int .u8 1) (by simp only [execOp]; go_simp) rfl
    | 7, hi =>
      have h0 := tmps_at ((hd _ rfl ⟨5, .data⟩ (by simp) rfl).eq (.tuple #[.int .u8 1, .int .i64 0]) (fun _ h => h) 22 (by kernel_rfl) (by decide))
      clear hother hd hi
      exact kip_same rfl (wanted_none rfl) (.int .i64 0) (by simp only [execOp]; go_simp) rfl
    | 8, hi =>
      have h0 := tmps_at ((hd _ rfl ⟨6, .data⟩ (by simp) rfl).eq (.int .u8 1) (fun _ h => h) 28 (by kernel_rfl) (by decide))
      clear hother hd hi
      exact kip_same rfl (wanted_none rfl) (.int .u8 1) (by simp only [execOp]; go_simp) rfl
    | 9, hi =>
      have h0 := tmps_at ((hd _ rfl ⟨7, .data⟩ (by simp) rfl).eq (.int .i64 0) (fun _ h => h) 29 (by kernel_rfl) (by decide))
      clear hother hd hi
      exact kip_same rfl (wanted_none rfl) (.int .i64 0) (by simp only [execOp]; go_simp) rfl
    | i + 10, hi => exact absurd hi (by simp)
  intro us W9 hbW hk
  have e6 : us 8 = .int .u8 1 := hk 8 (by decide)
  have e7 : us 9 = .int .i64 0 := hk 9 (by decide)
  have HX9 := Lib.hid (HX4.out.later hbW)
  have HZ9 := Lib.hid (HZ4.out.later hbW)
  have HB9 := Lib.hid (HB4.out.trans (hbW.mono HB4.out.size))
  have HXN9 := Lib.hid (HXN.out.later hbW)
  clear hk hbW HX4 HZ4 HB4 HXN
  simp only [putAll, dstOf, Act.put, List.getElem?_toArray, List.getElem?_cons_zero, List.getElem?_cons_succ, Option.bind_some, List.length_cons, List.length_nil]
  simp only [List.setIfInBounds_toArray, List.set_cons_zero, List.set_cons_succ]
  rw [e6, e7]
  have hb := HX9.out.b (n := 8) HXN9.out.size
  have ho := HX9.out.of
  have hz := HZ9.out.b (n := 8) rfl
  have hok := HXN9.out.ok
  go_wp2_with fail
  exact bodyPost_ret (v := .tuple #[.agg c, .int .i64 0]) (res_ct rfl _ _ (W.heap.size + 1) _ _ _ rfl rfl (HZ9.out.set _) HXN9.out.size) rfl
    ⟨c, rfl, (ExD.set HXN9.out (g := W.heap.size + 1) (by have := HLT.out; omega)).step (Nat.le_refl _) fun b hb _ => ⟨by have := HLT.out; omega, rfl⟩, below_setRow' HB9.out (by omega) _⟩
end Go.Proofs.YtjgkeillmelkoaaGreat.Dt
namespace Go.Proofs.YtjgkeillmelkoaaGreat.Dt
open Go.RowKit Go.Proofs.YtjgkeillmelkoaaGreat.By

/-- What lies there while conditions are gone through. -/
structure CQ (W : World) (v : Value) (done : List PE) (cs : List (List Value)) (w : World) : Prop where
  hb : Below W.heap.size W w
  own : OwnL 44 8 ExR W.heap.size w v done cs
attribute [local go_sem ↓] veilSt_ex veilLd_ex veilBs_ex
attribute [local go_sem] run_exSt run_exNew run_exLd okRow8 Value.oneCell'
set_option maxRecDepth 100000 in
set_option maxHeartbeats 16000000 in
theorem condW (l : List PSo) (la : Option Addr) (lc : Nat) (x y : PE) (va : Option Addr) (vc : Nat) (W : World) (hl : l.length ≤ 1000) (hcl : ∀ y ∈ l, y.2.cols.length ≤ 1000) (hp : PtW l x y) (ht : TyW l y) (hs : SosR W (.slice la l.length lc) l) (hk : ExsR W (.slice va 1 vc) [x]) :
    Calls Tryz.prog 41 #[.slice la l.length lc, .slice va 1 vc] W fun e w' => ∃ v, e = .returned (.tuple #[v, .int .i64 0]) ∧ New W.heap.size w' (fun u => ExsR u v [y]) ∧ Below W.heap.size W w' := by
  have HK := Lib.hid hk
  have HS := Lib.hid hs
  have HONE : Hid (∀ (kv : Value) (w : World), Below W.heap.size W w → ExsR w kv x.kids → Calls Tryz.prog 39 #[.slice la l.length lc, x.val kv, .int .u8 1, .bool false] w fun e w' => ∃ cs, e = .returned (.tuple #[.agg cs, .int .i64 0]) ∧ ExN w.heap.size w' cs y ∧ Below w.heap.size w w') :=
    Lib.hid fun kv w hb hk => oneW l la lc x y kv w hl hcl hp ht (sosR_below hs hb) hk
  clear hk hs hl hcl hp ht
  go_enter Tryz.func41, Tryz.ntmps41
  go_wp2_with fail
  go_loopg [6, 7] 1 (fun gk ov iv wr => ∃ (i : Nat) (cs : List (List Value)), iv = .int .i64 (i : Int) ∧ gk = 1 - i ∧ i ≤ 1 ∧ Hid (CQ W ov ([y].take i) cs wr))
  case atStart => exact ⟨0, [], rfl, rfl, by decide, Lib.hid ⟨Below.refl _ _, OwnL.nil _ _ _ _ _⟩⟩
  case round =>
    obtain ⟨i, cs, rfl, rfl, hi, HQ⟩ := hrel
    obtain ⟨oa, oc, rfl⟩ := HQ.out.own.shape
    match i, hi with
    | 0, _ =>
      obtain ⟨q1, o1, k1, e1, hk1, p0, p1, p2, p3, p4, p5, p6, p7⟩ := exs_at (k := 0) (exsR_below HK.out HQ.out.hb) rfl
      subst e1
      obtain ⟨na, nc, rfl, _⟩ := hk1.shape
      simp only [Nat.zero_mul, Nat.add_zero] at p0 p1 p2 p3 p4 p5 p6 p7
      have hc := HONE.out (.slice na x.kids.length nc) wr HQ.out.hb hk1
      unfold PE.val at hc
      have HC := Lib.hid hc
      have hld := run_exLdAt wr q1 o1 x na nc p0 p1 p2 p3 p4 p5 p6 p7
      have HMW : Hid (∀ k, (Value.slice oa 0 oc).ownBlock = some k → k < wr.heap.size ∧ W.heap.size ≤ k) := Lib.hid (fun k hk => ⟨(World.ownsRow.lt HQ.out.own.own k hk).2, (World.ownsRow.lt HQ.out.own.own k hk).1⟩)
      clear hk1 hc p0 p1 p2 p3 p4 p5 p6 p7
      go_wp2_with fail
      refine HC.out.mono ?_
      rintro e3 w3 ⟨c, rfl, hx3, hb3⟩
      clear HC hld
      have hok := hx3.ok
      have hsz := hx3.size
      have hb4 := (Below.refl _ w3).alloc (Nat.le_refl _) (.cells c 44)
      have HB4 := Lib.hid (next (next HQ.out.hb hb3) hb4)
      have HO4 := Lib.hid ((HQ.out.own.later hb3).later hb4)
      have HX4 := Lib.hid (hx3.later hb4)
      have HR4 := Lib.hid (row_alloc w3 44 c)
      have HLW : Hid (W.heap.size ≤ wr.heap.size) := Lib.hid HQ.out.hb.size
      have HW43 : Hid (wr.heap.size ≤ w3.heap.size) := Lib.hid hb3.size
      clear hb3 hb4 HQ
      go_upto_region 8 with fail
      generalize w3.alloc (.cells c 44) = w4 at *
      generalize w3.heap.size = g at *
      have hrb := HR4.out.b (n := 8) hsz
      have hro := HR4.out.of
      have hbs : (veilBs 32 1 #[(0, .agg c)]).run Tryz.prog w4 = .ok (.slice (some ⟨w4.heap.size, 0, none⟩) 1 1) (w4.alloc (.cells c 44)) := run_bs1 w4 c hsz
      have hb5 := (Below.refl _ w4).alloc (Nat.le_refl _) (.cells c 44)
      have HB5 := Lib.hid (next HB4.out hb5)
      have HO5 := Lib.hid (HO4.out.later hb5)
      have HX5 := Lib.hid (HX4.out.later hb5)
      have HN5 := Lib.hid (row_alloc w4 44 c)
      have HC8 : Hid (c.toList.length = 8) := Lib.hid (by simpa using hsz)
      have HC1 : Hid (∀ u ∈ c.toList, u.oneCell' = true) := Lib.hid (fun u hu => by have h := (okRow_iff.1 hok).2; exact Array.all_eq_true_iff_forall_mem.1 h u (by simpa using hu))
      have HCC : Hid (cs.length = 0) := Lib.hid HO5.out.len
      have HBS : Hid (W.heap.size ≤ (w4.alloc (.cells c 44)).heap.size) := Lib.hid HB5.out.size
      clear hb5 hsz HO4 HX4
      go_upto_region 4 with (at_builtin; refine wpList_append_one rfl (.tmp 28) (.tmp 30) 32 rfl W.heap.size 44 8 104 elEx (.slice oa 0 oc) cs.length cs.flatten rfl HO5.out.own w4.heap.size 1 c.toList rfl HC8.out (fun j u hj => HN5.out.cell (by simpa using hj)) HC1.out (by have := HCC.out; unfold maxLen; omega) (by have := HCC.out; omega) HBS.out ?_; intro v' w9 hown9 hg9 hv9; have HQZ : Hid (CQ W v' ([y].take 1) (cs ++ [c.toList]) w9) := Lib.hid ⟨HB5.out.trans ⟨hg9.os, hg9.tape, hg9.output, hg9.size, fun k hk => hg9.block k (by have h1 := HBS.out; omega) (fun e => by have := (HMW.out _ e.symm).2; omega)⟩, HO5.out.snoc hown9 hg9 hv9 HC8.out HX5.out.new HLW.out (fun k hk => (HMW.out k hk).1)⟩; clear hown9 hg9 hv9; obtain ⟨va', vc', hv'⟩ := HQZ.out.own.shape; subst hv')
      clear hrb hro hbs hok
      go_wp2_with fail
      go_roundg 0
      case measure => exact Nat.zero_lt_one
      case rel => exact ⟨1, _, rfl, rfl, by decide, HQZ⟩
    | 1, _ =>
      go_wp2_with fail
      go_ret2
      exact ⟨_, rfl, HQ.out.own.done, HQ.out.hb⟩
    | n + 2, hi => exact absurd hi (by omega)
end Go.Proofs.YtjgkeillmelkoaaGreat.Dt
