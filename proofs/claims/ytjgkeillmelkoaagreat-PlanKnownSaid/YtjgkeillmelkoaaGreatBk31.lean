import Derived.Test.YtjgkeillmelkoaaGreatBk30
namespace Go.Proofs.YtjgkeillmelkoaaGreat.Dt
open Go.RowKit Go.Proofs.YtjgkeillmelkoaaGreat.By
theorem op_call' {P : Program} {ops : Array Oper} {Q : Exit → Act → World → Prop} {i : Nat} {a : Act} {w : World} {o : Oper} {K : Act → World → Prop} (ho : ops[i]? = some o) (hg : o.guard = none) (f : FuncId) (args : Array Value) (hrun : (execOp a.eval o).run P w = .ok (.enter f args) w)
    (hc : Calls P f args w fun e w' => ∃ v, e = .returned v ∧ K (a.put (dstOf ops i) v) w') : wpOp P ops Q i K a w := by
  unfold wpOp
  simp only [ho]
  rw [if_pos (by unfold Region.wanted; rw [hg])]
  refine .inl ?_
  unfold Oper.wp
  rw [hrun, Oper.upon_enter]
  refine hc.mono ?_
  rintro e w' ⟨v, rfl, hp⟩
  unfold dstOf at hp
  rw [ho] at hp
  exact hp
/-- What is known while 'x, _ := Resolve(small(), l[0])' is on its way. -/
structure RsJ (st : PSt) (w3 : World) (m : Nat) (la p : Value) (cs : List Value) (dn : Nat → Bool) (us : Nat → Value) (w : World) : Prop where
  hb : Below w3.heap.size w3 w
  k0 : dn 0 = true → dn 9 = false → CatR w (us 0) [smallT]
  k1 : dn 1 = true → us 1 = la
  k2 : dn 2 = true → us 2 = p
  k3 : dn 3 = true → us 3 = .agg cs.toArray
  k4 : dn 4 = true → ∃ (c : Array Value) (n e : Nat), us 4 = .tuple #[.agg c, .int .i64 0] ∧ okRow 16 c = true ∧ (dn 5 = true → us 5 = .tuple #[.agg c, .int .i64 0]) ∧ (dn 6 = true → us 6 = .agg c) ∧ (dn 7 = true → us 7 = .int .i64 0) ∧ (dn 10 = true → us 10 = .int .i64 0) ∧
    m ≤ n ∧ e ≤ w.heap.size ∧ Dep (fun b => n ≤ b ∧ b < e) w (fun u => StR u c.toList st) ∧ (dn 8 = true → ∃ g, us 8 = .pointer (some ⟨g, 0, none⟩) ∧ ¬ (n ≤ g ∧ g < e) ∧ (dn 9 = true → Row g 35 c w))
  k8 : dn 8 = true → ∃ g, us 8 = .pointer (some ⟨g, 0, none⟩) ∧ w3.heap.size ≤ g ∧ g < w.heap.size ∧ (dn 9 = false → Row g 35 stZ w)
theorem upd_ne {dn : Nat → Bool} {i j : Nat} (h : j ≠ i) : upd dn i j = dn j := by unfold upd; simp [h]
theorem upd_eq {dn : Nat → Bool} {i : Nat} : upd dn i i = true := by unfold upd; simp
theorem ne_true {b : Bool} (h : b = false) : ¬ b = true := by rw [h]; exact fun e => by cases e
section
variable {st : PSt} {w3 w w' : World} {m : Nat} {la p v : Value} {cs : List Value} {dn : Nat → Bool} {us : Nat → Value}
theorem RsJ.k4' (h : RsJ st w3 m la p cs dn us w) (hb : Below w.heap.size w w') (h4 : dn 4 = true) : ∃ (c : Array Value) (n e : Nat), us 4 = .tuple #[.agg c, .int .i64 0] ∧ okRow 16 c = true ∧ (dn 5 = true → us 5 = .tuple #[.agg c, .int .i64 0]) ∧ (dn 6 = true → us 6 = .agg c) ∧ (dn 7 = true → us 7 = .int .i64 0) ∧ (dn 10 = true → us 10 = .int .i64 0) ∧
    m ≤ n ∧ e ≤ w'.heap.size ∧ e ≤ w.heap.size ∧ Dep (fun b => n ≤ b ∧ b < e) w' (fun u => StR u c.toList st) ∧ (dn 8 = true → ∃ g, us 8 = .pointer (some ⟨g, 0, none⟩) ∧ ¬ (n ≤ g ∧ g < e) ∧ (dn 9 = true → Row g 35 c w')) := by
  obtain ⟨c, n, e, a1, a2, a3, a4, a5, a6, a7, a8, a9, a10⟩ := h.k4 h4
  exact ⟨c, n, e, a1, a2, a3, a4, a5, a6, a7, Nat.le_trans a8 hb.size, a8, a9.step hb.size fun b h1 h2 => ⟨h1, hb.block b h2⟩, fun h8 => by
    obtain ⟨g, b1, b2, b3⟩ := a10 h8
    exact ⟨g, b1, b2, fun h9 => (b3 h9).later hb⟩⟩
theorem RsJ.k8' (h : RsJ st w3 m la p cs dn us w) (hb : Below w.heap.size w w') (h8 : dn 8 = true) : ∃ g, us 8 = .pointer (some ⟨g, 0, none⟩) ∧ w3.heap.size ≤ g ∧ g < w'.heap.size ∧ (dn 9 = false → Row g 35 stZ w') := by
  obtain ⟨g, b1, b2, b3, b4⟩ := h.k8 h8
  exact ⟨g, b1, b2, Nat.lt_of_lt_of_le b3 hb.size, fun h9 => (b4 h9).later hb⟩
/-- One of the first four is done. -/
theorem RsJ.one (h : RsJ st w3 m la p cs dn us w) (hb : Below w.heap.size w w') (i : Nat) (hi : i < 4) (h0 : i = 0 → CatR w' v [smallT]) (h1 : i = 1 → v = la) (h2 : i = 2 → v = p) (h3 : i = 3 → v = .agg cs.toArray) : RsJ st w3 m la p cs (upd dn i) (fun j => if j = i then v else us j) w' := by
  have q4 : (4 : Nat) ≠ i := by omega
  have q5 : (5 : Nat) ≠ i := by omega
  have q6 : (6 : Nat) ≠ i := by omega
  have q7 : (7 : Nat) ≠ i := by omega
  have q8 : (8 : Nat) ≠ i := by omega
  have q9 : (9 : Nat) ≠ i := by omega
  have q10 : (10 : Nat) ≠ i := by omega
  refine ⟨h.hb.trans (hb.mono h.hb.size), fun e e9 => ?_, fun e => ?_, fun e => ?_, fun e => ?_, fun e => ?_, fun e => ?_⟩
  · by_cases hz : (0 : Nat) = i
    · rw [if_pos hz]; exact h0 hz.symm
    · rw [if_neg hz]; rw [upd_ne hz] at e; rw [upd_ne q9] at e9; exact catR_below (h.k0 e e9) hb
  · by_cases hz : (1 : Nat) = i
    · rw [if_pos hz]; exact h1 hz.symm
    · rw [if_neg hz]; rw [upd_ne hz] at e; exact h.k1 e
  · by_cases hz : (2 : Nat) = i
    · rw [if_pos hz]; exact h2 hz.symm
    · rw [if_neg hz]; rw [upd_ne hz] at e; exact h.k2 e
  · by_cases hz : (3 : Nat) = i
    · rw [if_pos hz]; exact h3 hz.symm
    · rw [if_neg hz]; rw [upd_ne hz] at e; exact h.k3 e
  · rw [upd_ne q4] at e
    rw [if_neg q4, if_neg q5, if_neg q6, if_neg q7, if_neg q8, if_neg q10, upd_ne q5, upd_ne q6, upd_ne q7, upd_ne q8, upd_ne q9, upd_ne q10]
    obtain ⟨c, n, x, a1, a2, a3, a4, a5, a6, a7, a8, _, a9, a10⟩ := h.k4' hb e
    exact ⟨c, n, x, a1, a2, a3, a4, a5, a6, a7, a8, a9, a10⟩
  · rw [upd_ne q8] at e
    rw [if_neg q8, upd_ne q9]
    exact h.k8' hb e
end
attribute [local go_sem ↓] veilSt_sm veilLd_sm
attribute [local go_sem] run_smSt run_smNew run_smLd okRow16 Value.oneCell'
theorem okRow_st {w : World} {c : Array Value} {st : PSt} (h : StR w c.toList st) : okRow 16 c = true := by
  obtain ⟨h1, h2⟩ := stCells _ _ _ h
  exact okRow_iff.2 ⟨by simpa using h1, Array.all_eq_true_iff_forall_mem.2 fun v hv => h2 v (by simpa using hv)⟩
set_option maxRecDepth 100000 in
set_option maxHeartbeats 16000000 in
theorem resolvedW {R : World → List Value → PSt → Prop} (s : ByteArray) (stS st : PSt) (w : World)
    (hread : ∀ W, Calls Tryz.prog 21 #[.string s] W fun e w' => ∃ v, e = .returned (.tuple #[v, .agg #[.int .i64 0, .int .i64 0]]) ∧ New W.heap.size w' (fun u => SlR 16 R u v [stS]) ∧ Below W.heap.size W w')
    (hres : ∀ (v : Value) (cs : List Value) (W : World), CatR W v [smallT] → R W cs stS → Calls Tryz.prog 22 #[v, .agg cs.toArray] W fun e w' => ∃ c, e = .returned (.tuple #[.agg c, .int .i64 0]) ∧ New W.heap.size w' (fun u => StR u c.toList st) ∧ Below W.heap.size W w')
    (hst : ∀ (W W' : World) (cs : List Value), R W cs stS → Below W.heap.size W W' → R W' cs stS) :
    Calls Tryz.prog 6 #[.string s] w fun e w' => ∃ c, e = .returned (.agg c) ∧ New w.heap.size w' (fun u => StR u c.toList st) ∧ Below w.heap.size w w' := by
  have hb1 := (Below.refl _ w).alloc (Nat.le_refl _) (.cells stZ 35)
  have HZ := Lib.hid (row_alloc w 35 stZ)
  have HB := Lib.hid hb1
  have HC := Lib.hid (hread (w.alloc (.cells stZ 35)))
  have HRES := Lib.hid hres
  have HSTB := Lib.hid hst
  clear hb1 hread hres hst
  go_enter Tryz.func6, Tryz.ntmps6
  go_upto_region 1 with fail
  generalize w.alloc (.cells stZ 35) = w1 at *
  go_wp2_with fail
  refine HC.out.mono ?_
  rintro e2 w2 ⟨v, rfl, hv, hb2⟩
  obtain ⟨va, vc, rfl, _⟩ := hv.here.shape
  obtain ⟨b, o, cs, rfl, hc16, hst, hce⟩ := SlR.get (k := 0) hv.here rfl
  have hb3 := (Below.refl _ w2).alloc (Nat.le_refl _) (.cells #[.int .i64 0, .int .i64 0] 70)
  have HZ3 := Lib.hid ((HZ.out.later hb2).later hb3)
  have HB3 := Lib.hid (next (next HB.out hb2) hb3)
  have HLT : Hid (w.heap.size < w1.heap.size) := Lib.hid HZ.out.lt
  clear hv hb2 HC HZ HB
  have HST : Hid (R (w2.alloc (.cells #[.int .i64 0, .int .i64 0] 70)) cs stS) := Lib.hid (HSTB.out _ _ _ hst hb3)
  have HCE : Hid (∀ (j : Nat) (u : Value), cs[j]? = some u → (w2.alloc (.cells #[.int .i64 0, .int .i64 0] 70)).cell? ⟨b, o + j, none⟩ = some u) := Lib.hid fun j u hj => by have h := hce j u hj; simp only [Nat.zero_mul, Nat.add_zero] at h; exact (hb3.cell (cell_lt h)).trans h
  clear hst hce hb3
  go_upto_region 4 with fail
  generalize w2.alloc (.cells #[.int .i64 0, .int .i64 0] 70) = w3 at *
  refine wp_region_all' (RsJ st w3 w3.heap.size (.slice (some ⟨b, o, none⟩) 1 vc) (.pointer (some ⟨b, o, none⟩)) cs) 25 rfl (by kernel_rfl) (by kernel_rfl) ?_ ?_ ?_
  · intro us _
    exact ⟨(Below.refl _ _).drew, (fun h => by cases h), (fun h => by cases h), (fun h => by cases h), (fun h => by cases h), (fun h => by cases h), (fun h => by cases h)⟩
  · intro i hi dn us A A2 hother hat hJ hi0 hcl hd
    match i, hi with
    | 0, hi =>
      refine op_call' rfl rfl 7 #[] (by simp only [execOp]; go_simp) ((smallL A2).mono ?_)
      rintro e w' ⟨v, rfl, hv, hb⟩
      exact ⟨v, rfl, v, rfl, hJ.one hb 0 (by decide) (fun _ => hv.here) (fun h => by cases h) (fun h => by cases h) (fun h => by cases h)⟩
    | 1, hi =>
      have h0 := tmps_at (show A.eval (.tmp 3) = .slice (some ⟨b, o, none⟩) 1 vc from hother 3 (by kernel_rfl))
      refine op_val rfl rfl (.slice (some ⟨b, o, none⟩) 1 vc) A2 (by simp only [execOp]; go_simp) ?_
      exact ⟨_, rfl, hJ.one (Below.refl _ _) 1 (by decide) (fun h => by cases h) (fun _ => rfl) (fun h => by cases h) (fun h => by cases h)⟩
    | 2, hi =>
      have h0 := tmps_at ((hat 1 18 (by decide) (by kernel_rfl) (by decide)).trans (hJ.k1 (hd _ rfl ⟨1, .data⟩ (by simp) rfl)))
      refine op_val rfl rfl (.pointer (some ⟨b, o, none⟩)) A2 (by simp only [execOp]; go_simp) ?_
      exact ⟨_, rfl, hJ.one (Below.refl _ _) 2 (by decide) (fun h => by cases h) (fun h => by cases h) (fun _ => rfl) (fun h => by cases h)⟩
    | 3, hi =>
      have h0 := tmps_at ((hat 2 19 (by decide) (by kernel_rfl) (by decide)).trans (hJ.k2 (hd _ rfl ⟨2, .data⟩ (by simp) rfl)))
      have hld := run_smLdAt2 A2 b o cs hc16 (fun j u hj => (hJ.hb.cell (cell_lt (HCE.out j u hj))).trans (HCE.out j u hj))
      refine op_val rfl rfl (.agg cs.toArray) A2 (by simp only [execOp]; go_simp) ?_
      exact ⟨_, rfl, hJ.one (Below.refl _ _) 3 (by decide) (fun h => by cases h) (fun h => by cases h) (fun h => by cases h) (fun _ => rfl)⟩
    | 4, hi =>
      have h9 : dn 9 = false := by
        cases h : dn 9 with
        | false => rfl
        | true => exact absurd (hcl 9 _ rfl h ⟨4, .chain⟩ (by simp) rfl) (ne_true hi0)
      have h0 := tmps_at (hat 0 17 (by decide) (by kernel_rfl) (by decide))
      have h1 := tmps_at ((hat 3 20 (by decide) (by kernel_rfl) (by decide)).trans (hJ.k3 (hd _ rfl ⟨3, .data⟩ (by simp) rfl)))
      have hr := HRES.out (us 0) cs A2 (hJ.k0 (hd _ rfl ⟨0, .data⟩ (by simp) rfl) h9) (HSTB.out _ _ _ HST.out hJ.hb)
      refine op_call' rfl rfl 22 #[us 0, .agg cs.toArray] (by simp only [execOp]; go_simp) (hr.mono ?_)
      rintro e w' ⟨c, rfl, hv, hb⟩
      refine ⟨_, rfl, _, rfl, hJ.hb.trans (hb.mono hJ.hb.size), fun e _ => catR_below (hJ.k0 (by simpa [upd] using e) h9) hb, fun e => hJ.k1 (by simpa [upd] using e), fun e => hJ.k2 (by simpa [upd] using e), fun e => hJ.k3 (by simpa [upd] using e), fun _ => ?_, fun e => by simpa [upd, h9] using hJ.k8' hb (by simpa [upd] using e)⟩
      have hd5 : dn 5 = false := by
        cases h : dn 5 with
        | false => rfl
        | true => exact absurd (hcl 5 _ rfl h ⟨4, .data⟩ (by simp) rfl) (ne_true hi0)
      have hd6 : dn 6 = false := by
        cases h : dn 6 with
        | false => rfl
        | true => exact absurd (hcl 6 _ rfl h ⟨5, .data⟩ (by simp) rfl) (ne_true hd5)
      have hd7 : dn 7 = false := by
        cases h : dn 7 with
        | false => rfl
        | true => exact absurd (hcl 7 _ rfl h ⟨5, .data⟩ (by simp) rfl) (ne_true hd5)
      have hd10 : dn 10 = false := by
        cases h : dn 10 with
        | false => rfl
        | true => exact absurd (hcl 10 _ rfl h ⟨7, .data⟩ (by simp) rfl) (ne_true hd7)
      refine ⟨c, A2.heap.size, w'.heap.size, rfl, okRow_st hv.here, fun e => by simp [upd, hd5] at e, fun e => by simp [upd, hd6] at e, fun e => by simp [upd, hd7] at e, fun e => by simp [upd, hd10] at e, hJ.hb.size, Nat.le_refl _, Dep.sub hv fun b h1 h2 => ⟨h1, h2⟩, fun e => ?_⟩
      obtain ⟨g, b1, b2, b3, b4⟩ := hJ.k8 (by simpa [upd] using e)
      exact ⟨g, b1, by omega, fun e => by simp [upd, h9] at e⟩
    | 5, hi =>
      have h9 : dn 9 = false := by
        cases h : dn 9 with
        | false => rfl
        | true => exact absurd (hcl 9 _ rfl h ⟨5, .phase⟩ (by simp) rfl) (ne_true hi0)
      have hd4 : dn 4 = true := hd _ rfl ⟨4, .data⟩ (by simp) rfl
      obtain ⟨c, n, e, a1, a2, a3, a4, a5, a6, a7, a8, _, a9, a10⟩ := hJ.k4' (Below.refl _ _) hd4
      have h0 := tmps_at ((hat 4 21 (by decide) (by kernel_rfl) (by decide)).trans a1)
      refine op_val rfl rfl (.tuple #[.agg c, .int .i64 0]) A2 (by simp only [execOp]; go_simp) ?_
      refine ⟨_, rfl, hJ.hb, fun e f => hJ.k0 (by simpa [upd] using e) h9, fun e => hJ.k1 (by simpa [upd] using e), fun e => hJ.k2 (by simpa [upd] using e), fun e => hJ.k3 (by simpa [upd] using e), fun _ => ?_, fun e => by simpa [upd, h9] using hJ.k8' (Below.refl _ _) (by simpa [upd] using e)⟩
      exact ⟨c, n, e, a1, a2, fun _ => rfl, fun e => a4 (by simpa [upd] using e), fun e => a5 (by simpa [upd] using e), fun e => a6 (by simpa [upd] using e), a7, a8, a9, fun e => by simpa [upd, h9] using a10 (by simpa [upd] using e)⟩
    | 6, hi =>
      have h9 : dn 9 = false := by
        cases h : dn 9 with
        | false => rfl
        | true => exact absurd (hcl 9 _ rfl h ⟨6, .data⟩ (by simp) rfl) (ne_true hi0)
      have hd5 : dn 5 = true := hd _ rfl ⟨5, .data⟩ (by simp) rfl
      have hd4 : dn 4 = true := hcl 5 _ rfl hd5 ⟨4, .data⟩ (by simp) rfl
      obtain ⟨c, n, e, a1, a2, a3, a4, a5, a6, a7, a8, _, a9, a10⟩ := hJ.k4' (Below.refl _ _) hd4
      have h0 := tmps_at ((hat 5 16 (by decide) (by kernel_rfl) (by decide)).trans (a3 hd5))
      refine op_val rfl rfl (.agg c) A2 (by simp only [execOp]; go_simp) ?_
      refine ⟨_, rfl, hJ.hb, fun e f => hJ.k0 (by simpa [upd] using e) h9, fun e => hJ.k1 (by simpa [upd] using e), fun e => hJ.k2 (by simpa [upd] using e), fun e => hJ.k3 (by simpa [upd] using e), fun _ => ?_, fun e => by simpa [upd, h9] using hJ.k8' (Below.refl _ _) (by simpa [upd] using e)⟩
      exact ⟨c, n, e, a1, a2, fun _ => a3 hd5, fun _ => rfl, fun e => a5 (by simpa [upd] using e), fun e => a6 (by simpa [upd] using e), a7, a8, a9, fun e => by simpa [upd, h9] using a10 (by simpa [upd] using e)⟩
    | 7, hi =>
      have hd5 : dn 5 = true := hd _ rfl ⟨5, .data⟩ (by simp) rfl
      have hd4 : dn 4 = true := hcl 5 _ rfl hd5 ⟨4, .data⟩ (by simp) rfl
      obtain ⟨c, n, e, a1, a2, a3, a4, a5, a6, a7, a8, _, a9, a10⟩ := hJ.k4' (Below.refl _ _) hd4
      have h0 := tmps_at ((hat 5 16 (by decide) (by kernel_rfl) (by decide)).trans (a3 hd5))
      refine op_val rfl rfl (.int .i64 0) A2 (by simp only [execOp]; go_simp) ?_
      refine ⟨_, rfl, hJ.hb, fun e f => hJ.k0 (by simpa [upd] using e) (by simpa [upd] using f), fun e => hJ.k1 (by simpa [upd] using e), fun e => hJ.k2 (by simpa [upd] using e), fun e => hJ.k3 (by simpa [upd] using e), fun _ => ?_, fun e => by simpa [upd] using hJ.k8' (Below.refl _ _) (by simpa [upd] using e)⟩
      exact ⟨c, n, e, a1, a2, fun _ => a3 hd5, fun e => a4 (by simpa [upd] using e), fun _ => rfl, fun e => a6 (by simpa [upd] using e), a7, a8, a9, fun e => by simpa [upd] using a10 (by simpa [upd] using e)⟩
    | 8, hi =>
      have h9 : dn 9 = false := by
        cases h : dn 9 with
        | false => rfl
        | true => exact absurd (hcl 9 _ rfl h ⟨8, .data⟩ (by simp) rfl) (ne_true hi0)
      have hb : Below A2.heap.size A2 (A2.alloc (.cells stZ 35)) := (Below.refl _ _).alloc (Nat.le_refl _) _
      refine op_val rfl rfl (.pointer (some ⟨A2.heap.size, 0, none⟩)) (A2.alloc (.cells stZ 35)) (by simp only [execOp]; go_simp) ?_
      refine ⟨_, rfl, hJ.hb.trans (hb.mono hJ.hb.size), fun e f => catR_below (hJ.k0 (by simpa [upd] using e) h9) hb, fun e => hJ.k1 (by simpa [upd] using e), fun e => hJ.k2 (by simpa [upd] using e), fun e => hJ.k3 (by simpa [upd] using e), fun e => ?_, fun e => ⟨_, rfl, hJ.hb.size, by simp, fun _ => row_alloc _ _ _⟩⟩
      obtain ⟨c, n, e, a1, a2, a3, a4, a5, a6, a7, a8, a8', a9, a10⟩ := hJ.k4' hb (by simpa [upd] using e)
      exact ⟨c, n, e, a1, a2, fun e => a3 (by simpa [upd] using e), fun e => a4 (by simpa [upd] using e), fun e => a5 (by simpa [upd] using e), fun e => a6 (by simpa [upd] using e), a7, a8, a9, fun _ => ⟨_, rfl, by omega, fun e => by simp [upd, h9] at e⟩⟩
    | 9, hi =>
      have hd8 : dn 8 = true := hd _ rfl ⟨8, .data⟩ (by simp) rfl
      have hd6 : dn 6 = true := hd _ rfl ⟨6, .data⟩ (by simp) rfl
      have hd4 : dn 4 = true := hd _ rfl ⟨4, .chain⟩ (by simp) rfl
      obtain ⟨c, n, e, a1, a2, a3, a4, a5, a6, a7, a8, a9, a10⟩ := hJ.k4 hd4
      obtain ⟨g, b1, b2, b3⟩ := a10 hd8
      obtain ⟨g', d1, d2, d3, d4⟩ := hJ.k8 hd8
      obtain rfl : g = g' := by rw [b1] at d1; simpa using d1
      have hrow := d4 hi0
      have h0 := tmps_at ((hat 8 5 (by decide) (by kernel_rfl) (by decide)).trans b1)
      have h1 := tmps_at ((hat 6 22 (by decide) (by kernel_rfl) (by decide)).trans (a4 hd6))
      have hrb := hrow.b (n := 16) rfl
      refine op_skip rfl rfl (A2.setRow g c) (by simp only [execOp]; go_simp) ?_
      refine ⟨_, rfl, below_setRow' hJ.hb d2 c, fun e f => by simp [upd] at f, fun e => hJ.k1 (by simpa [upd] using e), fun e => hJ.k2 (by simpa [upd] using e), fun e => hJ.k3 (by simpa [upd] using e), fun _ => ?_, fun _ => ⟨g, b1, d2, by simpa using d3, fun e => by simp [upd] at e⟩⟩
      exact ⟨c, n, e, a1, a2, fun e => a3 (by simpa [upd] using e), fun e => a4 (by simpa [upd] using e), fun e => a5 (by simpa [upd] using e), fun e => a6 (by simpa [upd] using e), a7, by simpa using a8, a9.step (by simp) (fun b h1 h2 => ⟨h1, setRow_other _ _ _ _ (fun e => b2 (e ▸ h1))⟩), fun _ => ⟨g, b1, b2, fun _ => hrow.set c⟩⟩
    | 10, hi =>
      have hd7 : dn 7 = true := hd _ rfl ⟨7, .data⟩ (by simp) rfl
      have hd5 : dn 5 = true := hcl 7 _ rfl hd7 ⟨5, .data⟩ (by simp) rfl
      have hd4 : dn 4 = true := hcl 5 _ rfl hd5 ⟨4, .data⟩ (by simp) rfl
      obtain ⟨c, n, e, a1, a2, a3, a4, a5, a6, a7, a8, _, a9, a10⟩ := hJ.k4' (Below.refl _ _) hd4
      have h0 := tmps_at ((hat 7 23 (by decide) (by kernel_rfl) (by decide)).trans (a5 hd7))
      refine op_val rfl rfl (.int .i64 0) A2 (by simp only [execOp]; go_simp) ?_
      refine ⟨_, rfl, hJ.hb, fun e f => hJ.k0 (by simpa [upd] using e) (by simpa [upd] using f), fun e => hJ.k1 (by simpa [upd] using e), fun e => hJ.k2 (by simpa [upd] using e), fun e => hJ.k3 (by simpa [upd] using e), fun _ => ?_, fun e => by simpa [upd] using hJ.k8' (Below.refl _ _) (by simpa [upd] using e)⟩
      exact ⟨c, n, e, a1, a2, fun _ => a3 hd5, fun e => a4 (by simpa [upd] using e), fun _ => a5 hd7, fun _ => rfl, a7, a8, a9, fun e => by simpa [upd] using a10 (by simpa [upd] using e)⟩
    | i + 11, hi => exact absurd hi (by simp)
  intro dn us w4 hall hJ
  obtain ⟨c, n, e, a1, a2, a3, a4, a5, a6, a7, a8, a9, a10⟩ := hJ.k4 (hall 4 (by decide))
  obtain ⟨g, b1, b2, b3⟩ := a10 (hall 8 (by decide))
  obtain ⟨g', d1, d2, _⟩ := hJ.k8 (hall 8 (by decide))
  obtain rfl : g = g' := by rw [b1] at d1; simpa using d1
  have e8 := b1
  have e10 := a6 (hall 10 (by decide))
  have HG := Lib.hid (b3 (hall 9 (by decide)))
  have HZ4 := Lib.hid (HZ3.out.later hJ.hb)
  have HB4 := Lib.hid (HB3.out.trans (hJ.hb.mono HB3.out.size))
  have HD : Hid (New (w.heap.size + 1) w4 fun u => StR u c.toList st) := Lib.hid (Dep.sub a9 fun b h1 _ => by have := HZ3.out.lt; have := h1.1; omega)
  have HOK := a2
  have HNE : Hid (w.heap.size < g) := Lib.hid (by have := HZ3.out.lt; omega)
  clear a1 a2 a3 a4 a5 a6 a7 a8 a9 a10 b1 b2 b3 d1 d2 hall hJ
  simp only [putAll, dstOf, Act.put, List.getElem?_toArray, List.getElem?_cons_zero, List.getElem?_cons_succ, Option.bind_some, List.length_cons, List.length_nil]
  simp only [List.setIfInBounds_toArray, List.set_cons_zero, List.set_cons_succ]
  rw [e8, e10]
  have hsz := (okRow_iff.1 HOK).1
  have hb := HG.out.b (n := 16) hsz
  have ho := HG.out.of
  have hz := HZ4.out.b (n := 16) rfl
  go_wp2_with fail
  exact bodyPost_ret (v := .agg c) (res_row rfl sm_struct sm_size _ _ w.heap.size _ _ rfl (HZ4.out.set _) hsz) rfl
    ⟨c, rfl, HD.out.step (by simp) fun b hb _ => ⟨Nat.le_of_succ_le hb, setRow_other _ _ _ _ (by omega)⟩, below_setRow' HB4.out (Nat.le_refl _) _⟩
theorem stR_below {w w' : World} {cs : List Value} {s : PSt} (h : StR w cs s) (hb : Below w.heap.size w w') : StR w' cs s := by
  obtain ⟨c4, c5, c6, c7, c8, c9, c10, c11, c12, c13, c14, e, h4, h5, h6, h7, h8, h9, h10, h11, h12, h13, h14⟩ := h
  refine ⟨c4, c5, c6, c7, c8, c9, c10, c11, c12, c13, c14, e, colsR_below h4 hb, slR_below (fun _ _ _ _ h _ => h) h5 hb, slR_below (fun _ _ _ _ h _ => h) h6 hb, slR_below (fun _ _ _ _ h hb => ?_) h7 hb, slR_below (fun _ _ _ _ h hb => ?_) h8 hb, slR_below (fun _ _ _ _ h hb => ?_) h9 hb,
    slR_below (fun _ _ _ _ h hb => ?_) h10 hb, exsR_below h11 hb, exsR_below h12 hb, exsR_below h13 hb, slR_below (fun _ _ _ _ h hb => ?_) h14 hb⟩
  · obtain ⟨v, e, h⟩ := h; exact ⟨v, e, exsR_below h hb⟩
  · obtain ⟨v, e, h⟩ := h; exact ⟨v, e, exR_below h hb⟩
  · obtain ⟨v, e, h⟩ := h; exact ⟨v, e, exR_below h hb⟩
  · obtain ⟨v, e, h⟩ := h; exact ⟨v, e, exsR_below h hb⟩
  · obtain ⟨v, e, h⟩ := h; exact ⟨v, e, exR_below h hb⟩
def st1 : PSt := { kind := 7, table := ⟨#[116]⟩, wh := [px1] }
theorem resolved1 (w : World) : Calls Tryz.prog 6 #[.string tx1T] w fun e w' => ∃ c, e = .returned (.agg c) ∧ New w.heap.size w' (fun u => StR u c.toList st1) ∧ Below w.heap.size w w' :=
  resolvedW tx1T tx1S st1 w tx1_read resolve1 fun _ _ _ h hb => stR_below h hb
end Go.Proofs.YtjgkeillmelkoaaGreat.Dt
