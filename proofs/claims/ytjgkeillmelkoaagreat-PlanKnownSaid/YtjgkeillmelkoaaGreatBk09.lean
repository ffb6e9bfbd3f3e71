import Derived.Deep.DeepCutAuto
import Derived.Test.YtjgkeillmelkoaaGreatBk08
import Derived.Test.YtjgkeillmelkoaaGreatBk03
namespace Go.Proofs.YtjgkeillmelkoaaGreat.Dt
open Go.RowKit Go.Proofs.YtjgkeillmelkoaaGreat.By

mutual
/-- The parts of an expression, of a row of them. -/
def partsE : PE → List PE
  | .mk op v t m n kids => if op = 18 then partsL kids else [.mk op v t m n kids]
def partsL : List PE → List PE
  | [] => []
  | x :: l => partsE x ++ partsL l
end
mutual
/-- How many nodes they have. -/
def cntE : PE → Nat
  | .mk _ _ _ _ _ kids => cntL kids + 1
def cntL : List PE → Nat
  | [] => 0
  | x :: l => cntE x + cntL l
end
mutual
theorem parts_cnt : ∀ x : PE, (partsE x).length ≤ cntE x
  | .mk op v t m n kids => by
    rw [partsE, cntE]
    split
    · exact Nat.le_succ_of_le (parts_cntL kids)
    · show 1 ≤ _; omega
theorem parts_cntL : ∀ l : List PE, (partsL l).length ≤ cntL l
  | [] => by rw [partsL, cntL]; exact Nat.le_refl 0
  | x :: l => by
    rw [partsL, cntL, List.length_append]
    exact Nat.add_le_add (parts_cnt x) (parts_cntL l)
end
theorem partsE_and {x : PE} (h : x.op = 18) : partsE x = partsL x.kids := by
  obtain ⟨op, v, t, m, n, kids⟩ := x
  change op = 18 at h
  rw [partsE, if_pos h]; rfl
theorem partsE_not {x : PE} (h : x.op ≠ 18) : partsE x = [x] := by
  obtain ⟨op, v, t, m, n, kids⟩ := x
  change op ≠ 18 at h
  rw [partsE, if_neg h]
theorem cnt_kids (x : PE) : cntE x = cntL x.kids + 1 := by
  obtain ⟨op, v, t, m, n, kids⟩ := x
  rw [cntE]; rfl
theorem partsL_app : ∀ a b : List PE, partsL (a ++ b) = partsL a ++ partsL b
  | [], b => by rw [partsL]; rfl
  | x :: a, b => by rw [List.cons_append, partsL, partsL, partsL_app a b, List.append_assoc]
theorem partsL_one (x : PE) : partsL [x] = partsE x := by rw [partsL, partsL, List.append_nil]
theorem cntL_app : ∀ a b : List PE, cntL (a ++ b) = cntL a + cntL b
  | [], b => by rw [cntL]; simp
  | x :: a, b => by rw [List.cons_append, cntL, cntL, cntL_app a b]; omega
theorem cnt_take (l : List PE) (i : Nat) : cntL (l.take i) + cntL (l.drop i) = cntL l := by rw [← cntL_app, List.take_append_drop]
theorem cnt_mem {x : PE} : ∀ {l : List PE}, x ∈ l → cntE x ≤ cntL l
  | y :: l, h => by
    rw [cntL]
    rcases List.mem_cons.1 h with rfl | h
    · omega
    · have := cnt_mem h; omega
theorem parts_next {l : List PE} {i : Nat} {x : PE} (h : l[i]? = some x) : partsL (l.take (i + 1)) = partsL (l.take i) ++ partsE x := by
  rw [List.take_add_one, h, Option.toList_some, partsL_app, partsL_one]
theorem cnt_next {l : List PE} {i : Nat} {x : PE} (h : l[i]? = some x) : cntL (l.take i) + cntE x ≤ cntL l := by
  have h1 := cnt_take l (i + 1)
  rw [List.take_add_one, h, Option.toList_some, cntL_app] at h1
  have h2 : cntL [x] = cntE x := by rw [cntL, cntL]; omega
  omega
theorem parts_room {l : List PE} {i : Nat} {x : PE} (h : l[i]? = some x) (hc : cntL l ≤ 1000000) : (partsL (l.take i)).length + (partsE x).length ≤ 1000000000 ∧ (partsL (l.take i)).length + 1 ≤ 1000000000 := by
  have h1 := cnt_next h
  have h2 := parts_cntL (l.take i)
  have h3 := parts_cnt x
  omega
attribute [local go_sem ↓] veilSt_ex veilLd_ex veilBs_ex
attribute [local go_sem] run_exSt run_exNew run_exLd okRow8 Value.oneCell'
set_option maxRecDepth 100000 in
set_option maxHeartbeats 16000000 in
theorem partsW1 (l : List PE) (va : Option Addr) (vc : Nat) (w0 w : World) (hb : Below w0.heap.size w0 w) (h : ExsR w0 (.slice va l.length vc) l) (hc : cntL l ≤ 1000000)
    (H : ∀ x, x ∈ l → x.op = 18 → ∀ (kv : Value) (W : World), Below w0.heap.size w0 W → ExsR w0 kv x.kids → Calls Tryz.prog 12 #[kv] W fun e w' => ∃ v, e = .returned v ∧ PRow w0 W.heap.size w' v (partsL x.kids) ∧ Below W.heap.size W w') :
    Calls Tryz.prog 12 #[.slice va l.length vc] w fun e w' => ∃ v, e = .returned v ∧ PRow w0 w.heap.size w' v (partsL l) ∧ Below w.heap.size w w' := by
  have H0 := Lib.hid h
  have HB := Lib.hid hb
  have HC := Lib.hid hc
  have HH := Lib.hid H
  have hll : l.length ≤ 1000000 := Nat.le_trans (by
    have : ∀ l : List PE, l.length ≤ cntL l := fun l => by
      induction l with
      | nil => exact Nat.zero_le _
      | cons x l ih => rw [cntL, List.length_cons, cnt_kids]; omega
    exact this l) hc
  have HLL := Lib.hid hll
  clear h hb hc H hll
  go_enter Tryz.func12, Tryz.ntmps12
  go_wp2_with fail
  go_loopg [3, 8] l.length (fun gk ov iv wr => ∃ (i : Nat), iv = .int .i64 (i : Int) ∧ gk = l.length - i ∧ i ≤ l.length ∧ Hid (PRow w0 w.heap.size wr ov (partsL (l.take i))) ∧ Hid (Below w.heap.size w wr))
  case atStart => exact ⟨0, rfl, rfl, Nat.zero_le _, Lib.hid (prow_nil _ _ _), Lib.hid (Below.refl _ _)⟩
  case round =>
    obtain ⟨i, rfl, rfl, hi, HP, HBL⟩ := hrel
    obtain ⟨oa, oc, rfl⟩ := HP.out.shape
    by_cases hlt : i < l.length
    · obtain ⟨x, hx⟩ : ∃ z, l[i]? = some z := ⟨l[i], by simp⟩
      have hb0 : Below w0.heap.size w0 wr := HB.out.trans (HBL.out.mono HB.out.size)
      obtain ⟨b1, o1, k1, rfl, hk0, p0, p1, p2, p3, p4, p5, p6, p7⟩ := exs_at H0.out hx
      obtain ⟨na, nc, rfl, _⟩ := hk0.shape
      have HK := Lib.hid hk0
      have HXR : Hid (ExR w0 (x.cells (.slice na x.kids.length nc)) x) := Lib.hid (exR_iff.2 ⟨_, rfl, hk0⟩)
      have hm := List.mem_of_getElem? hx
      have HRM := Lib.hid (parts_room hx HC.out)
      have HNX := Lib.hid (parts_next hx)
      have HCN : Hid (cntE x ≤ 1000000) := Lib.hid (Nat.le_trans (cnt_mem hm) HC.out)
      have ilt : (i : Int) < (l.length : Int) := by omega
      have ige : (0 : Int) ≤ (i : Int) := by omega
      have hbx : Below wr.heap.size wr (wr.alloc (.cells #[.int .u8 (x.op : Int), .int .u8 (x.v.k : Int), .int .i64 x.v.n, .string x.v.s, .string x.t, .string x.m, .int .i64 x.n, .slice na x.kids.length nc] 44)) := (Below.refl _ _).alloc (Nat.le_refl _) _
      have HRX := Lib.hid (row_alloc wr 44 #[.int .u8 (x.op : Int), .int .u8 (x.v.k : Int), .int .i64 x.v.n, .string x.v.s, .string x.t, .string x.m, .int .i64 x.n, .slice na x.kids.length nc])
      have HPX := Lib.hid (HP.out.later hbx)
      have HBX := Lib.hid (HBL.out.trans (hbx.mono HBL.out.size))
      have HB0 : Hid (Below w0.heap.size w0 (wr.alloc (.cells #[.int .u8 (x.op : Int), .int .u8 (x.v.k : Int), .int .i64 x.v.n, .string x.v.s, .string x.t, .string x.m, .int .i64 x.n, .slice na x.kids.length nc] 44))) := Lib.hid (hb0.trans (hbx.mono hb0.size))
      have HLT := Lib.hid hlt
      have hld := pl_exLd wr b1 (o1 + i * 8) (x.cells (.slice na x.kids.length nc)) rfl (fun j u hj => by
        have hp : ∀ (k : Nat) (v : Value), w0.cell? ⟨b1, o1 + i * 8 + k, none⟩ = some v → wr.cell? ⟨b1, o1 + i * 8 + k, none⟩ = some v := fun k v h => (hb0.cell (cell_lt h)).trans h
        rcases j with _ | _ | _ | _ | _ | _ | _ | _ | j
        · cases hj; exact hp 0 _ p0
        · cases hj; exact hp 1 _ p1
        · cases hj; exact hp 2 _ p2
        · cases hj; exact hp 3 _ p3
        · cases hj; exact hp 4 _ p4
        · cases hj; exact hp 5 _ p5
        · cases hj; exact hp 6 _ p6
        · cases hj; exact hp 7 _ p7
        · exact absurd hj (by simp [PE.cells]))
      unfold PE.cells at hld
      clear hk0 p0 p1 p2 p3 p4 p5 p6 p7 hb0 hbx hlt HP HBL
      go_upto_region 5 with fail
      generalize wr.alloc (.cells #[.int .u8 (x.op : Int), .int .u8 (x.v.k : Int), .int .i64 x.v.n, .string x.v.s, .string x.t, .string x.m, .int .i64 x.n, .slice na x.kids.length nc] 44) = wx at *
      generalize wr.heap.size = g at *
      clear hld
      have l0 := HRX.out.cell (i := 0) (v := .int .u8 (x.op : Int)) rfl
      by_cases hop : x.op = 18
      · have iop : (x.op : Int) = 18 := by omega
        have l7 := HRX.out.cell (i := 7) (v := .slice na x.kids.length nc) rfl
        have HCL := Lib.hid (HH.out x hm hop (.slice na x.kids.length nc) wx HB0.out HK.out)
        have HPE := Lib.hid (partsE_and hop)
        clear hop
        go_wp2_with fail
        refine HCL.out.mono ?_
        rintro e3 w3 ⟨v3, rfl, hp3, hb3⟩
        have HP3 := Lib.hid (HPX.out.later hb3)
        have HS3 := Lib.hid hp3
        have HB3 := Lib.hid (HBX.out.trans (hb3.mono HBX.out.size))
        have HB03 := Lib.hid (HB0.out.trans (hb3.mono HB0.out.size))
        clear hp3 hb3 l0 l7 HCL
        obtain ⟨v4, w4, hrun, hp4, hb4⟩ := HP3.out.run HS3.out 32 (by rw [← HPE.out]; exact HRM.out.1) HB3.out.size
        have HP4 : Hid (PRow w0 w.heap.size w4 v4 (partsL (l.take (i + 1)))) := Lib.hid (by rw [HNX.out, HPE.out]; exact hp4)
        have HB4 := Lib.hid (HB3.out.trans hb4)
        clear hp4 hb4
        go_wp2_with (at_builtin; refine pl_list_run rfl (.tmp 15) (.tmp 18) 32 rfl rfl rfl hrun ?_)
        clear hrun HP3 HS3
        go_wp2_with fail
        go_roundg (l.length - (i + 1))
        case measure => exact Nat.sub_lt_sub_left HLT.out (Nat.lt_succ_self _)
        case rel => exact ⟨i + 1, congrArg (Value.int .i64) (by have h1 := HLL.out; have h2 := HLT.out; unfold wrap64; omega), rfl, HLT.out, HP4, HB4⟩
      · have iop : ¬ (x.op : Int) = 18 := by omega
        have HPE := Lib.hid (partsE_not hop)
        clear hop
        go_upto_region 7 with fail
        clear l0
        have hrb := HRX.out.b (n := 8) rfl
        have hro := HRX.out.of
        have hbs : (veilBs 32 1 #[(0, .agg #[.int .u8 (x.op : Int), .int .u8 (x.v.k : Int), .int .i64 x.v.n, .string x.v.s, .string x.t, .string x.m, .int .i64 x.n, .slice na x.kids.length nc])]).run Tryz.prog wx = .ok (.slice (some ⟨wx.heap.size, 0, none⟩) 1 1) (wx.alloc (.cells #[.int .u8 (x.op : Int), .int .u8 (x.v.k : Int), .int .i64 x.v.n, .string x.v.s, .string x.t, .string x.m, .int .i64 x.n, .slice na x.kids.length nc] 44)) := run_bs1 wx _ rfl
        have hb5 := (Below.refl _ wx).alloc (Nat.le_refl _) (.cells #[.int .u8 (x.op : Int), .int .u8 (x.v.k : Int), .int .i64 x.v.n, .string x.v.s, .string x.t, .string x.m, .int .i64 x.n, .slice na x.kids.length nc] 44)
        have HP5 := Lib.hid (HPX.out.later hb5)
        have HB5 := Lib.hid (HBX.out.trans (hb5.mono HBX.out.size))
        have HN5 := Lib.hid (prow_lit (w0 := w0) (lo := wx.heap.size) (row_alloc wx 44 #[.int .u8 (x.op : Int), .int .u8 (x.v.k : Int), .int .i64 x.v.n, .string x.v.s, .string x.t, .string x.m, .int .i64 x.n, .slice na x.kids.length nc]) rfl HXR.out (Nat.le_refl _))
        obtain ⟨v4, w4, hrun, hp4, hb4⟩ := HP5.out.run HN5.out 32 HRM.out.2 HB5.out.size
        have HP4 : Hid (PRow w0 w.heap.size w4 v4 (partsL (l.take (i + 1)))) := Lib.hid (by rw [HNX.out, HPE.out]; exact hp4)
        have HB4 := Lib.hid (HB5.out.trans hb4)
        clear hp4 hb4 hb5
        go_wp2_with (at_builtin; refine pl_list_run rfl (.tmp 20) (.tmp 22) 32 rfl rfl rfl hrun ?_)
        clear hrun hrb hro hbs HP5 HN5
        go_wp2_with fail
        go_roundg (l.length - (i + 1))
        case measure => exact Nat.sub_lt_sub_left HLT.out (Nat.lt_succ_self _)
        case rel => exact ⟨i + 1, congrArg (Value.int .i64) (by have h1 := HLL.out; have h2 := HLT.out; unfold wrap64; omega), rfl, HLT.out, HP4, HB4⟩
    · obtain rfl : i = l.length := by omega
      have HPL : Hid (PRow w0 w.heap.size wr (.slice oa (partsL (l.take l.length)).length oc) (partsL l)) := Lib.hid (by have h := HP.out; rw [List.take_length] at h ⊢; exact h)
      clear hlt hi HP
      go_wp2_with fail
      go_ret
      exact ⟨_, rfl, HPL.out, HBL.out⟩
/-- Parts, however deep. -/
theorem partsW0 (n : Nat) : ∀ (l : List PE) (v : Value) (w0 w : World), cntL l ≤ n → n ≤ 1000000 → Below w0.heap.size w0 w → ExsR w0 v l →
    Calls Tryz.prog 12 #[v] w fun e w' => ∃ v', e = .returned v' ∧ PRow w0 w.heap.size w' v' (partsL l) ∧ Below w.heap.size w w' := by
  induction n using Nat.strongRecOn with
  | _ n ih =>
    intro l v w0 w hc hn hb h
    obtain ⟨va, vc, rfl, _⟩ := h.shape
    refine partsW1 l va vc w0 w hb h (Nat.le_trans hc hn) fun x hx _ kv W hW hk => ih (cntL x.kids) ?_ x.kids kv w0 W (Nat.le_refl _) ?_ hW hk
    · have h1 := cnt_mem hx; have h2 := cnt_kids x; omega
    · have h1 := cnt_mem hx; have h2 := cnt_kids x; omega
theorem partsW {l : List PE} {v : Value} {w0 w : World} (hc : cntL l ≤ 1000000) (hb : Below w0.heap.size w0 w) (h : ExsR w0 v l) :
    Calls Tryz.prog 12 #[v] w fun e w' => ∃ v', e = .returned v' ∧ PRow w0 w.heap.size w' v' (partsL l) ∧ Below w.heap.size w w' :=
  partsW0 (cntL l) l v w0 w (Nat.le_refl _) hc hb h
end Go.Proofs.YtjgkeillmelkoaaGreat.Dt
namespace Go.Proofs.YtjgkeillmelkoaaGreat.Dt
open Go.RowKit Go.Proofs.YtjgkeillmelkoaaGreat.By

/-- A column or a value; a simple part. -/
def sideB (x : PE) : Bool := decide (x.op = 2 ∨ x.op = 1)
def simpleB (x : PE) : Bool := decide (x.op = 12) && (match x.kids with
  | [a, b] => sideB a && sideB b
  | _ => false)
set_option maxRecDepth 100000 in
set_option maxHeartbeats 8000000 in
theorem sideW (x : PE) (ka : Option Addr) (kn kc : Nat) (w : World) : Calls Tryz.prog 44 #[x.val (.slice ka kn kc)] w fun e w' => e = .returned (.bool (sideB x)) ∧ Below w.heap.size w w' := by
  have HBA : Hid (Below w.heap.size w (w.alloc (.cells #[.int .u8 (x.op : Int), .int .u8 (x.v.k : Int), .int .i64 x.v.n, .string x.v.s, .string x.t, .string x.m, .int .i64 x.n, .slice ka kn kc] 44))) := Lib.hid ((Below.refl _ _).alloc (Nat.le_refl _) _)
  unfold PE.val
  have HE : Hid (((x.op : Int) == 2 || (x.op : Int) == 1) = sideB x) := Lib.hid (by
    unfold sideB
    rw [Bool.eq_iff_iff]
    simp only [Bool.or_eq_true, beq_iff_eq, decide_eq_true_eq]
    omega)
  have HR := Lib.hid (row_alloc w 44 #[.int .u8 (x.op : Int), .int .u8 (x.v.k : Int), .int .i64 x.v.n, .string x.v.s, .string x.t, .string x.m, .int .i64 x.n, .slice ka kn kc])
  go_enter Tryz.func44, Tryz.ntmps44
  go_upto_region 1 with fail
  generalize w.alloc (.cells #[.int .u8 (x.op : Int), .int .u8 (x.v.k : Int), .int .i64 x.v.n, .string x.v.s, .string x.t, .string x.m, .int .i64 x.n, .slice ka kn kc] 44) = w1 at *
  have l0 := HR.out.cell (i := 0) (v := .int .u8 (x.op : Int)) rfl
  generalize (x.op : Int) = n at *
  by_cases h2 : n = 2
  · subst h2
    go_wp2_with fail
    go_ret
    exact ⟨by rw [← HE.out]; rfl, HBA.out⟩
  · by_cases h1 : n = 1
    · subst h1
      go_wp2_with fail
      go_ret
      exact ⟨by rw [← HE.out]; rfl, HBA.out⟩
    · have e2 : (n == 2) = false := by simp [h2]
      have e1 : (n == 1) = false := by simp [h1]
      rw [e2, e1] at HE
      go_wp2_with fail
      go_ret
      exact ⟨by rw [← HE.out]; rfl, HBA.out⟩
attribute [local go_sem ↓] veilSt_ex veilLd_ex
attribute [local go_sem] run_exSt run_exNew run_exLd okRow8 Value.oneCell'
/-- A kid, loaded whole. -/
theorem kid_ld {w W : World} {ka : Option Addr} {n kc k : Nat} {l : List PE} {x : PE} (h : ExsR w (.slice ka n kc) l) (hk : l[k]? = some x) (hb : Below w.heap.size w W) :
    ∃ b o na nc, ka = some ⟨b, o, none⟩ ∧ ExsR w (.slice na x.kids.length nc) x.kids ∧ (veilLd 44 ⟨b, o + k * 8, none⟩).run Tryz.prog W = .ok (.agg #[.int .u8 (x.op : Int), .int .u8 (x.v.k : Int), .int .i64 x.v.n, .string x.v.s, .string x.t, .string x.m, .int .i64 x.n, .slice na x.kids.length nc]) W := by
  obtain ⟨b, o, kv, rfl, hkids, p0, p1, p2, p3, p4, p5, p6, p7⟩ := exs_at h hk
  obtain ⟨na, nc, rfl, _⟩ := hkids.shape
  refine ⟨b, o, na, nc, rfl, hkids, pl_exLd W b (o + k * 8) (x.cells (.slice na x.kids.length nc)) rfl fun j u hj => ?_⟩
  have hp : ∀ (m : Nat) (v : Value), w.cell? ⟨b, o + k * 8 + m, none⟩ = some v → W.cell? ⟨b, o + k * 8 + m, none⟩ = some v := fun m v h => (hb.cell (cell_lt h)).trans h
  rcases j with _ | _ | _ | _ | _ | _ | _ | _ | j
  · cases hj; exact hp 0 _ p0
  · cases hj; exact hp 1 _ p1
  · cases hj; exact hp 2 _ p2
  · cases hj; exact hp 3 _ p3
  · cases hj; exact hp 4 _ p4
  · cases hj; exact hp 5 _ p5
  · cases hj; exact hp 6 _ p6
  · cases hj; exact hp 7 _ p7
  · exact absurd hj (by simp [PE.cells])
set_option maxRecDepth 100000 in
set_option maxHeartbeats 16000000 in
theorem simpleW (x : PE) (kv : Value) (w : World) (h : ExsR w kv x.kids) : Calls Tryz.prog 26 #[x.val kv] w fun e w' => e = .returned (.bool (simpleB x)) ∧ Below w.heap.size w w' := by
  obtain ⟨ka, kc, rfl, _⟩ := h.shape
  have hba : Below w.heap.size w (w.alloc (.cells #[.int .u8 (x.op : Int), .int .u8 (x.v.k : Int), .int .i64 x.v.n, .string x.v.s, .string x.t, .string x.m, .int .i64 x.n, .slice ka x.kids.length kc] 44)) := (Below.refl _ _).alloc (Nat.le_refl _) _
  have HR := Lib.hid (row_alloc w 44 #[.int .u8 (x.op : Int), .int .u8 (x.v.k : Int), .int .i64 x.v.n, .string x.v.s, .string x.t, .string x.m, .int .i64 x.n, .slice ka x.kids.length kc])
  have HH := Lib.hid (exsR_below h hba)
  have HB := Lib.hid hba
  have HEQ : Hid (simpleB x = (decide (x.op = 12) && (match x.kids with
    | [a, b] => sideB a && sideB b
    | _ => false))) := Lib.hid rfl
  clear h hba
  unfold PE.val
  go_enter Tryz.func26, Tryz.ntmps26
  go_upto_region 1 with fail
  generalize w.alloc (.cells #[.int .u8 (x.op : Int), .int .u8 (x.v.k : Int), .int .i64 x.v.n, .string x.v.s, .string x.t, .string x.m, .int .i64 x.n, .slice ka x.kids.length kc] 44) = w1 at *
  have l0 := HR.out.cell (i := 0) (v := .int .u8 (x.op : Int)) rfl
  have l7 := HR.out.cell (i := 7) (v := .slice ka x.kids.length kc) rfl
  by_cases hop : x.op = 12
  · have iop : (x.op : Int) = 12 := by omega
    have d1 : decide (x.op = 12) = true := decide_eq_true hop
    rw [d1] at HEQ
    clear hop d1
    by_cases hk : ∃ a b, x.kids = [a, b]
    · obtain ⟨a, b, hk⟩ := hk
      rw [hk] at HEQ
      have hkl : x.kids.length = 2 := by rw [hk]; rfl
      rw [hkl] at l7
      have HH2 : Hid (ExsR w1 (.slice ka 2 kc) [a, b]) := Lib.hid (by have h := HH.out; rw [hkl, hk] at h; exact h)
      obtain ⟨b1, o1, na, nc, rfl, _, hld1⟩ := kid_ld (k := 0) HH2.out rfl (Below.refl _ w1)
      have hs1 := sideW a na a.kids.length nc w1
      unfold PE.val at hs1
      simp only [Nat.zero_mul, Nat.add_zero] at hld1
      clear hk hkl HH HR
      go_wp2_with fail
      refine hs1.mono ?_
      rintro e2 w2 ⟨rfl, hb2⟩
      have HB2 := Lib.hid (next HB.out hb2)
      have HH3 := Lib.hid (exsR_below HH2.out hb2)
      obtain ⟨b2, o2, na2, nc2, e2, _, hld2⟩ := kid_ld (k := 1) HH3.out rfl (Below.refl _ w2)
      cases e2
      have hs2 := sideW b na2 b.kids.length nc2 w2
      unfold PE.val at hs2
      have l7' := (hb2.cell (cell_lt l7)).trans l7
      clear hld1 hs1 hb2 l0 l7
      cases hsa : sideB a with
      | false =>
        rw [hsa] at HEQ
        go_wp2_with fail
        go_ret
        exact ⟨by rw [HEQ.out]; rfl, HB2.out⟩
      | true =>
        rw [hsa] at HEQ
        go_wp2_with fail
        refine hs2.mono ?_
        rintro e3 w3 ⟨rfl, hb3⟩
        have HB3 := Lib.hid (next HB2.out hb3)
        clear hld2 hs2 hb3 l7'
        go_wp2_with fail
        go_ret
        exact ⟨by rw [HEQ.out]; rfl, HB3.out⟩
    · have hkl : ¬ (x.kids.length : Int) = 2 := by
        intro e
        refine hk ?_
        have e2 : x.kids.length = 2 := by omega
        match hx : x.kids, e2 with
        | [a, b], _ => exact ⟨a, b, rfl⟩
      have HE : Hid (simpleB x = false) := Lib.hid (by
        rw [HEQ.out, Bool.true_and]
        split
        · rename_i a b e; exact absurd ⟨a, b, e⟩ hk
        · rfl)
      clear hk HEQ
      go_wp2_with fail
      go_ret
      exact ⟨by rw [HE.out]; rfl, HB.out⟩
  · have iop : ¬ (x.op : Int) = 12 := by omega
    have HE : Hid (simpleB x = false) := Lib.hid (by rw [HEQ.out, decide_eq_false hop]; rfl)
    clear hop HEQ
    go_wp2_with fail
    go_ret
    exact ⟨by rw [HE.out]; rfl, HB.out⟩
set_option maxRecDepth 100000 in
set_option maxHeartbeats 16000000 in
theorem simple1W (x : PE) (kv : Value) (w : World) (h : ExsR w kv x.kids) : Calls Tryz.prog 25 #[x.val kv] w fun e w' => e = .returned (.bool (!simpleB x)) ∧ Below w.heap.size w w' := by
  obtain ⟨ka, kc, rfl, _⟩ := h.shape
  have hba : Below w.heap.size w (w.alloc (.cells #[.int .u8 (x.op : Int), .int .u8 (x.v.k : Int), .int .i64 x.v.n, .string x.v.s, .string x.t, .string x.m, .int .i64 x.n, .slice ka x.kids.length kc] 44)) := (Below.refl _ _).alloc (Nat.le_refl _) _
  have HR := Lib.hid (row_alloc w 44 #[.int .u8 (x.op : Int), .int .u8 (x.v.k : Int), .int .i64 x.v.n, .string x.v.s, .string x.t, .string x.m, .int .i64 x.n, .slice ka x.kids.length kc])
  have hc := simpleW x (.slice ka x.kids.length kc) _ (exsR_below h hba)
  unfold PE.val at hc
  have HC := Lib.hid hc
  have HB := Lib.hid hba
  clear h hba hc
  unfold PE.val
  go_enter Tryz.func25, Tryz.ntmps25
  go_upto_region 1 with fail
  generalize w.alloc (.cells #[.int .u8 (x.op : Int), .int .u8 (x.v.k : Int), .int .i64 x.v.n, .string x.v.s, .string x.t, .string x.m, .int .i64 x.n, .slice ka x.kids.length kc] 44) = w1 at *
  have hrb := HR.out.b (n := 8) rfl
  have hro := HR.out.of
  go_wp2_with fail
  refine HC.out.mono ?_
  rintro e2 w2 ⟨rfl, hb2⟩
  have HB2 := Lib.hid (next HB.out hb2)
  clear hb2 hrb hro
  go_wp2_with fail
  go_ret
  exact ⟨rfl, HB2.out⟩
end Go.Proofs.YtjgkeillmelkoaaGreat.Dt
namespace Go.Proofs.YtjgkeillmelkoaaGreat.Dt
open Go.RowKit Go.Proofs.YtjgkeillmelkoaaGreat.By

mutual
/-- The places of all columns of an expression, of a row of them. -/
def colsE : PE → List Int
  | .mk op _ _ _ n kids => (if op = 2 then [n] else []) ++ colsL kids
def colsL : List PE → List Int
  | [] => []
  | x :: l => colsE x ++ colsL l
end
theorem colsE_eq (x : PE) : colsE x = (if x.op = 2 then [x.n] else []) ++ colsL x.kids := by
  obtain ⟨op, v, t, m, n, kids⟩ := x
  rw [colsE]; rfl
theorem colsL_next {l : List PE} {i : Nat} {x : PE} (h : l[i]? = some x) : colsL (l.drop i) = colsE x ++ colsL (l.drop (i + 1)) := by
  have hlt := (List.getElem?_eq_some_iff.1 h).1
  rw [List.drop_eq_getElem_cons hlt]
  rw [List.getElem?_eq_getElem hlt] at h
  cases h
  rw [colsL]
/-- What a function value does that is called with each place: 'I' tells what lies there; it writes below 'base' alone. -/
structure ColF (w0 : World) (base : Nat) (σ : Type) (step : σ → Int → σ) (I : σ → World → Prop) (f : FuncId) (a b : Value) : Prop where
  hf : ∀ (args : Array Value) (W : World), (callFunc f args).run Tryz.prog W = .ok (.enter f args) W
  later : ∀ s W W', I s W → Below W.heap.size W W' → I s W'
  below : ∀ s W, I s W → Below w0.heap.size w0 W
  up : ∀ s W, I s W → base ≤ W.heap.size
  call : ∀ s n W, I s W → Calls Tryz.prog f #[.int .i64 n, a, b] W fun e w' => e = .returned (.tuple #[]) ∧ I (step s n) w' ∧ ∀ k, base ≤ k → k < W.heap.size → w'.heap[k]? = W.heap[k]?
attribute [local go_sem ↓] veilSt_ex veilLd_ex
attribute [local go_sem] run_exSt run_exNew run_exLd okRow8 Value.oneCell'
set_option maxRecDepth 100000 in
set_option maxHeartbeats 16000000 in
theorem colsW1 {w0 : World} {base : Nat} {σ : Type} {step : σ → Int → σ} {I : σ → World → Prop} {f : FuncId} {a b : Value} (F : ColF w0 base σ step I f a b) (x : PE) (ka : Option Addr) (kc : Nat) (s : σ) (w : World) (hk : ExsR w0 (.slice ka x.kids.length kc) x.kids) (hl : x.kids.length ≤ 1000000) (hI : I s w)
    (H : ∀ y, y ∈ x.kids → ∀ (kv : Value) (s : σ) (W : World), ExsR w0 kv y.kids → I s W → Calls Tryz.prog 16 #[y.val kv, .func (.func f) #[] #[a, b]] W fun e w' => e = .returned (.tuple #[]) ∧ I ((colsE y).foldl step s) w') :
    Calls Tryz.prog 16 #[x.val (.slice ka x.kids.length kc), .func (.func f) #[] #[a, b]] w fun e w' => e = .returned (.tuple #[]) ∧ I ((colsE x).foldl step s) w' := by
  have hba : Below w.heap.size w (w.alloc (.cells #[.int .u8 (x.op : Int), .int .u8 (x.v.k : Int), .int .i64 x.v.n, .string x.v.s, .string x.t, .string x.m, .int .i64 x.n, .slice ka x.kids.length kc] 44)) := (Below.refl _ _).alloc (Nat.le_refl _) _
  have HR := Lib.hid (row_alloc w 44 #[.int .u8 (x.op : Int), .int .u8 (x.v.k : Int), .int .i64 x.v.n, .string x.v.s, .string x.t, .string x.m, .int .i64 x.n, .slice ka x.kids.length kc])
  have HI := Lib.hid (F.later _ _ _ hI hba)
  have HUP : Hid (base ≤ w.heap.size) := Lib.hid (F.up _ _ hI)
  have HK := Lib.hid hk
  have HL := Lib.hid hl
  have HH := Lib.hid H
  have HF := Lib.hid F
  have hf := F.hf
  clear hk hl hI H hba F
  unfold PE.val
  go_enter Tryz.func16, Tryz.ntmps16
  go_upto_region 1 with fail
  generalize w.alloc (.cells #[.int .u8 (x.op : Int), .int .u8 (x.v.k : Int), .int .i64 x.v.n, .string x.v.s, .string x.t, .string x.m, .int .i64 x.n, .slice ka x.kids.length kc] 44) = w1 at *
  have l0 := HR.out.cell (i := 0) (v := .int .u8 (x.op : Int)) rfl
  have l6 := HR.out.cell (i := 6) (v := .int .i64 x.n) rfl
  have HEQ : Hid (colsE x = (if x.op = 2 then [x.n] else []) ++ colsL x.kids) := Lib.hid (colsE_eq x)
  obtain ⟨s1, hs1⟩ : ∃ s1, s1 = (if x.op = 2 then [x.n] else []).foldl step s := ⟨_, rfl⟩
  have HS1 := Lib.hid hs1
  have HW1 : Hid (w.heap.size < w1.heap.size) := Lib.hid HR.out.lt
  clear hs1
  go_upto_if 8 with fail
  go_cut [] (fun wx => Hid (I s1 wx) ∧ Hid (Row w.heap.size 44 #[.int .u8 (x.op : Int), .int .u8 (x.v.k : Int), .int .i64 x.v.n, .string x.v.s, .string x.t, .string x.m, .int .i64 x.n, .slice ka x.kids.length kc] wx))
  case first =>
    by_cases h2 : x.op = 2
    · rw [if_pos h2] at HS1
      have i2 : ((x.op : Int) == 2) = true := by simp [h2]
      rw [i2]
      have HC := Lib.hid (HF.out.call s x.n w1 HI.out)
      clear h2 i2 l0
      go_wp2_with fail
      refine HC.out.mono ?_
      rintro e2 w2 ⟨rfl, hi2, hfr⟩
      have HI2 : Hid (I s1 w2) := Lib.hid (by rw [HS1.out]; exact hi2)
      have HR2 : Hid (Row w.heap.size 44 #[.int .u8 (x.op : Int), .int .u8 (x.v.k : Int), .int .i64 x.v.n, .string x.v.s, .string x.t, .string x.m, .int .i64 x.n, .slice ka x.kids.length kc] w2) := Lib.hid ((hfr _ HUP.out HW1.out).trans HR.out)
      clear hi2 hfr l6 HC
      go_wp2_with fail
      go_meet
      exact ⟨HI2, HR2⟩
    · rw [if_neg h2] at HS1
      have i2 : ((x.op : Int) == 2) = false := by simp; omega
      rw [i2]
      have HI2 : Hid (I s1 w1) := Lib.hid (by rw [HS1.out]; exact HI.out)
      clear h2 i2
      go_wp2_with fail
      go_meet
      exact ⟨HI2, HR⟩
  case rest =>
    obtain ⟨HI3, HR3⟩ := hcut
    have l7 := HR3.out.cell (i := 7) (v := .slice ka x.kids.length kc) rfl
    have HFO : Hid ((colsL x.kids).foldl step s1 = (colsE x).foldl step s) := Lib.hid (by rw [HEQ.out, List.foldl_append, HS1.out])
    clear l0 l6 HI HR HS1 HEQ
    go_wp2_with fail
    clear l7 HR3
    go_loopg [16] x.kids.length (fun gk iv wr => ∃ (i : Nat) (s2 : σ), iv = .int .i64 (i : Int) ∧ gk = x.kids.length - i ∧ i ≤ x.kids.length ∧ Hid (I s2 wr) ∧ Hid ((colsL (x.kids.drop i)).foldl step s2 = (colsE x).foldl step s))
    case atStart => exact ⟨0, s1, rfl, rfl, Nat.zero_le _, HI3, Lib.hid (by rw [List.drop_zero]; exact HFO.out)⟩
    case round =>
      obtain ⟨i, s2, rfl, rfl, hi, HI2, HE⟩ := hrel
      by_cases hlt : i < x.kids.length
      · obtain ⟨y, hy⟩ : ∃ z, x.kids[i]? = some z := ⟨x.kids[i], by simp⟩
        obtain ⟨b1, o1, na, nc, rfl, hky, hld⟩ := kid_ld HK.out hy (HF.out.below _ _ HI2.out)
        have hbx : Below wr.heap.size wr (wr.alloc (.cells #[.int .u8 (y.op : Int), .int .u8 (y.v.k : Int), .int .i64 y.v.n, .string y.v.s, .string y.t, .string y.m, .int .i64 y.n, .slice na y.kids.length nc] 44)) := (Below.refl _ _).alloc (Nat.le_refl _) _
        have HRX := Lib.hid (row_alloc wr 44 #[.int .u8 (y.op : Int), .int .u8 (y.v.k : Int), .int .i64 y.v.n, .string y.v.s, .string y.t, .string y.m, .int .i64 y.n, .slice na y.kids.length nc])
        have hc := HH.out y (List.mem_of_getElem? hy) (.slice na y.kids.length nc) s2 _ hky (HF.out.later _ _ _ HI2.out hbx)
        unfold PE.val at hc
        have HC := Lib.hid hc
        have HNX : Hid ((colsL (x.kids.drop (i + 1))).foldl step ((colsE y).foldl step s2) = (colsE x).foldl step s) := Lib.hid (by rw [← HE.out, colsL_next hy, List.foldl_append])
        have ilt : (i : Int) < (x.kids.length : Int) := by omega
        have ige : (0 : Int) ≤ (i : Int) := by omega
        have HLT := Lib.hid hlt
        clear hbx hc hy hky hlt hi
        go_upto_region 6 with fail
        clear hld
        generalize wr.alloc (.cells #[.int .u8 (y.op : Int), .int .u8 (y.v.k : Int), .int .i64 y.v.n, .string y.v.s, .string y.t, .string y.m, .int .i64 y.n, .slice na y.kids.length nc] 44) = wx at *
        generalize wr.heap.size = g at *
        have hrb := HRX.out.b (n := 8) rfl
        have hro := HRX.out.of
        go_wp2_with fail
        refine HC.out.mono ?_
        rintro e2 w2 ⟨rfl, hi2⟩
        have HI4 := Lib.hid hi2
        clear hi2 HC hrb hro
        go_wp2_with fail
        go_roundg (x.kids.length - (i + 1))
        case measure => exact Nat.sub_lt_sub_left HLT.out (Nat.lt_succ_self _)
        case rel => exact ⟨i + 1, _, congrArg (Value.int .i64) (by have h1 := HL.out; have h2 := HLT.out; unfold wrap64; omega), rfl, HLT.out, HI4, HNX⟩
      · obtain rfl : i = x.kids.length := by omega
        have HE2 : Hid (I ((colsE x).foldl step s) wr) := Lib.hid (by have h := HE.out; rw [List.drop_length, colsL] at h; rw [← h]; exact HI2.out)
        clear hlt hi
        go_wp2_with fail
        go_end0
        exact ⟨rfl, HE2.out⟩
/-- .. however deep. -/
theorem colsW0 {w0 : World} {base : Nat} {σ : Type} {step : σ → Int → σ} {I : σ → World → Prop} {f : FuncId} {a b : Value} (F : ColF w0 base σ step I f a b) (n : Nat) : ∀ (x : PE) (kv : Value) (s : σ) (w : World), cntE x ≤ n → n ≤ 1000000 → ExsR w0 kv x.kids → I s w →
    Calls Tryz.prog 16 #[x.val kv, .func (.func f) #[] #[a, b]] w fun e w' => e = .returned (.tuple #[]) ∧ I ((colsE x).foldl step s) w' := by
  induction n using Nat.strongRecOn with
  | _ n ih =>
    intro x kv s w hc hn hk hI
    obtain ⟨ka, kc, rfl, _⟩ := hk.shape
    have hkc := cnt_kids x
    have hlen : ∀ l : List PE, l.length ≤ cntL l := fun l => by
      induction l with
      | nil => exact Nat.zero_le _
      | cons x l ih => rw [cntL, List.length_cons, cnt_kids]; omega
    have := hlen x.kids
    refine colsW1 F x ka kc s w hk (by omega) hI fun y hy kv s W hk2 hI2 => ih (cntE y) ?_ y kv s W (Nat.le_refl _) ?_ hk2 hI2
    · have := cnt_mem hy; omega
    · have := cnt_mem hy; omega
theorem colsW {w0 : World} {base : Nat} {σ : Type} {step : σ → Int → σ} {I : σ → World → Prop} {f : FuncId} {a b : Value} (F : ColF w0 base σ step I f a b) {x : PE} {kv : Value} {s : σ} {w : World} (hc : cntE x ≤ 1000000) (hk : ExsR w0 kv x.kids) (hI : I s w) :
    Calls Tryz.prog 16 #[x.val kv, .func (.func f) #[] #[a, b]] w fun e w' => e = .returned (.tuple #[]) ∧ I ((colsE x).foldl step s) w' :=
  colsW0 F (cntE x) x kv s w (Nat.le_refl _) hc hk hI
end Go.Proofs.YtjgkeillmelkoaaGreat.Dt
namespace Go.Proofs.YtjgkeillmelkoaaGreat.Dt
open Go.RowKit Go.Proofs.YtjgkeillmelkoaaGreat.By

/-- The writer's box. -/
def oC (o : OS) : Array Value := #[.string o.s, .bool o.ok]
abbrev ORow (r : Nat) (o : OS) (w : World) : Prop := Row r 128 (oC o) w
/-- What a step of the writer leaves: its box, and all else as it was. -/
def OPost (r : Nat) (o' : OS) (w : World) (e : Ending) (w' : World) : Prop := e = .returned (.tuple #[]) ∧ ORow r o' w' ∧ w.grownBy w' (some r)
theorem ne_of {s : ByteArray} (hs : s ≠ ⟨#[]⟩) : s.toList.isEmpty = false := by
  cases he : s.toList.isEmpty with
  | false => rfl
  | true =>
    refine absurd ?_ hs
    have h1 := List.isEmpty_iff.1 he
    rw [ByteArray.toList_eq] at h1
    exact ByteArray.ext (Array.toList_inj.1 (by rw [h1]))
theorem row_set0 {r : Nat} {w : World} {a b : Value} {t : TypeId} (h : Row r t #[a, b] w) (v : Value) : Row r t #[v, b] (w.setCell ⟨r, 0, none⟩ v) := by
  rw [setCell_eq_setRow w r 0 _ _ _ v h]
  exact h.set _
theorem row_set1 {r : Nat} {w : World} {a b : Value} {t : TypeId} (h : Row r t #[a, b] w) (v : Value) : Row r t #[a, v] (w.setCell ⟨r, 1, none⟩ v) := by
  rw [setCell_eq_setRow w r 1 _ _ _ v h]
  exact h.set _
set_option maxRecDepth 100000 in
set_option maxHeartbeats 4000000 in
theorem oputW (r : Nat) (o : OS) (s : ByteArray) (w : World) (h : ORow r o w) (hz : o.s.size + s.size ≤ 1000000000) :
    Calls Tryz.prog 58 #[.pointer (some ⟨r, 0, none⟩), .string s] w (OPost r (oPut s o) w) := by
  obtain ⟨u, b⟩ := o
  have hz : u.size + s.size ≤ 1000000000 := hz
  have h : Row r 128 #[.string u, .bool b] w := h
  have c0 := h.cell (i := 0) (v := .string u) rfl
  have f0 := h.free 0
  have H := Lib.hid h
  by_cases hu : u = ⟨#[]⟩
  · subst hu
    have he1 : (⟨#[]⟩ : ByteArray).toList.isEmpty = true := by rw [ByteArray.toList_eq]; rfl
    have ha : ∀ W, (Op.stringOp .add ⟨#[]⟩ s).run Tryz.prog W = .ok (.string (⟨#[]⟩ ++ s)) W := fun W => run_string_add_sum (P := Tryz.prog) W _ _ (by omega)
    clear h hz
    go_enter Tryz.func58, Tryz.ntmps58
    go_wp2_with fail
    go_end0
    refine ⟨rfl, ?_, grown_set _ _ _ _⟩
    have := row_set0 H.out (.string (⟨#[]⟩ ++ s))
    exact this
  · have he1 := ne_of hu
    have ha : ∀ W, (Op.stringOp .add u ⟨#[32]⟩).run Tryz.prog W = .ok (.string (u ++ ⟨#[32]⟩)) W := fun W => run_string_add_sum (P := Tryz.prog) W _ _ (by show u.size + 1 ≤ _; omega)
    obtain ⟨v, hv⟩ : ∃ v : ByteArray, v = u ++ ⟨#[32]⟩ := ⟨_, rfl⟩
    rw [← hv] at ha
    have hb : ∀ W, (Op.stringOp .add v s).run Tryz.prog W = .ok (.string (v ++ s)) W := fun W => run_string_add_sum (P := Tryz.prog) W _ _ (by
      have : v.size = u.size + 1 := by rw [hv]; simp [ByteArray.size_append]; rfl
      omega)
    have h1 := row_set0 h (.string v)
    have c1 := h1.cell (i := 0) (v := .string v) rfl
    have f1 := h1.free 0
    have H1 := Lib.hid h1
    have HE : Hid (oPut s ⟨u, b⟩ = ⟨v ++ s, b⟩) := Lib.hid (by unfold oPut; simp only; rw [if_neg hu, ← hv])
    clear h hz h1 hv hu
    go_enter Tryz.func58, Tryz.ntmps58
    go_wp2_with fail
    go_end0
    refine ⟨rfl, ?_, grown_trans (grown_set _ _ _ _) (grown_set _ _ _ _)⟩
    rw [HE.out]
    exact row_set0 H1.out (.string (v ++ s))
/-- What isName says of a text. -/
def IsNmW (s : ByteArray) : Prop := ∀ W : World, Calls Tryz.prog 90 #[.string s] W fun e w' => e = .returned (.bool (isNm s)) ∧ Below W.heap.size W w'
set_option maxRecDepth 100000 in
set_option maxHeartbeats 4000000 in
theorem onameW (r : Nat) (o : OS) (s : ByteArray) (w : World) (hn : IsNmW s) (h : ORow r o w) (hz : o.s.size + s.size ≤ 1000000000) :
    Calls Tryz.prog 59 #[.pointer (some ⟨r, 0, none⟩), .string s] w (OPost r (oName s o) w) := by
  obtain ⟨u, b⟩ := o
  have hz : u.size + s.size ≤ 1000000000 := hz
  have h : Row r 128 #[.string u, .bool b] w := h
  have HZ := Lib.hid hz
  have HN := Lib.hid (hn w)
  cases b with
  | false =>
    have c1 := h.cell (i := 1) (v := .bool false) rfl
    have f1 := h.free 1
    have HR1 := Lib.hid (row_set1 h (.bool false))
    have HP := Lib.hid (oputW r ⟨u, false⟩ s (w.setCell ⟨r, 1, none⟩ (.bool false)) HR1.out hz)
    clear h hz hn
    go_enter Tryz.func59, Tryz.ntmps59
    go_wp2_with fail
    refine HP.out.mono ?_
    rintro e2 w2 ⟨rfl, hr2, hg2⟩
    have H2 := Lib.hid hr2
    have HG2 := Lib.hid (grown_trans (grown_set w r 1 (.bool false)) hg2)
    clear hr2 hg2 HP c1 f1
    go_wp2_with fail
    go_end0
    exact ⟨rfl, H2.out, HG2.out⟩
  | true =>
    have c1 := h.cell (i := 1) (v := .bool true) rfl
    have H := Lib.hid h
    clear h hz hn
    go_enter Tryz.func59, Tryz.ntmps59
    go_wp2_with fail
    refine HN.out.mono ?_
    rintro e1 w1 ⟨rfl, hb1⟩
    have H1 := H.out.later hb1
    have f1 := H1.free 1
    have d1 := H1.cell (i := 1) (v := .bool true) rfl
    have HR1 := Lib.hid (row_set1 H1 (.bool (isNm s)))
    have HP := Lib.hid (oputW r ⟨u, isNm s⟩ s (w1.setCell ⟨r, 1, none⟩ (.bool (isNm s))) HR1.out HZ.out)
    have HG1 := Lib.hid (grown_trans (below_grown (r := r) hb1) (grown_set w1 r 1 (.bool (isNm s))))
    clear c1 hb1 H1 HN
    go_wp2_with fail
    refine HP.out.mono ?_
    rintro e2 w2 ⟨rfl, hr2, hg2⟩
    have H2 := Lib.hid hr2
    have HG2 := Lib.hid (grown_trans HG1.out hg2)
    clear hr2 hg2 HP f1 d1
    go_wp2_with fail
    go_end0
    refine ⟨rfl, ?_, HG2.out⟩
    have e : oName s ⟨u, true⟩ = oPut s ⟨u, isNm s⟩ := by unfold oName oAnd; simp
    rw [e]
    exact H2.out
set_option maxRecDepth 100000 in
set_option maxHeartbeats 4000000 in
theorem oasW (r : Nat) (o : OS) (s : ByteArray) (w : World) (hn : IsNmW s) (h : ORow r o w) (hz : o.s.size + s.size + 4 ≤ 1000000000) :
    Calls Tryz.prog 92 #[.pointer (some ⟨r, 0, none⟩), .string s] w (OPost r (oAs s o) w) := by
  have H := Lib.hid h
  unfold oAs
  by_cases hs : s = B0
  · subst hs
    rw [if_pos rfl]
    have he1 : (⟨#[]⟩ : ByteArray).toList.isEmpty = true := by rw [ByteArray.toList_eq]; rfl
    clear h
    go_enter Tryz.func92, Tryz.ntmps92
    go_wp2_with fail
    go_end0
    exact ⟨rfl, H.out, World.grownBy.refl _ _⟩
  · rw [if_neg hs]
    have he1 := ne_of hs
    have HP := Lib.hid (oputW r o WAS w h (by show o.s.size + 2 ≤ _; omega))
    have HN := Lib.hid hn
    have HZ : Hid ((oPut WAS o).s.size + s.size ≤ 1000000000) := Lib.hid (by
      have : (oPut WAS o).s.size ≤ o.s.size + 3 := by
        unfold oPut
        simp only
        rw [ByteArray.size_append]
        split
        · show _ + 2 ≤ _; omega
        · rw [ByteArray.size_append]; show _ + 1 + 2 ≤ _; omega
      omega)
    clear h hn hs hz
    go_enter Tryz.func92, Tryz.ntmps92
    go_wp2_with fail
    refine HP.out.mono ?_
    rintro e2 w2 ⟨rfl, hr2, hg2⟩
    have HQ := Lib.hid (onameW r _ s w2 HN.out hr2 HZ.out)
    have HG2 := Lib.hid hg2
    clear hr2 hg2 HP
    go_wp2_with fail
    refine HQ.out.mono ?_
    rintro e3 w3 ⟨rfl, hr3, hg3⟩
    have H3 := Lib.hid hr3
    have HG3 := Lib.hid (grown_trans HG2.out hg3)
    clear hr3 hg3 HQ
    go_wp2_with fail
    go_end0
    exact ⟨rfl, H3.out, HG3.out⟩
end Go.Proofs.YtjgkeillmelkoaaGreat.Dt
