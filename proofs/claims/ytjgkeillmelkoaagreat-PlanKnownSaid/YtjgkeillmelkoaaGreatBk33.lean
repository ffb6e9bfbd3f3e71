import Derived.Deep.CutBlock
import Derived.Test.YtjgkeillmelkoaaGreatBk32
namespace Go.Proofs.YtjgkeillmelkoaaGreat.Dt
open Go.RowKit Go.Proofs.YtjgkeillmelkoaaGreat.By

/-- The parts that tell a key's columns, as far as they go. -/
def tryL (f : Int) (parts : List PE) : List Int → List PE
  | [] => []
  | k :: ks => match tellsL f (wrap64 (f + k)) parts with
    | some y => y :: tryL f parts ks
    | none => []
theorem tryL_some {f : Int} {parts : List PE} {ks : List Int} {i : Nat} {k : Int} {y : PE} (h : ks[i]? = some k) (hy : tellsL f (wrap64 (f + k)) parts = some y) : tryL f parts (ks.drop i) = y :: tryL f parts (ks.drop (i + 1)) := by
  rw [dropC h, tryL, hy]
theorem tryL_none {f : Int} {parts : List PE} {ks : List Int} {i : Nat} {k : Int} (h : ks[i]? = some k) (hy : tellsL f (wrap64 (f + k)) parts = none) : tryL f parts (ks.drop i) = [] := by
  rw [dropC h, tryL, hy]
theorem tryL_len (f : Int) (parts : List PE) : ∀ ks : List Int, (tryL f parts ks).length ≤ ks.length
  | [] => Nat.le_refl _
  | k :: ks => by
    unfold tryL
    split
    · rw [List.length_cons, List.length_cons]; exact Nat.succ_le_succ (tryL_len f parts ks)
    · exact Nat.zero_le _
/-- What is known while 'x, is := l.tells(parts, l.first[i]+k, i)' is on its way. -/
structure TrJ (w0 w3 : World) (V : Nat → Value) (R : Option PE) (dn : Nat → Bool) (us : Nat → Value) (w : World) : Prop where
  hb : Below w3.heap.size w3 w
  kc : ∀ j, j < 10 → dn j = true → us j = V j
  k10 : dn 10 = true → ∃ c : Array Value, TlR w0 c R ∧ okRow 8 c = true ∧ us 10 = .tuple #[.agg c, .bool R.isSome] ∧ (dn 11 = true → us 11 = .tuple #[.agg c, .bool R.isSome]) ∧ (dn 12 = true → us 12 = .agg c) ∧ (dn 15 = true → ∃ g, us 14 = .pointer (some ⟨g, 0, none⟩) ∧ Row g 44 c w)
  k13 : dn 13 = true → us 13 = .bool R.isSome
  k14 : dn 14 = true → ∃ g, us 14 = .pointer (some ⟨g, 0, none⟩) ∧ w3.heap.size ≤ g ∧ g < w.heap.size ∧ (dn 15 = false → Row g 44 exZ w)
  k16 : dn 16 = true → us 16 = .bool R.isSome
section
variable {w0 w3 w w' : World} {V : Nat → Value} {R : Option PE} {dn : Nat → Bool} {us : Nat → Value}
theorem TrJ.k14' (h : TrJ w0 w3 V R dn us w) (hb : Below w.heap.size w w') (h14 : dn 14 = true) : ∃ g, us 14 = .pointer (some ⟨g, 0, none⟩) ∧ w3.heap.size ≤ g ∧ g < w'.heap.size ∧ (dn 15 = false → Row g 44 exZ w') := by
  obtain ⟨g, b1, b2, b3, b4⟩ := h.k14 h14
  exact ⟨g, b1, b2, Nat.lt_of_lt_of_le b3 hb.size, fun h9 => (b4 h9).later hb⟩
theorem TrJ.const (h : TrJ w0 w3 V R dn us w) (i : Nat) (hi : i < 10) : TrJ w0 w3 V R (upd dn i) (fun j => if j = i then V i else us j) w := by
  have q : ∀ j, 10 ≤ j → j ≠ i := fun j hj => by omega
  refine ⟨h.hb, fun j hj e => ?_, fun e => ?_, fun e => ?_, fun e => ?_, fun e => ?_⟩
  · by_cases hz : j = i
    · rw [if_pos hz, hz]
    · rw [if_neg hz]; rw [upd_ne hz] at e; exact h.kc j hj e
  · rw [upd_ne (q 10 (by decide))] at e
    rw [if_neg (q 10 (by decide)), if_neg (q 11 (by decide)), if_neg (q 12 (by decide)), if_neg (q 14 (by decide)), upd_ne (q 11 (by decide)), upd_ne (q 12 (by decide)), upd_ne (q 15 (by decide))]
    exact h.k10 e
  · rw [upd_ne (q 13 (by decide))] at e; rw [if_neg (q 13 (by decide))]; exact h.k13 e
  · rw [upd_ne (q 14 (by decide))] at e; rw [if_neg (q 14 (by decide)), upd_ne (q 15 (by decide))]; exact h.k14 e
  · rw [upd_ne (q 16 (by decide))] at e; rw [if_neg (q 16 (by decide))]; exact h.k16 e
end
theorem tlR_ok {w : World} {c : Array Value} {R : Option PE} (h : TlR w c R) : okRow 8 c = true := by
  cases R with
  | none => rw [show c = exZ from h]; simp [okRow, Value.oneCell']
  | some y =>
    obtain ⟨h1, h2⟩ := ex_cells (show ExR w c.toList y from h)
    exact okRow_iff.2 ⟨by simpa using h1, Array.all_eq_true_iff_forall_mem.2 fun v hv => h2 v (by simpa using hv)⟩
attribute [local go_sem ↓] veilSt_ex veilLd_ex veilBs_ex
attribute [local go_sem] run_exSt run_exNew run_exLd okRow8 Value.oneCell'
/-- The values of the operations ahead of the call. -/
def TrV (S : Array Value) (pv : Value) (gl : Nat) (fv : Value) (i0 fb fo : Nat) (f kv : Int) : Nat → Value
  | 0 => .agg S
  | 1 => pv
  | 2 => .pointer (some ⟨gl, 1, none⟩)
  | 3 => fv
  | 4 => .int .i64 (i0 : Int)
  | 5 => .pointer (some ⟨fb, fo + i0, none⟩)
  | 6 => .int .i64 f
  | 7 => .int .i64 kv
  | 8 => .int .i64 (wrap64 (f + kv))
  | _ => .int .i64 (i0 : Int)
theorem PRow.other {w0 w w' : World} {lo : Nat} {v : Value} {E : List PE} {r : Nat} (h : PRow w0 lo w v E) (g : w.grownBy w' (some r)) (hne : ∀ k, v.ownBlock = some k → k ≠ r) : PRow w0 lo w' v E := by
  obtain ⟨cs, h1, h2, h3⟩ := h
  refine ⟨cs, World.ownsRow.kept h1 g ?_, h2, h3⟩
  cases hk : v.ownBlock with
  | none => exact .inl rfl
  | some k => exact .inr (fun e => hne k hk (by cases e; rfl))
/-- What Plan's own boxes hold while a source is gone through. -/
structure TB (w0 : World) (gl gp gi : Nat) (S : Array Value) (pv : Value) (i : Nat) (w : World) : Prop where
  h0 : Below w0.heap.size w0 w
  rl : Row gl 51 S w
  rp : Row gp 32 #[pv] w
  ri : Row gi 3 #[.int .i64 (i : Int)] w
theorem TB.later {w0 w w' : World} {gl gp gi i : Nat} {S : Array Value} {pv : Value} (h : TB w0 gl gp gi S pv i w) (hb : Below w.heap.size w w') : TB w0 gl gp gi S pv i w' := ⟨h.h0.trans (hb.mono h.h0.size), h.rl.later hb, h.rp.later hb, h.ri.later hb⟩
set_option maxRecDepth 100000 in
set_option maxHeartbeats 32000000 in
theorem tryW {w0 w : World} {parts : List PE} {key fs : List Int} {pa ta fa ka qa : Option Addr} {pc tn tc fc kc qn qc i0 gl gp gi gs : Nat} {all f : Int} {nm ix : ByteArray} {sv : Value} (hp : ExsR w0 (.slice pa parts.length pc) parts) (hpl : parts.length ≤ 1000000) (h2 : ∀ x ∈ parts, ∃ a b, x.kids = [a, b])
    (hf : IntsR w (.slice fa fs.length fc) fs) (hi : fs[i0]? = some f) (hk : IntsR w (.slice ka key.length kc) key) (hkl : key.length ≤ 1000000) (hb : TB w0 gl gp gi #[.slice ta tn tc, .slice fa fs.length fc, .int .i64 all] (.slice pa parts.length pc) i0 w) (rs : Row gs 61 #[.string ix, .slice qa qn qc, sv] w) :
    Calls Tryz.prog 19 #[.string nm, .slice ka key.length kc, .pointer (some ⟨gl, 0, none⟩), .pointer (some ⟨gp, 0, none⟩), .pointer (some ⟨gi, 0, none⟩), .pointer (some ⟨gs, 0, none⟩)] w fun e w' => e = .returned (.tuple #[]) ∧ w.grownBy w' (some gs) ∧
      (if qn < (tryL f parts key).length then ∃ v, Row gs 61 #[.string nm, v, sv] w' ∧ PRow w0 w.heap.size w' v (tryL f parts key) else Row gs 61 #[.string ix, .slice qa qn qc, sv] w') := by
  have HP := Lib.hid hp
  have HPL := Lib.hid hpl
  have H2 := Lib.hid h2
  have HF := Lib.hid hf
  have HI := Lib.hid hi
  have HK := Lib.hid hk
  have HKL := Lib.hid hkl
  have HB := Lib.hid hb
  have HS := Lib.hid rs
  obtain ⟨R, hR⟩ : ∃ R, R = tryL f parts key := ⟨_, rfl⟩
  have HR := Lib.hid hR
  have HRL : Hid (R.length ≤ 1000000) := Lib.hid (by rw [hR]; exact Nat.le_trans (tryL_len f parts key) hkl)
  rw [← hR]
  clear hp hpl h2 hf hi hk hkl hb rs hR
  go_enter Tryz.func19, Tryz.ntmps19
  go_upto_block 0 with fail
  go_cut [8] (fun pv wx => Hid (PRow w0 w.heap.size wx pv R) ∧ Hid (Below w.heap.size w wx))
  case first =>
    go_wp2_with fail
    go_loopg [8, 15] key.length (fun gk pv iv wr => ∃ (k : Nat) (done : List PE), iv = .int .i64 (k : Int) ∧ gk = key.length - k ∧ k ≤ key.length ∧ done.length ≤ k ∧ Hid (R = done ++ tryL f parts (key.drop k)) ∧ Hid (PRow w0 w.heap.size wr pv done) ∧ Hid (Below w.heap.size w wr))
    case atStart => exact ⟨0, [], rfl, rfl, Nat.zero_le _, Nat.le_refl _, HR, Lib.hid (prow_nil _ _ _), Lib.hid (Below.refl _ _)⟩
    case round =>
      obtain ⟨k, done, rfl, rfl, hkk, hdl, HE, HPR, HBL⟩ := hrel
      obtain ⟨oa, oc, rfl⟩ := HPR.out.shape
      by_cases hlt : k < key.length
      · obtain ⟨kv, hkv⟩ : ∃ z, key[k]? = some z := ⟨key[k], by simp⟩
        obtain ⟨kb, ko, rfl, c0⟩ := int_at HK.out hkv
        have c0 := (HBL.out.cell (cell_lt c0)).trans c0
        have ilt : (k : Int) < (key.length : Int) := by omega
        have ige : (0 : Int) ≤ (k : Int) := by omega
        have HLT := Lib.hid hlt
        have HKV := Lib.hid hkv
        have HDL := Lib.hid hdl
        clear hkv hlt hkk hdl
        go_upto_region 4 with fail
        clear c0
        obtain ⟨fb, fo, e5, cf⟩ := int_at HF.out HI.out
        subst e5
        have HBR := Lib.hid (HB.out.later HBL.out)
        have HFR := Lib.hid (intsR_below HF.out HBL.out)
        have CF : Hid (wr.cell? ⟨fb, fo + i0, none⟩ = some (.int .i64 f)) := Lib.hid ((HBL.out.cell (cell_lt cf)).trans cf)
        obtain ⟨RT, hRT⟩ : ∃ RT, RT = tellsL f (wrap64 (f + kv)) parts := ⟨_, rfl⟩
        have HRT : Hid (tellsL f (wrap64 (f + kv)) parts = RT) := Lib.hid hRT.symm
        have hil := (List.getElem?_eq_some_iff.1 HI.out).1
        have iilt : (i0 : Int) < (fs.length : Int) := by omega
        have iige : (0 : Int) ≤ (i0 : Int) := by omega
        clear cf hRT hil
        refine wp_region_all' (TrJ w0 wr (TrV #[.slice ta tn tc, .slice (some ⟨fb, fo, none⟩) fs.length fc, .int .i64 all] (.slice pa parts.length pc) gl (.slice (some ⟨fb, fo, none⟩) fs.length fc) i0 fb fo f kv) RT) 50 rfl (by kernel_rfl) (by kernel_rfl) ?_ ?_ ?_
        · intro us _
          exact ⟨(Below.refl _ _).drew, (fun j _ h => by cases h), (fun h => by cases h), (fun h => by cases h), (fun h => by cases h), (fun h => by cases h)⟩
        · intro i hi dn us A A2 hother hat hJ hi0 hcl hd
          match i, hi with
          | 0, hi =>
            have h0 := tmps_at (show A.eval (.tmp 2) = .pointer (some ⟨gl, 0, none⟩) from hother 2 (by kernel_rfl))
            have l0 := (HBR.out.rl.later hJ.hb).cell (i := 0) (v := .slice ta tn tc) rfl
            have l1 := (HBR.out.rl.later hJ.hb).cell (i := 1) (v := .slice (some ⟨fb, fo, none⟩) fs.length fc) rfl
            have l2 := (HBR.out.rl.later hJ.hb).cell (i := 2) (v := .int .i64 all) rfl
            refine op_val rfl rfl (.agg #[.slice ta tn tc, .slice (some ⟨fb, fo, none⟩) fs.length fc, .int .i64 all]) A2 (by simp only [execOp]; go_simp) ?_
            exact ⟨_, rfl, hJ.const 0 (by decide)⟩
          | 1, hi =>
            have h0 := tmps_at (show A.eval (.tmp 3) = .pointer (some ⟨gp, 0, none⟩) from hother 3 (by kernel_rfl))
            have l0 := (HBR.out.rp.later hJ.hb).cell (i := 0) (v := .slice pa parts.length pc) rfl
            refine op_val rfl rfl (.slice pa parts.length pc) A2 (by simp only [execOp]; go_simp) ?_
            exact ⟨_, rfl, hJ.const 1 (by decide)⟩
          | 2, hi =>
            have h0 := tmps_at (show A.eval (.tmp 2) = .pointer (some ⟨gl, 0, none⟩) from hother 2 (by kernel_rfl))
            refine op_val rfl rfl (.pointer (some ⟨gl, 1, none⟩)) A2 (by simp only [execOp]; go_simp) ?_
            exact ⟨_, rfl, hJ.const 2 (by decide)⟩
          | 3, hi =>
            have h0 := tmps_at ((hat 2 22 (by decide) (by kernel_rfl) (by decide)).trans (hJ.kc 2 (by decide) (hd _ rfl ⟨2, .data⟩ (by simp) rfl)))
            simp only [TrV] at h0
            have l1 := (HBR.out.rl.later hJ.hb).cell (i := 1) (v := .slice (some ⟨fb, fo, none⟩) fs.length fc) rfl
            refine op_val rfl rfl (.slice (some ⟨fb, fo, none⟩) fs.length fc) A2 (by simp only [execOp]; go_simp) ?_
            exact ⟨_, rfl, hJ.const 3 (by decide)⟩
          | 4, hi =>
            have h0 := tmps_at (show A.eval (.tmp 4) = .pointer (some ⟨gi, 0, none⟩) from hother 4 (by kernel_rfl))
            have l0 := (HBR.out.ri.later hJ.hb).cell (i := 0) (v := .int .i64 (i0 : Int)) rfl
            refine op_val rfl rfl (.int .i64 (i0 : Int)) A2 (by simp only [execOp]; go_simp) ?_
            exact ⟨_, rfl, hJ.const 4 (by decide)⟩
          | 5, hi =>
            have h0 := tmps_at ((hat 3 23 (by decide) (by kernel_rfl) (by decide)).trans (hJ.kc 3 (by decide) (hd _ rfl ⟨3, .data⟩ (by simp) rfl)))
            simp only [TrV] at h0
            have h1 := tmps_at ((hat 4 24 (by decide) (by kernel_rfl) (by decide)).trans (hJ.kc 4 (by decide) (hd _ rfl ⟨4, .data⟩ (by simp) rfl)))
            simp only [TrV] at h1
            refine op_val rfl rfl (.pointer (some ⟨fb, fo + i0, none⟩)) A2 (by simp only [execOp]; go_simp) ?_
            exact ⟨_, rfl, hJ.const 5 (by decide)⟩
          | 6, hi =>
            have h0 := tmps_at ((hat 5 25 (by decide) (by kernel_rfl) (by decide)).trans (hJ.kc 5 (by decide) (hd _ rfl ⟨5, .data⟩ (by simp) rfl)))
            simp only [TrV] at h0
            have l0 := (hJ.hb.cell (cell_lt CF.out)).trans CF.out
            refine op_val rfl rfl (.int .i64 f) A2 (by simp only [execOp]; go_simp) ?_
            exact ⟨_, rfl, hJ.const 6 (by decide)⟩
          | 7, hi =>
            have h0 := tmps_at (show A.eval (.tmp 10) = .int .i64 kv from hother 10 (by kernel_rfl))
            refine op_val rfl rfl (.int .i64 kv) A2 (by simp only [execOp]; go_simp) ?_
            exact ⟨_, rfl, hJ.const 7 (by decide)⟩
          | 8, hi =>
            have h0 := tmps_at ((hat 6 26 (by decide) (by kernel_rfl) (by decide)).trans (hJ.kc 6 (by decide) (hd _ rfl ⟨6, .data⟩ (by simp) rfl)))
            simp only [TrV] at h0
            have h1 := tmps_at ((hat 7 27 (by decide) (by kernel_rfl) (by decide)).trans (hJ.kc 7 (by decide) (hd _ rfl ⟨7, .data⟩ (by simp) rfl)))
            simp only [TrV] at h1
            refine op_val rfl rfl (.int .i64 (wrap64 (f + kv))) A2 (by simp only [execOp]; go_simp; exact (IntKind.wrap_i64 _).trans (by unfold wrap64; rfl)) ?_
            exact ⟨_, rfl, hJ.const 8 (by decide)⟩
          | 9, hi =>
            have h0 := tmps_at (show A.eval (.tmp 4) = .pointer (some ⟨gi, 0, none⟩) from hother 4 (by kernel_rfl))
            have l0 := (HBR.out.ri.later hJ.hb).cell (i := 0) (v := .int .i64 (i0 : Int)) rfl
            refine op_val rfl rfl (.int .i64 (i0 : Int)) A2 (by simp only [execOp]; go_simp) ?_
            exact ⟨_, rfl, hJ.const 9 (by decide)⟩
          | 10, hi =>
            have h0 := tmps_at ((hat 0 20 (by decide) (by kernel_rfl) (by decide)).trans (hJ.kc 0 (by decide) (hd _ rfl ⟨0, .data⟩ (by simp) rfl)))
            simp only [TrV] at h0
            have h1 := tmps_at ((hat 1 21 (by decide) (by kernel_rfl) (by decide)).trans (hJ.kc 1 (by decide) (hd _ rfl ⟨1, .data⟩ (by simp) rfl)))
            simp only [TrV] at h1
            have h2 := tmps_at ((hat 8 28 (by decide) (by kernel_rfl) (by decide)).trans (hJ.kc 8 (by decide) (hd _ rfl ⟨8, .data⟩ (by simp) rfl)))
            simp only [TrV] at h2
            have h3 := tmps_at ((hat 9 29 (by decide) (by kernel_rfl) (by decide)).trans (hJ.kc 9 (by decide) (hd _ rfl ⟨9, .data⟩ (by simp) rfl)))
            simp only [TrV] at h3
            have htw := tellsW (ta := ta) (tn := tn) (tc := tc) (all := all) (n := wrap64 (f + kv)) (HBR.out.h0.trans (hJ.hb.mono HBR.out.h0.size)) HP.out HPL.out H2.out (intsR_below HFR.out hJ.hb) HI.out
            refine op_call' rfl rfl 20 #[.agg #[.slice ta tn tc, .slice (some ⟨fb, fo, none⟩) fs.length fc, .int .i64 all], .slice pa parts.length pc, .int .i64 (wrap64 (f + kv)), .int .i64 (i0 : Int)] (by simp only [execOp]; go_simp) (htw.mono ?_)
            rintro e w' ⟨c, rfl, hv, hb⟩
            rw [HRT.out] at hv ⊢
            have hd11 : dn 11 = false := by
              cases h : dn 11 with
              | false => rfl
              | true => exact absurd (hcl 11 _ rfl h ⟨10, .data⟩ (by simp) rfl) (ne_true hi0)
            have hd12 : dn 12 = false := by
              cases h : dn 12 with
              | false => rfl
              | true => exact absurd (hcl 12 _ rfl h ⟨11, .data⟩ (by simp) rfl) (ne_true hd11)
            have hd15 : dn 15 = false := by
              cases h : dn 15 with
              | false => rfl
              | true => exact absurd (hcl 15 _ rfl h ⟨12, .data⟩ (by simp) rfl) (ne_true hd12)
            refine ⟨_, rfl, _, rfl, hJ.hb.trans (hb.mono hJ.hb.size), fun j hj e => ?_, fun _ => ⟨c, hv, tlR_ok hv, rfl, fun e => by simp [upd, hd11] at e, fun e => by simp [upd, hd12] at e, fun e => by simp [upd, hd15] at e⟩, fun e => hJ.k13 (by simpa [upd] using e), fun e => by simpa [upd] using hJ.k14' hb (by simpa [upd] using e), fun e => hJ.k16 (by simpa [upd] using e)⟩
            have hj10 : j ≠ 10 := by omega
            show (if j = 10 then _ else us j) = _
            rw [if_neg hj10]; rw [upd_ne hj10] at e; exact hJ.kc j hj e
          | 11, hi =>
            have hd10 : dn 10 = true := hd _ rfl ⟨10, .data⟩ (by simp) rfl
            obtain ⟨c, a1, a2, a3, a4, a5, a6⟩ := hJ.k10 hd10
            have h0 := tmps_at ((hat 10 30 (by decide) (by kernel_rfl) (by decide)).trans a3)
            refine op_val rfl rfl (.tuple #[.agg c, .bool RT.isSome]) A2 (by simp only [execOp]; go_simp) ?_
            exact ⟨_, rfl, hJ.hb, (fun j hj e => by
              have hj1 : j ≠ 11 := by omega
              show (if j = 11 then _ else us j) = _
              rw [if_neg hj1]; rw [upd_ne hj1] at e; exact hJ.kc j hj e), fun _ => ⟨c, a1, a2, a3, fun _ => rfl, fun e => a5 (by simpa [upd] using e), fun e => by simpa [upd] using a6 (by simpa [upd] using e)⟩, fun e => hJ.k13 (by simpa [upd] using e), fun e => by simpa [upd] using hJ.k14 (by simpa [upd] using e), fun e => hJ.k16 (by simpa [upd] using e)⟩
          | 12, hi =>
            have hd11 : dn 11 = true := hd _ rfl ⟨11, .data⟩ (by simp) rfl
            have hd10 : dn 10 = true := hcl 11 _ rfl hd11 ⟨10, .data⟩ (by simp) rfl
            obtain ⟨c, a1, a2, a3, a4, a5, a6⟩ := hJ.k10 hd10
            have h0 := tmps_at ((hat 11 19 (by decide) (by kernel_rfl) (by decide)).trans (a4 hd11))
            refine op_val rfl rfl (.agg c) A2 (by simp only [execOp]; go_simp) ?_
            exact ⟨_, rfl, hJ.hb, (fun j hj e => by
              have hj1 : j ≠ 12 := by omega
              show (if j = 12 then _ else us j) = _
              rw [if_neg hj1]; rw [upd_ne hj1] at e; exact hJ.kc j hj e), fun _ => ⟨c, a1, a2, a3, fun e => a4 (by simpa [upd] using e), fun _ => rfl, fun e => by simpa [upd] using a6 (by simpa [upd] using e)⟩, fun e => hJ.k13 (by simpa [upd] using e), fun e => by simpa [upd] using hJ.k14 (by simpa [upd] using e), fun e => hJ.k16 (by simpa [upd] using e)⟩
          | 13, hi =>
            have hd11 : dn 11 = true := hd _ rfl ⟨11, .data⟩ (by simp) rfl
            have hd10 : dn 10 = true := hcl 11 _ rfl hd11 ⟨10, .data⟩ (by simp) rfl
            obtain ⟨c, a1, a2, a3, a4, a5, a6⟩ := hJ.k10 hd10
            have h0 := tmps_at ((hat 11 19 (by decide) (by kernel_rfl) (by decide)).trans (a4 hd11))
            refine op_val rfl rfl (.bool RT.isSome) A2 (by simp only [execOp]; go_simp) ?_
            exact ⟨_, rfl, hJ.hb, (fun j hj e => by
              have hj1 : j ≠ 13 := by omega
              show (if j = 13 then _ else us j) = _
              rw [if_neg hj1]; rw [upd_ne hj1] at e; exact hJ.kc j hj e), fun _ => ⟨c, a1, a2, a3, fun e => a4 (by simpa [upd] using e), fun e => a5 (by simpa [upd] using e), fun e => by simpa [upd] using a6 (by simpa [upd] using e)⟩, fun _ => rfl, fun e => by simpa [upd] using hJ.k14 (by simpa [upd] using e), fun e => hJ.k16 (by simpa [upd] using e)⟩
          | 14, hi =>
            have h15 : dn 15 = false := by
              cases h : dn 15 with
              | false => rfl
              | true => exact absurd (hcl 15 _ rfl h ⟨14, .data⟩ (by simp) rfl) (ne_true hi0)
            have hb : Below A2.heap.size A2 (A2.alloc (.cells exZ 44)) := (Below.refl _ _).alloc (Nat.le_refl _) _
            refine op_val rfl rfl (.pointer (some ⟨A2.heap.size, 0, none⟩)) (A2.alloc (.cells exZ 44)) (by simp only [execOp]; go_simp) ?_
            refine ⟨_, rfl, hJ.hb.trans (hb.mono hJ.hb.size), (fun j hj e => by
              have hj1 : j ≠ 14 := by omega
              show (if j = 14 then _ else us j) = _
              rw [if_neg hj1]; rw [upd_ne hj1] at e; exact hJ.kc j hj e), fun e => ?_, fun e => hJ.k13 (by simpa [upd] using e), fun _ => ⟨_, rfl, hJ.hb.size, by simp, fun _ => row_alloc _ _ _⟩, fun e => hJ.k16 (by simpa [upd] using e)⟩
            obtain ⟨c, a1, a2, a3, a4, a5, a6⟩ := hJ.k10 (by simpa [upd] using e)
            exact ⟨c, a1, a2, a3, fun e => a4 (by simpa [upd] using e), fun e => a5 (by simpa [upd] using e), fun e => by simp [upd, h15] at e⟩
          | 15, hi =>
            have hd14 : dn 14 = true := hd _ rfl ⟨14, .data⟩ (by simp) rfl
            have hd12 : dn 12 = true := hd _ rfl ⟨12, .data⟩ (by simp) rfl
            have hd10 : dn 10 = true := hd _ rfl ⟨10, .chain⟩ (by simp) rfl
            obtain ⟨c, a1, a2, a3, a4, a5, a6⟩ := hJ.k10 hd10
            obtain ⟨g, d1, d2, d3, d4⟩ := hJ.k14 hd14
            have hrow := d4 hi0
            have h0 := tmps_at ((hat 14 11 (by decide) (by kernel_rfl) (by decide)).trans d1)
            have h1 := tmps_at ((hat 12 31 (by decide) (by kernel_rfl) (by decide)).trans (a5 hd12))
            have hrb := hrow.b (n := 8) rfl
            refine op_skip rfl rfl (A2.setRow g c) (by simp only [execOp]; go_simp) ?_
            exact ⟨_, rfl, below_setRow' hJ.hb d2 c, (fun j hj e => by
              have hj1 : j ≠ 15 := by omega
              show (if j = 15 then _ else us j) = _
              rw [if_neg hj1]; rw [upd_ne hj1] at e; exact hJ.kc j hj e), fun _ => ⟨c, a1, a2, a3, fun e => a4 (by simpa [upd] using e), fun e => a5 (by simpa [upd] using e), fun _ => ⟨g, d1, hrow.set c⟩⟩, fun e => hJ.k13 (by simpa [upd] using e), fun _ => ⟨g, d1, d2, by simpa using d3, fun e => by simp [upd] at e⟩, fun e => hJ.k16 (by simpa [upd] using e)⟩
          | 16, hi =>
            have hd13 : dn 13 = true := hd _ rfl ⟨13, .data⟩ (by simp) rfl
            have h0 := tmps_at ((hat 13 32 (by decide) (by kernel_rfl) (by decide)).trans (hJ.k13 hd13))
            refine op_val rfl rfl (.bool RT.isSome) A2 (by simp only [execOp]; go_simp) ?_
            exact ⟨_, rfl, hJ.hb, (fun j hj e => by
              have hj1 : j ≠ 16 := by omega
              show (if j = 16 then _ else us j) = _
              rw [if_neg hj1]; rw [upd_ne hj1] at e; exact hJ.kc j hj e), fun e => by simpa [upd] using hJ.k10 (by simpa [upd] using e), fun e => hJ.k13 (by simpa [upd] using e), fun e => by simpa [upd] using hJ.k14 (by simpa [upd] using e), fun _ => rfl⟩
          | i + 17, hi => exact absurd hi (by simp)
        intro dn us w4 hall hJ
        obtain ⟨c, a1, a2, a3, a4, a5, a6⟩ := hJ.k10 (hall 10 (by decide))
        obtain ⟨g, b1, b2⟩ := a6 (hall 15 (by decide))
        have e14 := b1
        have e16 := hJ.k16 (hall 16 (by decide))
        have HG := Lib.hid b2
        have HTL := Lib.hid a1
        have HPR4 := Lib.hid (HPR.out.later hJ.hb)
        have HB4 := Lib.hid (HBL.out.trans (hJ.hb.mono HBL.out.size))
        have HOK := a2
        clear a1 a2 a3 a4 a5 a6 b1 b2 hall hJ iilt iige
        simp only [putAll, dstOf, Act.put, List.getElem?_toArray, List.getElem?_cons_zero, List.getElem?_cons_succ, Option.bind_some, List.length_cons, List.length_nil]
        simp only [List.setIfInBounds_toArray, List.set_cons_zero, List.set_cons_succ]
        rw [e14, e16]
        cases hRT : RT with
        | none =>
          subst hRT
          have HRD : Hid (R = done) := Lib.hid (by rw [HE.out, tryL_none HKV.out HRT.out, List.append_nil])
          have HPF : Hid (PRow w0 w.heap.size w4 (.slice oa done.length oc) R) := Lib.hid (by rw [HRD.out]; exact HPR4.out)
          have es : (none : Option PE).isSome = false := rfl
          rw [es]
          go_wp2_with fail
          go_meet
          exact ⟨HPF, HB4⟩
        | some y =>
          subst hRT
          have HRD : Hid (R = (done ++ [y]) ++ tryL f parts (key.drop (k + 1))) := Lib.hid (by rw [HE.out, tryL_some HKV.out HRT.out, List.append_assoc]; rfl)
          have es : (some y).isSome = true := rfl
          rw [es]
          have hsz := (okRow_iff.1 HOK).1
          have hrb := HG.out.b (n := 8) hsz
          have hro := HG.out.of
          have hbs : (veilBs 32 1 #[(0, .agg c)]).run Tryz.prog w4 = .ok (.slice (some ⟨w4.heap.size, 0, none⟩) 1 1) (w4.alloc (.cells c 44)) := run_bs1 w4 c hsz
          have hb5 := (Below.refl _ w4).alloc (Nat.le_refl _) (.cells c 44)
          have HP5 := Lib.hid (HPR4.out.later hb5)
          have HB5 := Lib.hid (next HB4.out hb5)
          have HN5 := Lib.hid (prow_lit (w0 := w0) (lo := w4.heap.size) (row_alloc w4 44 c) hsz (show ExR w0 c.toList y from HTL.out) (Nat.le_refl _))
          obtain ⟨v6, w6, hrun, hp6, hb6⟩ := HP5.out.run HN5.out 32 (by have := HDL.out; have := HLT.out; have := HKL.out; simp only [List.length_cons, List.length_nil]; omega) HB5.out.size
          have HP6 := Lib.hid hp6
          have HB6 := Lib.hid (HB5.out.trans hb6)
          clear hp6 hb6 hb5
          go_wp2_with (at_builtin; refine pl_list_run rfl (.tmp 35) (.tmp 37) 32 rfl rfl rfl hrun ?_)
          clear hrun hrb hro hbs HP5 HN5
          go_wp2_with fail
          go_roundg (key.length - (k + 1))
          case measure => exact Nat.sub_lt_sub_left HLT.out (Nat.lt_succ_self _)
          case rel => exact ⟨k + 1, done ++ [y], congrArg (Value.int .i64) (by have h1 := HKL.out; have h2 := HLT.out; unfold wrap64; omega), rfl, HLT.out, by rw [List.length_append, List.length_singleton]; exact Nat.succ_le_succ HDL.out, HRD, HP6, HB6⟩
      · obtain rfl : k = key.length := by omega
        have HRD : Hid (R = done) := Lib.hid (by rw [HE.out, List.drop_length, tryL, List.append_nil])
        have HPF : Hid (PRow w0 w.heap.size wr (.slice oa done.length oc) R) := Lib.hid (by rw [HRD.out]; exact HPR.out)
        clear hlt hkk
        go_wp2_with fail
        go_meet
        exact ⟨HPF, HBL⟩
  case rest =>
    obtain ⟨HPF, HBF⟩ := hcut
    obtain ⟨oa, oc, rfl⟩ := HPF.out.shape
    have HS3 := Lib.hid (HS.out.later HBF.out)
    have c0 := HS3.out.cell (i := 0) (v := .string ix) rfl
    have c1 := HS3.out.cell (i := 1) (v := .slice qa qn qc) rfl
    have f0 := HS3.out.free 0
    have f1 := HS3.out.free 1
    by_cases hq : qn < R.length
    · have iq : (qn : Int) < (R.length : Int) := by omega
      have HQ := Lib.hid hq
      clear hq
      go_wp2_with fail
      go_end0
      have hs0 := setCell_eq_setRow wc gs 0 _ _ _ (.string nm) HS3.out
      have hr0 : Row gs 61 #[.string nm, .slice qa qn qc, sv] (wc.setCell ⟨gs, 0, none⟩ (.string nm)) := by rw [hs0]; exact HS3.out.set _
      have hs1 := setCell_eq_setRow _ gs 1 _ _ _ (.slice oa R.length oc) hr0
      have hgr : w.grownBy ((wc.setCell ⟨gs, 0, none⟩ (.string nm)).setCell ⟨gs, 1, none⟩ (.slice oa R.length oc)) (some gs) := by
        rw [hs1, hs0]
        exact grown_trans (grown_trans (below_grown HBF.out) (grown_setRow _ _ _)) (grown_setRow _ _ _)
      have hne : ∀ k, (Value.slice oa R.length oc).ownBlock = some k → k ≠ gs := fun k hk e => by have h1 := (HPF.out.lt k hk).1; have h2 := HS.out.lt; omega
      refine ⟨rfl, hgr, ?_⟩
      refine ⟨_, by rw [hs1]; exact hr0.set _, ?_⟩
      rw [hs1, hs0]
      exact PRow.other (PRow.other HPF.out (grown_setRow _ _ _) hne) (grown_setRow _ _ _) hne
    · have iq : ¬ (qn : Int) < (R.length : Int) := by omega
      have HQ := Lib.hid hq
      clear hq
      go_wp2_with fail
      go_end0
      exact ⟨rfl, below_grown HBF.out, HS3.out⟩
end Go.Proofs.YtjgkeillmelkoaaGreat.Dt
