import Derived.Test.YtjgkeillmelkoaaGreatBk41
namespace Go.Proofs.YtjgkeillmelkoaaGreat.Dt
open Go.RowKit Go.Proofs.YtjgkeillmelkoaaGreat.By

theorem src6t : ∀ i, i < 2 → ∃ x, st6.src[i]? = some x ∧ x.table = ⟨#[116]⟩
  | 0, _ => ⟨_, rfl, rfl⟩
  | 1, _ => ⟨_, rfl, rfl⟩
def fL (k : Nat) : List Value := ([.int .i64 0, .int .i64 3] : List Value).take k
theorem fL_next : ∀ (k : Nat) (A : Int), k < 2 → A = 3 * (k : Int) → fL k ++ [.int .i64 A] = fL (k + 1)
  | 0, _, _, h => by subst h; rfl
  | 1, _, _, h => by subst h; rfl
def tL (c : List Value) (k : Nat) : List Value := (List.replicate k c).flatten
theorem tL_next (c : List Value) (k : Nat) : tL c k ++ c = tL c (k + 1) := by unfold tL; rw [List.replicate_succ', List.flatten_append]; simp
theorem nL_next (k : Nat) : List.replicate k (.string ⟨#[116]⟩) ++ [.string ⟨#[116]⟩] = List.replicate (k + 1) (Value.string ⟨#[116]⟩) := List.replicate_succ'.symm
theorem nL_at (k : Nat) (h : k < 2) : (List.replicate 2 (Value.string ⟨#[116]⟩))[k]? = some (.string ⟨#[116]⟩) := by rw [List.getElem?_replicate, if_pos h]
/-- The names so far. -/
structure NJ (w2 : World) (nv : Value) (i : Nat) (W : World) : Prop where
  own : W.ownsRow w2.heap.size 9 1 nv i (List.replicate i (.string ⟨#[116]⟩))
  hb : Below w2.heap.size w2 W
/-- What was gathered so far. -/
structure GS (w3 : World) (gl k : Nat) (tc : List Value) (A : Int) (tv fv : Value) (W : World) : Prop where
  row : Row gl 51 #[tv, fv, .int .i64 A] W
  t : W.ownsRow w3.heap.size 59 4 tv k (tL tc k)
  f : W.ownsRow w3.heap.size 3 1 fv k (fL k)
  dj : ∀ z, tv.ownBlock = some z → fv.ownBlock ≠ some z
  hg : w3.grownBy W (some gl)
  hA : A = 3 * (k : Int)
theorem GS.later {w3 W W' : World} {gl k : Nat} {tc : List Value} {A : Int} {tv fv : Value} (h : GS w3 gl k tc A tv fv W) (hb : Below W.heap.size W W') : GS w3 gl k tc A tv fv W' :=
  ⟨h.row.later hb, World.ownsRow.kept h.t (pl_grown hb) (by cases tv.ownBlock <;> simp), World.ownsRow.kept h.f (pl_grown hb) (by cases fv.ownBlock <;> simp), h.dj, grown_trans h.hg (below_grown hb), h.hA⟩
attribute [local go_sem ↓] veilSt_sr
attribute [local go_sem] run_srSt okRow3' Value.oneCell'
set_option maxRecDepth 100000 in
set_option maxHeartbeats 32000000 in
theorem gather2W (va : Option Addr) (vc : Nat) (cs : List Value) (w : World) (hcat : CatR w (.slice va 1 vc) [smallT]) (h : StR w cs st6) :
    Calls Tryz.prog 14 #[.slice va 1 vc, .agg cs.toArray] w fun e w' => ∃ ta tc fa fc, e = .returned (.tuple #[.agg #[.slice ta 2 tc, .slice fa 2 fc, .int .i64 6], .bool true]) ∧
      CatR w' (.slice ta 2 tc) [smallT, smallT] ∧ IntsR w' (.slice fa 2 fc) [0, 3] ∧ Below w.heap.size w w' := by
  obtain ⟨c4, c5, c6, c7, c8, c9, c10, c11, c12, c13, c14, rfl, _, _, _, _, _, _, h10, _⟩ := h
  obtain ⟨ga, gc, rfl, _⟩ := h10.shape
  change SlR 3 SrcR w (.slice ga 2 gc) st6.src at h10
  show Calls _ _ #[_, .agg #[.int .u8 8, .string ⟨#[]⟩, .string ⟨#[]⟩, .bool false, c4, c5, c6, c7, c8, c9, .slice ga 2 gc, c11, c12, c13, c14, .int .i64 (-1)]] w _
  have h1 := row_alloc w 35 #[.int .u8 8, .string ⟨#[]⟩, .string ⟨#[]⟩, .bool false, c4, c5, c6, c7, c8, c9, .slice ga 2 gc, c11, c12, c13, c14, .int .i64 (-1)]
  have b1 := (Below.refl _ w).alloc (Nat.le_refl _) (.cells #[.int .u8 8, .string ⟨#[]⟩, .string ⟨#[]⟩, .bool false, c4, c5, c6, c7, c8, c9, .slice ga 2 gc, c11, c12, c13, c14, .int .i64 (-1)] 35)
  have b2 := (Below.refl _ (w.alloc (.cells #[.int .u8 8, .string ⟨#[]⟩, .string ⟨#[]⟩, .bool false, c4, c5, c6, c7, c8, c9, .slice ga 2 gc, c11, c12, c13, c14, .int .i64 (-1)] 35))).alloc (Nat.le_refl _) (.cells #[.slice none 0 0, .slice none 0 0, .int .i64 0] 51)
  have hz := row_alloc (w.alloc (.cells #[.int .u8 8, .string ⟨#[]⟩, .string ⟨#[]⟩, .bool false, c4, c5, c6, c7, c8, c9, .slice ga 2 gc, c11, c12, c13, c14, .int .i64 (-1)] 35)) 51 #[.slice none 0 0, .slice none 0 0, .int .i64 0]
  have z1 : (w.alloc (.cells #[.int .u8 8, .string ⟨#[]⟩, .string ⟨#[]⟩, .bool false, c4, c5, c6, c7, c8, c9, .slice ga 2 gc, c11, c12, c13, c14, .int .i64 (-1)] 35)).heap.size = w.heap.size + 1 := by simp
  rw [z1] at hz
  have HS := Lib.hid (h1.later b2)
  have HZ := Lib.hid hz
  have HB := Lib.hid (next b1 b2)
  have HCAT := Lib.hid hcat
  have HSRC := Lib.hid h10
  clear h1 b1 b2 hz z1 hcat h10
  go_enter Tryz.func14, Tryz.ntmps14
  go_upto_region 1 with fail
  generalize (w.alloc (.cells #[.int .u8 8, .string ⟨#[]⟩, .string ⟨#[]⟩, .bool false, c4, c5, c6, c7, c8, c9, .slice ga 2 gc, c11, c12, c13, c14, .int .i64 (-1)] 35)).alloc (.cells #[.slice none 0 0, .slice none 0 0, .int .i64 0] 51) = w1 at *
  have c1 := HS.out.cell (i := 1) (v := .string ⟨#[]⟩) rfl
  go_upto_region 2 with fail
  clear c1
  have hb2 : Below w1.heap.size w1 (w1.alloc (.cells #[.string ⟨#[]⟩] 9)) := (Below.refl _ _).alloc (Nat.le_refl _) _
  have HS2 := Lib.hid (HS.out.later hb2)
  have HZ2 := Lib.hid (HZ.out.later hb2)
  have HB2 := Lib.hid (next HB.out hb2)
  clear hb2 HS HZ HB
  generalize w1.alloc (.cells #[.string ⟨#[]⟩] 9) = w2 at *
  have c0 := HS2.out.cell (i := 0) (v := .int .u8 8) rfl
  have c10 := HS2.out.cell (i := 10) (v := .slice ga 2 gc) rfl
  obtain ⟨gb, go, rfl⟩ : ∃ gb go, ga = some ⟨gb, go, none⟩ := by
    obtain ⟨b, o, _, e, _⟩ := src_at0 (k := 0) HSRC.out rfl
    exact ⟨b, o, e⟩
  have HN0 : Hid (NJ w2 (.slice none 0 0) 0 w2) := Lib.hid ⟨World.ownsRow_nil _ _ _ _, Below.refl _ _⟩
  go_wp2_with fail
  clear c0 c10
  go_loopg [6, 23] 2 (fun gk nv iv wr => ∃ (i : Nat) (na : Option Addr) (nc : Nat), nv = .slice na i nc ∧ iv = .int .i64 (i : Int) ∧ gk = 2 - i ∧ i ≤ 2 ∧ Hid (NJ w2 (.slice na i nc) i wr))
  case atStart => exact ⟨0, none, 0, rfl, rfl, rfl, by decide, HN0⟩
  case round =>
    obtain ⟨i, na, nc, rfl, rfl, rfl, hi, HN⟩ := hrel
    clear HN0
    rcases Nat.lt_or_ge i 2 with hlt | hge
    · obtain ⟨x, hx, hxt⟩ := src6t i hlt
      obtain ⟨b1, o1, v1, e1, p0, p1, p2, hon⟩ := src_at0 HSRC.out hx
      cases e1
      obtain ⟨xa, xc, rfl, _⟩ := hon.shape
      generalize x.on.length = xn at *
      have hbw := next HB2.out HN.out.hb
      have p0 := (hbw.cell (cell_lt p0)).trans p0
      have p1 := (hbw.cell (cell_lt p1)).trans p1
      have p2 := (hbw.cell (cell_lt p2)).trans p2
      rw [hxt] at p0
      generalize x.as = xs at *
      have ilt : (i : Int) < 2 := Int.ofNat_lt.2 hlt
      have ige : (0 : Int) ≤ (i : Int) := Int.natCast_nonneg i
      have HLT := Lib.hid hlt
      have hbx := (Below.refl _ wr).alloc (Nat.le_refl _) (.cells #[.string ⟨#[116]⟩, .string xs, .slice xa xn xc] 80)
      have HY := Lib.hid (row_alloc wr 80 #[.string ⟨#[116]⟩, .string xs, .slice xa xn xc])
      have HN5 : Hid (NJ w2 (.slice na i nc) i (wr.alloc (.cells #[.string ⟨#[116]⟩, .string xs, .slice xa xn xc] 80))) := Lib.hid ⟨World.ownsRow.kept HN.out.own (pl_grown hbx) (by cases (Value.slice na i nc).ownBlock <;> simp), next HN.out.hb hbx⟩
      clear hbw hbx hon hx hxt hlt hi HN
      go_upto_region 7 with fail
      clear p0 p1 p2
      generalize wr.alloc (.cells #[.string ⟨#[116]⟩, .string xs, .slice xa xn xc] 80) = w5 at *
      generalize wr.heap.size = gf at *
      have l0 := HY.out.cell (i := 0) (v := .string ⟨#[116]⟩) rfl
      have hba := (Below.refl _ w5).alloc (Nat.le_refl _) (.cells #[.string ⟨#[116]⟩] 9)
      have hn6 := World.ownsRow.kept HN5.out.own (pl_grown hba) (by cases (Value.slice na i nc).ownBlock <;> simp)
      have hb6 := next HN5.out.hb hba
      obtain ⟨v6, w6, hrun, hown, hg6, hv6⟩ := pl_run_append (P := Tryz.prog) 27 27 9 1 16 elStrP w2.heap.size (.slice na i nc) i _ hn6 (.slice (some ⟨w5.heap.size, 0, none⟩) 1 1) 1 [.string ⟨#[116]⟩] (prd_lit (row_alloc w5 _ _) rfl) (by simp [Value.oneCell']) (by have := HLT.out; unfold maxLen; omega) (by have := HLT.out; omega) hb6.size
      rw [nL_next] at hown
      have HN6 : Hid (NJ w2 v6 (i + 1) w6) := Lib.hid ⟨hown, hb6.grown hg6 hb6.size (fun k hk => (World.ownsRow.lt hn6 k hk).1)⟩
      obtain ⟨va6, vc6, rfl⟩ := own_slR hown
      clear hown hg6 hv6 hba hn6 hb6
      go_wp2_with (at_builtin; refine pl_list_run rfl (.tmp 27) (.tmp 30) 27 rfl rfl rfl hrun ?_)
      clear hrun l0
      go_wp2_with fail
      go_roundg (2 - (i + 1))
      case measure => exact Nat.sub_lt_sub_left HLT.out (Nat.lt_succ_self _)
      case rel => exact ⟨i + 1, va6, vc6, rfl, congrArg (Value.int .i64) (Int.natCast_succ i).symm, rfl, HLT.out, HN6⟩
    · obtain rfl : i = 2 := Nat.le_antisymm hi hge
      clear hi hge
      obtain ⟨w2a, rfl⟩ : ∃ z, z = wr := ⟨wr, rfl⟩
      obtain ⟨gn, e⟩ : ∃ gn, na = some ⟨gn, 0, none⟩ := by
        rcases HN.out.own.2 with ⟨_, h0⟩ | ⟨g, cap, cur, e, _⟩
        · cases h0
        · cases e; exact ⟨g, rfl⟩
      subst e
      have hb3 : Below w2a.heap.size w2a (w2a.alloc (.cells #[.slice none 0 0, .slice none 0 0, .int .i64 0] 51)) := (Below.refl _ _).alloc (Nat.le_refl _) _
      have HN3 := Lib.hid (World.ownsRow.kept HN.out.own (pl_grown hb3) (by simp [Value.ownBlock]))
      have HS3 := Lib.hid ((HS2.out.later HN.out.hb).later hb3)
      have HZ3 := Lib.hid ((HZ2.out.later HN.out.hb).later hb3)
      have HB3 := Lib.hid (next (next HB2.out HN.out.hb) hb3)
      have HL3 := Lib.hid (row_alloc w2a 51 #[.slice none 0 0, .slice none 0 0, .int .i64 0])
      have HLN : Hid (w.heap.size + 1 < w2a.heap.size ∧ gn < w2a.heap.size) := Lib.hid ⟨(HZ2.out.later HN.out.hb).lt, (World.ownsRow.lt HN.out.own _ rfl).2⟩
      clear hb3 HS2 HZ2 HB2 HN
      go_upto_region 10 with fail
      generalize w2a.alloc (.cells #[.slice none 0 0, .slice none 0 0, .int .i64 0] 51) = w3 at *
      generalize w2a.heap.size = gl at *
      have HL30 : Hid (gl < w3.heap.size) := Lib.hid HL3.out.lt
      go_wp2_with fail
      obtain ⟨b, o, ca, cc, ja, jc, xa, xc, rfl, htb, q0, q1, q2, q3⟩ := tb_ld HCAT.out (k := 0) rfl (Below.refl _ w)
      simp only [Nat.zero_mul, Nat.add_zero] at q0 q1 q2 q3
      have HTB := Lib.hid htb
      have HBL : Hid (b < w.heap.size) := Lib.hid (cell_lt q0)
      have Q0 : Hid (w.cell? ⟨b, o, none⟩ = some (.string ⟨#[116]⟩)) := Lib.hid q0
      have Q1 : Hid (w.cell? ⟨b, o + 1, none⟩ = some (.slice ca 3 cc)) := Lib.hid q1
      have Q2 : Hid (w.cell? ⟨b, o + 2, none⟩ = some (.slice ja 2 jc)) := Lib.hid q2
      have Q3 : Hid (w.cell? ⟨b, o + 3, none⟩ = some (.slice xa 1 xc)) := Lib.hid q3
      clear htb q0 q1 q2 q3
      have HG0 : Hid (GS w3 gl 0 #[.string ⟨#[116]⟩, .slice ca 3 cc, .slice ja 2 jc, .slice xa 1 xc].toList 0 (.slice none 0 0) (.slice none 0 0) w3) := Lib.hid ⟨HL3.out, World.ownsRow_nil _ _ _ _, World.ownsRow_nil _ _ _ _, fun z hz => by simp [Value.ownBlock] at hz, grown_refl _ _, rfl⟩
      have HQ : Hid (∀ (W : World) (j : Nat) (u : Value), w3.grownBy W (some gl) → w.cell? ⟨b, j, none⟩ = some u → W.cell? ⟨b, j, none⟩ = some u) := Lib.hid fun W j u hg hj => (World.cell?_of_block (hg.block b (Nat.lt_of_lt_of_le HBL.out HB3.out.size) (fun e => by cases e; have := HLN.out; have := HBL.out; omega))).trans ((HB3.out.cell HBL.out).trans hj)
      clear HL3
      go_loopg [35] 2 (fun gk iv wr => ∃ (k : Nat) (A : Int) (tv fv : Value), iv = .int .i64 (k : Int) ∧ gk = 2 - k ∧ k ≤ 2 ∧ Hid (GS w3 gl k #[.string ⟨#[116]⟩, .slice ca 3 cc, .slice ja 2 jc, .slice xa 1 xc].toList A tv fv wr))
      case atStart => exact ⟨0, 0, _, _, rfl, rfl, by decide, HG0⟩
      case round =>
        obtain ⟨k, A, tv, fv, rfl, rfl, hk, HG⟩ := hrel
        clear HG0
        obtain ⟨ta, tn, rfl⟩ := own_slR HG.out.t
        obtain ⟨fa, fn, rfl⟩ := own_slR HG.out.f
        rcases Nat.lt_or_ge k 2 with hlt | hge
        · have n0 : wr.cell? ⟨gn, k, none⟩ = some (.string ⟨#[116]⟩) := by
            have h1 := World.ownsRow.cells (World.ownsRow.kept HN3.out HG.out.hg (.inr fun e => by have h1 : gn = gl := (by simpa [Value.ownBlock] using e); have h2 := HLN.out.2; omega)) rfl k _ (nL_at k hlt)
            rw [Addr.add_lit, Nat.zero_add] at h1
            exact h1
          have HBW : Hid (Below w.heap.size w wr) := Lib.hid (HB3.out.grown HG.out.hg HB3.out.size (fun z hz => by cases hz; have := HLN.out; omega))
          have hfw := findSW [smallT] (some ⟨b, o, none⟩) vc ⟨#[116]⟩ wr (by decide) (catR_below HCAT.out HBW.out)
          rw [show findV [smallT] ⟨#[116]⟩ = .tuple #[.int .i64 0, .bool true] by unfold findV; rw [show idxL (fiB ⟨#[116]⟩) [smallT] 0 = 0 by decide +kernel]; rfl] at hfw
          have HFW := Lib.hid hfw
          have ilt : (k : Int) < 2 := Int.ofNat_lt.2 hlt
          have ige : (0 : Int) ≤ (k : Int) := Int.natCast_nonneg k
          have HLT := Lib.hid hlt
          clear hfw hlt hk
          go_wp2_with fail
          refine HFW.out.mono ?_
          rintro e4 w4 ⟨rfl, hb4⟩
          have HG4 := Lib.hid (HG.out.later hb4)
          clear n0 hb4 HG HFW HBW
          go_upto_region 16 with fail
          have hsz3 : w3.heap.size ≤ w4.heap.size := HG4.out.hg.size
          refine wp_region_all' (GaJ w4 gl w3.heap.size k (.slice ta k tn) (.slice fa k fn) (tL #[.string ⟨#[116]⟩, .slice ca 3 cc, .slice ja 2 jc, .slice xa 1 xc].toList k) (fL k) A #[.string ⟨#[116]⟩, .slice ca 3 cc, .slice ja 2 jc, .slice xa 1 xc] (GaV gl b o (.slice ta k tn) (.slice fa k fn) (.slice (some ⟨b, o, none⟩) 1 vc) A #[.string ⟨#[116]⟩, .slice ca 3 cc, .slice ja 2 jc, .slice xa 1 xc])) 84 rfl (by kernel_rfl) (by kernel_rfl) ?_ ?_ ?_
          · intro us _
            have hd := (Below.refl w4.heap.size w4).drew
            exact ⟨hd.os, hd.tape, hd.output, hd.size, fun z hz hne => hd.block z (Nat.lt_of_lt_of_le hz hsz3), ⟨HL30.out, hsz3⟩, fun z hz => (World.ownsRow.lt HG4.out.t z hz).2, fun z hz => (World.ownsRow.lt HG4.out.f z hz).2, (fun j _ h => by cases h), (fun h => by cases h), (fun h => by cases h), fun _ => World.ownsRow.kept HG4.out.t (pl_grown hd) (by cases (Value.slice ta k tn).ownBlock <;> simp), (fun h => by cases h), fun _ => World.ownsRow.kept HG4.out.f (pl_grown hd) (by cases (Value.slice fa k fn).ownBlock <;> simp), (fun h => by cases h), HG4.out.dj, HG4.out.row.later hd⟩
          · intro i hi dn us A1 A2 hother hat hJ hi0 hcl hd
            match i, hi with
            | 0, hi =>
              have g0 := tmps_at (show A1.eval (.tmp 9) = .pointer (some ⟨gl, 0, none⟩) from hother 9 (by kernel_rfl))
              refine op_val rfl rfl (.pointer (some ⟨gl, 0, none⟩)) A2 (by simp only [execOp]; go_simp) ?_
              exact ⟨_, rfl, hJ.const 0 (by decide)⟩
            | 1, hi =>
              have h15 : dn 15 = false := by
                cases h : dn 15 with
                | false => rfl
                | true => exact absurd (hcl 15 _ rfl h ⟨1, .phase⟩ (by simp) rfl) (ne_true hi0)
              have g0 := tmps_at ((hat 0 48 (by decide) (by kernel_rfl) (by decide)).trans (hJ.vs 0 (by decide) (hd _ rfl ⟨0, .data⟩ (by simp) rfl)))
              simp only [GaV] at g0
              have hrow := hJ.row
              rw [h15, if_neg (by decide)] at hrow
              have q0 := hrow.cell (i := 0) (v := .slice ta k tn) rfl
              refine op_val rfl rfl (.slice ta k tn) A2 (by simp only [execOp]; go_simp) ?_
              exact ⟨_, rfl, hJ.const 1 (by decide)⟩
            | 2, hi =>
              have g0 := tmps_at (show A1.eval (.tmp 0) = .slice (some ⟨b, o, none⟩) 1 vc from hother 0 (by kernel_rfl))
              refine op_val rfl rfl (.slice (some ⟨b, o, none⟩) 1 vc) A2 (by simp only [execOp]; go_simp) ?_
              exact ⟨_, rfl, hJ.const 2 (by decide)⟩
            | 3, hi =>
              have g0 := tmps_at (show A1.eval (.tmp 12) = .int .i64 0 from hother 12 (by kernel_rfl))
              refine op_val rfl rfl (.int .i64 0) A2 (by simp only [execOp]; go_simp) ?_
              exact ⟨_, rfl, hJ.const 3 (by decide)⟩
            | 4, hi =>
              have g0 := tmps_at ((hat 2 50 (by decide) (by kernel_rfl) (by decide)).trans (hJ.vs 2 (by decide) (hd _ rfl ⟨2, .data⟩ (by simp) rfl)))
              simp only [GaV] at g0
              have g1 := tmps_at ((hat 3 51 (by decide) (by kernel_rfl) (by decide)).trans (hJ.vs 3 (by decide) (hd _ rfl ⟨3, .data⟩ (by simp) rfl)))
              simp only [GaV] at g1
              refine op_val rfl rfl (.pointer (some ⟨b, o, none⟩)) A2 (by simp only [execOp]; go_simp) ?_
              exact ⟨_, rfl, hJ.const 4 (by decide)⟩
            | 5, hi =>
              have g0 := tmps_at ((hat 4 52 (by decide) (by kernel_rfl) (by decide)).trans (hJ.vs 4 (by decide) (hd _ rfl ⟨4, .data⟩ (by simp) rfl)))
              simp only [GaV] at g0
              have q0 : A2.cell? ⟨b, o, none⟩ = some (.string ⟨#[116]⟩) := (World.cell?_of_block (hJ.block b (Nat.lt_of_lt_of_le HBL.out HB3.out.size) (by have := HLN.out; have := HBL.out; omega))).trans (HQ.out w4 _ _ HG4.out.hg Q0.out)
              have q1 : A2.cell? ⟨b, o + 1, none⟩ = some (.slice ca 3 cc) := (World.cell?_of_block (hJ.block b (Nat.lt_of_lt_of_le HBL.out HB3.out.size) (by have := HLN.out; have := HBL.out; omega))).trans (HQ.out w4 _ _ HG4.out.hg Q1.out)
              have q2 : A2.cell? ⟨b, o + 2, none⟩ = some (.slice ja 2 jc) := (World.cell?_of_block (hJ.block b (Nat.lt_of_lt_of_le HBL.out HB3.out.size) (by have := HLN.out; have := HBL.out; omega))).trans (HQ.out w4 _ _ HG4.out.hg Q2.out)
              have q3 : A2.cell? ⟨b, o + 3, none⟩ = some (.slice xa 1 xc) := (World.cell?_of_block (hJ.block b (Nat.lt_of_lt_of_le HBL.out HB3.out.size) (by have := HLN.out; have := HBL.out; omega))).trans (HQ.out w4 _ _ HG4.out.hg Q3.out)
              refine op_val rfl rfl (.agg #[.string ⟨#[116]⟩, .slice ca 3 cc, .slice ja 2 jc, .slice xa 1 xc]) A2 (by simp only [execOp]; go_simp) ?_
              exact ⟨_, rfl, hJ.const 5 (by decide)⟩
            | 6, hi =>
              have g0 := tmps_at ((hat 5 53 (by decide) (by kernel_rfl) (by decide)).trans (hJ.vs 5 (by decide) (hd _ rfl ⟨5, .data⟩ (by simp) rfl)))
              simp only [GaV] at g0
              refine op_val rfl rfl (.slice (some ⟨A2.heap.size, 0, none⟩) 1 1) (A2.alloc (.cells #[.string ⟨#[116]⟩, .slice ca 3 cc, .slice ja 2 jc, .slice xa 1 xc] 59)) (by simp only [execOp]; go_simp) ?_
              exact ⟨_, rfl, (hJ.later ((Below.refl _ _).alloc (Nat.le_refl _) _)).lit6 (row_alloc _ _ _)⟩
            | 7, hi =>
              have h13 : dn 13 = false := by
                cases h : dn 13 with
                | false => rfl
                | true => exact absurd (hcl 13 _ rfl h ⟨7, .chain⟩ (by simp) rfl) (ne_true hi0)
              have h15 : dn 15 = false := by
                cases h : dn 15 with
                | false => rfl
                | true => exact absurd (hcl 15 _ rfl h ⟨7, .data⟩ (by simp) rfl) (ne_true hi0)
              obtain ⟨v', w', hr, hj⟩ := hJ.app7 (hd _ rfl ⟨6, .data⟩ (by simp) rfl) hi0 h13 h15 (by have := HLT.out; omega) rfl (by simp [Value.oneCell']) 37
              exact pl_op_run rfl rfl (.tmp 49) (.tmp 54) 37 rfl ((hat 1 49 (by decide) (by kernel_rfl) (by decide)).trans (hJ.vs 1 (by decide) (hd _ rfl ⟨1, .data⟩ (by simp) rfl))) (hat 6 54 (by decide) (by kernel_rfl) (by decide)) hr ⟨v', rfl, hj⟩
            | 8, hi =>
              have g0 := tmps_at (show A1.eval (.tmp 9) = .pointer (some ⟨gl, 0, none⟩) from hother 9 (by kernel_rfl))
              refine op_val rfl rfl (.pointer (some ⟨gl, 1, none⟩)) A2 (by simp only [execOp]; go_simp) ?_
              exact ⟨_, rfl, hJ.const 8 (by decide)⟩
            | 9, hi =>
              have h17 : dn 17 = false := by
                cases h : dn 17 with
                | false => rfl
                | true => exact absurd (hcl 17 _ rfl h ⟨9, .phase⟩ (by simp) rfl) (ne_true hi0)
              have g0 := tmps_at ((hat 8 56 (by decide) (by kernel_rfl) (by decide)).trans (hJ.vs 8 (by decide) (hd _ rfl ⟨8, .data⟩ (by simp) rfl)))
              simp only [GaV] at g0
              have hrow := hJ.row
              rw [h17] at hrow
              have q0 := hrow.cell (i := 1) (v := .slice fa k fn) rfl
              refine op_val rfl rfl (.slice fa k fn) A2 (by simp only [execOp]; go_simp) ?_
              exact ⟨_, rfl, hJ.const 9 (by decide)⟩
            | 10, hi =>
              have g0 := tmps_at (show A1.eval (.tmp 9) = .pointer (some ⟨gl, 0, none⟩) from hother 9 (by kernel_rfl))
              refine op_val rfl rfl (.pointer (some ⟨gl, 2, none⟩)) A2 (by simp only [execOp]; go_simp) ?_
              exact ⟨_, rfl, hJ.const 10 (by decide)⟩
            | 11, hi =>
              have g0 := tmps_at ((hat 10 58 (by decide) (by kernel_rfl) (by decide)).trans (hJ.vs 10 (by decide) (hd _ rfl ⟨10, .data⟩ (by simp) rfl)))
              simp only [GaV] at g0
              have q0 := hJ.row.cell (i := 2) (v := .int .i64 A) rfl
              refine op_val rfl rfl (.int .i64 A) A2 (by simp only [execOp]; go_simp) ?_
              exact ⟨_, rfl, hJ.const 11 (by decide)⟩
            | 12, hi =>
              have g0 := tmps_at ((hat 11 59 (by decide) (by kernel_rfl) (by decide)).trans (hJ.vs 11 (by decide) (hd _ rfl ⟨11, .data⟩ (by simp) rfl)))
              simp only [GaV] at g0
              refine op_val rfl rfl (.slice (some ⟨A2.heap.size, 0, none⟩) 1 1) (A2.alloc (.cells #[.int .i64 A] 3)) (by simp only [execOp]; go_simp) ?_
              exact ⟨_, rfl, (hJ.later ((Below.refl _ _).alloc (Nat.le_refl _) _)).lit12 hJ.size (row_alloc _ _ _)⟩
            | 13, hi =>
              have h17 : dn 17 = false := by
                cases h : dn 17 with
                | false => rfl
                | true => exact absurd (hcl 17 _ rfl h ⟨13, .data⟩ (by simp) rfl) (ne_true hi0)
              obtain ⟨v', w', hr, hj⟩ := hJ.app13 (hd _ rfl ⟨7, .chain⟩ (by simp) rfl) (hd _ rfl ⟨12, .data⟩ (by simp) rfl) hi0 h17 (by have := HLT.out; omega) 49
              exact pl_op_run rfl rfl (.tmp 57) (.tmp 60) 49 rfl ((hat 9 57 (by decide) (by kernel_rfl) (by decide)).trans (hJ.vs 9 (by decide) (hd _ rfl ⟨9, .data⟩ (by simp) rfl))) (hat 12 60 (by decide) (by kernel_rfl) (by decide)) hr ⟨v', rfl, hj⟩
            | 14, hi =>
              have g0 := tmps_at (show A1.eval (.tmp 9) = .pointer (some ⟨gl, 0, none⟩) from hother 9 (by kernel_rfl))
              refine op_val rfl rfl (.pointer (some ⟨gl, 0, none⟩)) A2 (by simp only [execOp]; go_simp) ?_
              exact ⟨_, rfl, hJ.const 14 (by decide)⟩
            | 15, hi =>
              have d7 := hd _ rfl ⟨7, .data⟩ (by simp) rfl
              have d13 := hd _ rfl ⟨13, .chain⟩ (by simp) rfl
              obtain ⟨za, zc, e7⟩ := own_slR (hJ.t7' d7)
              have hj := hJ.st15 d7 d13 hi0
              rw [e7] at hj
              have g0 := tmps_at ((hat 14 62 (by decide) (by kernel_rfl) (by decide)).trans (hJ.vs 14 (by decide) (hd _ rfl ⟨14, .data⟩ (by simp) rfl)))
              simp only [GaV] at g0
              have g1 := tmps_at ((hat 7 55 (by decide) (by kernel_rfl) (by decide)).trans e7)
              have hrow := hJ.row
              rw [hi0] at hrow
              have q0 := hrow.cell (i := 0) (v := .slice ta k tn) rfl
              have k0 := hrow.free 0
              refine op_skip rfl rfl (A2.setCell ⟨gl, 0, none⟩ (.slice za (k + 1) zc)) (by simp only [execOp]; go_simp) ?_
              exact ⟨_, rfl, hj _⟩
            | 16, hi =>
              have g0 := tmps_at (show A1.eval (.tmp 9) = .pointer (some ⟨gl, 0, none⟩) from hother 9 (by kernel_rfl))
              refine op_val rfl rfl (.pointer (some ⟨gl, 1, none⟩)) A2 (by simp only [execOp]; go_simp) ?_
              exact ⟨_, rfl, hJ.const 16 (by decide)⟩
            | 17, hi =>
              have d7 := hd _ rfl ⟨13, .data⟩ (by simp) rfl
              have d15 := hd _ rfl ⟨15, .chain⟩ (by simp) rfl
              have e7t := hcl 15 _ rfl d15 ⟨7, .data⟩ (by simp) rfl
              obtain ⟨za, zc, e7⟩ := own_slR (hJ.f13' d7)
              have hj := hJ.st17 e7t d7 hi0
              rw [e7] at hj
              have g0 := tmps_at ((hat 16 63 (by decide) (by kernel_rfl) (by decide)).trans (hJ.vs 16 (by decide) (hd _ rfl ⟨16, .data⟩ (by simp) rfl)))
              simp only [GaV] at g0
              have g1 := tmps_at ((hat 13 61 (by decide) (by kernel_rfl) (by decide)).trans e7)
              have hrow := hJ.row
              rw [hi0] at hrow
              have q0 := hrow.cell (i := 1) (v := .slice fa k fn) rfl
              have k0 := hrow.free 1
              refine op_skip rfl rfl (A2.setCell ⟨gl, 1, none⟩ (.slice za (k + 1) zc)) (by simp only [execOp]; go_simp) ?_
              exact ⟨_, rfl, hj _⟩
            | i + 18, hi => exact absurd hi (by simp)
          intro dn us w6 hall hJ
          have d7 := hall 7 (by decide)
          have d13 := hall 13 (by decide)
          have hrow := hJ.row
          rw [hall 15 (by decide), hall 17 (by decide), if_pos rfl, if_pos rfl] at hrow
          have ht6 := hJ.t7' d7
          have hf6 := hJ.f13' d13
          have hdj6 := hJ.dj
          rw [d7, d13, if_pos rfl, if_pos rfl] at hdj6
          rw [tL_next] at ht6
          rw [fL_next k A HLT.out HG4.out.hA] at hf6
          have hg6 : w3.grownBy w6 (some gl) := ⟨hJ.os.trans HG4.out.hg.os, hJ.tape.trans HG4.out.hg.tape, hJ.out.trans HG4.out.hg.output, Nat.le_trans hsz3 hJ.size, fun z hz hne => (hJ.block z hz (fun e => hne (congrArg some e))).trans (HG4.out.hg.block z hz hne)⟩
          have HA := Lib.hid HG4.out.hA
          have HD6 := Lib.hid (And.intro hrow (And.intro ht6 (And.intro hf6 (And.intro hdj6 hg6))))
          clear d7 d13 hrow ht6 hf6 hdj6 hg6 hall hJ HG4 hsz3
          simp only [putAll, dstOf, Act.put, List.getElem?_toArray, List.getElem?_cons_zero, List.getElem?_cons_succ, Option.bind_some, List.length_cons, List.length_nil]
          simp only [List.setIfInBounds_toArray, List.set_cons_zero, List.set_cons_succ]
          generalize us 7 = tv6 at *
          generalize us 13 = fv6 at *
          go_upto_region 17 with fail
          have l2 := lat_cell (HD6.out.1.cell (i := 2) (v := .int .i64 A) rfl)
          have lr := lat_cell (HQ.out w6 _ _ HD6.out.2.2.2.2 Q1.out)
          refine wp_region_later_tail 10 (by kernel_rfl) (by kernel_rfl) ?_
          simp only [List.take_succ_cons, List.take_zero, List.drop_succ_cons, List.drop_zero]
          repeat (go_big_quiet_step (fail))
          refine wpQuiet_nil ?_
          refine later_out (fun w7 hb7 => ?_)
          have HR7 := Lib.hid (HD6.out.1.later hb7)
          have g2 := HR7.out.cell (i := 2) (v := .int .i64 A) rfl
          have k2 := HR7.out.free 2
          have hw : wrap64 (A + 3) = A + 3 := by have := HA.out; have := HLT.out; unfold wrap64; omega
          have es := setCell_eq_setRow w7 gl 2 _ _ _ (.int .i64 (A + 3)) HR7.out
          have hg8 : w7.grownBy (w7.setCell ⟨gl, 2, none⟩ (.int .i64 (A + 3))) (some gl) := by rw [es]; exact grown_setRow _ _ _
          have HG8 : Hid (GS w3 gl (k + 1) #[.string ⟨#[116]⟩, .slice ca 3 cc, .slice ja 2 jc, .slice xa 1 xc].toList (A + 3) tv6 fv6 (w7.setCell ⟨gl, 2, none⟩ (.int .i64 (A + 3)))) := Lib.hid ⟨by rw [es]; exact HR7.out.set _,
            World.ownsRow.kept (World.ownsRow.kept HD6.out.2.1 (pl_grown hb7) (by cases tv6.ownBlock <;> simp)) hg8 (.inr fun e => by have := (World.ownsRow.lt HD6.out.2.1 gl e).1; have := HL30.out; omega),
            World.ownsRow.kept (World.ownsRow.kept HD6.out.2.2.1 (pl_grown hb7) (by cases fv6.ownBlock <;> simp)) hg8 (.inr fun e => by have := (World.ownsRow.lt HD6.out.2.2.1 gl e).1; have := HL30.out; omega),
            HD6.out.2.2.2.1, grown_trans (grown_trans HD6.out.2.2.2.2 (below_grown hb7)) hg8, by have := HA.out; omega⟩
          clear l2 lr hb7 es hg8 HD6
          go_wp2_with fail
          go_roundg (2 - (k + 1))
          case measure => exact Nat.sub_lt_sub_left HLT.out (Nat.lt_succ_self _)
          case rel => exact ⟨k + 1, A + 3, tv6, fv6, congrArg (Value.int .i64) (Int.natCast_succ k).symm, rfl, HLT.out, HG8⟩
        · obtain rfl : k = 2 := Nat.le_antisymm hk hge
          obtain rfl : A = 6 := HG.out.hA
          clear hk hge
          have HBL := Lib.hid (HB3.out.grown HG.out.hg HB3.out.size (fun z hz => by cases hz; have := HLN.out; omega))
          have HSR := Lib.hid HG.out.row
          have HZZ := Lib.hid (HZ3.out.grown HG.out.hg (by have := HLN.out; omega))
          have HBO := Lib.hid (HS3.out.grown HG.out.hg (by have := HLN.out; omega))
          go_upto_region 19 with fail
          have HEND : Hid (∀ (w6 : World), wr.grownBy w6 (some (w.heap.size + 1)) → ∃ ta' tc fa' fc, Ending.returned (.tuple #[.agg #[.slice ta 2 tn, .slice fa 2 fn, .int .i64 6], .bool true]) = .returned (.tuple #[.agg #[.slice ta' 2 tc, .slice fa' 2 fc, .int .i64 6], .bool true]) ∧
              CatR w6 (.slice ta' 2 tc) [smallT, smallT] ∧ IntsR w6 (.slice fa' 2 fc) [0, 3] ∧ Below w.heap.size w w6) := Lib.hid fun w6 hg => by
            have hb6 : Below w.heap.size w w6 := ⟨hg.os.trans HBL.out.os, hg.tape.trans HBL.out.tape, hg.output.trans HBL.out.output, Nat.le_trans HBL.out.size hg.size, fun k hk => (hg.block k (Nat.lt_of_lt_of_le hk HBL.out.size) (fun e => by cases e; omega)).trans (HBL.out.block k hk)⟩
            have h1 := World.ownsRow.kept HG.out.t hg (.inr (fun e => by have := (World.ownsRow.lt HG.out.t _ e).1; have := HL30.out; have := HLN.out; omega))
            have h2 := World.ownsRow.kept HG.out.f hg (.inr (fun e => by have := (World.ownsRow.lt HG.out.f _ e).1; have := HL30.out; have := HLN.out; omega))
            have htr := tbR_below HTB.out hb6
            refine ⟨ta, tn, fa, fn, rfl, slR_owns (cs := [#[.string ⟨#[116]⟩, .slice ca 3 cc, .slice ja 2 jc, .slice xa 1 xc].toList, #[.string ⟨#[116]⟩, .slice ca 3 cc, .slice ja 2 jc, .slice xa 1 xc].toList]) h1 rfl (fun c hc => ?_) (fun i c x hc hx => ?_), slR_owns (cs := [[.int .i64 0], [.int .i64 3]]) h2 rfl (fun c hc => ?_) (fun i c x hc hx => ?_), hb6⟩
            · simp only [List.mem_cons, List.not_mem_nil, or_false] at hc
              rcases hc with rfl | rfl <;> rfl
            · match i, hc, hx with
              | 0, hc, hx => cases hc; cases hx; exact htr
              | 1, hc, hx => cases hc; cases hx; exact htr
              | i + 2, hc, _ => cases hc
            · simp only [List.mem_cons, List.not_mem_nil, or_false] at hc
              rcases hc with rfl | rfl <;> rfl
            · match i, hc, hx with
              | 0, hc, hx => cases hc; cases hx; rfl
              | 1, hc, hx => cases hc; cases hx; rfl
              | i + 2, hc, _ => cases hc
          refine wp_region_all' (GrJ wr (w.heap.size + 1) #[.slice ta 2 tn, .slice fa 2 fn, .int .i64 6] #[.slice none 0 0, .slice none 0 0, .int .i64 0] (GrV true #[.slice ta 2 tn, .slice fa 2 fn, .int .i64 6] w.heap.size 8 true)) 84 rfl (by kernel_rfl) (by kernel_rfl) ?_ ?_ ?_
          · intro us _
            exact ⟨(fun j _ h => by cases h), HZZ.out, below_grown (Below.refl _ _).drew⟩
          · intro i hi dn us A A2 hother hat hJ hi0 hcl hd
            match i, hi with
              | 0, hi =>
                have h0 := tmps_at (show A.eval (.tmp 9) = .pointer (some ⟨gl, 0, none⟩) from hother 9 (by kernel_rfl))
                have s0 := (HSR.out.grown hJ.hg (by have := HLN.out; omega)).cell (i := 0) (v := .slice ta 2 tn) rfl
                have s1 := (HSR.out.grown hJ.hg (by have := HLN.out; omega)).cell (i := 1) (v := .slice fa 2 fn) rfl
                have s2 := (HSR.out.grown hJ.hg (by have := HLN.out; omega)).cell (i := 2) (v := .int .i64 6) rfl
                refine op_val rfl rfl (.agg #[.slice ta 2 tn, .slice fa 2 fn, .int .i64 6]) A2 (by simp only [execOp]; go_simp) ?_
                exact ⟨_, rfl, hJ.put 0 (by decide)⟩
              | 1, hi =>
                have h0 := tmps_at (show A.eval (.tmp 3) = .pointer (some ⟨w.heap.size, 0, none⟩) from hother 3 (by kernel_rfl))
                refine op_val rfl rfl (.pointer (some ⟨w.heap.size, 0, none⟩)) A2 (by simp only [execOp]; go_simp) ?_
                exact ⟨_, rfl, hJ.put 1 (by decide)⟩
              | 2, hi =>
                have h0 := tmps_at ((hat 1 76 (by decide) (by kernel_rfl) (by decide)).trans (hJ.vs 1 (by decide) (hd _ rfl ⟨1, .data⟩ (by simp) rfl)))
                simp only [GrV] at h0
                have qk := (HBO.out.grown hJ.hg (by omega)).cell (i := 0) (v := .int .u8 8) rfl
                refine op_val rfl rfl (.int .u8 8) A2 (by simp only [execOp]; go_simp) ?_
                exact ⟨_, rfl, hJ.put 2 (by decide)⟩
              | 3, hi =>
                have h0 := tmps_at ((hat 2 77 (by decide) (by kernel_rfl) (by decide)).trans (hJ.vs 2 (by decide) (hd _ rfl ⟨2, .data⟩ (by simp) rfl)))
                simp only [GrV] at h0
                refine op_val rfl rfl (.bool true) A2 (by simp only [execOp]; go_simp) ?_
                exact ⟨_, rfl, hJ.put 3 (by decide)⟩
              | 4, hi =>
                have h0 := tmps_at ((hat 3 78 (by decide) (by kernel_rfl) (by decide)).trans (hJ.vs 3 (by decide) (hd _ rfl ⟨3, .data⟩ (by simp) rfl)))
                simp only [GrV] at h0
                refine op_val rfl rfl (.bool true) A2 (by simp only [execOp]; go_simp) ?_
                exact ⟨_, rfl, hJ.put 4 (by decide)⟩
              | 5, hi =>
                have h0 := tmps_at (show A.eval (.tmp 3) = .pointer (some ⟨w.heap.size, 0, none⟩) from hother 3 (by kernel_rfl))
                have hw4 := (hat 4 79 (by decide) (by kernel_rfl) (by decide)).trans (hJ.vs 4 (by decide) (hd _ rfl ⟨4, .guard⟩ (by simp) rfl))
                simp only [GrV] at hw4
                refine op_valg rfl (wanted_some (t := 79) rfl (by kernel_rfl) hw4) (.pointer (some ⟨w.heap.size, 0, none⟩)) A2 (by simp only [execOp]; go_simp) ?_
                exact ⟨_, rfl, hJ.put 5 (by decide)⟩
              | 6, hi =>
                have h0 := tmps_at ((hat 5 80 (by decide) (by kernel_rfl) (by decide)).trans (hJ.vs 5 (by decide) (hd _ rfl ⟨5, .data⟩ (by simp) rfl)))
                simp only [GrV] at h0
                have qk := (HBO.out.grown hJ.hg (by omega)).cell (i := 0) (v := .int .u8 8) rfl
                have hw4 := (hat 4 79 (by decide) (by kernel_rfl) (by decide)).trans (hJ.vs 4 (by decide) (hd _ rfl ⟨4, .guard⟩ (by simp) rfl))
                simp only [GrV] at hw4
                refine op_valg rfl (wanted_some (t := 79) rfl (by kernel_rfl) hw4) (.int .u8 8) A2 (by simp only [execOp]; go_simp) ?_
                exact ⟨_, rfl, hJ.put 6 (by decide)⟩
              | 7, hi =>
                have h0 := tmps_at ((hat 6 81 (by decide) (by kernel_rfl) (by decide)).trans (hJ.vs 6 (by decide) (hd _ rfl ⟨6, .data⟩ (by simp) rfl)))
                simp only [GrV] at h0
                have hw4 := (hat 4 79 (by decide) (by kernel_rfl) (by decide)).trans (hJ.vs 4 (by decide) (hd _ rfl ⟨4, .guard⟩ (by simp) rfl))
                simp only [GrV] at hw4
                refine op_valg rfl (wanted_some (t := 79) rfl (by kernel_rfl) hw4) (.bool true) A2 (by simp only [execOp]; go_simp) ?_
                exact ⟨_, rfl, hJ.put 7 (by decide)⟩
              | 8, hi =>
                have h0 := tmps_at ((hat 4 79 (by decide) (by kernel_rfl) (by decide)).trans (hJ.vs 4 (by decide) (hd _ rfl ⟨4, .data⟩ (by simp) rfl)))
                simp only [GrV] at h0
                have h1 := tmps_at ((hat 7 82 (by decide) (by kernel_rfl) (by decide)).trans (hJ.vs 7 (by decide) (hd _ rfl ⟨7, .data⟩ (by simp) rfl)))
                simp only [GrV] at h1
                refine op_val rfl rfl (.bool true) A2 (by simp only [execOp]; go_simp) ?_
                exact ⟨_, rfl, hJ.put 8 (by decide)⟩
              | 9, hi =>
                have h0 := tmps_at (show A.eval (.tmp 4) = .pointer (some ⟨w.heap.size + 1, 0, none⟩) from hother 4 (by kernel_rfl))
                have h1 := tmps_at ((hat 0 75 (by decide) (by kernel_rfl) (by decide)).trans (hJ.vs 0 (by decide) (hd _ rfl ⟨0, .data⟩ (by simp) rfl)))
                simp only [GrV] at h1
                have hrow := hJ.row
                rw [hi0, if_neg (by decide)] at hrow
                have hrb := hrow.b (n := 3) rfl
                have hst := run_srSt A2 (w.heap.size + 1) #[.slice ta 2 tn, .slice fa 2 fn, .int .i64 6] hrb (by rw [okRow3']; rfl)
                refine op_skip rfl rfl (A2.setRow (w.heap.size + 1) #[.slice ta 2 tn, .slice fa 2 fn, .int .i64 6]) (by simp only [execOp]; go_simp) ?_
                refine ⟨_, rfl, fun j hj e => ?_, by rw [upd_eq, if_pos rfl]; exact hrow.set _, grown_trans hJ.hg (grown_setRow _ _ _)⟩
                by_cases hz : j = 9
                · subst hz; rfl
                · show (if j = 9 then _ else us j) = _
                  rw [if_neg hz]; rw [upd_ne hz] at e; exact hJ.vs j hj e
              | 10, hi =>
                have h0 := tmps_at ((hat 8 83 (by decide) (by kernel_rfl) (by decide)).trans (hJ.vs 8 (by decide) (hd _ rfl ⟨8, .data⟩ (by simp) rfl)))
                simp only [GrV] at h0
                refine op_val rfl rfl (.bool true) A2 (by simp only [execOp]; go_simp) ?_
                exact ⟨_, rfl, hJ.put 10 (by decide)⟩
              | i + 11, hi => exact absurd hi (by simp)
          intro dn us w6 hall hJ
          have e10 : us 10 = .bool true := hJ.vs 10 (by decide) (hall 10 (by decide))
          have hrow := hJ.row
          rw [hall 9 (by decide), if_pos rfl] at hrow
          have HRW := Lib.hid hrow
          have HGR := Lib.hid hJ.hg
          clear hall hJ hrow
          simp only [putAll, dstOf, Act.put, List.getElem?_toArray, List.getElem?_cons_zero, List.getElem?_cons_succ, Option.bind_some, List.length_cons, List.length_nil]
          simp only [List.setIfInBounds_toArray, List.set_cons_zero, List.set_cons_succ]
          rw [e10]
          go_wp2_with fail
          exact bodyPost_ret (v := .tuple #[.agg #[.slice ta 2 tn, .slice fa 2 fn, .int .i64 6], .bool true]) (res_sr rfl _ _ (w.heap.size + 1) _ _ _ rfl rfl HRW.out rfl) rfl (HEND.out w6 HGR.out)
end Go.Proofs.YtjgkeillmelkoaaGreat.Dt
