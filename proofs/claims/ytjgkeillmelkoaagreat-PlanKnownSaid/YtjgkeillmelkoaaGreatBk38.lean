import Derived.Deep.CutBlock
import Derived.Test.YtjgkeillmelkoaaGreatBk26
namespace Go.Proofs.YtjgkeillmelkoaaGreat.Dt
open Go.RowKit Go.Proofs.YtjgkeillmelkoaaGreat.By

variable {w0 : World} {r : Nat} {tv : Value} {L : List Tk} {en : Int}
set_option maxRecDepth 100000 in
set_option maxHeartbeats 4000000 in
theorem asNo (k : Nat) (w : World) (h : NB w0 r tv L en k w) (ha : cB L en k ⟨#[65, 83]⟩ = false) : Calls Tryz.prog 89 #[.pointer (some ⟨r, 0, none⟩)] w fun e w' => e = .returned (.string ⟨#[]⟩) ∧ NB w0 r tv L en k w' ∧ w.grownBy w' (some r) := by
  have hi := takesW ⟨#[65, 83]⟩ w h
  rw [ha] at hi
  have HI := Lib.hid hi
  clear h hi ha
  go_enter Tryz.func89, Tryz.ntmps89
  go_wp2_with fail
  refine HI.out.mono ?_
  rintro e2 w2 ⟨rfl, hp2, hg2⟩
  have HP2 : Hid (NB w0 r tv L en k w2) := Lib.hid hp2
  have HG2 := Lib.hid hg2
  clear hp2 hg2 HI
  go_wp2_with fail
  go_ret
  exact ⟨rfl, HP2.out, HG2.out⟩
set_option maxRecDepth 100000 in
set_option maxHeartbeats 4000000 in
theorem asYes (k : Nat) (w : World) (h : NB w0 r tv L en k w) (ha : cB L en k ⟨#[65, 83]⟩ = true) (hn : kP L (k + 1) = 2) : Calls Tryz.prog 89 #[.pointer (some ⟨r, 0, none⟩)] w fun e w' => e = .returned (.string (tokP L en (k + 1)).s) ∧ NB w0 r tv L en (k + 2) w' ∧ w.grownBy w' (some r) := by
  have hi := takesW ⟨#[65, 83]⟩ w h
  rw [ha] at hi
  have HI := Lib.hid hi
  have HN := Lib.hid hn
  clear h hi ha hn
  go_enter Tryz.func89, Tryz.ntmps89
  go_wp2_with fail
  refine HI.out.mono ?_
  rintro e2 w2 ⟨rfl, hp2, hg2⟩
  have hp2' : NB w0 r tv L en (k + 1) w2 := hp2
  have HT := Lib.hid (nameW w2 hp2' HN.out)
  have HG2 := Lib.hid hg2
  clear hp2 hp2' hg2 HI
  go_wp2_with fail
  refine HT.out.mono ?_
  rintro e3 w3 ⟨rfl, hp3, hg3⟩
  have HP3 : Hid (NB w0 r tv L en (k + 2) w3) := Lib.hid hp3
  have HG3 := Lib.hid (grown_trans HG2.out hg3)
  clear hp3 hg3 HT
  go_wp2_with fail
  go_ret
  exact ⟨rfl, HP3.out, HG3.out⟩
/-- A statement whose items are nil. -/
def StX (w : World) (c : List Value) (x : PSt) : Prop := StR w c x ∧ c[9]? = some (.slice none 0 0)
theorem stXCells : Cells 16 StX := fun w c x h => stCells w c x h.1
/-- What lies there while a SELECT is read: the reader, the result's box, the statement. -/
structure SN (w0 : World) (r : Nat) (tv : Value) (L : List Tk) (en : Int) (w : World) (g k : Nat) (cs : Array Value) (x : PSt) (W : World) : Prop where
  nb : NB w0 r tv L en k W
  gr : w.grownBy W (some r)
  rs : Row w.heap.size 35 stZ W
  sg : SG (fun b => w.heap.size < b ∧ b ≠ g) g cs x W
  hr : r < w.heap.size
  hg : w.heap.size < g
variable {w W W' : World} {g k k' n : Nat} {cs d : Array Value} {x : PSt} {v v' : Value} {l : List PSrc} {ccs : List (List Value)}
theorem SN.grown (h : SN w0 r tv L en w g k cs x W) (q : W.grownBy W' (some r)) (hp : NB w0 r tv L en k' W') : SN w0 r tv L en w g k' cs x W' := by
  have h1 := h.hr
  have h2 := h.hg
  exact ⟨hp, grown_trans h.gr q, h.rs.grown q (by omega), h.sg.grown q (by omega) (by omega), h1, h2⟩
theorem SN.later (h : SN w0 r tv L en w g k cs x W) (q : Below W.heap.size W W') : SN w0 r tv L en w g k cs x W' := ⟨h.nb.later q, grown_trans h.gr (below_grown (r := r) q), h.rs.later q, h.sg.later q, h.hr, h.hg⟩
theorem SN.lay {i : Nat} {u : Value} {y : PSt} (h : SN w0 r tv L en w g k cs x W) (h2 : SG (fun b => w.heap.size < b ∧ b ≠ g) g (cs.setIfInBounds i u) y (W.setCell ⟨g, i, none⟩ u)) : SN w0 r tv L en w g k (cs.setIfInBounds i u) y (W.setCell ⟨g, i, none⟩ u) := by
  have h1 := h.hr
  have h3 := h.hg
  have h4 := h.nb.hr
  have e := setCell_eq_setRow W g i cs _ _ u h.sg.row
  refine ⟨?_, ?_, ?_, h2, h1, h3⟩
  · rw [e]; exact h.nb.other g (by omega) (by omega) _
  · rw [e]; exact grown_fill h.gr (by omega) _
  · rw [e]; exact (setRow_other _ g _ _ (by omega)).trans h.rs
theorem SN.dep {P : World → Prop} {m : Nat} (h : SN w0 r tv L en w g k cs x W) (q : New m W P) (hm : g < m) : Dep (fun b => w.heap.size < b ∧ b ≠ g) W P := q.step (Nat.le_refl _) fun b hb _ => ⟨⟨by have := h.hg; omega, by omega⟩, rfl⟩
theorem SN.fin (h : SN w0 r tv L en w g k cs x W) : New w.heap.size (W.setRow w.heap.size cs) (fun u => StR u cs.toList x) ∧ NB w0 r tv L en k (W.setRow w.heap.size cs) ∧ w.grownBy (W.setRow w.heap.size cs) (some r) := by
  have h1 := h.hr
  have h4 := h.nb.hr
  exact ⟨h.sg.st.step (by simp) fun b hb _ => ⟨by omega, setRow_other _ _ b cs (by omega)⟩, h.nb.other _ (by omega) (by omega) cs, grown_fill h.gr (Nat.le_refl _) cs⟩
/-- What lies there at JOIN: the statement holds 'v', the row of sources; all else hangs on blocks ahead of that row. -/
structure JN (w0 : World) (r : Nat) (tv : Value) (L : List Tk) (en : Int) (w : World) (g n k : Nat) (d : Array Value) (x : PSt) (v v' : Value) (l : List PSrc) (ccs : List (List Value)) (W : World) : Prop where
  nb : NB w0 r tv L en k W
  gr : w.grownBy W (some r)
  rs : Row w.heap.size 35 stZ W
  row : Row g 35 (d.setIfInBounds 10 v) W
  dep : Dep (fun b => (w.heap.size < b ∧ b ≠ g) ∧ b < n) W fun u => StR u d.toList x
  own : OwnL 80 3 SrcR n W v' l ccs
  hr : r < w.heap.size
  hg : w.heap.size < g
  hn : g < n
  hnw : n ≤ W.heap.size
theorem JN.size (h : JN w0 r tv L en w g n k d x v v' l ccs W) : d.size = 16 := by simpa using (stCells _ _ _ h.dep.here).1
theorem JN.start {t a : ByteArray} (h : SN w0 r tv L en w g k cs x W) :
    JN w0 r tv L en w g W.heap.size k cs x (.slice (some ⟨W.heap.size, 0, none⟩) 1 1) (.slice (some ⟨W.heap.size, 0, none⟩) 1 1) [⟨t, a, []⟩] [[.string t, .string a, .slice none 0 0]]
      ((W.alloc (.cells #[.string t, .string a, .slice none 0 0] 80)).setCell ⟨g, 10, none⟩ (.slice (some ⟨W.heap.size, 0, none⟩) 1 1)) := by
  have hb := (Below.refl W.heap.size W).alloc (Nat.le_refl _) (.cells #[.string t, .string a, .slice none 0 0] 80)
  have h2 := h.later hb
  have hlt := h.sg.row.lt
  have e := setCell_eq_setRow _ g 10 cs _ _ (.slice (some ⟨W.heap.size, 0, none⟩) 1 1) h2.sg.row
  have h1 := h.hr
  have h3 := h.hg
  have h4 := h.nb.hr
  rw [e]
  refine ⟨h2.nb.other _ (by omega) (by omega) _, grown_fill h2.gr (by omega) _, (setRow_other _ g _ _ (by omega)).trans h2.rs, h2.sg.row.set _, ?_, ?_, h1, h3, hlt, by simp⟩
  · refine Dep.step h.sg.st ?_ fun b hb2 hlt2 => ⟨⟨hb2, hlt2⟩, (setRow_other _ g b _ hb2.2).trans (hb.block b hlt2)⟩
    simp
  · have ho := World.ownsRow_lit (base := W.heap.size) (e := 80) (size := 3) W #[.string t, .string a, .slice none 0 0] 1 (Nat.le_refl _) (by decide) rfl
    have hO : OwnL 80 3 SrcR W.heap.size (W.alloc (.cells #[.string t, .string a, .slice none 0 0] 80)) (.slice (some ⟨W.heap.size, 0, none⟩) 1 1) [⟨t, a, []⟩] [[.string t, .string a, .slice none 0 0]] :=
      ⟨ho, rfl, fun i c y hc hy => by
        rcases i with _ | i
        · simp at hc hy
          subst hc hy
          exact ⟨rfl, fun u _ => ⟨_, rfl, SlR.nil _ _ _⟩⟩
        · simp at hc⟩
    exact hO.grown (grown_setRow _ _ _) hlt
theorem JN.grown (h : JN w0 r tv L en w g n k d x v v' l ccs W) (q : W.grownBy W' (some r)) (hp : NB w0 r tv L en k' W') : JN w0 r tv L en w g n k' d x v v' l ccs W' := by
  have h1 := h.hr
  have h2 := h.hg
  have h3 := h.hn
  exact ⟨hp, grown_trans h.gr q, h.rs.grown q (by omega), h.row.grown q (by omega),
    Dep.step h.dep q.size fun b hb hlt => ⟨hb, q.block b hlt (fun e => by cases e; omega)⟩, h.own.grown q (by omega), h1, h2, h3, Nat.le_trans h.hnw q.size⟩
theorem JN.c10 (h : JN w0 r tv L en w g n k d x v v' l ccs W) : W.cell? ⟨g, 10, none⟩ = some v := h.row.cell (by have := h.size; simp [this])
theorem JN.app {v1 : Value} {y : PSrc} {c : List Value} {m : Nat} (h : JN w0 r tv L en w g n k d x v v l ccs W) (hown : W'.ownsRow n 80 3 v1 (ccs.length + 1) (ccs.flatten ++ c)) (q : W.grownBy W' v.ownBlock)
    (hv : v1.ownBlock = v.ownBlock ∨ v1.ownBlock = some W.heap.size) (hc : c.length = 3) (hy : New m W fun u => SrcR u c y) (hnm : n ≤ m) (hm : ∀ k, v.ownBlock = some k → k < m) : JN w0 r tv L en w g n k d x v v1 (l ++ [y]) (ccs ++ [c]) W' := by
  have h1 := h.hr
  have h2 := h.hg
  have h3 := h.hn
  have hlo : ∀ j, v.ownBlock = some j → n ≤ j := fun j hj => (World.ownsRow.lt h.own.own j hj).1
  have hkeep : ∀ b, b < n → b < W.heap.size → W'.heap[b]? = W.heap[b]? := fun b hb hbl => q.block b hbl (fun e => by have := hlo b e.symm; omega)
  have hgl := h.row.lt
  exact ⟨h.nb.row2 q (fun j hj => by have := hlo j hj; omega), grown_row h.gr q (fun j hj => by have := hlo j hj; omega), (hkeep _ (by omega) (by omega)).trans h.rs, (hkeep _ (by omega) hgl).trans h.row,
    Dep.step h.dep q.size fun b hb hlt => ⟨hb, hkeep b hb.2 hlt⟩, h.own.snoc hown q hv hc hy hnm hm, h1, h2, h3, Nat.le_trans h.hnw q.size⟩
theorem JN.put (h : JN w0 r tv L en w g n k d x v v' l ccs W) : JN w0 r tv L en w g n k d x v' v' l ccs (W.setCell ⟨g, 10, none⟩ v') := by
  have h1 := h.hr
  have h2 := h.hg
  have h3 := h.hn
  have h4 := h.nb.hr
  have e := setCell_eq_setRow _ g 10 _ _ _ v' h.row
  rw [e]
  have e2 : (d.setIfInBounds 10 v).setIfInBounds 10 v' = d.setIfInBounds 10 v' := by
    simp
  rw [e2]
  have hr := h.row.set (d.setIfInBounds 10 v')
  exact ⟨h.nb.other _ (by omega) (by omega) _, grown_fill h.gr (by omega) _, (setRow_other _ g _ _ (by omega)).trans h.rs, hr,
    Dep.step h.dep (by simp) fun b hb _ => ⟨hb, setRow_other _ g b _ hb.1.2⟩, h.own.grown (grown_setRow _ _ _) h3, h1, h2, h3, by simpa using h.hnw⟩
theorem JN.toSN (h : JN w0 r tv L en w g n k d x v v l ccs W) : SN w0 r tv L en w g k (d.setIfInBounds 10 v) { x with src := l } W := by
  have h1 := h.hr
  have h2 := h.hg
  have h3 := h.hn
  refine ⟨h.nb, h.gr, h.rs, ⟨h.row, ?_, by omega⟩, h1, h2⟩
  refine Dep.imp2 (P := fun u => StR u d.toList x) (Q := fun u => SlR 3 SrcR u v l) (Dep.step h.dep (Nat.le_refl _) fun b hb _ => ⟨hb.1, rfl⟩) (Dep.step h.own.done (Nat.le_refl _) fun b hb _ => ⟨⟨by omega, by omega⟩, rfl⟩) ?_
  rintro u ⟨c4, c5, c6, c7, c8, c9, c10, c11, c12, c13, c14, e, h4, h5, h6, h7, h8, h9, h10, h11, h12, h13, h14⟩ hs
  exact ⟨c4, c5, c6, c7, c8, c9, v, c11, c12, c13, c14, by rw [Array.toList_setIfInBounds, e]; rfl, h4, h5, h6, h7, h8, h9, hs, h11, h12, h13, h14⟩
/-- The words that may stand behind the sources. -/
def endS : List ByteArray := [⟨#[74, 79, 73, 78]⟩, ⟨#[87, 72, 69, 82, 69]⟩, ⟨#[71, 82, 79, 85, 80]⟩, ⟨#[72, 65, 86, 73, 78, 71]⟩, ⟨#[79, 82, 68, 69, 82]⟩, ⟨#[76, 73, 77, 73, 84]⟩]
attribute [local go_sem ↓] veilBs_px veilSt_sm veilLd_sm veilSt_so veilLd_so
attribute [local go_sem] run_smSt run_smNew run_smLd okRow16 run_soSt run_soNew run_soLd okRow3 Value.oneCell'
set_option maxRecDepth 100000 in
set_option maxHeartbeats 32000000 in
theorem lookW (k k' : Nat) (x : PE) (a1 : cB L en k ⟨#[42]⟩ = true) (a2 : cB L en (k + 1) ⟨#[70, 82, 79, 77]⟩ = true) (a3 : kP L (k + 2) = 2) (a4 : cB L en (k + 3) ⟨#[65, 83]⟩ = false) (a5 : cB L en (k + 3) ⟨#[74, 79, 73, 78]⟩ = true)
    (a6 : kP L (k + 4) = 2) (a7 : cB L en (k + 5) ⟨#[65, 83]⟩ = true) (a8 : kP L (k + 6) = 2) (a9 : cB L en (k + 7) ⟨#[79, 78]⟩ = true) (hx : NRun w0 r tv L en 54 (k + 8) k' x) (hz : ∀ t ∈ endS, cB L en k' t = false) (w : World) (h : NB w0 r tv L en k w) :
    Calls Tryz.prog 56 #[.pointer (some ⟨r, 0, none⟩)] w fun e w' => ∃ cs, e = .returned (.agg cs) ∧
      New w.heap.size w' (fun u => StX u cs.toList { kind := 8, src := [⟨(tokP L en (k + 2)).s, ⟨#[]⟩, []⟩, ⟨(tokP L en (k + 4)).s, (tokP L en (k + 6)).s, [x]⟩], limit := -1 }) ∧ NB w0 r tv L en k' w' ∧ w.grownBy w' (some r) := by
  have HLT : Hid (r < w.heap.size) := Lib.hid h.lt
  obtain ⟨n1, hn1⟩ : ∃ nm, (tokP L en (k + 2)).s = nm := ⟨_, rfl⟩
  obtain ⟨n2, hn2⟩ : ∃ nm, (tokP L en (k + 4)).s = nm := ⟨_, rfl⟩
  obtain ⟨n3, hn3⟩ : ∃ nm, (tokP L en (k + 6)).s = nm := ⟨_, rfl⟩
  rw [hn1, hn2, hn3]
  have HN1 := Lib.hid hn1
  have HN2 := Lib.hid hn2
  have HN3 := Lib.hid hn3
  have HX := Lib.hid hx
  have HE := Lib.hid hz
  have A1 := Lib.hid a1
  have A2 := Lib.hid a2
  have A3 := Lib.hid a3
  have A4 := Lib.hid a4
  have A5 := Lib.hid a5
  have A6 := Lib.hid a6
  have A7 := Lib.hid a7
  have A8 := Lib.hid a8
  have A9 := Lib.hid a9
  have hb1 := (Below.refl _ w).alloc (Nat.le_refl _) (.cells stZ 35)
  have HP1 : Hid (RP w0 r tv L en w k (w.alloc (.cells stZ 35))) := Lib.hid ⟨h.later hb1, below_grown hb1, row_alloc _ _ _, h.lt⟩
  have HZ1 : Hid ((w.alloc (.cells stZ 35)).heap.size = w.heap.size + 1) := Lib.hid (by simp)
  clear h hb1 hn1 hn2 hn3 hx hz a1 a2 a3 a4 a5 a6 a7 a8 a9
  go_enter Tryz.func56, Tryz.ntmps56
  go_upto_region 1 with fail
  generalize w.alloc (.cells stZ 35) = w1 at *
  have hb2 := (Below.refl _ w1).alloc (Nat.le_refl _) (.cells #[.int .u8 8, .string ⟨#[]⟩, .string ⟨#[]⟩, .bool false, .slice none 0 0, .slice none 0 0, .slice none 0 0, .slice none 0 0, .slice none 0 0, .slice none 0 0, .slice none 0 0, .slice none 0 0, .slice none 0 0, .slice none 0 0, .slice none 0 0, .int .i64 (-1)] 35)
  have HS2 : Hid (SN w0 r tv L en w w1.heap.size k #[.int .u8 8, .string ⟨#[]⟩, .string ⟨#[]⟩, .bool false, .slice none 0 0, .slice none 0 0, .slice none 0 0, .slice none 0 0, .slice none 0 0, .slice none 0 0, .slice none 0 0, .slice none 0 0, .slice none 0 0, .slice none 0 0, .slice none 0 0, .int .i64 (-1)] { kind := 8, limit := -1 } (w1.alloc (.cells #[.int .u8 8, .string ⟨#[]⟩, .string ⟨#[]⟩, .bool false, .slice none 0 0, .slice none 0 0, .slice none 0 0, .slice none 0 0, .slice none 0 0, .slice none 0 0, .slice none 0 0, .slice none 0 0, .slice none 0 0, .slice none 0 0, .slice none 0 0, .int .i64 (-1)] 35))) := Lib.hid ⟨HP1.out.nb.later hb2, grown_trans HP1.out.gr (below_grown (r := r) hb2), HP1.out.rs.later hb2, sg_new w1 8 ⟨#[]⟩ ⟨#[]⟩ false (-1) (by simp), HP1.out.hr, by have := HZ1.out; omega⟩
  clear hb2 HP1
  go_upto_region 2 with fail
  generalize w1.alloc (.cells #[.int .u8 8, .string ⟨#[]⟩, .string ⟨#[]⟩, .bool false, .slice none 0 0, .slice none 0 0, .slice none 0 0, .slice none 0 0, .slice none 0 0, .slice none 0 0, .slice none 0 0, .slice none 0 0, .slice none 0 0, .slice none 0 0, .slice none 0 0, .int .i64 (-1)] 35) = w2 at *
  generalize w1.heap.size = g at *
  generalize hcs : (#[.int .u8 8, .string ⟨#[]⟩, .string ⟨#[]⟩, .bool false, .slice none 0 0, .slice none 0 0, .slice none 0 0, .slice none 0 0, .slice none 0 0, .slice none 0 0, .slice none 0 0, .slice none 0 0, .slice none 0 0, .slice none 0 0, .slice none 0 0, .int .i64 (-1)] : Array Value) = cs2 at *
  have H9 : Hid (cs2[9]? = some (.slice none 0 0)) := Lib.hid (by rw [← hcs]; rfl)
  clear hcs
  have ht := takesW ⟨#[42]⟩ _ HS2.out.nb
  rw [A1.out] at ht
  have HT := Lib.hid ht
  clear ht
  go_wp2_with fail
  refine HT.out.mono ?_
  rintro e3 w3 ⟨rfl, hp, hg⟩
  have HS3 := Lib.hid (HS2.out.grown (k' := k + 1) hg hp)
  clear hp hg HT HS2
  have ht := needsW ⟨#[70, 82, 79, 77]⟩ _ HS3.out.nb A2.out
  have HT := Lib.hid ht
  clear ht
  go_wp2_with fail
  refine HT.out.mono ?_
  rintro e4 w4 ⟨rfl, hp, hg⟩
  have HS4 := Lib.hid (HS3.out.grown (k' := k + 1 + 1) hg hp)
  clear hp hg HT HS3
  have ht := nameW _ HS4.out.nb A3.out
  rw [HN1.out] at ht
  have HT := Lib.hid ht
  clear ht
  go_wp2_with fail
  refine HT.out.mono ?_
  rintro e5 w5 ⟨rfl, hp, hg⟩
  have HS5 := Lib.hid (HS4.out.grown (k' := k + 1 + 1 + 1) hg hp)
  clear hp hg HT HS4
  have ht := asNo _ _ HS5.out.nb A4.out
  have HT := Lib.hid ht
  clear ht
  go_wp2_with fail
  refine HT.out.mono ?_
  rintro e6 w6 ⟨rfl, hp, hg⟩
  have HS6 := Lib.hid (HS5.out.grown (k' := k + 3) hg hp)
  clear hp hg HT HS5
  have HJ0 := Lib.hid (JN.start (t := n1) (a := ⟨#[]⟩) HS6.out)
  have HGN : Hid (g < w6.heap.size) := Lib.hid HS6.out.sg.row.lt
  obtain ⟨o5, c5⟩ := (HS6.out.later ((Below.refl _ w6).alloc (Nat.le_refl _) (.cells #[.string n1, .string ⟨#[]⟩, .slice none 0 0] 80))).sg.cell 10 (by decide)
  have f5 := (HS6.out.later ((Below.refl _ w6).alloc (Nat.le_refl _) (.cells #[.string n1, .string ⟨#[]⟩, .slice none 0 0] 80))).sg.row.free 10
  clear HS6
  go_upto_block 2 with fail
  clear c5 f5 o5
  generalize (w6.alloc (.cells #[.string n1, .string ⟨#[]⟩, .slice none 0 0] 80)).setCell ⟨g, 10, none⟩ (.slice (some ⟨w6.heap.size, 0, none⟩) 1 1) = wA at *
  generalize w6.heap.size = n at *
  go_wp2_with fail
  go_loopg [] 1 (fun gk wr => ∃ (l : List PSrc) (ccs : List (List Value)) (v : Value) (kk : Nat), (gk = 1 ∧ l = [⟨n1, ⟨#[]⟩, []⟩] ∧ kk = k + 3 ∨ gk = 0 ∧ l = [⟨n1, ⟨#[]⟩, []⟩, ⟨n2, n3, [x]⟩] ∧ kk = k') ∧ Hid (JN w0 r tv L en w g n kk cs2 { kind := 8, limit := -1 } v v l ccs wr))
  case atStart => exact ⟨_, _, _, k + 3, .inl ⟨rfl, rfl, rfl⟩, HJ0⟩
  case round =>
    obtain ⟨l, ccs, v, kk, hor, HJ7⟩ := hrel
    rcases hor with ⟨rfl, rfl, rfl⟩ | ⟨rfl, rfl, rfl⟩
    · have ht := takesW ⟨#[74, 79, 73, 78]⟩ _ HJ7.out.nb
      rw [A5.out] at ht
      have HT := Lib.hid ht
      clear ht
      go_wp2_with fail
      refine HT.out.mono ?_
      rintro e8 w8 ⟨rfl, hp, hg⟩
      have HJ8 := Lib.hid (HJ7.out.grown (k' := k + 3 + 1) hg hp)
      clear hp hg HT HJ7
      have ht := nameW _ HJ8.out.nb A6.out
      rw [HN2.out] at ht
      have HT := Lib.hid ht
      clear ht
      go_wp2_with fail
      refine HT.out.mono ?_
      rintro e9 w9 ⟨rfl, hp, hg⟩
      have HJ9 := Lib.hid (HJ8.out.grown (k' := k + 3 + 1 + 1) hg hp)
      clear hp hg HT HJ8
      have ht := asYes _ _ HJ9.out.nb A7.out A8.out
      rw [HN3.out] at ht
      have HT := Lib.hid ht
      have hok3 : okRow 3 #[.string n2, .string n3, .slice none 0 0] = true := by rw [okRow3]; rfl
      clear ht
      go_wp2_with fail
      refine HT.out.mono ?_
      rintro e10 v10 ⟨rfl, hp, hg⟩
      have hbA := (Below.refl _ v10).alloc (Nat.le_refl _) (.cells #[.string n2, .string n3, .slice none 0 0] 80)
      have hp' : NB w0 r tv L en (k + 7) v10 := hp
      have HJA := Lib.hid (HJ9.out.grown (grown_trans hg (below_grown (r := r) hbA)) (hp'.later hbA))
      have HXA := Lib.hid (row_alloc v10 80 #[.string n2, .string n3, .slice none 0 0])
      have HRG : Hid (r < v10.heap.size ∧ n ≤ v10.heap.size ∧ w9.heap.size ≤ v10.heap.size) := Lib.hid ⟨hp'.lt, Nat.le_trans HJ9.out.hnw hg.size, hg.size⟩
      have HGA : Hid (w9.grownBy (v10.alloc (.cells #[.string n2, .string n3, .slice none 0 0] 80)) (some r)) := Lib.hid (grown_trans hg (below_grown (r := r) hbA))
      clear hp hp' hg hbA HT
      go_upto_region 10 with fail
      clear hok3
      generalize v10.alloc (.cells #[.string n2, .string n3, .slice none 0 0] 80) = wB at *
      generalize v10.heap.size = gx at *
      have HT := Lib.hid (needsW ⟨#[79, 78]⟩ _ HJA.out.nb A9.out)
      go_wp2_with fail
      refine HT.out.mono ?_
      rintro e11 w11 ⟨rfl, hp, hg⟩
      have HJB := Lib.hid (HJA.out.grown (k' := k + 8) hg hp)
      have HXB := Lib.hid (HXA.out.grown hg (by have := HRG.out; omega))
      have HGB := Lib.hid (grown_trans HGA.out hg)
      clear hp hg HT HJA HXA
      have HC := Lib.hid (HX.out w11 HJB.out.nb)
      go_wp2_with fail
      refine HC.out.mono ?_
      rintro e12 v12 ⟨c, rfl, hx12, hp, hg⟩
      have hbs : (veilBs 32 1 #[(0, .agg c)]).run Tryz.prog v12 = .ok (.slice (some ⟨v12.heap.size, 0, none⟩) 1 1) (v12.alloc (.cells c 44)) := run_bs1 v12 c hx12.size
      have hb4 := (Below.refl _ v12).alloc (Nat.le_refl _) (.cells c 44)
      have HJC := Lib.hid (HJB.out.grown (grown_trans hg (below_grown (r := r) hb4)) (hp.later hb4))
      have HXC := Lib.hid ((HXB.out.grown hg (by have := HRG.out; omega)).later hb4)
      have HGC := Lib.hid (grown_trans HGB.out (grown_trans hg (below_grown (r := r) hb4)))
      have HSZ : Hid (gx < w11.heap.size) := Lib.hid HXB.out.lt
      have HKD : Hid (Dep (fun b => w11.heap.size ≤ b) (v12.alloc (.cells c 44)) fun u => ExsR u (.slice (some ⟨v12.heap.size, 0, none⟩) 1 1) [x]) := Lib.hid (exs_row1 (S := fun b => w11.heap.size ≤ b) (row_alloc v12 44 c) hg.size ((hx12.later hb4).step (Nat.le_refl _) fun b hb _ => ⟨hb, rfl⟩))
      have cx := HXC.out.cell (i := 2) (v := .slice none 0 0) rfl
      have fx := HXC.out.free 2
      clear hp hg hx12 hb4 HC HJB HXB
      go_upto_region 12 with fail
      clear cx fx hbs
      have hex := setCell_eq_setRow (v12.alloc (.cells c 44)) gx 2 _ _ _ (.slice (some ⟨v12.heap.size, 0, none⟩) 1 1) HXC.out
      have HXD : Hid (Row gx 80 #[.string n2, .string n3, .slice (some ⟨v12.heap.size, 0, none⟩) 1 1] ((v12.alloc (.cells c 44)).setCell ⟨gx, 2, none⟩ (.slice (some ⟨v12.heap.size, 0, none⟩) 1 1))) := Lib.hid (by rw [hex]; exact HXC.out.set _)
      have HJD : Hid (JN w0 r tv L en w g n k' cs2 { kind := 8, limit := -1 } v v [⟨n1, ⟨#[]⟩, []⟩] ccs ((v12.alloc (.cells c 44)).setCell ⟨gx, 2, none⟩ (.slice (some ⟨v12.heap.size, 0, none⟩) 1 1))) := Lib.hid (by
        rw [hex]
        have h1 := HRG.out
        have h2 := HJC.out.nb.hr
        exact HJ9.out.grown (grown_fill HGC.out (by omega) _) (HJC.out.nb.other gx (by omega) (by omega) _))
      have HYB : Hid (New w11.heap.size ((v12.alloc (.cells c 44)).setCell ⟨gx, 2, none⟩ (.slice (some ⟨v12.heap.size, 0, none⟩) 1 1)) fun u => SrcR u [.string n2, .string n3, .slice (some ⟨v12.heap.size, 0, none⟩) 1 1] ⟨n2, n3, [x]⟩) := Lib.hid (by
        rw [hex]
        exact (Dep.step HKD.out (by simp) fun b hb _ => ⟨hb, setRow_other _ gx b _ (by have := HSZ.out; omega)⟩).imp fun u hu => ⟨_, rfl, hu⟩)
      have HNZ : Hid (n ≤ w11.heap.size ∧ ∀ k, v.ownBlock = some k → k < w11.heap.size) := Lib.hid (by
        have h1 := HSZ.out
        have h3 := HRG.out
        refine ⟨by omega, fun k hk => ?_⟩
        have := (World.ownsRow.lt HJ9.out.own.own k hk).2
        omega)
      generalize (v12.alloc (.cells c 44)).setCell ⟨gx, 2, none⟩ (.slice (some ⟨v12.heap.size, 0, none⟩) 1 1) = w12 at *
      generalize v12.heap.size = gy at *
      clear hex HXC HJC HGA HGB HGC HKD HJ9
      have HLEN : Hid (ccs.length = 1) := Lib.hid HJD.out.own.len
      obtain ⟨va, vc, hvs⟩ := HJD.out.own.shape
      subst hvs
      have c10 := HJD.out.c10
      have hbx := HXD.out.b (n := 3) rfl
      have hox := HXD.out.of
      have hrb : okRow 3 #[.string n2, .string n3, .slice (some ⟨gy, 0, none⟩) 1 1] = true := by rw [okRow3]; rfl
      have hal := (Below.refl w12.heap.size w12).alloc (Nat.le_refl _) (.cells #[.string n2, .string n3, .slice (some ⟨gy, 0, none⟩) 1 1] 80)
      have HOA := Lib.hid (HJD.out.own.later hal)
      have HJE := Lib.hid (HJD.out.grown (below_grown (r := r) hal) (HJD.out.nb.later hal))
      have HYA := Lib.hid (New.below HYB.out hal)
      have HNA := Lib.hid (row_alloc w12 80 #[.string n2, .string n3, .slice (some ⟨gy, 0, none⟩) 1 1])
      clear hal HYB
      go_wp2_with (at_builtin; refine wpList_append_one rfl (.tmp 51) (.tmp 53) 31 rfl n 80 3 56 elSrc (.slice va [(⟨n1, ⟨#[]⟩, []⟩ : PSrc)].length vc) ccs.length ccs.flatten rfl HOA.out.own w12.heap.size 1 [.string n2, .string n3, .slice (some ⟨gy, 0, none⟩) 1 1] rfl rfl (fun j u hj => HNA.out.cell (by simpa using hj)) (by simp [Value.oneCell']) (by have := HLEN.out; unfold maxLen; omega) (by have := HLEN.out; omega) HJE.out.hnw ?_; intro v' w13 hown hg13 hv13; have HJX := Lib.hid (HJE.out.app hown hg13 hv13 rfl HYA.out HNZ.out.1 HNZ.out.2); clear hown hg13 hv13; obtain ⟨va', vc', hv'⟩ := HJX.out.own.shape; rw [List.length_append, List.length_singleton] at hv'; subst hv'; have c10 := HJX.out.c10; have f10 := HJX.out.row.free 10)
      have HJY := Lib.hid (HJX.out.put)
      clear c10 f10
      go_roundg 0
      case measure => exact Nat.zero_lt_one
      case rel => exact ⟨_, _, _, k', .inr ⟨rfl, rfl, rfl⟩, HJY⟩
    · have HP7 := Lib.hid HJ7.out.toSN
      have HCS := Lib.hid HJ7.out.size
      clear HJ0 HJ7
      generalize hc7 : cs2.setIfInBounds 10 v = cs7 at *
      have H9 : Hid (cs7[9]? = some (.slice none 0 0)) := Lib.hid (by rw [← hc7, Array.getElem?_setIfInBounds_ne (by decide)]; exact H9.out)
      clear hc7
      have ht := takesW ⟨#[74, 79, 73, 78]⟩ _ HP7.out.nb
      rw [HE.out _ (by simp [endS])] at ht
      have HT := Lib.hid ht
      clear ht
      go_wp2_with fail
      refine HT.out.mono ?_
      rintro e8 w8 ⟨rfl, hp, hg⟩
      have HP8 := Lib.hid (HP7.out.grown (k' := kk) hg hp)
      clear hp hg HT HP7
      have HT := Lib.hid (perhapsNo ⟨#[87, 72, 69, 82, 69]⟩ kk (HE.out _ (by simp [endS])) _ HP8.out.nb)
      go_wp2_with fail
      refine HT.out.mono ?_
      rintro e9 v9 ⟨u9v, rfl, hn, hp, hg⟩
      obtain ⟨a9, b9, rfl, -⟩ := hn.here.shape
      have HV := Lib.hid (HP8.out.grown (k' := kk) hg hp)
      have hd := HV.out.dep hn HP8.out.sg.row.lt
      obtain ⟨o9, c9⟩ := HV.out.sg.cell 11 (by decide)
      have f9 := HV.out.sg.row.free 11
      have HP9 := Lib.hid (HV.out.lay (HV.out.sg.put_wh _ [] hd))
      clear hn hp hg hd HT HV HP8
      go_upto_region 14 with fail
      clear c9 f9 o9
      generalize v9.setCell ⟨g, 11, none⟩ (.slice a9 ([] : List PE).length b9) = w9 at *
      generalize hcc : cs7.setIfInBounds 11 (.slice a9 ([] : List PE).length b9) = cs9 at *
      have H9 : Hid (cs9[9]? = some (.slice none 0 0)) := Lib.hid (by rw [← hcc, Array.getElem?_setIfInBounds_ne (by decide)]; exact H9.out)
      clear hcc
      have ht := takesW ⟨#[71, 82, 79, 85, 80]⟩ _ HP9.out.nb
      rw [HE.out _ (by simp [endS])] at ht
      have HT := Lib.hid ht
      clear ht
      go_wp2_with fail
      refine HT.out.mono ?_
      rintro e10 w10 ⟨rfl, hp, hg⟩
      have HP10 := Lib.hid (HP9.out.grown (k' := kk) hg hp)
      clear hp hg HT HP9
      have HT := Lib.hid (perhapsNo ⟨#[72, 65, 86, 73, 78, 71]⟩ kk (HE.out _ (by simp [endS])) _ HP10.out.nb)
      go_wp2_with fail
      refine HT.out.mono ?_
      rintro e11 v11 ⟨u11v, rfl, hn, hp, hg⟩
      obtain ⟨a11, b11, rfl, -⟩ := hn.here.shape
      have HV := Lib.hid (HP10.out.grown (k' := kk) hg hp)
      have hd := HV.out.dep hn HP10.out.sg.row.lt
      obtain ⟨o11, c11⟩ := HV.out.sg.cell 13 (by decide)
      have f11 := HV.out.sg.row.free 13
      have HP11 := Lib.hid (HV.out.lay (HV.out.sg.put_having _ [] hd))
      clear hn hp hg hd HT HV HP10
      go_upto_region 18 with fail
      clear c11 f11 o11
      generalize v11.setCell ⟨g, 13, none⟩ (.slice a11 ([] : List PE).length b11) = w11 at *
      generalize hcc : cs9.setIfInBounds 13 (.slice a11 ([] : List PE).length b11) = cs11 at *
      have H9 : Hid (cs11[9]? = some (.slice none 0 0)) := Lib.hid (by rw [← hcc, Array.getElem?_setIfInBounds_ne (by decide)]; exact H9.out)
      clear hcc
      have ht := takesW ⟨#[79, 82, 68, 69, 82]⟩ _ HP11.out.nb
      rw [HE.out _ (by simp [endS])] at ht
      have HT := Lib.hid ht
      clear ht
      go_wp2_with fail
      refine HT.out.mono ?_
      rintro e12 w12 ⟨rfl, hp, hg⟩
      have HP12 := Lib.hid (HP11.out.grown (k' := kk) hg hp)
      clear hp hg HT HP11
      have ht := takesW ⟨#[76, 73, 77, 73, 84]⟩ _ HP12.out.nb
      rw [HE.out _ (by simp [endS])] at ht
      have HT := Lib.hid ht
      clear ht
      go_wp2_with fail
      refine HT.out.mono ?_
      rintro e13 w13 ⟨rfl, hp, hg⟩
      have HP13 := Lib.hid (HP12.out.grown (k' := kk) hg hp)
      clear hp hg HT HP12
      have hrb := HP13.out.sg.rb
      have hro := HP13.out.sg.row.of
      have hrq := HP13.out.rs.b (n := 16) rfl
      have hok := HP13.out.sg.ok
      have HZ := Lib.hid HP13.out.sg.size
      go_wp2_with fail
      refine bodyPost_ret (v := .agg cs11) (res_row Tryz.results56 sm_struct sm_size _ _ w.heap.size _ cs11 rfl (HP13.out.rs.set cs11) HZ.out) rfl ⟨_, rfl, HP13.out.fin.1.imp fun u hu => ⟨hu, by rw [Array.getElem?_toList]; exact H9.out⟩, HP13.out.fin.2⟩
set_option maxRecDepth 100000 in
set_option maxHeartbeats 16000000 in
theorem selectW (k' : Nat) (x : PE) (h1 : cB L en 0 ⟨#[67, 82, 69, 65, 84, 69]⟩ = false) (h2 : cB L en 0 ⟨#[68, 82, 79, 80]⟩ = false) (h3 : cB L en 0 ⟨#[73, 78, 83, 69, 82, 84]⟩ = false) (h4 : cB L en 0 ⟨#[85, 80, 68, 65, 84, 69]⟩ = false) (h5 : cB L en 0 ⟨#[68, 69, 76, 69, 84, 69]⟩ = false) (h6 : cB L en 0 ⟨#[83, 69, 76, 69, 67, 84]⟩ = true)
    (a1 : cB L en 1 ⟨#[42]⟩ = true) (a2 : cB L en 2 ⟨#[70, 82, 79, 77]⟩ = true) (a3 : kP L 3 = 2) (a4 : cB L en 4 ⟨#[65, 83]⟩ = false) (a5 : cB L en 4 ⟨#[74, 79, 73, 78]⟩ = true)
    (a6 : kP L 5 = 2) (a7 : cB L en 6 ⟨#[65, 83]⟩ = true) (a8 : kP L 7 = 2) (a9 : cB L en 8 ⟨#[79, 78]⟩ = true) (hx : NRun w0 r tv L en 54 9 k' x) (hz : ∀ t ∈ endS, cB L en k' t = false) :
    NStmR StX w0 r tv L en 0 k' { kind := 8, src := [⟨(tokP L en 3).s, ⟨#[]⟩, []⟩, ⟨(tokP L en 5).s, (tokP L en 7).s, [x]⟩], limit := -1 } := by
  intro w h
  have HLK := Lib.hid (fun W (hw : NB w0 r tv L en 1 W) => lookW 1 k' x a1 a2 a3 a4 a5 a6 a7 a8 a9 hx hz W hw)
  generalize hst : (⟨(tokP L en 3).s, ⟨#[]⟩, []⟩ : PSrc) = s1
  generalize hst2 : (⟨(tokP L en 5).s, (tokP L en 7).s, [x]⟩ : PSrc) = s2
  change Hid (∀ W, NB w0 r tv L en 1 W → Calls Tryz.prog 56 #[.pointer (some ⟨r, 0, none⟩)] W fun e w' => ∃ cs, e = .returned (.agg cs) ∧ New W.heap.size w' (fun u => StX u cs.toList { kind := 8, src := [⟨(tokP L en 3).s, ⟨#[]⟩, []⟩, ⟨(tokP L en 5).s, (tokP L en 7).s, [x]⟩], limit := -1 }) ∧ NB w0 r tv L en k' w' ∧ W.grownBy w' (some r)) at HLK
  rw [hst, hst2] at HLK
  have hb1 := (Below.refl _ w).alloc (Nat.le_refl _) (.cells stZ 35)
  have HP1 : Hid (RP w0 r tv L en w 0 (w.alloc (.cells stZ 35))) := Lib.hid ⟨h.later hb1, below_grown hb1, row_alloc _ _ _, h.lt⟩
  have HZ1 : Hid ((w.alloc (.cells stZ 35)).heap.size = w.heap.size + 1) := Lib.hid (by simp)
  have HW0 : Hid (w0.heap.size ≤ w.heap.size) := Lib.hid h.hb.size
  have H1 := Lib.hid h1
  have H2 := Lib.hid h2
  have H3 := Lib.hid h3
  have H4 := Lib.hid h4
  have H5 := Lib.hid h5
  have H6 := Lib.hid h6
  clear h hb1 h1 h2 h3 h4 h5 h6 a1 a2 a3 a4 a5 a6 a7 a8 a9 hx hz hst hst2
  go_enter Tryz.func31, Tryz.ntmps31
  go_upto_region 1 with fail
  generalize w.alloc (.cells stZ 35) = w1 at *
  have ht := takesW ⟨#[67, 82, 69, 65, 84, 69]⟩ _ HP1.out.nb
  rw [H1.out] at ht
  have HT := Lib.hid ht
  clear ht
  go_wp2_with fail
  refine HT.out.mono ?_
  rintro e2 w2 ⟨rfl, hp, hg⟩
  have HP2 : Hid (RP w0 r tv L en w 0 w2) := Lib.hid (HP1.out.grown hg hp)
  clear hp hg HT HP1
  have ht := takesW ⟨#[68, 82, 79, 80]⟩ _ HP2.out.nb
  rw [H2.out] at ht
  have HT := Lib.hid ht
  clear ht
  go_wp2_with fail
  refine HT.out.mono ?_
  rintro e3 w3 ⟨rfl, hp, hg⟩
  have HP3 : Hid (RP w0 r tv L en w 0 w3) := Lib.hid (HP2.out.grown hg hp)
  clear hp hg HT HP2
  have ht := takesW ⟨#[73, 78, 83, 69, 82, 84]⟩ _ HP3.out.nb
  rw [H3.out] at ht
  have HT := Lib.hid ht
  clear ht
  go_wp2_with fail
  refine HT.out.mono ?_
  rintro e4 w4 ⟨rfl, hp, hg⟩
  have HP4 : Hid (RP w0 r tv L en w 0 w4) := Lib.hid (HP3.out.grown hg hp)
  clear hp hg HT HP3
  have ht := takesW ⟨#[85, 80, 68, 65, 84, 69]⟩ _ HP4.out.nb
  rw [H4.out] at ht
  have HT := Lib.hid ht
  clear ht
  go_wp2_with fail
  refine HT.out.mono ?_
  rintro e5 w5 ⟨rfl, hp, hg⟩
  have HP5 : Hid (RP w0 r tv L en w 0 w5) := Lib.hid (HP4.out.grown hg hp)
  clear hp hg HT HP4
  have ht := takesW ⟨#[68, 69, 76, 69, 84, 69]⟩ _ HP5.out.nb
  rw [H5.out] at ht
  have HT := Lib.hid ht
  clear ht
  go_wp2_with fail
  refine HT.out.mono ?_
  rintro e6 w6 ⟨rfl, hp, hg⟩
  have HP6 : Hid (RP w0 r tv L en w 0 w6) := Lib.hid (HP5.out.grown hg hp)
  clear hp hg HT HP5
  have ht := takesW ⟨#[83, 69, 76, 69, 67, 84]⟩ _ HP6.out.nb
  rw [H6.out] at ht
  have HT := Lib.hid ht
  clear ht
  go_wp2_with fail
  refine HT.out.mono ?_
  rintro e7 w7 ⟨rfl, hp, hg⟩
  have HP7 : Hid (RP w0 r tv L en w 1 w7) := Lib.hid (HP6.out.grown hg hp)
  clear hp hg HT HP6
  have HT := Lib.hid (HLK.out w7 HP7.out.nb)
  have hrq7 := Lib.hid HP7.out
  go_wp2_with fail
  refine HT.out.mono ?_
  rintro e8 w8 ⟨c, rfl, hn, hp, hg⟩
  have HP8 : Hid (RP w0 r tv L en w k' w8) := Lib.hid (HP7.out.grown hg hp)
  have HSZ : Hid (w.heap.size < w7.heap.size) := Lib.hid HP7.out.rs.lt
  have hcl := stCells _ _ _ hn.here.1
  have HCZ : Hid (c.size = 16) := Lib.hid (by simpa using hcl.1)
  have hok : okRow 16 c = true := okRow_iff.2 ⟨HCZ.out, Array.all_eq_true_iff_forall_mem.2 fun u hu => hcl.2 u (by simpa using hu)⟩
  have HN := Lib.hid hn
  have hrb := HP8.out.rs.b (n := 16) rfl
  have hro := HP8.out.rs.of
  clear hn hp hg hcl HT hrq7 HP7
  go_wp2_with fail
  refine bodyPost_ret (v := .agg c) (res_row Tryz.results31 sm_struct sm_size _ _ w.heap.size _ c rfl (HP8.out.rs.set c) HCZ.out) rfl ⟨_, rfl, ?_, ?_, ?_⟩
  · exact HN.out.step (by simp) fun b hb _ => ⟨by have := HSZ.out; omega, setRow_other _ _ b c (by have := HSZ.out; omega)⟩
  · exact HP8.out.nb.other _ HW0.out (by have := HP8.out.hr; omega) c
  · exact grown_fill HP8.out.gr (Nat.le_refl _) c
end Go.Proofs.YtjgkeillmelkoaaGreat.Dt
namespace Go.Proofs.YtjgkeillmelkoaaGreat.Dt
open Go.RowKit Go.Proofs.YtjgkeillmelkoaaGreat.By

variable {w0 : World} {r : Nat} {tv : Value} {L : List Tk} {en : Int}
/-- A comparison by '>' of two things. -/
theorem toGt {k k1 k' : Nat} {x y : PE} (h1 : NRun w0 r tv L en 105 k k1 x) (hn : cB L en k ⟨#[78, 79, 84]⟩ = false) (his : cB L en k1 ⟨#[73, 83]⟩ = false) (h0 : cB L en k1 ⟨#[61]⟩ = false) (h2 : cB L en k1 ⟨#[60, 62]⟩ = false) (h3 : cB L en k1 ⟨#[60]⟩ = false) (h4 : cB L en k1 ⟨#[60, 61]⟩ = false) (he : cB L en k1 ⟨#[62]⟩ = true)
    (hy : NRun w0 r tv L en 105 (k1 + 1) k' y) : NRun w0 r tv L en 101 k k' (.node 16 [x, y]) :=
  inotW 4 k k1 k' x y ⟨#[62]⟩ (by decide) rfl h1 hn his (fun j hj sg hs => by
    match j, hj with
    | 0, _ => cases hs; exact h0
    | 1, _ => cases hs; exact h2
    | 2, _ => cases hs; exact h3
    | 3, _ => cases hs; exact h4) he hy
/-- The text "SELECT * FROM t JOIN t AS u ON u.c = t.a AND u.a > 1": its bytes, its tokens. -/
def tx6T : ByteArray := ⟨#[83, 69, 76, 69, 67, 84, 32, 42, 32, 70, 82, 79, 77, 32, 116, 32, 74, 79, 73, 78, 32, 116, 32, 65, 83, 32, 117, 32, 79, 78, 32, 117, 46, 99, 32, 61, 32, 116, 46, 97, 32, 65, 78, 68, 32, 117, 46, 97, 32, 62, 32, 49]⟩
def tx6L : List Tk := [⟨1, ⟨#[83, 69, 76, 69, 67, 84]⟩, 0, 0⟩, ⟨6, ⟨#[42]⟩, 0, 7⟩, ⟨1, ⟨#[70, 82, 79, 77]⟩, 0, 9⟩, ⟨2, ⟨#[116]⟩, 0, 14⟩, ⟨1, ⟨#[74, 79, 73, 78]⟩, 0, 16⟩, ⟨2, ⟨#[116]⟩, 0, 21⟩, ⟨1, ⟨#[65, 83]⟩, 0, 23⟩, ⟨2, ⟨#[117]⟩, 0, 26⟩, ⟨1, ⟨#[79, 78]⟩, 0, 28⟩, ⟨2, ⟨#[117]⟩, 0, 31⟩, ⟨6, ⟨#[46]⟩, 0, 32⟩, ⟨2, ⟨#[99]⟩, 0, 33⟩, ⟨6, ⟨#[61]⟩, 0, 35⟩, ⟨2, ⟨#[116]⟩, 0, 37⟩, ⟨6, ⟨#[46]⟩, 0, 38⟩, ⟨2, ⟨#[97]⟩, 0, 39⟩, ⟨1, ⟨#[65, 78, 68]⟩, 0, 41⟩, ⟨2, ⟨#[117]⟩, 0, 45⟩, ⟨6, ⟨#[46]⟩, 0, 46⟩, ⟨2, ⟨#[97]⟩, 0, 47⟩, ⟨6, ⟨#[62]⟩, 0, 49⟩, ⟨3, ⟨#[]⟩, 1, 51⟩]
set_option maxRecDepth 100000 in
theorem tx6_toks : toksL tx6T.data.toList = .inr tx6L := by decide +kernel
def rx6 : PE := .node 18 [.node 12 [.mk 2 V00 ⟨#[117]⟩ ⟨#[99]⟩ 0 [], .mk 2 V00 ⟨#[116]⟩ ⟨#[97]⟩ 0 []], .node 16 [.mk 2 V00 ⟨#[117]⟩ ⟨#[97]⟩ 0 [], intE 1]]
def tx6S : PSt := { kind := 8, src := [⟨⟨#[116]⟩, ⟨#[]⟩, []⟩, ⟨⟨#[116]⟩, ⟨#[117]⟩, [rx6]⟩], limit := -1 }
set_option maxRecDepth 100000 in
theorem tx6_st (w0 : World) (r : Nat) (tv : Value) : NStmR StX w0 r tv tx6L (tx6T.size : Int) 0 tx6L.length tx6S := by
  have h0 : NRun w0 r tv tx6L (tx6T.size : Int) 101 9 16 (.node 12 [.mk 2 V00 ⟨#[117]⟩ ⟨#[99]⟩ 0 [], .mk 2 V00 ⟨#[116]⟩ ⟨#[97]⟩ 0 []]) := toEq (toJoin (ibaseDot 9 (by decide +kernel) (by decide +kernel) (by decide +kernel)) (by decide +kernel) (by decide +kernel)) (by decide +kernel) (by decide +kernel) (by decide +kernel) (toJoin (ibaseDot 13 (by decide +kernel) (by decide +kernel) (by decide +kernel)) (by decide +kernel) (by decide +kernel))
  have h1 : NRun w0 r tv tx6L (tx6T.size : Int) 101 17 22 (.node 16 [.mk 2 V00 ⟨#[117]⟩ ⟨#[97]⟩ 0 [], intE 1]) := toGt (toJoin (ibaseDot 17 (by decide +kernel) (by decide +kernel) (by decide +kernel)) (by decide +kernel) (by decide +kernel)) (by decide +kernel) (by decide +kernel) (by decide +kernel) (by decide +kernel) (by decide +kernel) (by decide +kernel) (by decide +kernel) (toJoin (ibaseInt 21 (by decide +kernel) (by decide +kernel)) (by decide +kernel) (by decide +kernel))
  have ha : NRun w0 r tv tx6L (tx6T.size : Int) 87 9 22 (.node 18 [.node 12 [.mk 2 V00 ⟨#[117]⟩ ⟨#[99]⟩ 0 [], .mk 2 V00 ⟨#[116]⟩ ⟨#[97]⟩ 0 []], .node 16 [.mk 2 V00 ⟨#[117]⟩ ⟨#[97]⟩ 0 [], intE 1]]) := iandW 1 9 16 22 _ _ h0 ⟨(by decide +kernel), 22, _, h1, ⟨(by decide +kernel), rfl, rfl⟩⟩
  have ho := toOr ha (by decide +kernel)
  exact selectW 22 _ (by decide +kernel) (by decide +kernel) (by decide +kernel) (by decide +kernel) (by decide +kernel) (by decide +kernel) (by decide +kernel) (by decide +kernel) (by decide +kernel) (by decide +kernel) (by decide +kernel) (by decide +kernel) (by decide +kernel) (by decide +kernel) (by decide +kernel) ho (by decide +kernel)
theorem tx6_read (w : World) : Calls Tryz.prog 21 #[.string tx6T] w fun e w' =>
    ∃ v, e = .returned (.tuple #[v, .agg #[.int .i64 0, .int .i64 0]]) ∧ New w.heap.size w' (fun u => SlR 16 StX u v [tx6S]) ∧ Below w.heap.size w w' :=
  iscriptR stXCells tx6T tx6L tx6S w tx6_toks (by decide) (by decide) (by decide) tx6_st
end Go.Proofs.YtjgkeillmelkoaaGreat.Dt
