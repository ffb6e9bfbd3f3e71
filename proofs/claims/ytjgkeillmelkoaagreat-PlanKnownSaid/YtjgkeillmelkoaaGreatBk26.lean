import Derived.LoopN
import Derived.Test.YtjgkeillmelkoaaGreatBk25
import Derived.Test.YtjgkeillmelkoaaGreatBk14
import Derived.Test.YtjgkeillmelkoaaGreatBk03
import Derived.Test.YtjgkeillmelkoaaGreatBk10
import Derived.Test.YtjgkeillmelkoaaGreatBk04
namespace Go.Proofs.YtjgkeillmelkoaaGreat.Dt
open Go.RowKit Go.Proofs.YtjgkeillmelkoaaGreat.By

/-- What a call for a statement gives, by whatever relation. -/
def NStmR (R : World → List Value → PSt → Prop) (w0 : World) (r : Nat) (tv : Value) (L : List Tk) (en : Int) (k k' : Nat) (x : PSt) : Prop := ∀ w, NB w0 r tv L en k w → Calls Tryz.prog 31 #[.pointer (some ⟨r, 0, none⟩)] w fun e w' =>
  ∃ cs, e = .returned (.agg cs) ∧ New w.heap.size w' (fun u => R u cs.toList x) ∧ NB w0 r tv L en k' w' ∧ w.grownBy w' (some r)
theorem NB.row2 {w0 w w' : World} {r k : Nat} {tv : Value} {L : List Tk} {en : Int} {o : Option Nat} (h : NB w0 r tv L en k w) (g : w.grownBy w' o) (ho : ∀ j, o = some j → r < j) : NB w0 r tv L en k w' :=
  ⟨(g.block r h.lt (fun e => by have := ho r e.symm; omega)).trans h.row, h.tk, ⟨g.os.trans h.hb.os, g.tape.trans h.hb.tape, g.output.trans h.hb.output, Nat.le_trans h.hb.size g.size, fun b hb => (g.block b (Nat.lt_of_lt_of_le hb h.hb.size) (fun e => by have := ho b e.symm; have := h.hr; omega)).trans (h.hb.block b hb)⟩, h.hr, h.hl⟩
theorem riBelow {w w' : World} {r n : Nat} (h : w.grownBy w' (some r)) (hn : n ≤ r) (hw : n ≤ w.heap.size) : Below n w w' := ⟨h.os, h.tape, h.output, h.size, fun i hi => h.block i (by omega) (fun e => by cases e; omega)⟩
attribute [local go_sem ↓] veilBs_st
attribute [local go_sem] run_bsSt
set_option maxRecDepth 100000 in
set_option maxHeartbeats 16000000 in
theorem iscriptR {R : World → List Value → PSt → Prop} (hRC : ∀ (w : World) (c : List Value) (x : PSt), R w c x → c.length = 16 ∧ ∀ u ∈ c, u.oneCell' = true) (t : ByteArray) (L : List Tk) (x : PSt) (w : World) (ht : toksL t.data.toList = .inr L) (hs : t.size ≤ 4096) (h1 : 1 ≤ L.length) (h2 : L.length ≤ 4096)
    (hst : ∀ (w0 : World) (r : Nat) (tv : Value), NStmR R w0 r tv L (t.size : Int) 0 L.length x) : Calls Tryz.prog 21 #[.string t] w fun e w' =>
    ∃ v, e = .returned (.tuple #[v, .agg #[.int .i64 0, .int .i64 0]]) ∧ New w.heap.size w' (fun u => SlR 16 R u v [x]) ∧ Below w.heap.size w w' := by
  have hb0 : Below w.heap.size w (w.alloc (.cells #[.int .i64 0, .int .i64 0] 70)) := (Below.refl _ _).alloc (Nat.le_refl _) _
  have HR1 := Lib.hid (row_alloc w 70 #[.int .i64 0, .int .i64 0])
  have HB0 := Lib.hid hb0
  have HST := Lib.hid hst
  have HRC := Lib.hid hRC
  have HLEN := Lib.hid h2
  have HL1 := Lib.hid h1
  have HTS : Hid (t.size ≤ 4096) := Lib.hid hs
  have htk := refToksW t (w.alloc (.cells #[.int .i64 0, .int .i64 0] 70)) (by omega)
  rw [ht] at htk
  have HT := Lib.hid htk
  clear hb0 hRC hst h1 h2 hs ht htk
  go_enter Tryz.func21, Tryz.ntmps21
  go_upto_region 1 with fail
  generalize w.alloc (.cells #[.int .i64 0, .int .i64 0] 70) = w1 at *
  go_wp2_with fail
  refine HT.out.mono ?_
  rintro e2 w2 ⟨⟨tv, rfl, htk⟩, hb2⟩
  obtain ⟨ta, tc, rfl⟩ := htk.shape
  have HTK := Lib.hid htk
  have hbk := (Below.refl _ w2).alloc (Nat.le_refl _) (.cells #[.int .i64 0, .int .i64 0] 70)
  have HR1b := Lib.hid ((HR1.out.later hb2).later hbk)
  have HLK : Hid (w.heap.size < w2.heap.size) := Lib.hid (HR1.out.later hb2).lt
  have HB2 := Lib.hid (next (next HB0.out hb2) hbk)
  have HBK := Lib.hid hbk
  have HK := Lib.hid (row_alloc w2 70 #[.int .i64 0, .int .i64 0])
  clear hb2 HT htk hbk
  go_upto_region 2 with fail
  generalize hw3 : w2.alloc (.cells #[.int .i64 0, .int .i64 0] 70) = w3 at *
  have HZ3 : Hid (w3.heap.size = w2.heap.size + 1) := Lib.hid (by rw [← hw3]; simp)
  have k0 := HK.out.cell (i := 0) (v := .int .i64 0) rfl
  clear hw3
  go_upto_region 4 with fail
  clear k0
  have hbp := (Below.refl _ w3).alloc (Nat.le_refl _) (.cells #[.slice ta L.length tc, .int .i64 0, .int .i64 0, .int .i64 (t.size : Int)] 89)
  have hrow := row_alloc w3 89 #[.slice ta L.length tc, .int .i64 0, .int .i64 0, .int .i64 (t.size : Int)]
  have HNB : Hid (NB w2 w3.heap.size (.slice ta L.length tc) L (t.size : Int) 0 (w3.alloc (.cells #[.slice ta L.length tc, .int .i64 0, .int .i64 0, .int .i64 (t.size : Int)] 89))) := Lib.hid
    ⟨hrow, HTK.out, next HBK.out hbp, by have := HZ3.out; omega, HLEN.out⟩
  have HR1c := Lib.hid (HR1b.out.later hbp)
  have HB4 := Lib.hid (next HB2.out hbp)
  have HRP : Hid (w.heap.size < w3.heap.size) := Lib.hid (by have := HZ3.out; have := HLK.out; omega)
  have HW4 : Hid ((w3.alloc (.cells #[.slice ta L.length tc, .int .i64 0, .int .i64 0, .int .i64 (t.size : Int)] 89)).heap.size = w3.heap.size + 1) := Lib.hid (by simp)
  clear hbp hrow
  go_upto_region 5 with fail
  generalize w3.alloc (.cells #[.slice ta L.length tc, .int .i64 0, .int .i64 0, .int .i64 (t.size : Int)] 89) = w4 at *
  generalize w3.heap.size = r at *
  go_wp2_with fail
  go_loopg [7] 1 (fun gk ov wr => ∃ (done : List PSt) (ccs : List (List Value)) (k : Nat), (gk = 1 ∧ done = [] ∧ k = 0 ∨ gk = 0 ∧ done = [x] ∧ k = L.length) ∧ Hid (NB w2 r (.slice ta L.length tc) L (t.size : Int) k wr) ∧ Hid (OwnL 35 16 R (r + 1) wr ov done ccs) ∧ Hid (w4.grownBy wr (some r)))
  case atStart => exact ⟨[], [], 0, .inl ⟨rfl, rfl, rfl⟩, HNB, Lib.hid (OwnL.nil _ _ _ _ _), Lib.hid (grown_refl _ _)⟩
  case round =>
    obtain ⟨done, ccs, k, hor, HP, HOW, HG⟩ := hrel
    obtain ⟨va, vc, rfl⟩ := HOW.out.shape
    have c0 := HP.out.row.cell (i := 0) (v := .slice ta L.length tc) rfl
    have c1 := HP.out.row.cell (i := 1) (v := .int .i64 (k : Int)) rfl
    rcases hor with ⟨rfl, rfl, rfl⟩ | ⟨rfl, rfl, rfl⟩
    · have i1 : (0 : Int) < (L.length : Int) := by have := HL1.out; omega
      have HC := Lib.hid (HST.out w2 r (.slice ta L.length tc) wr HP.out)
      go_wp2_with fail
      refine HC.out.mono ?_
      rintro e7 v7 ⟨c7, rfl, hn7, hp7, hg7⟩
      obtain ⟨c, hc7, hcl, hc1, hok, hcn⟩ := heB (R := R) HRC.out r v7 (.agg c7) x (hn7.imp (fun u hu => ⟨c7.toList, by simp, hu⟩) |>.mono (by have := HP.out.lt; omega))
      have hal := (Below.refl v7.heap.size v7).alloc (Nat.le_refl _) (.cells c.toArray 35)
      obtain rfl : c7 = c.toArray := by cases hc7; rfl
      have HLT6 : Hid (r + 1 ≤ wr.heap.size) := Lib.hid HP.out.lt
      have HOA := Lib.hid ((HOW.out.grown hg7 (Nat.lt_succ_self _)).later hal)
      have HPA := Lib.hid (NB.later hp7 hal)
      have HGA := Lib.hid (grown_trans (grown_trans HG.out hg7) (below_grown (r := r) hal))
      have HNA := Lib.hid (row_alloc v7 35 c.toArray)
      have HYA : Hid (New wr.heap.size (v7.alloc (.cells c.toArray 35)) fun u => R u c x) := Lib.hid (New.below (hn7.imp fun u hu => by simpa using hu) hal)
      have HCL := Lib.hid hcl
      have HC1 := Lib.hid hc1
      have HM : Hid (∀ k, (Value.slice va ([] : List PSt).length vc).ownBlock = some k → k < wr.heap.size) := Lib.hid (fun k hk => (World.ownsRow.lt HOW.out.own k hk).2)
      have HLO : Hid (∀ k, (Value.slice va ([] : List PSt).length vc).ownBlock = some k → r + 1 ≤ k) := Lib.hid (fun k hk => (World.ownsRow.lt HOW.out.own k hk).1)
      have HCC : Hid (ccs.length = 0) := Lib.hid HOW.out.len
      have HBS : Hid (r + 1 ≤ (v7.alloc (.cells c.toArray 35)).heap.size) := Lib.hid (Nat.le_trans HP.out.lt (Nat.le_trans hg7.size hal.size))
      clear hn7 hp7 hg7 hcn hal hcl hc1 HC hc7 c0 c1
      go_upto_region 8 with (at_builtin; refine wpList_append_one rfl (.tmp 29) (.tmp 32) 68 rfl (r + 1) 35 16 320 elSt (.slice va ([] : List PSt).length vc) ccs.length ccs.flatten rfl HOA.out.own v7.heap.size 1 c rfl HCL.out (fun j u hj => HNA.out.cell (by simpa using hj)) HC1.out (by have := HCC.out; unfold maxLen; omega) (by have := HCC.out; omega) HBS.out ?_; intro v' w8 hown8 hg8 hv8; have HO8 := Lib.hid (HOA.out.snoc hown8 hg8 hv8 HCL.out HYA.out HLT6.out HM.out); have HP8 := Lib.hid (NB.row2 HPA.out hg8 (fun j hj => by have := HLO.out j hj; omega)); have HG8 := Lib.hid (grown_row HGA.out hg8 (fun j hj => by have := HLO.out j hj; have := HW4.out; omega)); clear hown8 hg8 hv8; obtain ⟨va', vc', hv'⟩ := HO8.out.shape; rw [List.length_append, List.length_singleton] at hv'; subst hv')
      clear hok
      have c0 := HP8.out.row.cell (i := 0) (v := .slice ta L.length tc) rfl
      have c1 := HP8.out.row.cell (i := 1) (v := .int .i64 (L.length : Int)) rfl
      have c2 := HP8.out.row.cell (i := 2) (v := .int .i64 0) rfl
      have i2 : ¬ (L.length : Int) < (L.length : Int) := by omega
      go_wp2_with fail
      go_roundg 0
      case measure => exact Nat.zero_lt_one
      case rel => exact ⟨_, _, L.length, .inr ⟨rfl, rfl, rfl⟩, HP8, HO8, HG8⟩
    · have i1 : ¬ (L.length : Int) < (L.length : Int) := by omega
      have HR1z := Lib.hid (HR1c.out.grown HG.out (Nat.ne_of_lt HRP.out))
      have HBD : Hid (Below w.heap.size w wr) := Lib.hid (HB4.out.trans (riBelow HG.out (Nat.le_of_lt HRP.out) HB4.out.size))
      have HFA := Lib.hid (fin_1 (a := .int .i64 0) (b := .int .i64 0) HR1z.out)
      have q0 := HR1z.out.cell (i := 0) (v := .int .i64 0) rfl
      have q1 := HR1z.out.cell (i := 1) (v := .int .i64 0) rfl
      have f0 := row_free HR1z.out 0
      have f1 := row_free HR1z.out 1
      have HD := Lib.hid HOW.out.done
      go_wp2_with fail
      refine bodyPost_ret (v := .tuple #[.slice va [x].length vc, .agg #[.int .i64 0, .int .i64 0]]) (res_tc rfl _ _ w.heap.size _ _ #[.int .i64 0, .int .i64 0] rfl rfl HFA.out.r1 rfl) rfl ⟨_, rfl, ?_, HBD.out.trans (HFA.out.bl _ (Nat.le_refl _))⟩
      exact HD.out.step HFA.out.sz fun b hb hlt => ⟨by have := HRP.out; omega, HFA.out.ot b (by have := HRP.out; omega)⟩
theorem iscriptW (t : ByteArray) (L : List Tk) (x : PSt) (w : World) (ht : toksL t.data.toList = .inr L) (hs : t.size ≤ 4096) (h1 : 1 ≤ L.length) (h2 : L.length ≤ 4096)
    (hst : ∀ (w0 : World) (r : Nat) (tv : Value), NStm w0 r tv L (t.size : Int) 0 L.length x) : Calls Tryz.prog 21 #[.string t] w fun e w' =>
    ∃ v, e = .returned (.tuple #[v, .agg #[.int .i64 0, .int .i64 0]]) ∧ New w.heap.size w' (fun u => SlR 16 StR u v [x]) ∧ Below w.heap.size w w' :=
  iscriptR stCells t L x w ht hs h1 h2 hst
end Go.Proofs.YtjgkeillmelkoaaGreat.Dt
namespace Go.Proofs.YtjgkeillmelkoaaGreat.Dt
open Go.RowKit Go.Proofs.YtjgkeillmelkoaaGreat.By

variable {w0 : World} {r : Nat} {tv : Value} {L : List Tk} {en : Int}
/-- The signs that bind more than those that compare. -/
def bindS : List ByteArray := [⟨#[42]⟩, ⟨#[47]⟩, ⟨#[37]⟩, ⟨#[43]⟩, ⟨#[45]⟩, ⟨#[124, 124]⟩]
theorem toJoin {k k' : Nat} {x : PE} (hb : NRun w0 r tv L en 112 k k' x) (h0 : cB L en k ⟨#[45]⟩ = false) (hs : ∀ t ∈ bindS, cB L en k' t = false) : NRun w0 r tv L en 105 k k' x :=
  ijoinW 0 k k' k' x x (iplusW k k' x (itimesW k k' x (iminusW k k' x hb h0) (hs _ (by simp [bindS])) (hs _ (by simp [bindS])) (hs _ (by simp [bindS]))) (hs _ (by simp [bindS])) (hs _ (by simp [bindS]))) ⟨hs _ (by simp [bindS]), rfl, rfl⟩
/-- A comparison by '=' of two things. -/
theorem toEq {k k1 k' : Nat} {x y : PE} (h1 : NRun w0 r tv L en 105 k k1 x) (hn : cB L en k ⟨#[78, 79, 84]⟩ = false) (his : cB L en k1 ⟨#[73, 83]⟩ = false) (he : cB L en k1 ⟨#[61]⟩ = true)
    (h2 : NRun w0 r tv L en 105 (k1 + 1) k' y) : NRun w0 r tv L en 101 k k' (.node 12 [x, y]) :=
  inotW 0 k k1 k' x y ⟨#[61]⟩ (by decide) rfl h1 hn his (fun j hj => absurd hj (Nat.not_lt_zero _)) he h2
theorem toOr {k k' : Nat} {x : PE} (h : NRun w0 r tv L en 87 k k' x) (ho : cB L en k' ⟨#[79, 82]⟩ = false) : NRun w0 r tv L en 54 k k' x :=
  iorW 0 k k' k' x x h ⟨ho, rfl, rfl⟩
/-- The expressions of the layer's own texts. -/
def nameE (s : ByteArray) : PE := .mk 2 V00 ⟨#[]⟩ s 0 []
def intE (n : Nat) : PE := .val1 ⟨1, (n : Int), ⟨#[]⟩⟩
/-- The text "DELETE FROM t WHERE b = 1 AND 2 = a": its bytes, its tokens. -/
def tx1T : ByteArray := ⟨#[68, 69, 76, 69, 84, 69, 32, 70, 82, 79, 77, 32, 116, 32, 87, 72, 69, 82, 69, 32, 98, 32, 61, 32, 49, 32, 65, 78, 68, 32, 50, 32, 61, 32, 97]⟩
def tx1L : List Tk := [⟨1, ⟨#[68, 69, 76, 69, 84, 69]⟩, 0, 0⟩, ⟨1, ⟨#[70, 82, 79, 77]⟩, 0, 7⟩, ⟨2, ⟨#[116]⟩, 0, 12⟩, ⟨1, ⟨#[87, 72, 69, 82, 69]⟩, 0, 14⟩, ⟨2, ⟨#[98]⟩, 0, 20⟩, ⟨6, ⟨#[61]⟩, 0, 22⟩, ⟨3, ⟨#[]⟩, 1, 24⟩, ⟨1, ⟨#[65, 78, 68]⟩, 0, 26⟩, ⟨3, ⟨#[]⟩, 2, 30⟩, ⟨6, ⟨#[61]⟩, 0, 32⟩, ⟨2, ⟨#[97]⟩, 0, 34⟩]
set_option maxRecDepth 100000 in
theorem tx1_toks : toksL tx1T.data.toList = .inr tx1L := by decide +kernel
def tx1S : PSt := { kind := 7, table := ⟨#[116]⟩, wh := [.node 18 [.node 12 [nameE ⟨#[98]⟩, intE 1], .node 12 [intE 2, nameE ⟨#[97]⟩]]] }
set_option maxRecDepth 100000 in
theorem tx1_st (w0 : World) (r : Nat) (tv : Value) : NStm w0 r tv tx1L (tx1T.size : Int) 0 tx1L.length tx1S := by
  have h0 : NRun w0 r tv tx1L (tx1T.size : Int) 101 4 7 (.node 12 [nameE ⟨#[98]⟩, intE 1]) := toEq (toJoin (ibaseName 4 (by decide +kernel) (by decide +kernel)) (by decide +kernel) (by decide +kernel)) (by decide +kernel) (by decide +kernel) (by decide +kernel) (toJoin (ibaseInt 6 (by decide +kernel) (by decide +kernel)) (by decide +kernel) (by decide +kernel))
  have h1 : NRun w0 r tv tx1L (tx1T.size : Int) 101 8 11 (.node 12 [intE 2, nameE ⟨#[97]⟩]) := toEq (toJoin (ibaseInt 8 (by decide +kernel) (by decide +kernel)) (by decide +kernel) (by decide +kernel)) (by decide +kernel) (by decide +kernel) (by decide +kernel) (toJoin (ibaseName 10 (by decide +kernel) (by decide +kernel)) (by decide +kernel) (by decide +kernel))
  have ha : NRun w0 r tv tx1L (tx1T.size : Int) 87 4 11 (.node 18 [.node 12 [nameE ⟨#[98]⟩, intE 1], .node 12 [intE 2, nameE ⟨#[97]⟩]]) := iandW 1 4 7 11 _ _ h0 ⟨(by decide +kernel), 11, _, h1, ⟨(by decide +kernel), rfl, rfl⟩⟩
  have ho := toOr ha (by decide +kernel)
  exact deleteW 0 11 _ (by decide +kernel) (by decide +kernel) (by decide +kernel) (by decide +kernel) (by decide +kernel) (by decide +kernel) (by decide +kernel) (perhapsYes _ 3 11 _ (by decide +kernel) ho)
theorem tx1_read (w : World) : Calls Tryz.prog 21 #[.string tx1T] w fun e w' =>
    ∃ v, e = .returned (.tuple #[v, .agg #[.int .i64 0, .int .i64 0]]) ∧ New w.heap.size w' (fun u => SlR 16 StR u v [tx1S]) ∧ Below w.heap.size w w' :=
  iscriptW tx1T tx1L tx1S w tx1_toks (by decide) (by decide) (by decide) tx1_st
/-- The text "DELETE FROM t": its bytes, its tokens. -/
def tx2T : ByteArray := ⟨#[68, 69, 76, 69, 84, 69, 32, 70, 82, 79, 77, 32, 116]⟩
def tx2L : List Tk := [⟨1, ⟨#[68, 69, 76, 69, 84, 69]⟩, 0, 0⟩, ⟨1, ⟨#[70, 82, 79, 77]⟩, 0, 7⟩, ⟨2, ⟨#[116]⟩, 0, 12⟩]
set_option maxRecDepth 100000 in
theorem tx2_toks : toksL tx2T.data.toList = .inr tx2L := by decide +kernel
def tx2S : PSt := { kind := 7, table := ⟨#[116]⟩, wh := [] }
set_option maxRecDepth 100000 in
theorem tx2_st (w0 : World) (r : Nat) (tv : Value) : NStm w0 r tv tx2L (tx2T.size : Int) 0 tx2L.length tx2S := by
  exact deleteW 0 3 _ (by decide +kernel) (by decide +kernel) (by decide +kernel) (by decide +kernel) (by decide +kernel) (by decide +kernel) (by decide +kernel) (perhapsNo _ 3 (by decide +kernel))
theorem tx2_read (w : World) : Calls Tryz.prog 21 #[.string tx2T] w fun e w' =>
    ∃ v, e = .returned (.tuple #[v, .agg #[.int .i64 0, .int .i64 0]]) ∧ New w.heap.size w' (fun u => SlR 16 StR u v [tx2S]) ∧ Below w.heap.size w w' :=
  iscriptW tx2T tx2L tx2S w tx2_toks (by decide) (by decide) (by decide) tx2_st
/-- The text "DELETE FROM t WHERE b = 1": its bytes, its tokens. -/
def tx3T : ByteArray := ⟨#[68, 69, 76, 69, 84, 69, 32, 70, 82, 79, 77, 32, 116, 32, 87, 72, 69, 82, 69, 32, 98, 32, 61, 32, 49]⟩
def tx3L : List Tk := [⟨1, ⟨#[68, 69, 76, 69, 84, 69]⟩, 0, 0⟩, ⟨1, ⟨#[70, 82, 79, 77]⟩, 0, 7⟩, ⟨2, ⟨#[116]⟩, 0, 12⟩, ⟨1, ⟨#[87, 72, 69, 82, 69]⟩, 0, 14⟩, ⟨2, ⟨#[98]⟩, 0, 20⟩, ⟨6, ⟨#[61]⟩, 0, 22⟩, ⟨3, ⟨#[]⟩, 1, 24⟩]
set_option maxRecDepth 100000 in
theorem tx3_toks : toksL tx3T.data.toList = .inr tx3L := by decide +kernel
def tx3S : PSt := { kind := 7, table := ⟨#[116]⟩, wh := [.node 12 [nameE ⟨#[98]⟩, intE 1]] }
set_option maxRecDepth 100000 in
theorem tx3_st (w0 : World) (r : Nat) (tv : Value) : NStm w0 r tv tx3L (tx3T.size : Int) 0 tx3L.length tx3S := by
  have h0 : NRun w0 r tv tx3L (tx3T.size : Int) 101 4 7 (.node 12 [nameE ⟨#[98]⟩, intE 1]) := toEq (toJoin (ibaseName 4 (by decide +kernel) (by decide +kernel)) (by decide +kernel) (by decide +kernel)) (by decide +kernel) (by decide +kernel) (by decide +kernel) (toJoin (ibaseInt 6 (by decide +kernel) (by decide +kernel)) (by decide +kernel) (by decide +kernel))
  have ha : NRun w0 r tv tx3L (tx3T.size : Int) 87 4 7 (.node 12 [nameE ⟨#[98]⟩, intE 1]) := iandW 0 4 7 7 _ _ h0 ⟨(by decide +kernel), rfl, rfl⟩
  have ho := toOr ha (by decide +kernel)
  exact deleteW 0 7 _ (by decide +kernel) (by decide +kernel) (by decide +kernel) (by decide +kernel) (by decide +kernel) (by decide +kernel) (by decide +kernel) (perhapsYes _ 3 7 _ (by decide +kernel) ho)
theorem tx3_read (w : World) : Calls Tryz.prog 21 #[.string tx3T] w fun e w' =>
    ∃ v, e = .returned (.tuple #[v, .agg #[.int .i64 0, .int .i64 0]]) ∧ New w.heap.size w' (fun u => SlR 16 StR u v [tx3S]) ∧ Below w.heap.size w w' :=
  iscriptW tx3T tx3L tx3S w tx3_toks (by decide) (by decide) (by decide) tx3_st
/-- The text "DELETE FROM t WHERE c = 3 AND b = 1": its bytes, its tokens. -/
def tx4T : ByteArray := ⟨#[68, 69, 76, 69, 84, 69, 32, 70, 82, 79, 77, 32, 116, 32, 87, 72, 69, 82, 69, 32, 99, 32, 61, 32, 51, 32, 65, 78, 68, 32, 98, 32, 61, 32, 49]⟩
def tx4L : List Tk := [⟨1, ⟨#[68, 69, 76, 69, 84, 69]⟩, 0, 0⟩, ⟨1, ⟨#[70, 82, 79, 77]⟩, 0, 7⟩, ⟨2, ⟨#[116]⟩, 0, 12⟩, ⟨1, ⟨#[87, 72, 69, 82, 69]⟩, 0, 14⟩, ⟨2, ⟨#[99]⟩, 0, 20⟩, ⟨6, ⟨#[61]⟩, 0, 22⟩, ⟨3, ⟨#[]⟩, 3, 24⟩, ⟨1, ⟨#[65, 78, 68]⟩, 0, 26⟩, ⟨2, ⟨#[98]⟩, 0, 30⟩, ⟨6, ⟨#[61]⟩, 0, 32⟩, ⟨3, ⟨#[]⟩, 1, 34⟩]
set_option maxRecDepth 100000 in
theorem tx4_toks : toksL tx4T.data.toList = .inr tx4L := by decide +kernel
def tx4S : PSt := { kind := 7, table := ⟨#[116]⟩, wh := [.node 18 [.node 12 [nameE ⟨#[99]⟩, intE 3], .node 12 [nameE ⟨#[98]⟩, intE 1]]] }
set_option maxRecDepth 100000 in
theorem tx4_st (w0 : World) (r : Nat) (tv : Value) : NStm w0 r tv tx4L (tx4T.size : Int) 0 tx4L.length tx4S := by
  have h0 : NRun w0 r tv tx4L (tx4T.size : Int) 101 4 7 (.node 12 [nameE ⟨#[99]⟩, intE 3]) := toEq (toJoin (ibaseName 4 (by decide +kernel) (by decide +kernel)) (by decide +kernel) (by decide +kernel)) (by decide +kernel) (by decide +kernel) (by decide +kernel) (toJoin (ibaseInt 6 (by decide +kernel) (by decide +kernel)) (by decide +kernel) (by decide +kernel))
  have h1 : NRun w0 r tv tx4L (tx4T.size : Int) 101 8 11 (.node 12 [nameE ⟨#[98]⟩, intE 1]) := toEq (toJoin (ibaseName 8 (by decide +kernel) (by decide +kernel)) (by decide +kernel) (by decide +kernel)) (by decide +kernel) (by decide +kernel) (by decide +kernel) (toJoin (ibaseInt 10 (by decide +kernel) (by decide +kernel)) (by decide +kernel) (by decide +kernel))
  have ha : NRun w0 r tv tx4L (tx4T.size : Int) 87 4 11 (.node 18 [.node 12 [nameE ⟨#[99]⟩, intE 3], .node 12 [nameE ⟨#[98]⟩, intE 1]]) := iandW 1 4 7 11 _ _ h0 ⟨(by decide +kernel), 11, _, h1, ⟨(by decide +kernel), rfl, rfl⟩⟩
  have ho := toOr ha (by decide +kernel)
  exact deleteW 0 11 _ (by decide +kernel) (by decide +kernel) (by decide +kernel) (by decide +kernel) (by decide +kernel) (by decide +kernel) (by decide +kernel) (perhapsYes _ 3 11 _ (by decide +kernel) ho)
theorem tx4_read (w : World) : Calls Tryz.prog 21 #[.string tx4T] w fun e w' =>
    ∃ v, e = .returned (.tuple #[v, .agg #[.int .i64 0, .int .i64 0]]) ∧ New w.heap.size w' (fun u => SlR 16 StR u v [tx4S]) ∧ Below w.heap.size w w' :=
  iscriptW tx4T tx4L tx4S w tx4_toks (by decide) (by decide) (by decide) tx4_st
/-- The text "DELETE FROM t WHERE c = 3 AND b = 1 AND a = 4": its bytes, its tokens. -/
def tx5T : ByteArray := ⟨#[68, 69, 76, 69, 84, 69, 32, 70, 82, 79, 77, 32, 116, 32, 87, 72, 69, 82, 69, 32, 99, 32, 61, 32, 51, 32, 65, 78, 68, 32, 98, 32, 61, 32, 49, 32, 65, 78, 68, 32, 97, 32, 61, 32, 52]⟩
def tx5L : List Tk := [⟨1, ⟨#[68, 69, 76, 69, 84, 69]⟩, 0, 0⟩, ⟨1, ⟨#[70, 82, 79, 77]⟩, 0, 7⟩, ⟨2, ⟨#[116]⟩, 0, 12⟩, ⟨1, ⟨#[87, 72, 69, 82, 69]⟩, 0, 14⟩, ⟨2, ⟨#[99]⟩, 0, 20⟩, ⟨6, ⟨#[61]⟩, 0, 22⟩, ⟨3, ⟨#[]⟩, 3, 24⟩, ⟨1, ⟨#[65, 78, 68]⟩, 0, 26⟩, ⟨2, ⟨#[98]⟩, 0, 30⟩, ⟨6, ⟨#[61]⟩, 0, 32⟩, ⟨3, ⟨#[]⟩, 1, 34⟩, ⟨1, ⟨#[65, 78, 68]⟩, 0, 36⟩, ⟨2, ⟨#[97]⟩, 0, 40⟩, ⟨6, ⟨#[61]⟩, 0, 42⟩, ⟨3, ⟨#[]⟩, 4, 44⟩]
set_option maxRecDepth 100000 in
theorem tx5_toks : toksL tx5T.data.toList = .inr tx5L := by decide +kernel
def tx5S : PSt := { kind := 7, table := ⟨#[116]⟩, wh := [.node 18 [.node 18 [.node 12 [nameE ⟨#[99]⟩, intE 3], .node 12 [nameE ⟨#[98]⟩, intE 1]], .node 12 [nameE ⟨#[97]⟩, intE 4]]] }
set_option maxRecDepth 100000 in
theorem tx5_st (w0 : World) (r : Nat) (tv : Value) : NStm w0 r tv tx5L (tx5T.size : Int) 0 tx5L.length tx5S := by
  have h0 : NRun w0 r tv tx5L (tx5T.size : Int) 101 4 7 (.node 12 [nameE ⟨#[99]⟩, intE 3]) := toEq (toJoin (ibaseName 4 (by decide +kernel) (by decide +kernel)) (by decide +kernel) (by decide +kernel)) (by decide +kernel) (by decide +kernel) (by decide +kernel) (toJoin (ibaseInt 6 (by decide +kernel) (by decide +kernel)) (by decide +kernel) (by decide +kernel))
  have h1 : NRun w0 r tv tx5L (tx5T.size : Int) 101 8 11 (.node 12 [nameE ⟨#[98]⟩, intE 1]) := toEq (toJoin (ibaseName 8 (by decide +kernel) (by decide +kernel)) (by decide +kernel) (by decide +kernel)) (by decide +kernel) (by decide +kernel) (by decide +kernel) (toJoin (ibaseInt 10 (by decide +kernel) (by decide +kernel)) (by decide +kernel) (by decide +kernel))
  have h2 : NRun w0 r tv tx5L (tx5T.size : Int) 101 12 15 (.node 12 [nameE ⟨#[97]⟩, intE 4]) := toEq (toJoin (ibaseName 12 (by decide +kernel) (by decide +kernel)) (by decide +kernel) (by decide +kernel)) (by decide +kernel) (by decide +kernel) (by decide +kernel) (toJoin (ibaseInt 14 (by decide +kernel) (by decide +kernel)) (by decide +kernel) (by decide +kernel))
  have ha : NRun w0 r tv tx5L (tx5T.size : Int) 87 4 15 (.node 18 [.node 18 [.node 12 [nameE ⟨#[99]⟩, intE 3], .node 12 [nameE ⟨#[98]⟩, intE 1]], .node 12 [nameE ⟨#[97]⟩, intE 4]]) := iandW 2 4 7 15 _ _ h0 ⟨(by decide +kernel), 11, _, h1, ⟨(by decide +kernel), 15, _, h2, ⟨(by decide +kernel), rfl, rfl⟩⟩⟩
  have ho := toOr ha (by decide +kernel)
  exact deleteW 0 15 _ (by decide +kernel) (by decide +kernel) (by decide +kernel) (by decide +kernel) (by decide +kernel) (by decide +kernel) (by decide +kernel) (perhapsYes _ 3 15 _ (by decide +kernel) ho)
theorem tx5_read (w : World) : Calls Tryz.prog 21 #[.string tx5T] w fun e w' =>
    ∃ v, e = .returned (.tuple #[v, .agg #[.int .i64 0, .int .i64 0]]) ∧ New w.heap.size w' (fun u => SlR 16 StR u v [tx5S]) ∧ Below w.heap.size w w' :=
  iscriptW tx5T tx5L tx5S w tx5_toks (by decide) (by decide) (by decide) tx5_st
end Go.Proofs.YtjgkeillmelkoaaGreat.Dt
namespace Go.Proofs.YtjgkeillmelkoaaGreat.Et
open Go.Proofs.YtjgkeillmelkoaaGreat.Dt
open Go.RowKit Go.Proofs.YtjgkeillmelkoaaGreat.By

theorem ret_bool {a b : Bool} (h : a = true ↔ b = true) : Ending.returned (.bool a) = .returned (.bool b) := by rw [Bool.eq_iff_iff.2 h]

/-- The box in which a call lays an expression that it got. -/
abbrev exBox (w : World) (x : Ex) (t : TypeId) : World := w.alloc (.cells #[.int .u8 (x.op : Int), .int .u8 (x.v.k : Int), .int .i64 x.v.n, .string x.v.s, .string x.t, .string x.m, .int .i64 x.n, x.kv] t)

end Go.Proofs.YtjgkeillmelkoaaGreat.Et
namespace Go.Proofs.YtjgkeillmelkoaaGreat.Et
open Go.Proofs.YtjgkeillmelkoaaGreat.Dt
open Go.RowKit Go.Proofs.YtjgkeillmelkoaaGreat.By

theorem at1 {w : World} {a : Option Addr} {n c k : Nat} {l : List Nat} {y : Nat} (h : U8sAt w (.slice a n c) l) (hk : l[k]? = some y) :
    ∃ b o, a = some ⟨b, o, none⟩ ∧ b < w.heap.size ∧ w.cell? ⟨b, o + k, none⟩ = some (.int .u8 (y : Int)) := by
  obtain ⟨a', c', e, _, h⟩ := h
  simp only [Value.slice.injEq] at e
  obtain ⟨rfl, _, _⟩ := e
  obtain ⟨b, o, rfl, h'⟩ := h k y hk
  have h0 := h' 0 _ rfl
  rw [Nat.mul_one, Nat.add_zero] at h0
  exact ⟨b, o, rfl, cell_lt h0, h0⟩

end Go.Proofs.YtjgkeillmelkoaaGreat.Et
namespace Go.Proofs.YtjgkeillmelkoaaGreat.Et
open Go.Proofs.YtjgkeillmelkoaaGreat.Dt
open Go.RowKit Go.Proofs.YtjgkeillmelkoaaGreat.By

theorem elU8 : By.Elem Tryz.prog 147 5 1 1 where
  slice := by kernel_rfl
  info := by
    have h : (Tryz.prog.info? 5).map (fun i => (i.zero, i.size, i.bytes)) = some (some (.int .u8 0), 1, 1) := by kernel_rfl
    obtain ⟨i, hi, h1, h2, h3⟩ := info_parts h
    exact ⟨i, _, hi, h1, h2, h3, rfl⟩
  pos := by decide

def uCells (l : List Nat) : List Value := l.map fun (k : Nat) => .int .u8 (k : Int)
/-- Owned kinds. -/
def OwnU (w : World) (base : Nat) (v : Value) (l : List Nat) : Prop := w.ownsRow base 5 1 v l.length (uCells l)
theorem OwnU.nil (w : World) (base : Nat) : OwnU w base (.slice none 0 0) [] := World.ownsRow_nil _ _ _ _
theorem OwnU.shape {w : World} {base : Nat} {v : Value} {l : List Nat} (h : OwnU w base v l) : ∃ a c, v = .slice a l.length c := by
  rcases h.2 with ⟨rfl, hn⟩ | ⟨g, cap, cur, rfl, _⟩
  · exact ⟨none, 0, by rw [hn]⟩
  · exact ⟨_, _, rfl⟩
theorem OwnU.at_ {w : World} {base : Nat} {v : Value} {l : List Nat} (h : OwnU w base v l) : U8sAt w v l := by
  rcases h.2 with ⟨rfl, hn⟩ | ⟨g, cap, cur, rfl, hg, hh, hn, hcap, hsz, ht⟩
  · obtain rfl : l = [] := List.eq_nil_of_length_eq_zero hn
    exact SlAt.nil _ _ _
  · refine ⟨_, cap, rfl, hn, fun i x hx => ⟨g, 0, rfl, fun j u hu => ?_⟩⟩
    obtain ⟨hi, rfl⟩ := List.getElem?_eq_some_iff.1 hx
    match j, hu with
    | 0, hu =>
      simp [u8Cells] at hu
      subst hu
      have := World.ownsRow.cellAt (w := w) (e := 5) (size := 1) h i (by omega)
      rw [Nat.zero_add, Nat.mul_one, Nat.add_zero, this]
      simp [uCells, hi]
    | j + 1, hu => simp [u8Cells] at hu
theorem OwnU.below {w w' : World} {base : Nat} {v : Value} {l : List Nat} (h : OwnU w base v l) (hb : Below w.heap.size w w') : OwnU w' base v l :=
  World.ownsRow.kept (row := none) h ⟨hb.os, hb.tape, hb.output, hb.size, fun i hi _ => hb.block i hi⟩ (by cases v.ownBlock <;> simp)
theorem OwnU.snoc {w : World} {base : Nat} {v : Value} {l : List Nat} {k : Nat} (h : w.ownsRow base 5 1 v (l.length + 1) (uCells l ++ [.int .u8 (k : Int)])) : OwnU w base v (l ++ [k]) := by
  unfold OwnU
  rw [List.length_append]
  simpa [uCells] using h
/-- A result's box: a value's, that nothing has been laid into. -/
structure ResBox (k : Nat) (w : World) : Prop where
  c0 : w.cell? ⟨k, 0, none⟩ = some (.int .u8 0)
  c1 : w.cell? ⟨k, 1, none⟩ = some (.int .i64 0)
  c2 : w.cell? ⟨k, 2, none⟩ = some (.string ⟨#[]⟩)
  f0 : w.frozen? ⟨k, 0, none⟩ = false
  f1 : w.frozen? ⟨k, 1, none⟩ = false
  f2 : w.frozen? ⟨k, 2, none⟩ = false
end Go.Proofs.YtjgkeillmelkoaaGreat.Et
namespace Go.Proofs.YtjgkeillmelkoaaGreat.Et
open Go.Proofs.YtjgkeillmelkoaaGreat.Dt
open Go.RowKit Go.Proofs.YtjgkeillmelkoaaGreat.By

/-- A value's box. -/
structure BoxV (k : Nat) (v : V) (w : World) : Prop where
  c0 : w.cell? ⟨k, 0, none⟩ = some (.int .u8 (v.k : Int))
  c1 : w.cell? ⟨k, 1, none⟩ = some (.int .i64 v.n)
  c2 : w.cell? ⟨k, 2, none⟩ = some (.string v.s)
end Go.Proofs.YtjgkeillmelkoaaGreat.Et
namespace Go.Proofs.YtjgkeillmelkoaaGreat.Et
open Go.Proofs.YtjgkeillmelkoaaGreat.Dt
open Go.RowKit Go.Proofs.YtjgkeillmelkoaaGreat.By

/-- What is there behind the loop over the values. -/
structure DoesAt (l : List V) (a : Option Addr) (c : Nat) (w wr : World) (kv : Value) (k : Nat) (ks : List Nat) : Prop where
  own : OwnU wr (w.heap.size + 1) kv ks
  ks : ks = (l.take k).map V.k
  res : ResBox w.heap.size wr
  at_ : VsAt wr (.slice a l.length c) l
  bel : Below w.heap.size w wr

end Go.Proofs.YtjgkeillmelkoaaGreat.Et
namespace Go.Proofs.YtjgkeillmelkoaaGreat.Et
open Go.Proofs.YtjgkeillmelkoaaGreat.Dt
open Go.RowKit Go.Proofs.YtjgkeillmelkoaaGreat.By

/-- The cells of an expression's box. -/
theorem box_cells (w w1 : World) (x : Ex) (t : TypeId) (hb : Below (exBox w x t).heap.size (exBox w x t) w1) :
    w1.cell? ⟨w.heap.size, 0, none⟩ = some (.int .u8 (x.op : Int)) ∧ w1.cell? ⟨w.heap.size, 1, none⟩ = some (.int .u8 (x.v.k : Int)) ∧ w1.cell? ⟨w.heap.size, 2, none⟩ = some (.int .i64 x.v.n) ∧ w1.cell? ⟨w.heap.size, 3, none⟩ = some (.string x.v.s) ∧
      w1.cell? ⟨w.heap.size, 4, none⟩ = some (.string x.t) ∧ w1.cell? ⟨w.heap.size, 5, none⟩ = some (.string x.m) ∧ w1.cell? ⟨w.heap.size, 6, none⟩ = some (.int .i64 x.n) ∧ w1.cell? ⟨w.heap.size, 7, none⟩ = some x.kv := by
  refine ⟨?_, ?_, ?_, ?_, ?_, ?_, ?_, ?_⟩ <;> (rw [hb.cell (by simp)]; go_simp)

end Go.Proofs.YtjgkeillmelkoaaGreat.Et
namespace Go.Proofs.YtjgkeillmelkoaaGreat.Et
open Go.Proofs.YtjgkeillmelkoaaGreat.Dt
open Go.RowKit Go.Proofs.YtjgkeillmelkoaaGreat.By

def vCells (l : List V) : List Value := l.flatMap V.cells
/-- Owned values. -/
def OwnV (w : World) (base : Nat) (v : Value) (l : List V) : Prop := w.ownsRow base 42 3 v l.length (vCells l)
end Go.Proofs.YtjgkeillmelkoaaGreat.Et
namespace Go.Proofs.YtjgkeillmelkoaaGreat.Et
open Go.Proofs.YtjgkeillmelkoaaGreat.Dt
open Go.RowKit Go.Proofs.YtjgkeillmelkoaaGreat.By

/-- What the calls that tell columns and groups do. -/
structure Env (cols : Int) (g : Bool) (w0 : World) (f : FuncId) (p : Addr) (tf : Value) (col : Int → V) (grp : Ex → V × Nat) : Prop where
  fcall : ∀ args w, (callFunc f args).run Tryz.prog w = .ok (.enter f args) w
  hcol : ∀ n W, 0 ≤ n → n < cols → Below w0.heap.size w0 W → Calls Tryz.prog f #[.int .i64 n, .pointer (some p)] W fun e w' => e = .returned (col n).val ∧ Below W.heap.size W w'
  colok : ∀ n, 0 ≤ n → n < cols → (col n).ok
  hgrp : g = true → ∃ h q, tf = .func (.func h) #[] #[.pointer (some q)] ∧ (∀ args w, (callFunc h args).run Tryz.prog w = .ok (.enter h args) w) ∧ ∀ (y : Ex) W, y.In W → y.Ok → groupB y.op = true → mayB cols true y = true → Below w0.heap.size w0 W →
    Calls Tryz.prog h #[y.val, .pointer (some q)] W fun e w' => e = .returned (resV (grp y)) ∧ Below W.heap.size W w'
  grpok : g = true → ∀ y : Ex, y.Ok → groupB y.op = true → mayB cols true y = true → (grp y).1.ok

/-- What is there between two kids. -/
structure WalkAt (col : Int → V) (grp : Ex → V × Nat) (ks : List Ex) (op : Nat) (w wr : World) (kv : Value) (k : Nat) (vs : List V) : Prop where
  own : OwnV wr (w.heap.size + 2) kv vs
  sofar : Sofar col grp ks k vs
  ok : ∀ v ∈ vs, v.ok
  res : ResBox (w.heap.size + 1) wr
  op : wr.cell? ⟨w.heap.size, 0, none⟩ = some (.int .u8 (op : Int))
  bel : Below w.heap.size w wr

end Go.Proofs.YtjgkeillmelkoaaGreat.Et
namespace Go.Proofs.YtjgkeillmelkoaaGreat.Et
open Go.Proofs.YtjgkeillmelkoaaGreat.Dt

/-- What has been told so far. -/
structure Tl where
  n : Nat
  t : Int
  best : V
end Go.Proofs.YtjgkeillmelkoaaGreat.Et
namespace Go.Proofs.YtjgkeillmelkoaaGreat.Et
open Go.Proofs.YtjgkeillmelkoaaGreat.Dt

/-- An operation's kind, by its kids'. -/
def opK (op : Nat) (l : List Nat) : Nat := if op = 11 then 2 else if op = 22 ∨ op = 23 then l.getD 0 0 else 1
section
variable (cols : List Nat)
mutual
/-- The kind of values to which an expression comes, or why there is none. -/
def kindS : Bool → Ex → Nat × Nat
  | g, .mk op v _ _ n _ kids =>
    if op = 1 then (v.k, 0) else if op = 2 then (cols.getD n.toNat 0, 0) else if (groupB op && !g) = true then (0, 151)
    else if (kindAll (g && !groupB op) kids).2 = 0 then (if togetherB op (kindAll (g && !groupB op) kids).1 = true then (opK op (kindAll (g && !groupB op) kids).1, 0) else (0, 150)) else (0, (kindAll (g && !groupB op) kids).2)
def kindAll : Bool → List Ex → List Nat × Nat
  | _, [] => ([], 0)
  | g, x :: l => if (kindS g x).2 = 0 then ((kindS g x).1 :: (kindAll g l).1, (kindAll g l).2) else ([], (kindS g x).2)
end
def typeS (g : Bool) (x : Ex) : Nat × Nat := if shapedB (cols.length : Int) x = true then kindS cols g x else (0, 2)
theorem kindS_eq (g : Bool) (x : Ex) : kindS cols g x = if x.op = 1 then (x.v.k, 0) else if x.op = 2 then (cols.getD x.n.toNat 0, 0) else if (groupB x.op && !g) = true then (0, 151)
    else if (kindAll cols (g && !groupB x.op) x.kids).2 = 0 then (if togetherB x.op (kindAll cols (g && !groupB x.op) x.kids).1 = true then (opK x.op (kindAll cols (g && !groupB x.op) x.kids).1, 0) else (0, 150)) else (0, (kindAll cols (g && !groupB x.op) x.kids).2) := by
  cases x
  rw [kindS]
  rfl
theorem kindS_all (g : Bool) (x : Ex) : (x.op = 1 → kindS cols g x = (x.v.k, 0)) ∧ (x.op = 2 → kindS cols g x = (cols.getD x.n.toNat 0, 0)) ∧
    (x.op ≠ 1 → x.op ≠ 2 → (groupB x.op && !g) = true → kindS cols g x = (0, 151)) ∧
    (x.op ≠ 1 → x.op ≠ 2 → (groupB x.op && !g) = false → kindS cols g x = if (kindAll cols (g && !groupB x.op) x.kids).2 = 0 then (if togetherB x.op (kindAll cols (g && !groupB x.op) x.kids).1 = true then (opK x.op (kindAll cols (g && !groupB x.op) x.kids).1, 0) else (0, 150)) else (0, (kindAll cols (g && !groupB x.op) x.kids).2)) := by
  refine ⟨fun h => ?_, fun h => ?_, fun h1 h2 h3 => ?_, fun h1 h2 h3 => ?_⟩
  · rw [kindS_eq, if_pos h]
  · rw [kindS_eq, if_neg (by omega), if_pos h]
  · rw [kindS_eq, if_neg h1, if_neg h2, if_pos h3]
  · rw [kindS_eq, if_neg h1, if_neg h2, if_neg (by simp [h3])]
structure KSofar (g : Bool) (ks : List Ex) (k : Nat) (l : List Nat) : Prop where
  no : ∀ i, i < k → ∀ y, ks[i]? = some y → (kindS cols g y).2 = 0
  l : l = (ks.take k).map fun y => (kindS cols g y).1
variable {cols}
theorem KSofar.zero (g : Bool) (ks : List Ex) : KSofar cols g ks 0 [] := ⟨fun i h => by omega, rfl⟩
theorem KSofar.next {g : Bool} {ks : List Ex} {k : Nat} {l : List Nat} {y : Ex} (h : KSofar cols g ks k l) (hy : ks[k]? = some y) (h0 : (kindS cols g y).2 = 0) : KSofar cols g ks (k + 1) (l ++ [(kindS cols g y).1]) := by
  refine ⟨fun i hi z hz => ?_, ?_⟩
  · rcases Nat.lt_or_ge i k with h1 | h1
    · exact h.no i h1 z hz
    · obtain rfl : i = k := by omega
      rw [hy] at hz
      cases hz
      exact h0
  · obtain ⟨hk, rfl⟩ := List.getElem?_eq_some_iff.1 hy
    rw [List.take_succ_eq_append_getElem hk, List.map_append, h.l]
    rfl
theorem kindAll_ok {g : Bool} : ∀ (ks : List Ex), (∀ y ∈ ks, (kindS cols g y).2 = 0) → kindAll cols g ks = (ks.map fun y => (kindS cols g y).1, 0)
  | [], _ => by simp [kindAll]
  | x :: l, h => by
    have h1 := h x List.mem_cons_self
    have h2 := kindAll_ok l fun y hy => h y (List.mem_cons_of_mem _ hy)
    simp [kindAll, h1, h2]
theorem kindAll_err {g : Bool} : ∀ (ks : List Ex) (k : Nat) (y : Ex), (∀ i, i < k → ∀ z, ks[i]? = some z → (kindS cols g z).2 = 0) → ks[k]? = some y → (kindS cols g y).2 ≠ 0 → (kindAll cols g ks).2 = (kindS cols g y).2
  | [], k, y, _, hy, _ => by simp at hy
  | x :: l, 0, y, _, hy, he => by
    simp at hy
    subst hy
    simp [kindAll, he]
  | x :: l, k + 1, y, h, hy, he => by
    have h1 := h 0 (by omega) x rfl
    have h2 := kindAll_err l k y (fun i hi z hz => h (i + 1) (by omega) z (by simpa using hz)) (by simpa using hy) he
    simp [kindAll, h1, h2]
theorem KSofar.all {g : Bool} {ks : List Ex} {l : List Nat} (h : KSofar cols g ks ks.length l) : kindAll cols g ks = (l, 0) := by
  rw [kindAll_ok ks fun y hy => by
    obtain ⟨i, hi, rfl⟩ := List.getElem_of_mem hy
    exact h.no i hi _ (by simp [hi]), h.l, List.take_length]
theorem KSofar.length {g : Bool} {ks : List Ex} {k : Nat} {l : List Nat} (h : KSofar cols g ks k l) (hk : k ≤ ks.length) : l.length = k := by
  rw [h.l, List.length_map, List.length_take]; omega
theorem getD_small {l : List Nat} (h : ∀ k ∈ l, k < 256) (i : Nat) : l.getD i 0 < 256 := by
  rw [List.getD]
  cases hx : l[i]? with
  | none => exact Nat.zero_lt_succ 255
  | some x => exact h x (List.mem_of_getElem? hx)
theorem kindS_small (hc : ∀ k ∈ cols, k < 256) : ∀ (x : Ex), x.Ok → ∀ g, (kindS cols g x).1 < 256 := by
  refine Ex.ind fun x ih hok g => ?_
  have hok' := (Ex.ok_iff x).1 hok
  rw [kindS_eq]
  split
  · exact hok'.1.2.1.1
  split
  · exact getD_small hc _
  split
  · exact Nat.zero_lt_succ 255
  split
  · split
    · unfold opK
      split
      · show 2 < 256; omega
      · split
        · have hall : ∀ (l : List Ex), (∀ y ∈ l, y ∈ x.kids) → ∀ k ∈ (kindAll cols (g && !groupB x.op) l).1, k < 256 := by
            intro l
            induction l with
            | nil => intro _ v hv; simp [kindAll] at hv
            | cons y l ihl =>
              intro hsub v hv
              have hy := hsub y List.mem_cons_self
              rw [kindAll] at hv
              split at hv
              · rcases List.mem_cons.1 hv with rfl | hv
                · exact ih y hy (hok'.2 y hy) _
                · exact ihl (fun z hz => hsub z (List.mem_cons_of_mem _ hz)) v hv
              · cases hv
          exact getD_small (hall x.kids fun _ h => h) 0
        · show 1 < 256; omega
    · exact Nat.zero_lt_succ 255
  · exact Nat.zero_lt_succ 255
end
/-- A kind and an error's number, as a call hands them back. -/
abbrev resK (r : Nat × Nat) : Value := .tuple #[.int .u8 (r.1 : Int), .int .i64 (r.2 : Int)]
end Go.Proofs.YtjgkeillmelkoaaGreat.Et
