/- ParseBrackets: the law returns true at every input. -/
import Derived.Test.YtmdogmpcmkfjpaaGreatDoorTie
import Derived.Test.YtmdogmpcmkfjpaaGreatDoorCards
import Derived.SevenTiedAt
import Derived.Stop.Joined
import Derived.Deep.DeepCutAuto
import Derived.Test.YtmdogmpcmkfjpaaGreatDoorBk08
import Derived.Test.YtmdogmpcmkfjpaaGreatDoorBk45
import Derived.Test.YtmdogmpcmkfjpaaGreatDoorBk05
import Derived.Test.YtmdogmpcmkfjpaaGreatDoorBk46
namespace Go.Proofs.YtmdogmpcmkfjpaaGreatDoor.Dt
open Go.RowKit Go.Proofs.YtmdogmpcmkfjpaaGreatDoor.By
theorem Short.ok {x : PE} (h : ExOk x) : Short x := by
  induction h with
  | val v hv => exact .mk _ (by show (0 : Nat) ≤ _; omega) (fun y hy => by cases hy)
  | col m hm => exact .mk _ (by show (0 : Nat) ≤ _; omega) (fun y hy => by cases hy)
  | tcol t m ht hm => exact .mk _ (by show (0 : Nat) ≤ _; omega) (fun y hy => by cases hy)
  | one op x h1 h2 ih => exact .mk _ (by show (1 : Nat) ≤ _; omega) (fun y hy => by obtain rfl := List.mem_singleton.1 hy; exact ih)
  | two op x y h1 h2 h3 h4 ih1 ih2 =>
    exact .mk _ (by show (2 : Nat) ≤ _; omega) (fun z hz => by
      have hz : z ∈ [x, y] := hz
      simp only [List.mem_cons, List.not_mem_nil, or_false] at hz
      rcases hz with rfl | rfl
      · exact ih1
      · exact ih2)
  | count => exact .mk _ (by show (0 : Nat) ≤ _; omega) (fun y hy => by cases hy)
end Go.Proofs.YtmdogmpcmkfjpaaGreatDoor.Dt
namespace Go.Proofs.YtmdogmpcmkfjpaaGreatDoor.ParseBrackets
open Go.ChangeShapes Go.WideShapes Go.ChangeAt Go.RowKit Go.Proofs.YtmdogmpcmkfjpaaGreatDoor.By
set_option linter.unusedVariables false
-- laid lx9
/- ParseBrackets: brackets around an expression make no difference. No conditions beyond what the row lists. -/
open Go.Proofs.YtmdogmpcmkfjpaaGreatDoor.Dt
theorem expr_good {t : List UInt8} {x : PE} (h : exprL t = .inr x) : ExOk x := by
  obtain ⟨L, s1, h1, h2, h3, _⟩ := exprL_run h
  have ha : AllOk L := fun u hu => read_ok h1 u hu
  have := Good.exprM (en := (t.length : Int)) ha ⟨0, 0, 0⟩ (by rw [h2]; exact h3)
  rw [h2] at this
  exact this
set_option maxRecDepth 100000 in
set_option maxHeartbeats 32000000 in
theorem walk (s : ByteArray) (n : Nat) (w : World) (hw : LX w) (hs : s.size ≤ 140737488351232) (hn : n < 256) :
    Calls Tryz.prog 5 #[.string s, .int .u8 (n : Int)] w fun e w' => e = .returned (.bool true) ∧ Below w.heap.size w w' := by
  have HW := Lib.hid hw
  have HS := Lib.hid hs
  have HWK := Lib.hid (worksL w hw)
  have HN := Lib.hid hn
  clear hw hs
  go_enter Tryz.func5, Tryz.ntmps5
  go_wp2_with fail
  refine HWK.out.mono ?_
  rintro e w1 ⟨rfl, hb1⟩
  have HB1 := Lib.hid hb1
  have HE := Lib.hid (exprTopB s w1 (HW.out.later hb1) HS.out)
  clear hb1 HWK
  cases hR : exprL s.data.toList with
  | inl z =>
    obtain ⟨en, ea⟩ := z
    rw [hR] at HE
    have hne := expr_ne hR
    have qs : ∀ W, (binOp .neq 39 (.agg #[.int .i64 (en : Int), .int .i64 ea]) (.agg #[.int .i64 0, .int .i64 0])).run Tryz.prog W = .ok (.bool true) W := fun W => neq_toldS (en : Int) 0 ea 0 true (by simp; omega) W
    clear hR hne
    go_wp2_with fail
    refine HE.out.mono ?_
    rintro e2 w2 ⟨he, hb2⟩
    have he : e2 = .returned (.tuple #[.agg #[.int .u8 0, .int .u8 0, .int .i64 0, .string ⟨#[]⟩, .string ⟨#[]⟩, .string ⟨#[]⟩, .int .i64 0, .slice none 0 0], .agg #[.int .i64 (en : Int), .int .i64 ea]]) := he
    subst he
    have hba : Below w2.heap.size w2 ((w2.alloc (.cells #[.int .u8 0, .int .u8 0, .int .i64 0, .string ⟨#[]⟩, .string ⟨#[]⟩, .string ⟨#[]⟩, .int .i64 0, .slice none 0 0] 48)).alloc (.cells #[.int .i64 (en : Int), .int .i64 ea] 39)) := ((Below.refl _ _).alloc (Nat.le_refl _) _).alloc (by simp) _
    have HBA := Lib.hid (next (next HB1.out hb2) hba)
    clear hb2 hba HE
    go_wp2_with fail
    go_ret
    exact ⟨rfl, HBA.out⟩
  | inr x =>
    rw [hR] at HE
    have HRE := Lib.hid hR
    have HXO := Lib.hid (expr_good hR)
    clear hR
    have qs : ∀ W, (binOp .neq 39 (.agg #[.int .i64 0, .int .i64 0]) (.agg #[.int .i64 0, .int .i64 0])).run Tryz.prog W = .ok (.bool false) W := fun W => neq_toldS 0 0 0 0 false (by simp) W
    go_wp2_with fail
    refine HE.out.mono ?_
    rintro e2 w2 ⟨⟨v, rfl, hnw⟩, hb2⟩
    obtain ⟨kv, rfl, hk⟩ := hnw.here.open
    obtain ⟨ka, kc, rfl, _⟩ := hk.shape
    have HR0 := Lib.hid ((row_alloc w2 48 #[.int .u8 (x.op : Int), .int .u8 (x.v.k : Int), .int .i64 x.v.n, .string x.v.s, .string x.t, .string x.m, .int .i64 x.n, .slice ka x.kids.length kc]).later ((Below.refl _ _).alloc (Nat.le_refl _) (.cells #[.int .i64 0, .int .i64 0] 39)))
    have HR1 := Lib.hid (row_alloc (w2.alloc (.cells #[.int .u8 (x.op : Int), .int .u8 (x.v.k : Int), .int .i64 x.v.n, .string x.v.s, .string x.t, .string x.m, .int .i64 x.n, .slice ka x.kids.length kc] 48)) 39 #[.int .i64 0, .int .i64 0])
    have hz : (w2.alloc (.cells #[.int .u8 (x.op : Int), .int .u8 (x.v.k : Int), .int .i64 x.v.n, .string x.v.s, .string x.t, .string x.m, .int .i64 x.n, .slice ka x.kids.length kc] 48)).heap.size = w2.heap.size + 1 := by simp
    rw [hz] at HR1
    have hba : Below w2.heap.size w2 ((w2.alloc (.cells #[.int .u8 (x.op : Int), .int .u8 (x.v.k : Int), .int .i64 x.v.n, .string x.v.s, .string x.t, .string x.m, .int .i64 x.n, .slice ka x.kids.length kc] 48)).alloc (.cells #[.int .i64 0, .int .i64 0] 39)) := ((Below.refl _ _).alloc (Nat.le_refl _) _).alloc (by simp) _
    have HK : Hid (∀ W, Below w2.heap.size w2 W → ExsR W (.slice ka x.kids.length kc) x.kids) := Lib.hid (fun W hb => exsR_below hk hb)
    have HB23 := Lib.hid hba
    have HGW1 : Hid (w.heap.size ≤ w2.heap.size) := Lib.hid (Nat.le_trans HB1.out.size hb2.size)
    have HZ3 : Hid (w2.heap.size + 1 < ((w2.alloc (.cells #[.int .u8 (x.op : Int), .int .u8 (x.v.k : Int), .int .i64 x.v.n, .string x.v.s, .string x.t, .string x.m, .int .i64 x.n, .slice ka x.kids.length kc] 48)).alloc (.cells #[.int .i64 0, .int .i64 0] 39)).heap.size) := Lib.hid (by simp)
    have HBA := Lib.hid (next (next HB1.out hb2) hba)
    clear hb2 hba HE hk hnw hz
    go_upto_region 4 with fail
    generalize (w2.alloc (.cells #[.int .u8 (x.op : Int), .int .u8 (x.v.k : Int), .int .i64 x.v.n, .string x.v.s, .string x.t, .string x.m, .int .i64 x.n, .slice ka x.kids.length kc] 48)).alloc (.cells #[.int .i64 0, .int .i64 0] 39) = w3 at *
    have HGW0 : Hid (w.heap.size ≤ w2.heap.size) := Lib.hid HGW1.out
    generalize w2.heap.size = g at *
    have s0 := HR1.out.cell (i := 0) (v := .int .i64 0) rfl
    have s1 := HR1.out.cell (i := 1) (v := .int .i64 0) rfl
    by_cases hl : 3896 < s.size
    · have i1 : (3896 : Int) < (s.size : Int) := by omega
      clear hl hn
      go_wp2_with fail
      go_ret
      exact ⟨rfl, HBA.out⟩
    · have i1 : ¬ (3896 : Int) < (s.size : Int) := by omega
      have hadd : ∀ W, (Op.stringOp .add s ⟨#[10]⟩).run Tryz.prog W = .ok (.string (s ++ ⟨#[10]⟩)) W := fun W => run_string_add_sum (P := Tryz.prog) W _ _ (by show s.size + 1 ≤ _; omega)
      obtain ⟨T0, hT0⟩ : ∃ z : ByteArray, z = s ++ ⟨#[10]⟩ := ⟨_, rfl⟩
      rw [← hT0] at hadd
      have HT0 : Hid (T0.data.toList = brackT 0 s.data.toList) := Lib.hid (by rw [hT0]; simp [brackT, ByteArray.data_append])
      have HL := Lib.hid hl
      obtain ⟨m, hm⟩ : ∃ m, m = n % 40 := ⟨_, rfl⟩
      have hrem : ((n : Int).tmod 40) = (m : Int) := by rw [hm]; rfl
      have hm40 : m < 40 := by rw [hm]; omega
      have HM := Lib.hid hm40
      clear hl hm hT0
      go_wp2_with fail
      clear hadd hrem
      go_loopg [7, 28] (m + 1) (fun gk tv iv wr => ∃ (i : Nat) (T : ByteArray), tv = .string T ∧ iv = .int .u8 (i : Int) ∧ gk = m + 1 - i ∧ i ≤ m ∧ w3 = wr ∧ Hid (T.data.toList = brackT i s.data.toList) ∧ Hid (T.size = 2 * i + s.size + 1))
      case atStart => exact ⟨0, T0, rfl, rfl, rfl, Nat.zero_le _, rfl, HT0, Lib.hid (by have := congrArg List.length HT0.out; rw [ba_len] at this; rw [this]; unfold brackT; simp)⟩
      case round =>
        obtain ⟨i, T, rfl, rfl, rfl, hi, rfl, HT, HZ⟩ := hrel
        by_cases hlt : i < m
        · have hz := HZ.out
          have ha1 : ∀ W, (Op.stringOp .add ⟨#[40]⟩ T).run Tryz.prog W = .ok (.string (⟨#[40]⟩ ++ T)) W := fun W => run_string_add_sum (P := Tryz.prog) W _ _ (by show 1 + T.size ≤ _; omega)
          obtain ⟨T1, hT1⟩ : ∃ z : ByteArray, z = ⟨#[40]⟩ ++ T := ⟨_, rfl⟩
          have hz1 : T1.size = 1 + T.size := by rw [hT1]; simp [ByteArray.size_append]; rfl
          rw [← hT1] at ha1
          have ha2 : ∀ W, (Op.stringOp .add T1 ⟨#[41]⟩).run Tryz.prog W = .ok (.string (T1 ++ ⟨#[41]⟩)) W := fun W => run_string_add_sum (P := Tryz.prog) W _ _ (by show T1.size + 1 ≤ _; omega)
          obtain ⟨T2, hT2⟩ : ∃ z : ByteArray, z = T1 ++ ⟨#[41]⟩ := ⟨_, rfl⟩
          have hz2 : T2.size = T1.size + 1 := by rw [hT2]; simp [ByteArray.size_append]; rfl
          rw [← hT2] at ha2
          have HT2 : Hid (T2.data.toList = brackT (i + 1) s.data.toList) := Lib.hid (by rw [brackT_succ, ← HT.out, hT2, hT1]; simp [ByteArray.data_append])
          have HZ2 : Hid (T2.size = 2 * (i + 1) + s.size + 1) := Lib.hid (by omega)
          have ilt : (i : Int) < (m : Int) := by omega
          have HLT := Lib.hid hlt
          have hw8 : IntKind.u8.wrap ((i : Int) + 1) = ((i + 1 : Nat) : Int) := by
            have h1 : IntKind.u8.wrap ((i : Int) + 1) = ((i : Int) + 1) % 256 := rfl
            have h2 := HM.out
            rw [h1]; omega
          clear hz hz1 hz2 hT1 hT2 hlt hi
          go_wp2_with fail
          go_roundg (m + 1 - (i + 1))
          case measure => have := HLT.out; omega
          case rel => exact ⟨i + 1, T2, rfl, by first | rfl | (rw [hw8]), rfl, HLT.out, rfl, HT2, HZ2⟩
        · obtain rfl : i = m := by omega
          have HRB : Hid (exprL T.data.toList = .inr x) := Lib.hid (by
            rw [HT.out]
            refine brackets HRE.out i ?_
            rw [ba_len]
            have h1 := HM.out
            have h2 := HL.out
            omega)
          have hE2 := exprTopB T w3 (HW.out.later HBA.out) (by have h1 := HZ.out; have h2 := HL.out; have h3 := HM.out; omega)
          rw [HRB.out] at hE2
          have HE2 := Lib.hid hE2
          have qt : ∀ W, (binOp .eql 39 (.agg #[.int .i64 0, .int .i64 0]) (.agg #[.int .i64 0, .int .i64 0])).run Tryz.prog W = .ok (.bool true) W := fun W => eq_toldS 0 0 0 0 true (by simp) W
          clear hE2 hlt hi s0 s1 qs
          go_wp2_with fail
          refine HE2.out.mono ?_
          rintro e4 w4 ⟨⟨v, rfl, hnw⟩, hb4⟩
          obtain ⟨kw, rfl, hk2⟩ := hnw.here.open
          obtain ⟨la, lc, rfl, _⟩ := hk2.shape
          have hba : Below w4.heap.size w4 (w4.alloc (.cells #[.int .u8 (x.op : Int), .int .u8 (x.v.k : Int), .int .i64 x.v.n, .string x.v.s, .string x.t, .string x.m, .int .i64 x.n, .slice la x.kids.length lc] 48)) := (Below.refl _ _).alloc (Nat.le_refl _) _
          have HRY := Lib.hid (row_alloc w4 48 #[.int .u8 (x.op : Int), .int .u8 (x.v.k : Int), .int .i64 x.v.n, .string x.v.s, .string x.t, .string x.m, .int .i64 x.n, .slice la x.kids.length lc])
          have HRS := Lib.hid ((HR1.out.later hb4).later hba)
          have HRX := Lib.hid ((HR0.out.later hb4).later hba)
          have HB24 := Lib.hid (HB23.out.trans ((hb4.mono (by have := HZ3.out; omega)).trans (hba.mono (by have := HZ3.out; have := hb4.size; omega))))
          have HB4 := Lib.hid (next (next HBA.out hb4) hba)
          have HGW : Hid (w.heap.size ≤ g) := Lib.hid HGW0.out
          have HGZ : Hid (g + 1 < w4.heap.size) := Lib.hid (HR1.out.later hb4).lt
          have HKY : Hid (∀ W, (∀ b, b ≠ g + 1 → W.heap[b]? = (w4.alloc (.cells #[.int .u8 (x.op : Int), .int .u8 (x.v.k : Int), .int .i64 x.v.n, .string x.v.s, .string x.t, .string x.m, .int .i64 x.n, .slice la x.kids.length lc] 48)).heap[b]?) → ExsR W (.slice la x.kids.length lc) x.kids) := Lib.hid (fun W hW => by
            obtain ⟨kw', he, hk'⟩ := (hnw W fun b h1 h2 => (hW b (by have := HZ3.out; omega)).trans (hba.block b h2)).open
            have : kw' = .slice la x.kids.length lc := by simp at he; exact he.symm
            rw [← this]; exact hk')
          have p0 := HRS.out.cell (i := 0) (v := .int .i64 0) rfl
          have p1 := HRS.out.cell (i := 1) (v := .int .i64 0) rfl
          have f0 := HRS.out.free 0
          have f1 := HRS.out.free 1
          clear hb4 hba hk2 hnw HE2
          go_upto_region 12 with fail
          clear p0 p1 f0 f1
          generalize w4.alloc (.cells #[.int .u8 (x.op : Int), .int .u8 (x.v.k : Int), .int .i64 x.v.n, .string x.v.s, .string x.t, .string x.m, .int .i64 x.n, .slice la x.kids.length lc] 48) = w5 at *
          generalize w4.heap.size = q at *
          have HF := Lib.hid (fin_1 (a := .int .i64 0) (b := .int .i64 0) HRS.out)
          have HK1 := Lib.hid (HK.out ((w5.setCell ⟨g + 1, 0, none⟩ (.int .i64 0)).setCell ⟨g + 1, 1, none⟩ (.int .i64 0)) (HB24.out.trans (below_set (below_set (Below.refl _ w5) (by show g ≤ g + 1; omega)) (by show g ≤ g + 1; omega))))
          have HK2 := Lib.hid (HKY.out ((w5.setCell ⟨g + 1, 0, none⟩ (.int .i64 0)).setCell ⟨g + 1, 1, none⟩ (.int .i64 0)) HF.out.ot)
          have HRX6 : Hid (Row g 48 #[.int .u8 (x.op : Int), .int .u8 (x.v.k : Int), .int .i64 x.v.n, .string x.v.s, .string x.t, .string x.m, .int .i64 x.n, .slice ka x.kids.length kc] ((w5.setCell ⟨g + 1, 0, none⟩ (.int .i64 0)).setCell ⟨g + 1, 1, none⟩ (.int .i64 0))) := Lib.hid ((HF.out.ot g (by omega)).trans HRX.out)
          have HRY6 : Hid (Row q 48 #[.int .u8 (x.op : Int), .int .u8 (x.v.k : Int), .int .i64 x.v.n, .string x.v.s, .string x.t, .string x.m, .int .i64 x.n, .slice la x.kids.length lc] ((w5.setCell ⟨g + 1, 0, none⟩ (.int .i64 0)).setCell ⟨g + 1, 1, none⟩ (.int .i64 0))) := Lib.hid ((HF.out.ot q (by have := HGZ.out; omega)).trans HRY.out)
          have HB6 : Hid (Below w.heap.size w ((w5.setCell ⟨g + 1, 0, none⟩ (.int .i64 0)).setCell ⟨g + 1, 1, none⟩ (.int .i64 0))) := Lib.hid (HB4.out.trans (below_set (below_set (Below.refl _ w5) (by show w.heap.size ≤ g + 1; have := HGW.out; omega)) (by show w.heap.size ≤ g + 1; have := HGW.out; omega)))
          have HRS6 := Lib.hid HF.out.r1
          generalize (w5.setCell ⟨g + 1, 0, none⟩ (.int .i64 0)).setCell ⟨g + 1, 1, none⟩ (.int .i64 0) = w6 at *
          have s0 := HRS6.out.cell (i := 0) (v := .int .i64 0) rfl
          have s1 := HRS6.out.cell (i := 1) (v := .int .i64 0) rfl
          have x0 := HRX6.out.cell (i := 0) (v := .int .u8 (x.op : Int)) rfl
          have x1 := HRX6.out.cell (i := 1) (v := .int .u8 (x.v.k : Int)) rfl
          have x2 := HRX6.out.cell (i := 2) (v := .int .i64 x.v.n) rfl
          have x3 := HRX6.out.cell (i := 3) (v := .string x.v.s) rfl
          have x4 := HRX6.out.cell (i := 4) (v := .string x.t) rfl
          have x5 := HRX6.out.cell (i := 5) (v := .string x.m) rfl
          have x6 := HRX6.out.cell (i := 6) (v := .int .i64 x.n) rfl
          have x7 := HRX6.out.cell (i := 7) (v := .slice ka x.kids.length kc) rfl
          have y0 := HRY6.out.cell (i := 0) (v := .int .u8 (x.op : Int)) rfl
          have y1 := HRY6.out.cell (i := 1) (v := .int .u8 (x.v.k : Int)) rfl
          have y2 := HRY6.out.cell (i := 2) (v := .int .i64 x.v.n) rfl
          have y3 := HRY6.out.cell (i := 3) (v := .string x.v.s) rfl
          have y4 := HRY6.out.cell (i := 4) (v := .string x.t) rfl
          have y5 := HRY6.out.cell (i := 5) (v := .string x.m) rfl
          have y6 := HRY6.out.cell (i := 6) (v := .int .i64 x.n) rfl
          have y7 := HRY6.out.cell (i := 7) (v := .slice la x.kids.length lc) rfl
          have HSX := sameExL (Short.ok HXO.out) x (.slice ka x.kids.length kc) (.slice la x.kids.length lc) w6 HK1.out HK2.out
          rw [eqB_self] at HSX
          unfold PE.val at HSX
          have HSE := Lib.hid HSX
          clear HSX
          go_wp2_with fail
          refine HSE.out.mono ?_
          rintro e7 w7 ⟨rfl, hb7⟩
          have HB7 := Lib.hid (next HB6.out hb7)
          clear hb7 s0 s1 x0 x1 x2 x3 x4 x5 x6 x7 y0 y1 y2 y3 y4 y5 y6 y7
          go_wp2_with fail
          go_ret
          exact ⟨rfl, HB7.out⟩

theorem own : ownKnob Tryz.prog.godebug = none := by kernel_rfl
theorem laid : laidOutB Tryz.prog = true := by kernel_rfl
def laidD : List (String × DataW Unit) := [("math/bits.deBruijn32tab", Rows.laid_math_bits_deBruijn32tab), ("math/bits.deBruijn64tab", Rows.laid_math_bits_deBruijn64tab), ("internal/strconv.uint64pow10", Rows.laid_internal_strconv_uint64pow10), ("unicode/utf8.acceptRanges", Rows.laid_unicode_utf8_acceptRanges), ("strconv.ErrRange", Rows.laid_strconv_ErrRange), ("strconv.ErrSyntax", Rows.laid_strconv_ErrSyntax), ("unicode.White_Space", Rows.laid_unicode_White_Space), ("strings.asciiSpace", Rows.laid_strings_asciiSpace), ("unicode/utf8.first", Rows.laid_unicode_utf8_first)]
theorem tied {ps qs : Array TypeId} {j : Nat} {t : TypeId} (_ : ps = qs) (hall : (ps.all fun u => !Tryz.prog.wantsStandIn u) = true) (ht : ps[j]? = some t) : Tryz.prog.wantsStandIn t = false := by
  obtain ⟨hj, rfl⟩ := Array.getElem?_eq_some_iff.1 ht
  have := Array.all_eq_true.1 hall j hj
  simpa using this

set_option maxRecDepth 100000 in
theorem opened {H : Type} (enc : TypeId × Value → H) (W : World) (args : Array Value) (ds : List (DataW H)) (p : List MemPlace) (hsh : W.ShapedOpen Tryz.prog) (hL : laidMetH Tryz.prog laidD W) :
    Lift.Owes enc Tryz.prog 5 Tryz.f5.params.toList W args ds p := by
  have HL := Lib.hid hL
  clear hL
  intro hA hval hsz _
  rw [Tryz.params5] at hA hval hsz
  obtain ⟨v0, vs0, d0, ds0, p0, q0, hargs, rfl, rfl, h0, r0⟩ := trodAll_cons hA
  obtain ⟨v1, vs1, d1, ds1, p1, q1, rfl, rfl, rfl, h1, r1⟩ := trodAll_cons r0
  obtain ⟨rfl, rfl, rfl⟩ := trodAll_nil r1
  obtain rfl : args = #[v0, v1] := by cases args; simp_all
  obtain ⟨base0, hv0⟩ := hval 0 _ v0 rfl rfl
  obtain ⟨s0, rfl, rfl, rfl, ws0⟩ := ChangeMaps.open_string Tryz.underlying9 hv0 h0
  have z0 := sized_string hsz (j := 0) rfl rfl
  simp only [reachBytes, Array.length_toList] at z0
  obtain ⟨base1, hv1⟩ := hval 1 _ v1 rfl rfl
  obtain ⟨a1, rfl, rfl, rfl, wa1⟩ := open_int Tryz.underlying5 hv1 h1
  obtain ⟨l1, u1⟩ := bounds_u8 wa1
  obtain ⟨n1, rfl⟩ := Int.eq_ofNat_of_zero_le l1
  exact walk s0 n1 W (lx9 hsh HL.out) z0 (by omega)

set_option maxRecDepth 100000 in
theorem lifted (os : Os) (started : os.Started) (H : Type) (enc : TypeId × Value → H) :
    ReturnsInHanded {} Tryz.checked os 5 .any (fun w args => (Rows.parseBracketsSpec.pre enc Tryz.prog Tryz.f5 [] false w args ∧ laidMetH Tryz.prog laidD w) ∧ sizedMet enc Tryz.prog Tryz.f5 (OpenSpec.ofChange Rows.parseBracketsSpec) false w args)
      (Rows.parseBracketsSpec.post enc Tryz.prog Tryz.f5 false true false false) := by
  refine Lift.liftedD (C := Tryz.checked) (X := fun w _ => laidMetH Tryz.prog laidD w) (fun _ _ _ hh h => h.of_heap hh) own started (by kernel_rfl) Tryz.func5
    (ChangeSpec.witness_shaped (enc := enc) (C := Tryz.checked) (os := os) (X := fun w _ => laidMetH Tryz.prog laidD w) false (World.laidAll Tryz.prog os laidD) #[.string ByteArray.empty, .int .u8 0] 8 (World.laidAll_os _ _ _)
      (World.shaped_of_ZipB (by kernel_rfl) (by kernel_rfl)) (by kernel_rfl) (by kernel_rfl) (by kernel_rfl)
      (by rw [MakeChecks.laidMetH_plain _ _ _ (by kernel_rfl)]; exact laidMet_laidAll _ (by kernel_rfl) (by kernel_rfl)))
    laid (by rw [Tryz.params5]; intro t ht; simp at ht; rcases ht with rfl | rfl <;> exact ⟨by kernel_rfl, of_decide_eq_true (by kernel_rfl)⟩) rfl 4 rfl Tryz.underlying4
    (fun ds hds => by match ds, hds with | [_, _], _ => rfl) (fun W args ds p hsh hL => opened enc W args ds p hsh hL)

theorem row_said : Rows.ParseBracketsSaid :=
  OpenClaim.holds_of_wide 5 Tryz.f5 rfl rfl rfl rfl rfl rfl rfl ⟨rfl, rfl, rfl, rfl, rfl⟩ rfl rfl rfl rfl rfl (by kernel_rfl) Tryz.func5 (by kernel_rfl)
    (of_decide_eq_true (by kernel_rfl)) (by unfold Func.isWrapper; first | (rw [if_pos (by decide +kernel)]; kernel_rfl) | (rw [if_neg (by decide +kernel)]; exact ⟨rfl, rfl⟩))
    (fun os started H enc _ => lifted os started H enc)

theorem said : Rows.ParseBracketsCardSaid :=
  Claim7.holds_tied_plain_at .later [] [.data, .data, .data, .data, .sentinel, .sentinel, .listed, .data, .pinned] true (true, "e206e580c90a220dfe92bca72650be5753380b0d5437542a0264290c58ef9a3d") true
    row_said (fun _ h => by cases h) (by kernel_rfl) (fun _ h => by cases h) parseBrackets_row_tie rfl ⟨rfl, rfl⟩ (by kernel_rfl) rfl
    (fun f fn hf hfn => by
      obtain rfl : f = 5 := Option.some.inj ((show Tryz.prog.funcNamed "counterfoil/counterfoillaw14.ParseBrackets" = some 5 by kernel_rfl).symm.trans hf) |>.symm
      obtain rfl : fn = Tryz.f5 := (Option.some.inj (Tryz.func5.symm.trans hfn)).symm
      exact ⟨by kernel_rfl, fun j t ht => by
        rw [Tryz.params5] at ht
        exact tied Tryz.params5.symm (by kernel_rfl) ht⟩)
    (by kernel_rfl)
#print axioms said
end Go.Proofs.YtmdogmpcmkfjpaaGreatDoor.ParseBrackets
