/- LexPlaces: the law returns true at every input. -/
import Derived.Test.YtghfaeapgghhlaaDoorLiftD
import Derived.Test.YtghfaeapgghhlaaDoorTie
import Derived.Test.YtghfaeapgghhlaaDoorCards
import Derived.SevenTiedAt
import Derived.Stop.Joined
import Derived.Test.YtghfaeapgghhlaaDoorLexWorks
import Derived.Test.YtghfaeapgghhlaaDoorLexLaid
import Derived.Test.YtghfaeapgghhlaaDoorLexQ
import Derived.Test.YtghfaeapgghhlaaDoorOpen
namespace Go.Proofs.YtghfaeapgghhlaaDoor.LexPlaces
open Go.ChangeShapes Go.WideShapes Go.ChangeAt Go.RowKit Go.Proofs.YtghfaeapgghhlaaDoor.By
set_option linter.unusedVariables false
-- laid lx7
/- LexPlaces: each token begins where it is told to, and is told alone by the text from there on. No conditions beyond what the row lists. -/
open Go.Proofs.YtghfaeapgghhlaaDoor.Dt
/-- Where the tokens lie, and what the text tells from there on. -/
theorem places {s : List UInt8} {ts : List Tk} (h : toksL s = .inr ts) (i : Nat) (t : Tk) (ht : ts[i]? = some t) :
    ∃ (p : Nat) (ms : List Tk), t.a = (p : Int) ∧ p < s.length ∧ s.length ≤ 4096 ∧ (∀ j u, j < i → ts[j]? = some u → u.a < t.a) ∧ toksL (s.drop p) = .inr ms ∧ ms.length = ts.length - i ∧ (∀ k u, ms[k]? = some u → ts[i + k]? = some ⟨u.k, u.s, u.n, u.a + (p : Int)⟩ ∧ 0 ≤ u.a ∧ u.a ≤ 4096) := by
  rw [toksL_eq] at h
  split at h
  · cases h
  · rename_i hl
    obtain ⟨p, hp, hlt, hb4, he⟩ := tk_at _ 0 s (Nat.le_refl _) ts h i t ht
    rw [Nat.zero_add] at hp he
    have hsh := tk_shift p _ 0 (s.drop p) (Nat.le_refl _)
    rw [Nat.zero_add, he] at hsh
    cases hm : tk 0 (s.drop p) with
    | inl e => rw [hm] at hsh; cases hsh
    | inr ms =>
      rw [hm] at hsh
      simp only [shT, Sum.inr.injEq] at hsh
      refine ⟨p, ms, hp, hlt, by omega, hb4, ?_, ?_, fun k u hu => ⟨?_, ?_⟩⟩
      · rw [toksL_eq, if_neg (by rw [List.length_drop]; omega), hm]
      · have := congrArg List.length hsh
        rw [List.length_drop, List.length_map] at this
        omega
      · have h1 : (ts.drop i)[k]? = (ms.map fun x => { x with a := x.a + (p : Int) })[k]? := by rw [hsh]
        rw [List.getElem?_drop, List.getElem?_map, hu] at h1
        exact h1
      · obtain ⟨q, hq, hqlt, _, _⟩ := tk_at _ 0 (s.drop p) (Nat.le_refl _) ms hm k u hu
        rw [List.length_drop] at hqlt
        rw [hq]
        constructor <;> omega
theorem toks_len : ∀ (f : Nat) (b : Nat) (l : List UInt8), l.length ≤ f → ∀ ts, tk b l = .inr ts → ts.length ≤ l.length := fun f b l hf ts h => by
  rcases Nat.lt_or_ge l.length ts.length with h1 | h1
  · exfalso
    have hpos : ∀ i, i < ts.length → ∀ t, ts[i]? = some t → ((b + i : Nat) : Int) ≤ t.a := by
      intro i
      induction i with
      | zero =>
        intro _ t ht
        obtain ⟨p, hp, _⟩ := tk_at f b l hf ts h 0 t ht
        rw [hp]; omega
      | succ i ih =>
        intro hi t ht
        obtain ⟨p, hp, _, hbef, _⟩ := tk_at f b l hf ts h (i + 1) t ht
        obtain ⟨u, hu⟩ : ∃ u, ts[i]? = some u := ⟨ts[i], by simp⟩
        have h2 := ih (by omega) u hu
        have h3 := hbef i u (by omega) hu
        omega
    obtain ⟨t, ht⟩ : ∃ t, ts[l.length]? = some t := ⟨ts[l.length], by simp⟩
    have h2 := hpos l.length h1 t ht
    obtain ⟨p, hp, hlt, _⟩ := tk_at f b l hf ts h l.length t ht
    omega
  · exact h1
theorem toksL_len {l : List UInt8} {ts : List Tk} (h : toksL l = .inr ts) : ts.length ≤ l.length := by
  rw [toksL_eq] at h
  split at h
  · cases h
  · exact toks_len _ 0 l (Nat.le_refl _) ts h
theorem spot_in {s : List UInt8} {e a : Nat} (h : toksL s = .inl (e, a)) : e ≠ 0 ∧ a ≤ s.length := by
  rw [toksL_eq] at h
  split at h
  · cases h; exact ⟨by decide, by omega⟩
  · obtain ⟨_, h2, h3⟩ := tk_bad _ 0 s (Nat.le_refl _) e a h
    exact ⟨h3, by omega⟩
theorem cut_tail (s : ByteArray) {p : Nat} (h : p ≤ s.size) : (s.extract p s.size).data.toList = s.data.toList.drop p := by
  rw [ByteArray.data_extract, Array.toList_extract, List.extract_eq_take_drop, List.take_of_length_le]
  rw [List.length_drop, bytes_list]
  exact Nat.le_refl _
theorem tks_cap {w : World} {a : Option Addr} {n c : Nat} {l : List Tk} (h : TksAt w (.slice a n c) l) : n = l.length ∧ l.length ≤ c := by
  obtain ⟨a', c', e, hc, _⟩ := h
  simp only [Value.slice.injEq] at e
  obtain ⟨_, h1, rfl⟩ := e
  exact ⟨h1, hc⟩
set_option maxRecDepth 100000 in
set_option maxHeartbeats 16000000 in
theorem walk (s : ByteArray) (w : World) (hw : LX w) (_hs : s.size ≤ 140737488351232) :
    Calls Tryd.prog 6 #[.string s] w fun e w' => e = .returned (.bool true) ∧ Below w.heap.size w w' := by
  have HW := Lib.hid hw
  clear hw _hs
  go_enter Tryd.func6, Tryd.ntmps6
  go_wp2_with fail
  refine (lexWorks w HW.out).mono ?_
  rintro e w1 ⟨rfl, hb1⟩
  have HB1 := Lib.hid hb1
  clear hb1
  by_cases hl : 8192 < s.size
  · have i1 : (8192 : Int) < (s.size : Int) := by omega
    clear hl
    go_wp2_with fail
    go_ret
    exact ⟨rfl, HB1.out⟩
  · have i1 : ¬ (8192 : Int) < (s.size : Int) := by omega
    have HS : Hid (s.size ≤ 1000000) := Lib.hid (by omega)
    clear hl
    have HTK : Hid (∀ (x : ByteArray) W, LX W → x.size ≤ 1000000 → Calls Tryd.prog 24 #[.string x] W fun e w' => toksPost (toksL x.data.toList) e w' ∧ Below W.heap.size W w') := Lib.hid (fun x W h1 h2 => tokensLexW x W h1 h2)
    go_wp2_with fail
    refine (HTK.out s w1 (HW.out.later HB1.out) HS.out).mono ?_
    rintro e w2 ⟨hp, hb2⟩
    have HB2 := Lib.hid (next HB1.out hb2)
    clear hb2 i1
    cases hT : toksL s.data.toList with
    | inl x =>
      obtain ⟨er, at'⟩ := x
      rw [hT] at hp
      obtain ⟨h1, h2⟩ := spot_in hT
      rw [bytes_list] at h2
      obtain rfl : e = .returned (.tuple #[.slice none 0 0, .agg #[.int .i64 (er : Int), .int .i64 (at' : Int)]]) := hp
      have hq : ∀ W, (binOp .neq 43 (.agg #[.int .i64 (er : Int), .int .i64 (at' : Int)]) (.agg #[.int .i64 0, .int .i64 0])).run Tryd.prog W = .ok (.bool true) W := neq_toldS _ _ _ _ true (by simp; omega)
      have i2 : (at' : Int) ≤ (s.size : Int) := by omega
      have i3 : (0 : Int) ≤ (at' : Int) := by omega
      clear h1 h2 hT
      go_wp2_with fail
      go_ret
      exact ⟨rfl, HB2.out.alloc HB2.out.size _⟩
    | inr ts =>
      rw [hT] at hp
      obtain ⟨v, rfl, hat⟩ := hp
      obtain ⟨av, cv, rfl⟩ := hat.shape
      have hcap := (tks_cap hat).2
      have HT := Lib.hid hT
      have HTL : Hid (ts.length ≤ 1000000) := Lib.hid (by have h1 := toksL_len hT; have h2 := HS.out; rw [bytes_list] at h1; omega)
      have hq : ∀ W, (binOp .neq 43 (.agg #[.int .i64 0, .int .i64 0]) (.agg #[.int .i64 0, .int .i64 0])).run Tryd.prog W = .ok (.bool false) W := neq_toldS _ _ _ _ false (by simp)
      have HQ := Lib.hid hq
      have HA := Lib.hid (SlAt.below hat ((Below.refl _ w2).alloc (Nat.le_refl _) (.cells #[.int .i64 0, .int .i64 0] 43)))
      have HB3 : Hid (Below w.heap.size w (w2.alloc (.cells #[.int .i64 0, .int .i64 0] 43))) := Lib.hid (HB2.out.alloc HB2.out.size _)
      have HCAP := Lib.hid hcap
      clear hT hat hcap
      go_upto_region 8 with fail
      generalize w2.alloc (.cells #[.int .i64 0, .int .i64 0] 43) = w3 at *
      clear hq
      go_wp2_with fail
      go_loopg [36] ts.length (fun gk iv wr => ∃ i : Nat, iv = .int .i64 (i : Int) ∧ gk = ts.length - i ∧ i ≤ ts.length ∧ Hid (Below w3.heap.size w3 wr))
      case atStart => exact ⟨0, rfl, rfl, Nat.zero_le _, Lib.hid (Below.refl _ _)⟩
      case round =>
        obtain ⟨i, rfl, rfl, hi, HBEL⟩ := hrel
        by_cases hlt : i < ts.length
        · have i1 : (i : Int) < (ts.length : Int) := by omega
          obtain ⟨t, ht⟩ : ∃ t, ts[i]? = some t := ⟨ts[i], by simp⟩
          obtain ⟨p, ms, hta, hplt, hs4, hbef, htm, hml, hms⟩ := places HT.out i t ht
          obtain ⟨b, o, rfl, hbz, c0, c1, c2, c3⟩ := at4 (SlAt.below HA.out HBEL.out) ht
          obtain ⟨tk, tx, tn, ta⟩ := t
          obtain rfl : ta = (p : Int) := hta
          rw [bytes_list] at hplt hs4
          have HPL := Lib.hid hplt
          have HS4 := Lib.hid hs4
          have HLT := Lib.hid hlt
          have HTM := Lib.hid htm
          have HML := Lib.hid hml
          have HMS := Lib.hid hms
          have HTI := Lib.hid ht
          have HBF := Lib.hid hbef
          have hcv : (i : Int) < (cv : Int) := by have := HCAP.out; omega
          have HB4 : Hid (Below w3.heap.size w3 (wr.alloc (.cells #[.int .u8 (tk : Int), .string tx, .int .u64 (tn : Int), .int .i64 (p : Int)] 48))) := Lib.hid (HBEL.out.alloc HBEL.out.size _)
          have hb4 : Below wr.heap.size wr (wr.alloc (.cells #[.int .u8 (tk : Int), .string tx, .int .u64 (tn : Int), .int .i64 (p : Int)] 48)) := (Below.refl _ _).alloc (Nat.le_refl _) _
          clear hi hlt hplt hs4 htm hml hms ht hbef hbz
          go_upto_region 11 with fail
          have y3 : (wr.alloc (.cells #[.int .u8 (tk : Int), .string tx, .int .u64 (tn : Int), .int .i64 (p : Int)] 48)).cell? ⟨wr.heap.size, 3, none⟩ = some (.int .i64 (p : Int)) := by go_simp
          clear hb4 c0 c1 c2 c3
          generalize wr.alloc (.cells #[.int .u8 (tk : Int), .string tx, .int .u64 (tn : Int), .int .i64 (p : Int)] 48) = w4 at *
          generalize wr.heap.size = bt at *
          have HY3 := Lib.hid y3
          go_cut [60] (fun c wx => c = .bool false ∧ Hid (Below w4.heap.size w4 wx))
          case first =>
            have k1 : ¬ (s.size : Int) ≤ (p : Int) := by have := HPL.out; omega
            by_cases hi0 : i = 0
            · subst hi0
              have l0 := lat_cell y3
              refine wp_region_later (by kernel_rfl) (by kernel_rfl) ?_
              repeat (go_big_quiet_step (fail))
              refine wpQuiet_nil ?_
              refine later_out (fun w5 hb5 => ?_)
              have HB5 := Lib.hid hb5
              clear l0 hb5
              go_wp2_with fail
              go_meet
              exact ⟨rfl, HB5⟩
            · have k2 : (0 : Int) < (i : Int) := by omega
              obtain ⟨t2, ht2⟩ : ∃ t2, ts[i - 1]? = some t2 := ⟨ts[i - 1]'(by have := HLT.out; omega), by simp⟩
              have hlt2 := HBF.out (i - 1) t2 (by omega) ht2
              obtain ⟨b', o', e', _, _, _, _, z3⟩ := at4 (SlAt.below HA.out HB4.out) ht2
              cases e'
              obtain ⟨j, hj⟩ : ∃ j, i = j + 1 := ⟨i - 1, by omega⟩
              subst hj
              rw [Nat.add_sub_cancel] at z3
              have k3 : ¬ (p : Int) ≤ t2.a := by have : t2.a < (p : Int) := hlt2; omega
              have k4 : (j : Int) < (cv : Int) := by omega
              have k5 : (0 : Int) ≤ (j : Int) := by omega
              have k6 : (j : Int) < (ts.length : Int) := by have := HLT.out; omega
              have kw := wrapK (j : Int) (by omega) (by have h1 := HLT.out; have h2 := HTL.out; omega)
              have l0 := lat_cell y3
              have l1 := lat_cell z3
              clear hlt2 hi0 ht2
              refine wp_region_later (by kernel_rfl) (by kernel_rfl) ?_
              repeat (go_big_quiet_step (fail))
              refine wpQuiet_nil ?_
              refine later_out (fun w5 hb5 => ?_)
              have HB5 := Lib.hid hb5
              clear l0 l1 hb5 kw
              go_wp2_with fail
              go_meet
              exact ⟨rfl, HB5⟩
          case rest =>
            rename World => w5
            obtain ⟨rfl, hb5⟩ := hcut
            have HY5 := Lib.hid ((hb5.out.cell (cell_lt y3)).trans y3)
            have HB5 := Lib.hid (next HB4.out hb5.out)
            clear hb5 y3 HY3
            have HXB : Hid ((s.extract p s.size).size ≤ 1000000 ∧ toksL (s.extract p s.size).data.toList = .inr ms) := Lib.hid (by
              have h1 := HPL.out
              have h2 := HS.out
              have h3 := cut_tail s (Nat.le_of_lt h1)
              refine ⟨?_, by rw [h3]; exact HTM.out⟩
              rw [← bytes_list, h3, List.length_drop, bytes_list]
              omega)
            have y5 := HY5.out
            have k1 : (p : Int) ≤ (s.size : Int) := by have := HPL.out; omega
            have k2 : (0 : Int) ≤ (p : Int) := by omega
            go_wp2_with fail
            refine (HTK.out _ w5 (HW.out.later (next HB3.out HB5.out)) HXB.out.1).mono ?_
            rintro e w6 ⟨hp6, hb6⟩
            rw [HXB.out.2] at hp6
            obtain ⟨v6, rfl, hat6⟩ := hp6
            obtain ⟨am, cm, rfl⟩ := hat6.shape
            have HCM := Lib.hid (tks_cap hat6).2
            have HB6 := Lib.hid (next HB5.out hb6)
            have HB7 : Hid (Below w3.heap.size w3 (w6.alloc (.cells #[.int .i64 0, .int .i64 0] 43))) := Lib.hid (HB6.out.alloc HB6.out.size _)
            have HA7 := Lib.hid (SlAt.below hat6 ((Below.refl _ w6).alloc (Nat.le_refl _) (.cells #[.int .i64 0, .int .i64 0] 43)))
            have HY7 : Hid ((w6.alloc (.cells #[.int .i64 0, .int .i64 0] 43)).cell? ⟨bt, 3, none⟩ = some (.int .i64 (p : Int))) := Lib.hid (((hb6.trans (((Below.refl _ w6).alloc (Nat.le_refl _) _).mono hb6.size)).cell (cell_lt y5)).trans y5)
            have hq := HQ.out
            have hsub : wrap64 ((ts.length : Int) - (i : Int)) = (ms.length : Int) := by have h1 := HML.out; have h2 := HLT.out; have h3 := HTL.out; unfold wrap64; omega
            have HSUB := Lib.hid hsub
            clear hat6 hb6 y5 k1 k2 hsub
            go_upto_region 14 with fail
            have z0 : (w6.alloc (.cells #[.int .i64 0, .int .i64 0] 43)).cell? ⟨w6.heap.size, 0, none⟩ = some (.int .i64 0) := by go_simp
            have z1 : (w6.alloc (.cells #[.int .i64 0, .int .i64 0] 43)).cell? ⟨w6.heap.size, 1, none⟩ = some (.int .i64 0) := by go_simp
            generalize w6.alloc (.cells #[.int .i64 0, .int .i64 0] 43) = w7 at *
            have hsub := HSUB.out
            go_upto_region 16 with fail
            clear hq hsub z0 z1
            go_wp2_with fail
            go_loopg [83] ms.length (fun gk iv wr => ∃ k : Nat, iv = .int .i64 (k : Int) ∧ gk = ms.length - k ∧ k ≤ ms.length ∧ Hid (Below w7.heap.size w7 wr))
            case atStart => exact ⟨0, rfl, rfl, Nat.zero_le _, Lib.hid (Below.refl _ _)⟩
            case round =>
              obtain ⟨k, rfl, rfl, hk, HBK⟩ := hrel
              by_cases hkl : k < ms.length
              · have m1 : (k : Int) < (ms.length : Int) := by omega
                have m2 : (k : Int) < (cm : Int) := by have := HCM.out; omega
                obtain ⟨u, hu⟩ : ∃ u, ms[k]? = some u := ⟨ms[k], by simp⟩
                obtain ⟨huk, hu0, hu1⟩ := HMS.out k u hu
                obtain ⟨bm, om, rfl, -, e0, e1, e2, e3⟩ := at4 (SlAt.below HA7.out HBK.out) hu
                obtain ⟨b2, o2, e', -, f0, f1, f2, f3⟩ := at4 (SlAt.below HA.out (next HB7.out HBK.out)) huk
                cases e'
                obtain ⟨uk, ux, un, ua⟩ := u
                have y7 := (HBK.out.cell (cell_lt HY7.out)).trans HY7.out
                have HKL := Lib.hid hkl
                have HU0 := Lib.hid hu0
                have HU1 := Lib.hid hu1
                have hbw : Below wr.heap.size wr (wr.alloc (.cells #[.int .u8 (uk : Int), .string ux, .int .u64 (un : Int), .int .i64 (ua + (p : Int))] 48)) := (Below.refl _ _).alloc (Nat.le_refl _) _
                have HBW := Lib.hid (next HBK.out hbw)
                replace f0 := (hbw.cell (cell_lt f0)).trans f0
                replace f1 := (hbw.cell (cell_lt f1)).trans f1
                replace f2 := (hbw.cell (cell_lt f2)).trans f2
                replace f3 := (hbw.cell (cell_lt f3)).trans f3
                have hadd : wrap64 (ua + (p : Int)) = ua + (p : Int) := by have h0 := HU0.out; have h1 := HU1.out; have h2 := HPL.out; have h3 := HS.out; simp only at h0 h1; unfold wrap64; omega
                have hzt : bt < wr.heap.size := cell_lt y7
                have hil : i + k < ts.length := (List.getElem?_eq_some_iff.1 huk).1
                have HIL := Lib.hid hil
                have HF := Lib.hid (And.intro f0 (And.intro f1 (And.intro f2 f3)))
                clear hk hkl hu huk hu0 hu1 f0 f1 f2 f3 hbw hil
                go_upto_region 20 with fail
                have g0 : (wr.alloc (.cells #[.int .u8 (uk : Int), .string ux, .int .u64 (un : Int), .int .i64 (ua + (p : Int))] 48)).cell? ⟨wr.heap.size, 0, none⟩ = some (.int .u8 (uk : Int)) := by go_simp
                have g1 : (wr.alloc (.cells #[.int .u8 (uk : Int), .string ux, .int .u64 (un : Int), .int .i64 (ua + (p : Int))] 48)).cell? ⟨wr.heap.size, 1, none⟩ = some (.string ux) := by go_simp
                have g2 : (wr.alloc (.cells #[.int .u8 (uk : Int), .string ux, .int .u64 (un : Int), .int .i64 (ua + (p : Int))] 48)).cell? ⟨wr.heap.size, 2, none⟩ = some (.int .u64 (un : Int)) := by go_simp
                have g3 : (wr.alloc (.cells #[.int .u8 (uk : Int), .string ux, .int .u64 (un : Int), .int .i64 (ua + (p : Int))] 48)).cell? ⟨wr.heap.size, 3, none⟩ = some (.int .i64 (ua + (p : Int))) := by go_simp
                clear hadd hzt e0 e1 e2 e3 y7
                generalize (wr.alloc (.cells #[.int .u8 (uk : Int), .string ux, .int .u64 (un : Int), .int .i64 (ua + (p : Int))] 48)) = w8 at *
                generalize wr.heap.size = bx at *
                obtain ⟨f0, f1, f2, f3⟩ := HF.out
                have hq : ∀ W, (binOp .neq 48 (.agg #[.int .u8 (uk : Int), .string ux, .int .u64 (un : Int), .int .i64 (ua + (p : Int))]) (.agg #[.int .u8 (uk : Int), .string ux, .int .u64 (un : Int), .int .i64 (ua + (p : Int))])).run Tryd.prog W = .ok (.bool false) W := neq_toldT ⟨uk, ux, un, ua + (p : Int)⟩ ⟨uk, ux, un, ua + (p : Int)⟩ false (by simp)
                have n0 : (0 : Int) ≤ (i : Int) + (k : Int) := by omega
                have n1 : (i : Int) + (k : Int) < (ts.length : Int) := by have := HIL.out; omega
                have n2 : (i : Int) + (k : Int) < (cv : Int) := by have h1 := HIL.out; have h2 := HCAP.out; omega
                have nw := wrapK ((i : Int) + (k : Int)) n0 (by have h1 := HTL.out; omega)
                have l0 := lat_cell g0
                have l1 := lat_cell g1
                have l2 := lat_cell g2
                have l3 := lat_cell g3
                have r0 := lat_cell f0
                have r1 := lat_cell f1
                have r2 := lat_cell f2
                have r3 := lat_cell f3
                have HKK : Hid (wrap64 ((k : Int) + 1) = ((k + 1 : Nat) : Int)) := Lib.hid (by have h1 := HIL.out; have h2 := HTL.out; clear nw; unfold wrap64; omega)
                refine wp_region_later (by kernel_rfl) (by kernel_rfl) ?_
                repeat (go_big_quiet_step (fail))
                refine wpQuiet_nil ?_
                refine later_out (fun w9 hb9 => ?_)
                have HB9 := Lib.hid (next HBW.out hb9)
                clear l0 l1 l2 l3 r0 r1 r2 r3 g0 g1 g2 g3 f0 f1 f2 f3 hq hb9 nw
                go_wp2_with fail
                go_roundg (ms.length - (k + 1))
                case measure => exact Nat.sub_lt_sub_left HKL.out (Nat.lt_succ_self _)
                case rel => exact ⟨k + 1, by first | exact congrArg (Value.int .i64) HKK.out | (simp; done) | (simp; exact HKK.out), rfl, HKL.out, HB9⟩
              · have m1 : ¬ (k : Int) < (ms.length : Int) := by omega
                have HBX := Lib.hid (next HB7.out HBK.out)
                clear hkl hk
                by_cases h20 : 20 < i
                · have n1 : (20 : Int) < (i : Int) := by omega
                  clear h20
                  go_wp2_with fail
                  go_ret
                  exact ⟨rfl, next HB3.out HBX.out⟩
                · have n1 : ¬ (20 : Int) < (i : Int) := by omega
                  have HKK : Hid (wrap64 ((i : Int) + 1) = ((i + 1 : Nat) : Int)) := Lib.hid (by unfold wrap64; omega)
                  clear h20
                  go_wp2_with fail
                  go_roundg (ts.length - (i + 1))
                  case measure => exact Nat.sub_lt_sub_left HLT.out (Nat.lt_succ_self _)
                  case rel => exact ⟨i + 1, by first | exact congrArg (Value.int .i64) HKK.out | (simp; done) | (simp; exact HKK.out), rfl, HLT.out, HBX⟩
        · have i1 : ¬ (i : Int) < (ts.length : Int) := by omega
          clear hlt hi
          go_wp2_with fail
          go_ret
          exact ⟨rfl, next HB3.out HBEL.out⟩

theorem own : ownKnob Tryd.prog.godebug = none := by kernel_rfl
theorem laid : laidOutB Tryd.prog = true := by kernel_rfl
def laidD : List (String × DataW Unit) := [("math/bits.deBruijn32tab", Rows.laid_math_bits_deBruijn32tab), ("math/bits.deBruijn64tab", Rows.laid_math_bits_deBruijn64tab), ("internal/strconv.uint64pow10", Rows.laid_internal_strconv_uint64pow10), ("strconv.ErrRange", Rows.laid_strconv_ErrRange), ("strconv.ErrSyntax", Rows.laid_strconv_ErrSyntax), ("unicode.White_Space", Rows.laid_unicode_White_Space), ("strings.asciiSpace", Rows.laid_strings_asciiSpace)]
theorem tied {ps qs : Array TypeId} {j : Nat} {t : TypeId} (_ : ps = qs) (hall : (ps.all fun u => !Tryd.prog.wantsStandIn u) = true) (ht : ps[j]? = some t) : Tryd.prog.wantsStandIn t = false := by
  obtain ⟨hj, rfl⟩ := Array.getElem?_eq_some_iff.1 ht
  have := Array.all_eq_true.1 hall j hj
  simpa using this

set_option maxRecDepth 100000 in
theorem opened {H : Type} (enc : TypeId × Value → H) (W : World) (args : Array Value) (ds : List (DataW H)) (p : List MemPlace) (hsh : W.ShapedOpen Tryd.prog) (hL : laidMetH Tryd.prog laidD W) :
    Lift.Owes enc Tryd.prog 6 Tryd.f6.params.toList W args ds p := by
  have HL := Lib.hid hL
  clear hL
  intro hA hval hsz _
  rw [Tryd.params6] at hA hval hsz
  obtain ⟨v0, vs0, d0, ds0, p0, q0, hargs, rfl, rfl, h0, r0⟩ := trodAll_cons hA
  obtain ⟨rfl, rfl, rfl⟩ := trodAll_nil r0
  obtain rfl : args = #[v0] := by cases args; simp_all
  obtain ⟨base0, hv0⟩ := hval 0 _ v0 rfl rfl
  obtain ⟨s0, rfl, rfl, rfl, ws0⟩ := ChangeMaps.open_string Tryd.underlying9 hv0 h0
  have z0 := sized_string hsz (j := 0) rfl rfl
  simp only [reachBytes, Array.length_toList] at z0
  exact walk s0 W (lx7 hsh HL.out) z0

set_option maxRecDepth 100000 in
theorem lifted (os : Os) (started : os.Started) (H : Type) (enc : TypeId × Value → H) :
    ReturnsInHanded {} Tryd.checked os 6 .any (fun w args => (Rows.lexPlacesSpec.pre enc Tryd.prog Tryd.f6 [] false w args ∧ laidMetH Tryd.prog laidD w) ∧ sizedMet enc Tryd.prog Tryd.f6 (OpenSpec.ofChange Rows.lexPlacesSpec) false w args)
      (Rows.lexPlacesSpec.post enc Tryd.prog Tryd.f6 false true false false) := by
  refine Lift.liftedD (C := Tryd.checked) (X := fun w _ => laidMetH Tryd.prog laidD w) (fun _ _ _ hh h => h.of_heap hh) own started (by kernel_rfl) Tryd.func6
    (ChangeSpec.witness_shaped (enc := enc) (C := Tryd.checked) (os := os) (X := fun w _ => laidMetH Tryd.prog laidD w) false (World.laidAll Tryd.prog os laidD) #[.string ByteArray.empty] 8 (World.laidAll_os _ _ _)
      (World.shaped_of_ZipB (by kernel_rfl) (by kernel_rfl)) (by kernel_rfl) (by kernel_rfl) (by kernel_rfl)
      (by rw [MakeChecks.laidMetH_plain _ _ _ (by kernel_rfl)]; exact laidMet_laidAll _ (by kernel_rfl) (by kernel_rfl)))
    laid (by rw [Tryd.params6]; intro t ht; simp at ht; rcases ht with rfl <;> exact ⟨by kernel_rfl, of_decide_eq_true (by kernel_rfl)⟩) rfl 4 rfl Tryd.underlying4
    (fun ds hds => by match ds, hds with | [_], _ => rfl) (fun W args ds p hsh hL => opened enc W args ds p hsh hL)

theorem row_said : Rows.LexPlacesSaid :=
  OpenClaim.holds_of_wide 6 Tryd.f6 rfl rfl rfl rfl rfl rfl rfl ⟨rfl, rfl, rfl, rfl, rfl⟩ rfl rfl rfl rfl rfl (by kernel_rfl) Tryd.func6 (by kernel_rfl)
    (of_decide_eq_true (by kernel_rfl)) (by unfold Func.isWrapper; first | (rw [if_pos (by decide +kernel)]; kernel_rfl) | (rw [if_neg (by decide +kernel)]; exact ⟨rfl, rfl⟩))
    (fun os started H enc _ => lifted os started H enc)

theorem said : Rows.LexPlacesCardSaid :=
  Claim7.holds_tied_plain_at .later [] [.data, .data, .data, .sentinel, .sentinel, .listed, .data] true (true, "beeeb87dc6d8e7c394a9af8ed07e7d2b6f4d2f56e63b48bb337aad32e36f280c") true
    row_said (fun _ h => by cases h) (by kernel_rfl) (fun _ h => by cases h) lexPlaces_row_tie rfl ⟨rfl, rfl⟩ (by kernel_rfl) rfl
    (fun f fn hf hfn => by
      obtain rfl : f = 6 := Option.some.inj ((show Tryd.prog.funcNamed "counterfoil/counterfoillaw13.LexPlaces" = some 6 by kernel_rfl).symm.trans hf) |>.symm
      obtain rfl : fn = Tryd.f6 := (Option.some.inj (Tryd.func6.symm.trans hfn)).symm
      exact ⟨by kernel_rfl, fun j t ht => by
        rw [Tryd.params6] at ht
        exact tied Tryd.params6.symm (by kernel_rfl) ht⟩)
    (by kernel_rfl)
#print axioms said
end Go.Proofs.YtghfaeapgghhlaaDoor.LexPlaces
