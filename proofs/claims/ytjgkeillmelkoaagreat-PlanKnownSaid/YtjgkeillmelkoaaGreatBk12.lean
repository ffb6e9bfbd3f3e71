import Derived.Test.YtjgkeillmelkoaaGreatBk11
import Derived.Test.YtjgkeillmelkoaaGreatBk07
namespace Go.Proofs.YtjgkeillmelkoaaGreat.Dt
open Go.RowKit Go.Proofs.YtjgkeillmelkoaaGreat.By

theorem refAtW (s : ByteArray) (i : Nat) (w : World) (_hs : s.size ≤ 1000000) (x : Int) (hx : x = (i : Int)) : Calls Tryz.prog 48 #[.string s, .int .i64 x] w fun e w' => e = .returned (byte (topB (s.data.toList.drop i))) ∧ w = w' := by
  subst hx
  by_cases h : i < s.size
  · have a1 : (i : Int) < (s.size : Int) := by omega
    have a3 : (0 : Int) ≤ (i : Int) := by omega
    rw [bytes_get s i h]

    go_enter Tryz.func48, Tryz.ntmps48
    go_wp2_with fail
    go_ret
    exact ⟨rfl, rfl⟩
  · have a1 : ¬ (i : Int) < (s.size : Int) := by omega
    rw [bytes_end s i (by omega)]
    clear h
    go_enter Tryz.func48, Tryz.ntmps48
    go_wp2_with fail
    go_ret
    exact ⟨rfl, rfl⟩
theorem filled6 (w : World) (b c : Nat) (hbc : b ≠ c) (x y z u p q : Value) (h : TBox b w) (hs : Box c [.int .i64 0, .int .i64 0] w) : ∀ W, W = ((((((w.setCell ⟨b, 0, none⟩ x).setCell ⟨b, 1, none⟩ y).setCell ⟨b, 2, none⟩ z).setCell ⟨b, 3, none⟩ u).setCell ⟨c, 0, none⟩ p).setCell ⟨c, 1, none⟩ q) →
    W.cell? ⟨b, 0, none⟩ = some x ∧ W.cell? ⟨b, 1, none⟩ = some y ∧ W.cell? ⟨b, 2, none⟩ = some z ∧ W.cell? ⟨b, 3, none⟩ = some u ∧ W.cell? ⟨c, 0, none⟩ = some p ∧ W.cell? ⟨c, 1, none⟩ = some q := by
  rintro W rfl
  obtain ⟨h0, h1, h2, h3⟩ := filled4 w b x y z u h _ rfl
  have hs' : Box c [.int .i64 0, .int .i64 0] ((((w.setCell ⟨b, 0, none⟩ x).setCell ⟨b, 1, none⟩ y).setCell ⟨b, 2, none⟩ z).setCell ⟨b, 3, none⟩ u) := (((hs.else hbc).else hbc).else hbc).else hbc
  generalize (((w.setCell ⟨b, 0, none⟩ x).setCell ⟨b, 1, none⟩ y).setCell ⟨b, 2, none⟩ z).setCell ⟨b, 3, none⟩ u = W1 at *
  obtain ⟨g0, g1⟩ := filled2 W1 c p q hs' _ rfl
  have ho : ∀ i, ((W1.setCell ⟨c, 0, none⟩ p).setCell ⟨c, 1, none⟩ q).cell? ⟨b, i, none⟩ = W1.cell? ⟨b, i, none⟩ := fun i => (set_other _ b c 1 i q (fun e => hbc e.1.symm)).trans (set_other _ b c 0 i p (fun e => hbc e.1.symm))
  exact ⟨(ho 0).trans h0, (ho 1).trans h1, (ho 2).trans h2, (ho 3).trans h3, g0, g1⟩
theorem below6 {B b c : Nat} {w0 w : World} {x y z u p q : Value} (h : Below B w0 w) (hb : B ≤ b) (hc : B ≤ c) : Below B w0 ((((((w.setCell ⟨b, 0, none⟩ x).setCell ⟨b, 1, none⟩ y).setCell ⟨b, 2, none⟩ z).setCell ⟨b, 3, none⟩ u).setCell ⟨c, 0, none⟩ p).setCell ⟨c, 1, none⟩ q) :=
  below_set (below_set (below_set (below_set (below_set (below_set h hb) hb) hb) hb) hc) hc
/-- The two boxes of the results, empty. -/
structure RB (w : World) (W : World) : Prop where
  bt : TBox w.heap.size W
  bs : Box (w.heap.size + 1) [.int .i64 0, .int .i64 0] W
  bl : Below w.heap.size w W
  sz : w.heap.size + 2 ≤ W.heap.size
theorem RB.later {w W W' : World} (h : RB w W) (hb : Below W.heap.size W W') : RB w W' := ⟨h.bt.later hb, h.bs.later hb, next h.bl hb, Nat.le_trans h.sz hb.size⟩
theorem RB.app {w W W' : World} (h : RB w W) (hb : Below (w.heap.size + 2) W W') (hz : W.heap.size ≤ W'.heap.size) : RB w W' := by
  have hc : ∀ j i, j < w.heap.size + 2 → W'.cell? ⟨j, i, none⟩ = W.cell? ⟨j, i, none⟩ := fun j i hj => hb.cell (p := ⟨j, i, none⟩) hj
  have hf : ∀ j i, j < w.heap.size + 2 → W'.frozen? ⟨j, i, none⟩ = W.frozen? ⟨j, i, none⟩ := fun j i hj => hb.frozen (p := ⟨j, i, none⟩) hj
  have h0 : w.heap.size < w.heap.size + 2 := by omega
  have h1 : w.heap.size + 1 < w.heap.size + 2 := by omega
  refine ⟨⟨(hc _ _ h0).trans h.bt.c0, (hc _ _ h0).trans h.bt.c1, (hc _ _ h0).trans h.bt.c2, (hc _ _ h0).trans h.bt.c3, (hf _ _ h0).trans h.bt.f0, (hf _ _ h0).trans h.bt.f1, (hf _ _ h0).trans h.bt.f2, (hf _ _ h0).trans h.bt.f3⟩, fun i u hu => ⟨(hc _ _ h1).trans (h.bs i u hu).1, (hf _ _ h1).trans (h.bs i u hu).2⟩, ?_, Nat.le_trans h.sz hz⟩
  exact ⟨hb.os.trans h.bl.os, hb.tape.trans h.bl.tape, hb.output.trans h.bl.output, Nat.le_trans h.bl.size hz, fun k hk => (hb.block k (by omega)).trans (h.bl.block k hk)⟩
theorem rb_new (w : World) : RB w ((w.alloc (.cells #[.int .u8 0, .string ⟨#[]⟩, .int .u64 0, .int .i64 0] 114)).alloc (.cells #[.int .i64 0, .int .i64 0] 70)) := by
  have h1 := tBox_new w 114
  have hb1 : Below w.heap.size w (w.alloc (.cells #[.int .u8 0, .string ⟨#[]⟩, .int .u64 0, .int .i64 0] 114)) := (Below.refl _ _).alloc (Nat.le_refl _) _
  have hz : (w.alloc (.cells #[.int .u8 0, .string ⟨#[]⟩, .int .u64 0, .int .i64 0] 114)).heap.size = w.heap.size + 1 := by simp
  refine ⟨h1.later ((Below.refl _ _).alloc (Nat.le_refl _) _), ?_, next hb1 ((Below.refl _ _).alloc (Nat.le_refl _) _), by simp⟩
  intro i u hu
  rcases i with _ | _ | i <;> simp at hu <;> subst hu <;> exact ⟨by go_simp, by go_simp⟩
set_option maxRecDepth 100000 in
theorem refBadW (x y : Int) (w : World) : Calls Tryz.prog 84 #[.int .i64 x, .int .i64 y] w fun e w' => e = .returned (.tuple #[.agg #[.int .u8 0, .string ⟨#[]⟩, .int .u64 0, .int .i64 0], .int .i64 0, .agg #[.int .i64 x, .int .i64 y]]) ∧ Below w.heap.size w w' := by
  have H := Lib.hid (rb_new w)
  go_enter Tryz.func84, Tryz.ntmps84
  go_upto_region 1 with fail
  generalize (w.alloc (.cells #[.int .u8 0, .string ⟨#[]⟩, .int .u64 0, .int .i64 0] 114)).alloc (.cells #[.int .i64 0, .int .i64 0] 70) = w1 at *
  obtain ⟨c, hc⟩ : ∃ c, c = w.heap.size + 1 := ⟨_, rfl⟩
  have hbs := H.out.bs
  rw [← hc] at hbs ⊢
  have hbc : w.heap.size ≠ c := by omega
  have hbl : w.heap.size ≤ c := by omega
  have HBC := Lib.hid hbc
  have HBL := Lib.hid hbl
  have HBS := Lib.hid hbs
  have HSIX := Lib.hid (filled6 w1 w.heap.size c hbc (.int .u8 0) (.string ⟨#[]⟩) (.int .u64 0) (.int .i64 0) (.int .i64 x) (.int .i64 y) H.out.bt hbs _ rfl)
  obtain ⟨c0, c1, c2, c3, f0, f1, f2, f3⟩ := H.out.bt
  have s0 := (hbs 0 _ rfl).1
  have s1 := (hbs 1 _ rfl).1
  have t0 := (hbs 0 _ rfl).2
  have t1 := (hbs 1 _ rfl).2
  have n1 : ¬ c = w.heap.size := fun e => hbc e.symm
  clear hbs hbl hc
  go_wp2_with fail
  obtain ⟨q0, q1, q2, q3, p0, p1⟩ := HSIX.out
  refine bodyPost_ret (v := .tuple #[.agg #[.int .u8 0, .string ⟨#[]⟩, .int .u64 0, .int .i64 0], .int .i64 0, .agg #[.int .i64 x, .int .i64 y]]) (by simp [results, Tryz.results84, go_sem, q0, q1, q2, q3, p0, p1]) rfl ⟨rfl, below6 H.out.bl (Nat.le_refl _) HBL.out⟩
end Go.Proofs.YtjgkeillmelkoaaGreat.Dt
namespace Go.Proofs.YtjgkeillmelkoaaGreat.Dt
open Go.RowKit Go.Proofs.YtjgkeillmelkoaaGreat.By

set_option maxRecDepth 100000 in
theorem refInW (A : Nat) (l : List (List UInt8)) (n : Nat) (hn : l.length = n) (h64 : n ≤ 1000) (x : ByteArray) (w : World) (h : StrsAt A l w) :
    Calls Tryz.prog 83 #[.slice (some ⟨A, 0, none⟩) n n, .string x] w fun e w' => e = .returned (.bool (decide (x.data.toList ∈ l))) ∧ w = w' := by
  have HN := Lib.hid hn
  have H64 := Lib.hid h64
  have H := Lib.hid h
  clear hn h64 h
  go_enter Tryz.func83, Tryz.ntmps83
  go_wp2_with fail
  go_loopg [5] n (fun gk iv wr => ∃ i : Nat, iv = .int .i64 (i : Int) ∧ gk = n - i ∧ i ≤ n ∧ Hid (∀ y ∈ l.take i, y ≠ x.data.toList) ∧ w = wr)
  case atStart => exact ⟨0, rfl, rfl, Nat.zero_le _, Lib.hid (by simp), rfl⟩
  case round =>
    obtain ⟨i, rfl, rfl, hi, HALL, rfl⟩ := hrel
    by_cases hlt : i < n
    · have i1 : (i : Int) < (n : Int) := by omega
      obtain ⟨y, hy⟩ : ∃ y, l[i]? = some y := ⟨l[i]'(by have := HN.out; omega), by simp⟩
      have c0 := H.out i y hy
      have HY := Lib.hid hy
      have HLT := Lib.hid hlt
      have HKK : Hid (wrap64 ((i : Int) + 1) = ((i + 1 : Nat) : Int)) := Lib.hid (by have := H64.out; unfold wrap64; omega)
      clear hi hlt hy
      by_cases he : y = x.data.toList
      · have HR : Hid (x.data.toList ∈ l) := Lib.hid (by rw [← he]; exact List.mem_of_getElem? HY.out)
        have e1 : (y == x.toList) = true := by rw [ByteArray.toList_eq, he]; simp
        clear he
        go_wp2_with fail
        refine bodyPost_ret (v := .bool true) (by simp [results, Tryz.results83, go_sem]) rfl ⟨by rw [decide_eq_true HR.out], rfl⟩
      · have e1 : (y == x.toList) = false := by rw [ByteArray.toList_eq, beq_eq_false_iff_ne]; exact he
        have HA2 : Hid (∀ z ∈ l.take (i + 1), z ≠ x.data.toList) := Lib.hid (by
          intro z hz
          rw [List.take_add_one, HY.out] at hz
          rcases List.mem_append.1 hz with hz | hz
          · exact HALL.out z hz
          · simp at hz; rw [hz]; exact he)
        clear he
        go_wp2_with fail
        go_roundg (n - (i + 1))
        case measure => exact Nat.sub_lt_sub_left HLT.out (Nat.lt_succ_self _)
        case rel => exact ⟨i + 1, by first | exact congrArg (Value.int .i64) HKK.out | (simp; done) | (simp; exact HKK.out), rfl, HLT.out, HA2, rfl⟩
    · have i1 : ¬ (i : Int) < (n : Int) := by omega
      have HR : Hid (¬ x.data.toList ∈ l) := Lib.hid (fun hm => by
        have h1 := HALL.out
        rw [List.take_of_length_le (by have := HN.out; omega)] at h1
        exact h1 _ hm rfl)
      clear hlt hi
      go_wp2_with fail
      refine bodyPost_ret (v := .bool false) (by simp [results, Tryz.results83, go_sem]) rfl ⟨by rw [decide_eq_false HR.out], rfl⟩
theorem strs_new (w : World) (l : List (List UInt8)) (T : TypeId) (cs : Array Value) (h : cs = (l.map str).toArray) : StrsAt w.heap.size l (w.alloc (.cells cs T)) := by
  subst h
  exact fun j x hx => cell_new w _ _ j _ (by rw [List.getElem?_map, hx]; rfl)
set_option maxRecDepth 100000 in
theorem words_cells : #[.string ⟨#[65, 78, 68]⟩, .string ⟨#[65, 83]⟩, .string ⟨#[66, 69, 71, 73, 78]⟩, .string ⟨#[66, 76, 79, 66]⟩, .string ⟨#[66, 89]⟩, .string ⟨#[67, 79, 77, 77, 73, 84]⟩, .string ⟨#[67, 79, 85, 78, 84]⟩, .string ⟨#[67, 82, 69, 65, 84, 69]⟩, .string ⟨#[68, 69, 76, 69, 84, 69]⟩, .string ⟨#[68, 69, 83, 67]⟩, .string ⟨#[68, 82, 79, 80]⟩, .string ⟨#[70, 82, 79, 77]⟩, .string ⟨#[71, 82, 79, 85, 80]⟩, .string ⟨#[72, 65, 86, 73, 78, 71]⟩, .string ⟨#[73, 78, 68, 69, 88]⟩, .string ⟨#[73, 78, 83, 69, 82, 84]⟩, .string ⟨#[73, 78, 84, 69, 71, 69, 82]⟩, .string ⟨#[73, 78, 84, 79]⟩, .string ⟨#[73, 83]⟩, .string ⟨#[74, 79, 73, 78]⟩, .string ⟨#[75, 69, 89]⟩, .string ⟨#[76, 73, 77, 73, 84]⟩, .string ⟨#[77, 65, 88]⟩, .string ⟨#[77, 73, 78]⟩, .string ⟨#[78, 79, 84]⟩, .string ⟨#[78, 85, 76, 76]⟩, .string ⟨#[79, 78]⟩, .string ⟨#[79, 82]⟩, .string ⟨#[79, 82, 68, 69, 82]⟩, .string ⟨#[80, 82, 73, 77, 65, 82, 89]⟩, .string ⟨#[82, 69, 76, 69, 65, 83, 69]⟩, .string ⟨#[82, 79, 76, 76, 66, 65, 67, 75]⟩, .string ⟨#[83, 65, 86, 69, 80, 79, 73, 78, 84]⟩, .string ⟨#[83, 69, 76, 69, 67, 84]⟩, .string ⟨#[83, 69, 84]⟩, .string ⟨#[83, 85, 77]⟩, .string ⟨#[84, 65, 66, 76, 69]⟩, .string ⟨#[84, 69, 88, 84]⟩, .string ⟨#[84, 79]⟩, .string ⟨#[85, 78, 73, 81, 85, 69]⟩, .string ⟨#[85, 80, 68, 65, 84, 69]⟩, .string ⟨#[86, 65, 76, 85, 69, 83]⟩, .string ⟨#[87, 72, 69, 82, 69]⟩] = (wordsL.map str).toArray := by kernel_rfl
set_option maxRecDepth 100000 in
theorem refWordsW (w : World) : Calls Tryz.prog 100 #[] w fun e w' => ∃ A, e = .returned (.slice (some ⟨A, 0, none⟩) 43 43) ∧ StrsAt A wordsL w' ∧ Below w.heap.size w w' := by
  go_enter Tryz.func100, Tryz.ntmps100
  go_wp2_with fail
  go_ret
  exact ⟨_, rfl, strs_new w wordsL _ _ words_cells, (Below.refl _ _).alloc (Nat.le_refl _) _⟩
theorem refHexW (c : UInt8) (w : World) : Calls Tryz.prog 99 #[byte c] w fun e w' => e = .returned (.int .i64 (hexI c)) ∧ w = w' := by
  have hc := c.toNat_lt
  have HD := Lib.hid (fun W => refDigW c W)
  by_cases h1 : 48 ≤ c.toNat ∧ c.toNat ≤ 57
  · have HR : hexI c = ((c.toNat - 48 : Nat) : Int) := hexI_some (by unfold hexV; rw [if_pos h1])
    rw [show digB c = true from decide_eq_true h1] at HD
    have a3 : IntKind.wrap .u8 ((c.toNat : Int) - 48) = ((c.toNat - 48 : Nat) : Int) := by rw [IntKind.wrap_u8]; omega
    have A0 : Hid ((48 : Int) ≤ (c.toNat : Int)) := Lib.hid (by omega)
    rw [HR]
    clear HR h1
    go_enter Tryz.func99, Tryz.ntmps99
    go_wp2_with fail
    refine (HD.out _).mono ?_
    rintro e w1 ⟨rfl, rfl⟩
    have a1 := A0.out
    go_wp2_with fail
    go_ret
    exact ⟨rfl, rfl⟩
  · rw [show digB c = false from decide_eq_false h1] at HD
    by_cases h2 : 97 ≤ c.toNat ∧ c.toNat ≤ 102
    · have HR : hexI c = ((c.toNat - 87 : Nat) : Int) := hexI_some (by unfold hexV; rw [if_neg h1, if_pos h2])
      have a1 : (97 : Int) ≤ (c.toNat : Int) := by omega
      have a2 : (c.toNat : Int) ≤ 102 := by omega
      have a3 : IntKind.wrap .u8 ((c.toNat : Int) - 97) = ((c.toNat - 97 : Nat) : Int) := by rw [IntKind.wrap_u8]; omega
      have a4 : Hid (wrap64 (((c.toNat - 97 : Nat) : Int) + 10) = ((c.toNat - 87 : Nat) : Int)) := Lib.hid (by unfold wrap64; omega)
      have a5 : Hid (((c.toNat - 97 : Nat) : Int) + 10 = ((c.toNat - 87 : Nat) : Int)) := Lib.hid (by omega)
      rw [HR]
      clear HR h1 h2
      go_enter Tryz.func99, Tryz.ntmps99
      go_wp2_with fail
      refine (HD.out _).mono ?_
      rintro e w1 ⟨rfl, rfl⟩
      go_wp2_with fail
      refine bodyPost_ret (v := .int .i64 ((c.toNat - 87 : Nat) : Int)) (by simp [results, Tryz.results99, go_sem]; first | exact a4.out | exact a5.out) rfl ⟨rfl, rfl⟩
    · have HR : hexI c = -1 := hexI_none (by unfold hexV; rw [if_neg h1, if_neg h2])
      rw [HR]
      clear HR
      by_cases b0 : (97 : Int) ≤ (c.toNat : Int)
      · have b1 : ¬ (c.toNat : Int) ≤ 102 := by omega
        clear h1 h2
        go_enter Tryz.func99, Tryz.ntmps99
        go_wp2_with fail
        refine (HD.out _).mono ?_
        rintro e w1 ⟨rfl, rfl⟩
        go_wp2_with fail
        go_ret
        exact ⟨rfl, rfl⟩
      · clear h1 h2
        go_enter Tryz.func99, Tryz.ntmps99
        go_wp2_with fail
        refine (HD.out _).mono ?_
        rintro e w1 ⟨rfl, rfl⟩
        go_wp2_with fail
        go_ret
        exact ⟨rfl, rfl⟩

end Go.Proofs.YtjgkeillmelkoaaGreat.Dt
namespace Go.Proofs.YtjgkeillmelkoaaGreat.Dt
open Go.RowKit Go.Proofs.YtjgkeillmelkoaaGreat.By

set_option maxRecDepth 100000 in
set_option maxHeartbeats 8000000 in
theorem refSkipW (s : ByteArray) (k : Nat) (x : Int) (hx : x = (k : Int)) (w : World) (hs : s.size ≤ 1000000) (hk : k ≤ s.size) :
    Calls Tryz.prog 45 #[.string s, .int .i64 x] w fun e w' => e = .returned (.int .i64 ((k + skipL (s.data.toList.drop k) : Nat) : Int)) ∧ w = w' := by
  subst hx
  obtain ⟨R, hR⟩ : ∃ R, R = k + skipL (s.data.toList.drop k) := ⟨_, rfl⟩
  rw [← hR]
  have HR := Lib.hid hR
  have HS := Lib.hid hs
  have HK := Lib.hid hk
  clear hR hs hk
  go_enter Tryz.func45, Tryz.ntmps45
  go_wp2_with fail
  go_loopg [1] (s.size + 1 - k) (fun gk av wr => ∃ p : Nat, av = .int .i64 (p : Int) ∧ gk = s.size + 1 - p ∧ p ≤ s.size ∧ Hid (R = p + skipL (s.data.toList.drop p)) ∧ w = wr)
  case atStart => exact ⟨k, rfl, rfl, HK.out, HR, rfl⟩
  case round =>
    obtain ⟨p, rfl, rfl, hp, HT, rfl⟩ := hrel
    have HP := Lib.hid hp
    by_cases hlt : p < s.size
    · have i0 : (0 : Int) ≤ (p : Int) := by omega
      have i1 : (p : Int) < (s.size : Int) := by omega
      obtain ⟨c, hc, hdr⟩ : ∃ c, s[p] = c ∧ s.data.toList.drop p = c :: s.data.toList.drop (p + 1) := ⟨_, rfl, drop_cons s hlt⟩
      have hcn : (s[p]).toNat = c.toNat := by rw [hc]
      have HDR := Lib.hid hdr
      have HLT := Lib.hid hlt
      have HW1 := Lib.hid (wrapI ((p : Int) + 1) (by omega) (by have := HS.out; omega))
      clear hp hc hdr
      go_upto_region 3 with fail
      obtain ⟨B, hB⟩ : ∃ B, B = blankB c := ⟨_, rfl⟩
      have HBB := Lib.hid hB
      clear hB
      have hc4 := c.toNat_lt
      go_cut [10] (fun v wx => v = .bool B ∧ w = wx)
      case first =>
        by_cases h32 : c.toNat = 32
        · have e32 : ((c.toNat : Int) == 32) = true := by first | (simp; done) | (simp; omega)
          obtain rfl : B = true := by rw [HBB.out]; exact decide_eq_true (by omega)
          clear h32
          go_wp2_with fail
          go_meet
          exact ⟨rfl, rfl⟩
        · have e32 : ((c.toNat : Int) == 32) = false := by first | (simp; done) | (simp; omega)
          by_cases h9 : c.toNat = 9
          · have e9 : ((c.toNat : Int) == 9) = true := by first | (simp; done) | (simp; omega)
            obtain rfl : B = true := by rw [HBB.out]; exact decide_eq_true (by omega)
            clear h32 h9
            go_wp2_with fail
            go_meet
            exact ⟨rfl, rfl⟩
          · have e9 : ((c.toNat : Int) == 9) = false := by first | (simp; done) | (simp; omega)
            by_cases h10 : c.toNat = 10
            · have e10 : ((c.toNat : Int) == 10) = true := by first | (simp; done) | (simp; omega)
              obtain rfl : B = true := by rw [HBB.out]; exact decide_eq_true (by omega)
              clear h32 h9 h10
              go_wp2_with fail
              go_meet
              exact ⟨rfl, rfl⟩
            · have e10 : ((c.toNat : Int) == 10) = false := by first | (simp; done) | (simp; omega)
              by_cases h13 : c.toNat = 13
              · have e13 : ((c.toNat : Int) == 13) = true := by first | (simp; done) | (simp; omega)
                obtain rfl : B = true := by rw [HBB.out]; exact decide_eq_true (by omega)
                clear h32 h9 h10 h13
                go_wp2_with fail
                go_meet
                exact ⟨rfl, rfl⟩
              · have e13 : ((c.toNat : Int) == 13) = false := by first | (simp; done) | (simp; omega)
                obtain rfl : B = false := by rw [HBB.out]; exact decide_eq_false (by omega)
                clear h32 h9 h10 h13
                go_wp2_with fail
                go_meet
                exact ⟨rfl, rfl⟩
      case rest =>
        obtain ⟨rfl, rfl⟩ := hcut
        cases B with
        | true =>
          have HNX : Hid (R = p + 1 + skipL (s.data.toList.drop (p + 1))) := Lib.hid (by rw [HT.out, HDR.out, skip_blank HBB.out.symm]; omega)
          have hw1 := HW1.out
          clear hcn hc4
          go_wp2_with fail
          go_roundg (s.size + 1 - (p + 1))
          case measure => have := HLT.out; omega
          case rel => exact ⟨p + 1, by first | rfl | (simp; done) | (simp; exact HW1.out), rfl, HLT.out, HNX, rfl⟩
        | false =>
          obtain ⟨d, hd⟩ : ∃ d, d = topB (s.data.toList.drop (p + 1)) := ⟨_, rfl⟩
          have HD := Lib.hid hd
          have hw1 := HW1.out
          have HAT : Hid (∀ W, Calls Tryz.prog 48 #[.string s, .int .i64 ((p : Int) + 1)] W fun e w' => e = .returned (byte d) ∧ W = w') := Lib.hid (fun W => by rw [hd]; exact refAtW s (p + 1) W HS.out _ (by omega))
          clear hd
          by_cases hda : c = 45 ∧ d = 45
          · obtain ⟨rfl, rfl⟩ := hda
            have hdash : dashes (s.data.toList.drop p) := by
              rw [HDR.out]
              exact ⟨rfl, by rw [List.drop_succ_cons, List.drop_zero]; exact HD.out.symm⟩
            obtain ⟨q, hq⟩ : ∃ q, q = runL lineB (s.data.toList.drop p) := ⟨_, rfl⟩
            have hq2 := dashes_line hdash
            have hqs := runL_le lineB (s.data.toList.drop p)
            rw [← hq] at hq2 hqs
            rw [List.length_drop, bytes_list] at hqs
            have HNX : Hid (R = p + q + skipL (s.data.toList.drop (p + q))) := Lib.hid (by rw [HT.out, skip_line hdash, ← hq, List.drop_drop]; omega)
            have HGET : Hid (∀ j, j < q → lineB (topB (s.data.toList.drop (p + j))) = true) := Lib.hid (fun j hj => by
              have := runL_get (p := lineB) (l := s.data.toList.drop p) (j := j) (by rw [← hq]; exact hj)
              rwa [List.drop_drop] at this)
            have HEND : Hid (p + q < s.size → lineB (topB (s.data.toList.drop (p + q))) = false) := Lib.hid (fun hl2 => by
              rcases runL_drop lineB (s.data.toList.drop p) with h1 | h1
              · rw [← hq, List.drop_drop] at h1
                have := congrArg List.length h1
                rw [List.length_drop, bytes_list] at this
                simp at this; omega
              · rwa [← hq, List.drop_drop] at h1)
            have HQ2 := Lib.hid hq2
            have HQS := Lib.hid hqs
            clear hdash hq hq2 hqs
            go_wp2_with fail
            refine (HAT.out _).mono ?_
            rintro e w1 ⟨rfl, rfl⟩
            clear hw1 hcn hc4 i0 i1
            go_wp2_with fail
            go_loopg [1] q (fun gk av wr => ∃ j : Nat, av = .int .i64 ((p + j : Nat) : Int) ∧ gk = q - j ∧ j ≤ q ∧ w = wr)
            case atStart => exact ⟨0, rfl, rfl, Nat.zero_le _, rfl⟩
            case round =>
              obtain ⟨j, rfl, rfl, hj, rfl⟩ := hrel
              have i0 : (0 : Int) ≤ (p : Int) + (j : Int) := by omega
              by_cases hjq : j < q
              · have hpl : p + j < s.size := by have h1 := HQS.out; have h2 := HLT.out; omega
                have i1 : (p : Int) + (j : Int) < (s.size : Int) := by omega
                have hl := HGET.out j hjq
                rw [bytes_get s (p + j) hpl] at hl
                have h10 : (s[p + j]).toNat ≠ 10 := of_decide_eq_true hl
                have e1 : (((s[p + j]).toNat : Int) != 10) = true := by first | (simp; done) | (simp; omega)
                have HJ := Lib.hid hjq
                have hw1 := wrapI ((p : Int) + (j : Int) + 1) (by omega) (by have := HS.out; omega)
                clear hj hjq hl h10
                go_wp2_with fail
                go_roundg (q - (j + 1))
                case measure => exact Nat.sub_lt_sub_left HJ.out (Nat.lt_succ_self _)
                case rel => exact ⟨j + 1, by simp; omega, rfl, HJ.out, rfl⟩
              · obtain rfl : j = q := by omega
                clear hj hjq
                by_cases hpl : p + j < s.size
                · have i1 : (p : Int) + (j : Int) < (s.size : Int) := by omega
                  have hl := HEND.out hpl
                  rw [bytes_get s (p + j) hpl] at hl
                  have h10 : (s[p + j]).toNat = 10 := by
                    have := of_decide_eq_false hl
                    omega
                  have e1 : (((s[p + j]).toNat : Int) != 10) = false := by first | (simp; done) | (simp; omega)
                  clear hl h10
                  go_wp2_with fail
                  go_roundg (s.size + 1 - (p + j))
                  case measure => have h1 := HQ2.out; have h2 := HLT.out; omega
                  case rel => exact ⟨p + j, by first | rfl | (simp; done), rfl, by omega, HNX, rfl⟩
                · have i1 : ¬ (p : Int) + (j : Int) < (s.size : Int) := by omega
                  clear hpl
                  go_wp2_with fail
                  go_roundg (s.size + 1 - (p + j))
                  case measure => have h1 := HQ2.out; have h2 := HLT.out; omega
                  case rel => exact ⟨p + j, by first | rfl | (simp; done), rfl, by have h1 := HQS.out; have h2 := HLT.out; omega, HNX, rfl⟩
          · have HRS : Hid (R = p) := Lib.hid (by
              rw [HT.out, skip_none]
              · rfl
              · rw [HDR.out]; exact HBB.out.symm
              · rintro ⟨h1, h2⟩
                rw [HDR.out] at h1 h2
                exact hda ⟨h1, by rw [HD.out]; exact h2⟩)
            by_cases h45 : c = 45
            · subst h45
              have e2 : ((d.toNat : Int) == 45) = false := by
                have : d.toNat ≠ 45 := fun e => hda ⟨rfl, UInt8.toNat_inj.1 e⟩
                first | (simp; done) | (simp; omega)
              clear hda
              go_wp2_with fail
              refine (HAT.out _).mono ?_
              rintro e w1 ⟨rfl, rfl⟩
              go_wp2_with fail
              refine bodyPost_ret (v := .int .i64 (p : Int)) (by simp [results, Tryz.results45, go_sem]) rfl ⟨by rw [HRS.out], rfl⟩
            · have e2 : ((c.toNat : Int) == 45) = false := by
                have : c.toNat ≠ 45 := fun e => h45 (UInt8.toNat_inj.1 e)
                first | (simp; done) | (simp; omega)
              clear hda h45
              go_wp2_with fail
              refine bodyPost_ret (v := .int .i64 (p : Int)) (by simp [results, Tryz.results45, go_sem]) rfl ⟨by rw [HRS.out], rfl⟩
    · have i1 : ¬ (p : Int) < (s.size : Int) := by omega
      have HRS : Hid (R = p) := Lib.hid (by rw [HT.out, drop_end s (by omega)]; rfl)
      clear hlt hp
      go_wp2_with fail
      refine bodyPost_ret (v := .int .i64 (p : Int)) (by simp [results, Tryz.results45, go_sem]) rfl ⟨by rw [HRS.out], rfl⟩
end Go.Proofs.YtjgkeillmelkoaaGreat.Dt
namespace Go.Proofs.YtjgkeillmelkoaaGreat.Dt
open Go.RowKit Go.Proofs.YtjgkeillmelkoaaGreat.By

/-- What a method of the reference hands back: the token, the place behind it, no error; or an error and its place. -/
def refV (b : Nat) : One → Value
  | .tok k s n m => .tuple #[.agg #[.int .u8 (k : Int), .string ⟨s.toArray⟩, .int .u64 (n : Int), .int .i64 (b : Int)], .int .i64 ((b + m : Nat) : Int), .agg #[.int .i64 0, .int .i64 0]]
  | .bad e m => .tuple #[.agg #[.int .u8 0, .string ⟨#[]⟩, .int .u64 0, .int .i64 0], .int .i64 0, .agg #[.int .i64 (e : Int), .int .i64 ((b + m : Nat) : Int)]]
theorem refV_tok {b k n m : Nat} {s : List UInt8} {K N E A : Int} (hk : K = (k : Int)) (hn : N = (n : Int)) (h : E = ((b + m : Nat) : Int)) (ha : A = (b : Int)) : Ending.returned (.tuple #[.agg #[.int .u8 K, .string ⟨s.toArray⟩, .int .u64 N, .int .i64 A], .int .i64 E, .agg #[.int .i64 0, .int .i64 0]]) = .returned (refV b (.tok k s n m)) := by
  subst h ha hk hn; rfl
theorem refV_bad {b e m : Nat} {E A : Int} (he : E = (e : Int)) (h : A = ((b + m : Nat) : Int)) : Ending.returned (.tuple #[.agg #[.int .u8 0, .string ⟨#[]⟩, .int .u64 0, .int .i64 0], .int .i64 0, .agg #[.int .i64 E, .int .i64 A]]) = .returned (refV b (.bad e m)) := by
  subst h he; rfl
theorem RB.fin {w W : World} {c : Nat} (h : RB w W) (hc : c = w.heap.size + 1) : TBox w.heap.size W ∧ Box c [.int .i64 0, .int .i64 0] W ∧ w.heap.size ≠ c ∧ ¬ c = w.heap.size := by
  subst hc
  exact ⟨h.bt, h.bs, by omega, by omega⟩
/-- The boxes, and the bytes so far. -/
def TS (w : World) (v : Value) (O : List UInt8) (W : World) : Prop := RB w W ∧ OwnB W (w.heap.size + 2) 5 v O
theorem TS.later {w : World} {v : Value} {O : List UInt8} {W W' : World} (h : TS w v O W) (hb : Below W.heap.size W W') : TS w v O W' := ⟨h.1.later hb, h.2.below hb⟩
theorem TS.app {w W W' : World} {v' : Value} {O' : List UInt8} (h : RB w W) (hb : Below (w.heap.size + 2) W W') (hz : W.heap.size ≤ W'.heap.size) (ho : OwnB W' (w.heap.size + 2) 5 v' O') : TS w v' O' W' := ⟨h.app hb hz, ho⟩
set_option maxRecDepth 100000 in
set_option maxHeartbeats 16000000 in
theorem refTextW (s : ByteArray) (k : Nat) (x : Int) (hx : x = (k : Int)) (w : World) (hs : s.size ≤ 1000000) (hk : k < s.size) :
    Calls Tryz.prog 76 #[.string s, .int .i64 x] w fun e w' => e = .returned (refV k (textOne (s.data.toList.drop k))) ∧ Below w.heap.size w w' := by
  subst hx
  obtain ⟨R, hR⟩ : ∃ R, R = qscan (s.data.toList.drop (k + 1)) := ⟨_, rfl⟩
  have HONE : Hid (textOne (s.data.toList.drop k) = textR (s.size - k) R) := Lib.hid (by rw [textOne_eq, List.drop_drop, ← hR, List.length_drop, bytes_list])
  have HR0 := Lib.hid hR
  have HS := Lib.hid hs
  have HK := Lib.hid hk
  have HW1 := Lib.hid (wrapI ((k : Int) + 1) (by omega) (by omega))
  clear hs hk hR
  have HB0 := Lib.hid (rb_new w)
  go_enter Tryz.func76, Tryz.ntmps76
  go_upto_region 1 with fail
  generalize ((w.alloc (.cells #[.int .u8 0, .string ⟨#[]⟩, .int .u64 0, .int .i64 0] 114)).alloc (.cells #[.int .i64 0, .int .i64 0] 70)) = w1 at *
  obtain ⟨c, hc⟩ : ∃ c, c = w.heap.size + 1 := ⟨_, rfl⟩
  rw [← hc]
  have HC := Lib.hid hc
  clear hc
  have hw1 := HW1.out
  go_wp2_with fail
  clear hw1
  go_loopg [7, 8] (s.size + 1 - (k + 1)) (fun gk ov iv wr => ∃ (p : Nat) (O : List UInt8), iv = .int .i64 (p : Int) ∧ gk = s.size + 1 - p ∧ p ≤ s.size ∧ k + 1 ≤ p ∧ Hid (TS w ov O wr) ∧ Hid (R = (qscan (s.data.toList.drop p)).map fun x => (O ++ x.1, p - (k + 1) + x.2)) ∧ Hid (O.length ≤ p))
  case atStart => exact ⟨k + 1, [], by first | rfl | (simp; done) | (simp; exact HW1.out), rfl, HK.out, Nat.le_refl _, Lib.hid ⟨HB0.out, OwnB.nil _ _ _⟩, Lib.hid (by rw [HR0.out]; simp), Lib.hid (Nat.zero_le _)⟩
  case round =>
    obtain ⟨p, O, rfl, rfl, hp, hkp, HQ, HT, HOL⟩ := hrel
    obtain ⟨ao, co, rfl⟩ := HQ.out.2.shape
    have HP := Lib.hid hp
    have HKP := Lib.hid hkp
    by_cases hlt : p < s.size
    · have j0 : (0 : Int) ≤ (p : Int) := by omega
      have j1 : (p : Int) < (s.size : Int) := by omega
      have j2 : ¬ (s.size : Int) ≤ (p : Int) := by omega
      obtain ⟨c1, hc, hdr⟩ : ∃ c, s[p] = c ∧ s.data.toList.drop p = c :: s.data.toList.drop (p + 1) := ⟨_, rfl, drop_cons s hlt⟩
      have hcn : (s[p]).toNat = c1.toNat := by rw [hc]
      have HDR := Lib.hid hdr
      have HLT := Lib.hid hlt
      have HWP1 := Lib.hid (wrapI ((p : Int) + 1) (by omega) (by have := HS.out; omega))
      have HWP2 := Lib.hid (wrapI ((p : Int) + 1 + 1) (by omega) (by have := HS.out; omega))
      obtain ⟨d, hd⟩ : ∃ d, d = topB (s.data.toList.drop (p + 1)) := ⟨_, rfl⟩
      have HAT : Hid (∀ W, Calls Tryz.prog 48 #[.string s, .int .i64 ((p : Int) + 1)] W fun e w' => e = .returned (byte d) ∧ W = w') := Lib.hid (fun W => by rw [hd]; exact refAtW s (p + 1) W HS.out _ (by omega))
      have HD := Lib.hid hd
      clear hp hkp hdr hc hd
      by_cases h39 : c1 = 39
      · subst h39
        have hwp := HWP1.out
        by_cases h40 : d = 39
        · subst h40
          have HNX : Hid (p + 2 ≤ s.size ∧ R = (qscan (s.data.toList.drop (p + 2))).map fun x => (O ++ [39] ++ x.1, p + 2 - (k + 1) + x.2)) := Lib.hid (by
            have hlt2 : p + 1 < s.size := by
              rcases Nat.lt_or_ge (p + 1) s.size with h | h
              · exact h
              · exfalso
                have := HD.out
                rw [drop_end s h] at this
                exact absurd this (by decide)
            have h2 := drop_cons s hlt2
            have h3 : s[p + 1] = 39 := by
              have := HD.out
              rw [h2] at this
              exact this.symm
            refine ⟨hlt2, ?_⟩
            rw [HT.out, HDR.out, h2, h3, qscan_two, Option.map_map]
            congr 1
            funext x
            have := HKP.out
            simp
            omega)
          go_wp2_with fail
          refine (HAT.out _).mono ?_
          rintro e w5 ⟨rfl, rfl⟩
          have hwp2 := HWP2.out
          go_wp2_with (at_builtin; refine wpList_append_x rfl (.tmp 32) (.tmp 36) 147 rfl (w.heap.size + 2) 5 Num.elem_u8 _ O rfl (.inl (HQ.out.2.alloc _)) _ [39] rfl (reads_cells wr.heap.size [39] (fun i hi => by rcases i with _ | i; (go_simp); (simp at hi))) (by simp) (by clear hwp hwp2; have := HOL.out; have := HS.out; have := HP.out; simp; omega) (by clear hwp hwp2; have := HQ.out.1.sz; simp; omega) ?_; intro v' w9 hown hbel; have HT9 := Lib.hid (TS.app (W' := w9) HQ.out.1 (((Below.refl _ wr).alloc HQ.out.1.sz (.cells #[byte 39] 5)).trans hbel) (by clear hwp hwp2; have := hbel.size; simp at this; omega) hown); clear hown hbel)
          go_roundg (s.size + 1 - (p + 2))
          case measure => have := HLT.out; omega
          case rel => exact ⟨p + 2, _, by first | rfl | (simp; done) | (simp; omega), rfl, HNX.out.1, by have := HKP.out; omega, HT9, Lib.hid HNX.out.2, Lib.hid (by have := HOL.out; simp; omega)⟩
        · have e40 : ((d.toNat : Int) != 39) = true := by
            have : d.toNat ≠ 39 := fun e => h40 (UInt8.toNat_inj.1 e)
            first | (simp; done) | (simp; omega)
          have HRS : Hid (R = some (O, p - (k + 1) + 1)) := Lib.hid (by
            rw [HT.out, HDR.out, qscan_stop (by rw [← HD.out]; exact h40)]
            simp)
          clear h40
          go_wp2_with fail
          refine (HAT.out _).mono ?_
          rintro e w5 ⟨rfl, rfl⟩
          clear hcn j0 j1 j2 hlt
          by_cases hlong : 1000 < O.length
          · have i1 : (1000 : Int) < (O.length : Int) := by omega
            have HONE : Hid (textOne (s.data.toList.drop k) = .bad 3 0) := Lib.hid (by rw [HONE.out, HRS.out, textR_long hlong])
            clear hlong hwp
            go_wp2_with fail
            refine (refBadW 3 ((k : Int)) wr).mono ?_
            rintro e w9 ⟨rfl, hb9⟩
            have HR9 := Lib.hid ((Lib.hid HQ.out.1).out.later hb9)
            clear hb9
            obtain ⟨hbt, hbs, hbc, hcb⟩ := HR9.out.fin HC.out
            have HSIX := Lib.hid (filled6 w9 w.heap.size c hbc (.int .u8 0) (.string ⟨#[]⟩) (.int .u64 0) (.int .i64 0) (.int .i64 3) (.int .i64 ((k : Int))) hbt hbs _ rfl)
            obtain ⟨c0, c1, c2, c3, f0, f1, f2, f3⟩ := hbt
            have s0 := (hbs 0 _ rfl).1
            have s1 := (hbs 1 _ rfl).1
            have t0 := (hbs 0 _ rfl).2
            have t1 := (hbs 1 _ rfl).2
            clear hbs
            go_wp2_with fail
            obtain ⟨q0, q1, q2, q3, p0, p1⟩ := HSIX.out
            rw [HONE.out]
            refine bodyPost_ret (v := .tuple #[.agg #[.int .u8 0, .string ⟨#[]⟩, .int .u64 0, .int .i64 0], .int .i64 0, .agg #[.int .i64 3, .int .i64 ((k : Int))]]) (by simp [results, Tryz.results76, go_sem, q0, q1, q2, q3, p0, p1]) rfl ⟨refV_bad rfl (by omega), below6 HR9.out.bl (Nat.le_refl _) (by rw [HC.out]; omega)⟩
          · have i1 : ¬ (1000 : Int) < (O.length : Int) := by omega
            have HONE : Hid (textOne (s.data.toList.drop k) = .tok 4 O 0 (p - (k + 1) + 1 + 1)) := Lib.hid (by rw [HONE.out, HRS.out, textR_ok hlong])
            have hcv := convX (P := Tryz.prog) 147 5 9 Tryz.underlying147 Tryz.underlying5 Tryz.underlying9 (.inl HQ.out.2)
            have HR8 := Lib.hid HQ.out.1
            clear hlong
            obtain ⟨hbt, hbs, hbc, hcb⟩ := HR8.out.fin HC.out
            have HSIX := Lib.hid (filled6 wr w.heap.size c hbc (.int .u8 4) (.string ⟨O.toArray⟩) (.int .u64 0) (.int .i64 (k : Int)) (.int .i64 0) (.int .i64 0) hbt hbs _ rfl)
            obtain ⟨c0, c1, c2, c3, f0, f1, f2, f3⟩ := hbt
            have s0 := (hbs 0 _ rfl).1
            have s1 := (hbs 1 _ rfl).1
            have t0 := (hbs 0 _ rfl).2
            have t1 := (hbs 1 _ rfl).2
            clear hbs
            go_wp2_with fail
            obtain ⟨q0, q1, q2, q3, p0, p1⟩ := HSIX.out
            rw [HONE.out]
            refine bodyPost_ret (v := .tuple #[.agg #[.int .u8 4, .string ⟨O.toArray⟩, .int .u64 0, .int .i64 (k : Int)], .int .i64 ((p : Int) + 1), .agg #[.int .i64 0, .int .i64 0]]) (by simp [results, Tryz.results76, go_sem, q0, q1, q2, q3, p0, p1]; exact HWP1.out) rfl ⟨refV_tok rfl rfl (by have := HKP.out; omega) rfl, below6 HR8.out.bl (Nat.le_refl _) (by rw [HC.out]; omega)⟩
      · have e39 : ((c1.toNat : Int) == 39) = false := by
          have : c1.toNat ≠ 39 := fun e => h39 (UInt8.toNat_inj.1 e)
          first | (simp; done) | (simp; omega)
        have HNX : Hid (R = (qscan (s.data.toList.drop (p + 1))).map fun x => (O ++ [c1] ++ x.1, p + 1 - (k + 1) + x.2)) := Lib.hid (by
          rw [HT.out, HDR.out, qscan_other h39, Option.map_map]
          congr 1
          funext x
          have := HKP.out
          simp
          omega)
        clear h39
        have hwp := HWP1.out
        go_wp2_with (at_builtin; refine wpList_append_x rfl (.tmp 32) (.tmp 36) 147 rfl (w.heap.size + 2) 5 Num.elem_u8 _ O rfl (.inl (HQ.out.2.alloc _)) _ [c1] rfl (reads_cells wr.heap.size [c1] (fun i hi => by rcases i with _ | i; (go_simp); (simp at hi))) (by simp) (by clear hwp; have := HOL.out; have := HS.out; have := HP.out; simp; omega) (by clear hwp; have := HQ.out.1.sz; simp; omega) ?_; intro v' w9 hown hbel; have HT9 := Lib.hid (TS.app (W' := w9) HQ.out.1 (((Below.refl _ wr).alloc HQ.out.1.sz (.cells #[byte c1] 5)).trans hbel) (by clear hwp; have := hbel.size; simp at this; omega) hown); clear hown hbel)
        go_roundg (s.size + 1 - (p + 1))
        case measure => have := HLT.out; omega
        case rel => exact ⟨p + 1, _, by first | rfl | (simp; done) | (simp; exact HWP1.out), rfl, HLT.out, by have := HKP.out; omega, HT9, Lib.hid HNX.out, Lib.hid (by have := HOL.out; simp; omega)⟩
    · obtain rfl : p = s.size := by omega
      have j2 : (s.size : Int) ≤ (s.size : Int) := by omega
      have HONE : Hid (textOne (s.data.toList.drop k) = .bad 6 (s.size - k)) := Lib.hid (by
        rw [HONE.out, HT.out, drop_end s (Nat.le_refl _)]
        rfl)
      clear hlt hp hkp
      go_wp2_with fail
      refine (refBadW 6 ((s.size : Int)) wr).mono ?_
      rintro e w9 ⟨rfl, hb9⟩
      have HR9 := Lib.hid ((Lib.hid HQ.out.1).out.later hb9)
      clear hb9
      obtain ⟨hbt, hbs, hbc, hcb⟩ := HR9.out.fin HC.out
      have HSIX := Lib.hid (filled6 w9 w.heap.size c hbc (.int .u8 0) (.string ⟨#[]⟩) (.int .u64 0) (.int .i64 0) (.int .i64 6) (.int .i64 ((s.size : Int))) hbt hbs _ rfl)
      obtain ⟨c0, c1, c2, c3, f0, f1, f2, f3⟩ := hbt
      have s0 := (hbs 0 _ rfl).1
      have s1 := (hbs 1 _ rfl).1
      have t0 := (hbs 0 _ rfl).2
      have t1 := (hbs 1 _ rfl).2
      clear hbs
      go_wp2_with fail
      obtain ⟨q0, q1, q2, q3, p0, p1⟩ := HSIX.out
      rw [HONE.out]
      refine bodyPost_ret (v := .tuple #[.agg #[.int .u8 0, .string ⟨#[]⟩, .int .u64 0, .int .i64 0], .int .i64 0, .agg #[.int .i64 6, .int .i64 ((s.size : Int))]]) (by simp [results, Tryz.results76, go_sem, q0, q1, q2, q3, p0, p1]) rfl ⟨refV_bad rfl (by have := HKP.out; omega), below6 HR9.out.bl (Nat.le_refl _) (by rw [HC.out]; omega)⟩
end Go.Proofs.YtjgkeillmelkoaaGreat.Dt
namespace Go.Proofs.YtjgkeillmelkoaaGreat.Dt
open Go.RowKit Go.Proofs.YtjgkeillmelkoaaGreat.By

theorem decV_app : ∀ (l r : List UInt8) (acc : Nat), decV acc (l ++ r) = (decV acc l).bind fun n => decV n r
  | [], r, acc => rfl
  | c :: l, r, acc => by
    simp only [List.cons_append, decV]
    split
    · exact decV_app l r _
    · rfl
/-- What is too great already stays so. -/
theorem dec_over {l : List UInt8} {m j n : Nat} (hj : j ≤ m) (h : decV 0 (l.take j) = some n) (hn : 9223372036854775808 < n) : ∀ v, decV 0 (l.take m) = some v → 9223372036854775808 < v := by
  intro v hv
  have e : l.take m = l.take j ++ (l.drop j).take (m - j) := by
    rw [← List.take_add, show j + (m - j) = m by omega]
  rw [e, decV_app, h] at hv
  have := decV_le _ n v hv
  omega
theorem num_bad {l : List UInt8} (h0 : ¬ (topB l = 48 ∧ digB (topB (l.drop 1)) = true)) (h : ∀ v, decV 0 (l.take (runL digB l)) = some v → 9223372036854775808 < v) : numOne l = .bad 5 0 := by
  unfold numOne
  rw [if_neg h0]
  cases hd : decV 0 (l.take (runL digB l)) with
  | none => rfl
  | some n => simp only; rw [if_pos (h n hd)]
theorem num_good {l : List UInt8} {n : Nat} (h0 : ¬ (topB l = 48 ∧ digB (topB (l.drop 1)) = true)) (h : decV 0 (l.take (runL digB l)) = some n) (hn : n ≤ 9223372036854775808) : numOne l = .tok 3 [] n (runL digB l) := by
  unfold numOne
  rw [if_neg h0, h]
  simp only
  rw [if_neg (by omega)]
set_option maxRecDepth 100000 in
set_option maxHeartbeats 16000000 in
theorem refNumberW (s : ByteArray) (k : Nat) (x : Int) (hx : x = (k : Int)) (w : World) (hs : s.size ≤ 1000000) (hk : k < s.size) (hdg : digB (topB (s.data.toList.drop k)) = true) :
    Calls Tryz.prog 82 #[.string s, .int .i64 x] w fun e w' => e = .returned (refV k (numOne (s.data.toList.drop k))) ∧ Below w.heap.size w w' := by
  subst hx
  obtain ⟨l, hl⟩ : ∃ l, l = s.data.toList.drop k := ⟨_, rfl⟩
  obtain ⟨m, hm⟩ : ∃ m, m = runL digB l := ⟨_, rfl⟩
  have hml : k + m ≤ s.size := by
    have := runL_le digB l
    rw [← hm, hl, List.length_drop, bytes_list] at this
    omega
  obtain ⟨d, hd⟩ : ∃ d, d = topB (l.drop 1) := ⟨_, rfl⟩
  obtain ⟨c0, hc0, hdr⟩ : ∃ c, s[k] = c ∧ s.data.toList.drop k = c :: s.data.toList.drop (k + 1) := ⟨_, rfl, drop_cons s hk⟩
  have hcn : (s[k]).toNat = c0.toNat := by rw [hc0]
  have htop : topB l = c0 := by rw [hl, hdr]; rfl
  have HTOP := Lib.hid htop
  have HAT : Hid (∀ W, Calls Tryz.prog 48 #[.string s, .int .i64 ((k : Int) + 1)] W fun e w' => e = .returned (byte d) ∧ W = w') := Lib.hid (fun W => by rw [hd, hl, List.drop_drop]; exact refAtW s (k + 1) W hs _ (by omega))
  have HGET : Hid (∀ j, j < m → digB (topB (s.data.toList.drop (k + j))) = true) := Lib.hid (fun j hj => by
    have := runL_get (p := digB) (l := l) (j := j) (by rw [← hm]; exact hj)
    rwa [hl, List.drop_drop] at this)
  have HEND : Hid (digB (topB (s.data.toList.drop (k + m))) = false) := Lib.hid (by
    rcases runL_drop digB l with h1 | h1
    · rw [← hm, hl, List.drop_drop] at h1
      rw [h1]; decide
    · rwa [← hm, hl, List.drop_drop] at h1)
  have HLM : Hid (l.length = s.size - k) := Lib.hid (by rw [hl, List.length_drop, bytes_list])
  have HL := Lib.hid hl
  have HM := Lib.hid hm
  have HD := Lib.hid hd
  have HS := Lib.hid hs
  have HK := Lib.hid hk
  have HML := Lib.hid hml
  have HDG := Lib.hid (show digB c0 = true by rw [← htop, hl]; exact hdg)
  have HKI := Lib.hid (And.intro (show (0 : Int) ≤ (k : Int) by omega) (show (k : Int) < (s.size : Int) by omega))
  have HW1 := Lib.hid (wrapI ((k : Int) + 1) (by omega) (by omega))
  rw [← hl]
  have HCN := Lib.hid hcn
  clear hs hdg hdr hl hm hd htop hml hc0 hcn
  have HB0 := Lib.hid (rb_new w)
  go_enter Tryz.func82, Tryz.ntmps82
  go_upto_region 1 with fail
  generalize ((w.alloc (.cells #[.int .u8 0, .string ⟨#[]⟩, .int .u64 0, .int .i64 0] 114)).alloc (.cells #[.int .i64 0, .int .i64 0] 70)) = w1 at *
  obtain ⟨c, hc⟩ : ∃ c, c = w.heap.size + 1 := ⟨_, rfl⟩
  rw [← hc]
  have HC := Lib.hid hc
  clear hc
  obtain ⟨B, hB⟩ : ∃ B, B = decide (c0 = 48 ∧ digB d = true) := ⟨_, rfl⟩
  have HBB := Lib.hid hB
  clear hB
  go_cut [21] (fun v wx => v = .bool B ∧ w1 = wx)
  case first =>
    obtain ⟨i0, i1⟩ := HKI.out
    have hcn := HCN.out
    have hw1 := HW1.out
    by_cases h48 : c0 = 48
    · subst h48
      have HDW := Lib.hid (refDigW d)
      cases hdd : digB d with
      | true =>
        rw [hdd] at HDW
        obtain rfl : B = true := by rw [HBB.out, hdd]; rfl
        clear hdd
        go_wp2_with fail
        refine (HAT.out _).mono ?_
        rintro e w3 ⟨rfl, rfl⟩
        go_wp2_with fail
        refine (HDW.out _).mono ?_
        rintro e w4 ⟨rfl, rfl⟩
        go_wp2_with fail
        go_meet
        exact ⟨rfl, rfl⟩
      | false =>
        rw [hdd] at HDW
        obtain rfl : B = false := by rw [HBB.out, hdd]; rfl
        clear hdd
        go_wp2_with fail
        refine (HAT.out _).mono ?_
        rintro e w3 ⟨rfl, rfl⟩
        go_wp2_with fail
        refine (HDW.out _).mono ?_
        rintro e w4 ⟨rfl, rfl⟩
        go_wp2_with fail
        go_meet
        exact ⟨rfl, rfl⟩
    · have e1 : ((c0.toNat : Int) == 48) = false := by
        have : c0.toNat ≠ 48 := fun e => h48 (UInt8.toNat_inj.1 e)
        first | (simp; done) | (simp; omega)
      obtain rfl : B = false := by rw [HBB.out]; exact decide_eq_false (fun e => h48 e.1)
      clear h48
      go_wp2_with fail
      go_meet
      exact ⟨rfl, rfl⟩
  case rest =>
    obtain ⟨rfl, rfl⟩ := hcut
    cases B with
    | true =>
      have hbad : c0 = 48 ∧ digB d = true := of_decide_eq_true HBB.out.symm
      have HONE : Hid (numOne l = .bad 6 1) := Lib.hid (by unfold numOne; rw [if_pos (by rw [HTOP.out, ← HD.out]; exact hbad)])
      have hw1 := HW1.out
      clear hbad
      go_wp2_with fail
      refine (refBadW 6 ((k : Int) + 1) w1).mono ?_
      rintro e w9 ⟨rfl, hb9⟩
      have HR9 := Lib.hid (HB0.out.later hb9)
      clear hb9
      obtain ⟨hbt, hbs, hbc, hcb⟩ := HR9.out.fin HC.out
      have HSIX := Lib.hid (filled6 w9 w.heap.size c hbc (.int .u8 0) (.string ⟨#[]⟩) (.int .u64 0) (.int .i64 0) (.int .i64 6) (.int .i64 ((k : Int) + 1)) hbt hbs _ rfl)
      obtain ⟨c0, c1, c2, c3, f0, f1, f2, f3⟩ := hbt
      have s0 := (hbs 0 _ rfl).1
      have s1 := (hbs 1 _ rfl).1
      have t0 := (hbs 0 _ rfl).2
      have t1 := (hbs 1 _ rfl).2
      clear hbs
      go_wp2_with fail
      obtain ⟨q0, q1, q2, q3, p0, p1⟩ := HSIX.out
      rw [HONE.out]
      refine bodyPost_ret (v := .tuple #[.agg #[.int .u8 0, .string ⟨#[]⟩, .int .u64 0, .int .i64 0], .int .i64 0, .agg #[.int .i64 6, .int .i64 ((k : Int) + 1)]]) (by simp [results, Tryz.results82, go_sem, q0, q1, q2, q3, p0, p1]) rfl ⟨refV_bad rfl (by omega), below6 HR9.out.bl (Nat.le_refl _) (by rw [HC.out]; omega)⟩
    | false =>
      have HNB : Hid (¬ (topB l = 48 ∧ digB (topB (l.drop 1)) = true)) := Lib.hid (by rw [HTOP.out, ← HD.out]; exact of_decide_eq_false HBB.out.symm)
      go_wp2_with fail
      go_loopg [7] (m + 1) (fun gk iv wr => ∃ j : Nat, iv = .int .i64 ((k + j : Nat) : Int) ∧ gk = m + 1 - j ∧ j ≤ m ∧ w1 = wr)
      case atStart => exact ⟨0, rfl, rfl, Nat.zero_le _, rfl⟩
      case round =>
        obtain ⟨j, rfl, rfl, hj, rfl⟩ := hrel
        obtain ⟨y, hy⟩ : ∃ y, y = topB (s.data.toList.drop (k + j)) := ⟨_, rfl⟩
        have HA2 : Hid (∀ W, Calls Tryz.prog 48 #[.string s, .int .i64 ((k : Int) + (j : Int))] W fun e w' => e = .returned (byte y) ∧ W = w') := Lib.hid (fun W => by rw [hy]; exact refAtW s (k + j) W HS.out _ (by omega))
        have HDY := Lib.hid (refDigW y)
        by_cases hjm : j < m
        · have hg := HGET.out j hjm
          rw [← hy] at hg
          rw [hg] at HDY
          have HJ := Lib.hid hjm
          have hw2 := wrapI ((k : Int) + (j : Int) + 1) (by omega) (by have h1 := HS.out; have h2 := HML.out; omega)
          clear hj hjm hg hy
          go_wp2_with fail
          refine (HA2.out _).mono ?_
          rintro e w3 ⟨rfl, rfl⟩
          go_wp2_with fail
          refine (HDY.out _).mono ?_
          rintro e w4 ⟨rfl, rfl⟩
          go_wp2_with fail
          go_roundg (m + 1 - (j + 1))
          case measure => have := HJ.out; omega
          case rel => exact ⟨j + 1, by simp; omega, rfl, HJ.out, rfl⟩
        · obtain rfl : j = m := by omega
          have hg := HEND.out
          rw [← hy] at hg
          rw [hg] at HDY
          clear hj hjm hg hy
          go_wp2_with fail
          refine (HA2.out _).mono ?_
          rintro e w3 ⟨rfl, rfl⟩
          go_wp2_with fail
          refine (HDY.out _).mono ?_
          rintro e w4 ⟨rfl, rfl⟩
          go_wp2_with fail
          go_loopg [8, 9] (j + 1) (fun gk nv iv wr => ∃ q n : Nat, nv = .int .u64 (n : Int) ∧ iv = .int .i64 ((k + q : Nat) : Int) ∧ gk = j + 1 - q ∧ q ≤ j ∧ n ≤ 9223372036854775808 ∧ Hid (decV 0 (l.take q) = some n) ∧ w1 = wr)
          case atStart => exact ⟨0, 0, rfl, rfl, rfl, Nat.zero_le _, by decide, Lib.hid rfl, rfl⟩
          case round =>
            obtain ⟨q, n, rfl, rfl, rfl, hq, hn, HV, rfl⟩ := hrel
            by_cases hqj : q < j
            · have hpl : k + q < s.size := by have := HML.out; omega
              obtain ⟨c2, hc2, hdr2⟩ : ∃ c, s[k + q] = c ∧ s.data.toList.drop (k + q) = c :: s.data.toList.drop (k + q + 1) := ⟨_, rfl, drop_cons s hpl⟩
              have hcn2 : (s[k + q]).toNat = c2.toNat := by rw [hc2]
              have hdg2 := HGET.out q hqj
              rw [hdr2] at hdg2
              have hd2 : 48 ≤ c2.toNat ∧ c2.toNat ≤ 57 := of_decide_eq_true hdg2
              have htk : l.take (q + 1) = l.take q ++ [c2] := by
                have hlt : q < l.length := by have h1 := HLM.out; omega
                rw [List.take_succ_eq_append_getElem hlt]
                congr 2
                have h3 : topB (l.drop q) = c2 := by rw [HL.out, List.drop_drop, hdr2]; rfl
                rw [List.drop_eq_getElem_cons hlt] at h3
                exact h3
              have HNX : Hid (decV 0 (l.take (q + 1)) = some (10 * n + (c2.toNat - 48))) := Lib.hid (by
                rw [htk, decV_snoc, HV.out]
                show (if _ then _ else _) = _
                rw [if_pos hd2])
              have HQJ := Lib.hid hqj
              obtain ⟨x, hx⟩ : ∃ x, x = c2.toNat - 48 := ⟨_, rfl⟩
              have hx9 : x ≤ 9 := by omega
              have a3 : IntKind.wrap .u8 ((c2.toNat : Int) - 48) = (x : Int) := by rw [IntKind.wrap_u8]; omega
              have i2 : (0 : Int) ≤ (k : Int) + (q : Int) := by omega
              have i3 : (k : Int) + (q : Int) < (s.size : Int) := by omega
              have i4 : (k : Int) + (q : Int) < (k : Int) + (j : Int) := by omega
              rw [← hx] at HNX
              have HN := Lib.hid hn
              clear hn
              by_cases hov : 9223372036854775808 < 10 * n + x
              · have io : (9223372036854775808 - (x : Int)) / 10 < (n : Int) := by omega
                have HONE : Hid (numOne l = .bad 5 0) := Lib.hid (num_bad HNB.out (by
                  rw [← HM.out]
                  exact dec_over (Nat.succ_le_of_lt HQJ.out) HNX.out hov))
                clear hov htk hdr2 hc2 hdg2 hd2 hx hqj
                go_wp2_with fail
                refine (refBadW 5 ((k : Int)) w1).mono ?_
                rintro e w9 ⟨rfl, hb9⟩
                have HR9 := Lib.hid (HB0.out.later hb9)
                clear hb9
                obtain ⟨hbt, hbs, hbc, hcb⟩ := HR9.out.fin HC.out
                have HSIX := Lib.hid (filled6 w9 w.heap.size c hbc (.int .u8 0) (.string ⟨#[]⟩) (.int .u64 0) (.int .i64 0) (.int .i64 5) (.int .i64 ((k : Int))) hbt hbs _ rfl)
                obtain ⟨c0, c1, c2, c3, f0, f1, f2, f3⟩ := hbt
                have s0 := (hbs 0 _ rfl).1
                have s1 := (hbs 1 _ rfl).1
                have t0 := (hbs 0 _ rfl).2
                have t1 := (hbs 1 _ rfl).2
                clear hbs
                go_wp2_with fail
                obtain ⟨q0, q1, q2, q3, p0, p1⟩ := HSIX.out
                rw [HONE.out]
                refine bodyPost_ret (v := .tuple #[.agg #[.int .u8 0, .string ⟨#[]⟩, .int .u64 0, .int .i64 0], .int .i64 0, .agg #[.int .i64 5, .int .i64 ((k : Int))]]) (by simp [results, Tryz.results82, go_sem, q0, q1, q2, q3, p0, p1]) rfl ⟨refV_bad rfl (by omega), below6 HR9.out.bl (Nat.le_refl _) (by rw [HC.out]; omega)⟩
              · have io : ¬ (9223372036854775808 - (x : Int)) / 10 < (n : Int) := by omega
                have HN2 : Hid (10 * n + x ≤ 9223372036854775808) := Lib.hid (by omega)
                have hw3 := wrapI ((k : Int) + (q : Int) + 1) (by omega) (by have h1 := HS.out; omega)
                clear hov htk hdr2 hc2 hdg2 hd2 hx hqj
                go_wp2_with fail
                go_roundg (j + 1 - (q + 1))
                case measure => have := HQJ.out; omega
                case rel => exact ⟨q + 1, 10 * n + x, by first | rfl | (simp; done) | (push_cast; rfl), by first | rfl | (simp; done) | (simp; omega), rfl, HQJ.out, HN2.out, HNX, rfl⟩
            · obtain rfl : q = j := by omega
              have HONE : Hid (numOne l = .tok 3 [] n q) := Lib.hid (by
                have := num_good HNB.out (by rw [← HM.out]; exact HV.out) hn
                rwa [← HM.out] at this)
              have HN := Lib.hid hn
              clear hqj hn hq
              obtain ⟨hbt, hbs, hbc, hcb⟩ := HB0.out.fin HC.out
              have HSIX := Lib.hid (filled6 w1 w.heap.size c hbc (.int .u8 3) (.string ⟨#[]⟩) (.int .u64 (n : Int)) (.int .i64 (k : Int)) (.int .i64 0) (.int .i64 0) hbt hbs _ rfl)
              obtain ⟨c0, c1, c2, c3, f0, f1, f2, f3⟩ := hbt
              have s0 := (hbs 0 _ rfl).1
              have s1 := (hbs 1 _ rfl).1
              have t0 := (hbs 0 _ rfl).2
              have t1 := (hbs 1 _ rfl).2
              clear hbs
              go_wp2_with fail
              obtain ⟨q0, q1, q2, q3, p0, p1⟩ := HSIX.out
              rw [HONE.out]
              refine bodyPost_ret (v := .tuple #[.agg #[.int .u8 3, .string ⟨#[]⟩, .int .u64 (n : Int), .int .i64 (k : Int)], .int .i64 ((k : Int) + (q : Int)), .agg #[.int .i64 0, .int .i64 0]]) (by simp [results, Tryz.results82, go_sem, q0, q1, q2, q3, p0, p1]) rfl ⟨refV_tok (s := []) rfl rfl (by omega) rfl, below6 HB0.out.bl (Nat.le_refl _) (by rw [HC.out]; omega)⟩
end Go.Proofs.YtjgkeillmelkoaaGreat.Dt
