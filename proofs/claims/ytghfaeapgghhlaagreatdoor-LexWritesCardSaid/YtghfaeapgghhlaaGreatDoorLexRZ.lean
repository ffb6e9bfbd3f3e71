/-
  The walks of the reference of lex: a byte at a place, an error, one of a list, the words, a digit.
  The walks of the reference of lex: one of a list, the words, a digit, blanks and remarks.
  The walk of the reference's Skip.
  The walk of the reference's text.
  The walk of the reference's number.
  The walk of the reference's blob.
  The walk of the reference's words: a word of the language, or a name.
  The walk of the reference's One: the token that begins at a place.
-/
import Derived.Test.YtghfaeapgghhlaaGreatDoorLexWR
import Derived.Test.YtghfaeapgghhlaaGreatDoorLexToks
import Derived.Test.YtghfaeapgghhlaaGreatDoorHexI
import Derived.Test.YtghfaeapgghhlaaGreatDoorLexQ
import Derived.Test.YtghfaeapgghhlaaGreatDoorLexBlob
import Derived.Test.YtghfaeapgghhlaaGreatDoorRegions
namespace Go.Proofs.YtghfaeapgghhlaaGreatDoor.Dt
open Go.RowKit Go.Proofs.YtghfaeapgghhlaaGreatDoor.By

theorem refAtW (s : ByteArray) (i : Nat) (w : World) (_hs : s.size ≤ 1000000) (x : Int) (hx : x = (i : Int)) : Calls Tryz.prog 32 #[.string s, .int .i64 x] w fun e w' => e = .returned (byte (topB (s.data.toList.drop i))) ∧ w = w' := by
  subst hx
  by_cases h : i < s.size
  · have a1 : (i : Int) < (s.size : Int) := by omega
    have a3 : (0 : Int) ≤ (i : Int) := by omega
    rw [bytes_get s i h]

    go_enter Tryz.func32, Tryz.ntmps32
    go_wp2_with fail
    go_ret
    exact ⟨rfl, rfl⟩
  · have a1 : ¬ (i : Int) < (s.size : Int) := by omega
    rw [bytes_end s i (by omega)]
    clear h
    go_enter Tryz.func32, Tryz.ntmps32
    go_wp2_with fail
    go_ret
    exact ⟨rfl, rfl⟩
theorem filled6 (w : World) (b c : Nat) (hbc : b ≠ c) (x y z u p q : Value) (h : TBox b w) (hs : Box c [.int .i64 0, .int .i64 0] w) : ∀ W, W = ((((((w.setCell ⟨b, 0, none⟩ x).setCell ⟨b, 1, none⟩ y).setCell ⟨b, 2, none⟩ z).setCell ⟨b, 3, none⟩ u).setCell ⟨c, 0, none⟩ p).setCell ⟨c, 1, none⟩ q) →
    W.cell? ⟨b, 0, none⟩ = some x ∧ W.cell? ⟨b, 1, none⟩ = some y ∧ W.cell? ⟨b, 2, none⟩ = some z ∧ W.cell? ⟨b, 3, none⟩ = some u ∧ W.cell? ⟨c, 0, none⟩ = some p ∧ W.cell? ⟨c, 1, none⟩ = some q := by
  rintro W rfl
  obtain ⟨h0, h1, h2, h3⟩ := filled4 w b x y z u h _ rfl
  have hs' : Box c [.int .i64 0, .int .i64 0] ((((w.setCell ⟨b, 0, none⟩ x).setCell ⟨b, 1, none⟩ y).setCell ⟨b, 2, none⟩ z).setCell ⟨b, 3, none⟩ u) := (((hs.else hbc).else hbc).else hbc).else hbc
  generalize (((w.setCell ⟨b, 0, none⟩ x).setCell ⟨b, 1, none⟩ y).setCell ⟨b, 2, none⟩ z).setCell ⟨b, 3, none⟩ u = W1 at *
  obtain ⟨g0, g1⟩ := filled2 W1 c p q hs' _ rfl
  have ho : ∀ i, ((W1.setCell ⟨c, 0, none⟩ p).setCell ⟨c, 1, none⟩ q).cell? ⟨b, i, none⟩ = W1.cell? ⟨b, i, none⟩ := fun i => (set_other _ b c 1 i q (fun e => hbc e.1.symm)).trans (set_other _ b c 0 i p (fun e => hbc e.1.symm))
  exact ⟨(ho 0).trans h0, (ho 1).trans h1, (ho 2).trans h2, (ho 3).trans h3, g0, g1⟩
theorem below6 {B b c : Nat} {w0 w : World} {x y z u p q : Value} (h : Below B w0 w) (hb : B ≤ b) (hc : B ≤ c) : Below B w0 ((((((w.setCell ⟨b, 0, none⟩ x).setCell ⟨b, 1, none⟩ y).setCell ⟨b, 2, none⟩ z).setCell ⟨b, 3, none⟩ u).setCell ⟨c, 0, none⟩ p).setCell ⟨c, 1, none⟩ q) :=
  below_set (below_set (below_set (below_set (below_set (below_set h hb) hb) hb) hb) hc) hc
/-- The two boxes of the results, empty. -/
structure RB (w : World) (W : World) : Prop where
  bt : TBox w.heap.size W
  bs : Box (w.heap.size + 1) [.int .i64 0, .int .i64 0] W
  bl : Below w.heap.size w W
  sz : w.heap.size + 2 ≤ W.heap.size
theorem RB.later {w W W' : World} (h : RB w W) (hb : Below W.heap.size W W') : RB w W' := ⟨h.bt.later hb, h.bs.later hb, next h.bl hb, Nat.le_trans h.sz hb.size⟩
theorem RB.app {w W W' : World} (h : RB w W) (hb : Below (w.heap.size + 2) W W') (hz : W.heap.size ≤ W'.heap.size) : RB w W' := by
  have hc : ∀ j i, j < w.heap.size + 2 → W'.cell? ⟨j, i, none⟩ = W.cell? ⟨j, i, none⟩ := fun j i hj => hb.cell (p := ⟨j, i, none⟩) hj
  have hf : ∀ j i, j < w.heap.size + 2 → W'.frozen? ⟨j, i, none⟩ = W.frozen? ⟨j, i, none⟩ := fun j i hj => hb.frozen (p := ⟨j, i, none⟩) hj
  have h0 : w.heap.size < w.heap.size + 2 := by omega
  have h1 : w.heap.size + 1 < w.heap.size + 2 := by omega
  refine ⟨⟨(hc _ _ h0).trans h.bt.c0, (hc _ _ h0).trans h.bt.c1, (hc _ _ h0).trans h.bt.c2, (hc _ _ h0).trans h.bt.c3, (hf _ _ h0).trans h.bt.f0, (hf _ _ h0).trans h.bt.f1, (hf _ _ h0).trans h.bt.f2, (hf _ _ h0).trans h.bt.f3⟩, fun i u hu => ⟨(hc _ _ h1).trans (h.bs i u hu).1, (hf _ _ h1).trans (h.bs i u hu).2⟩, ?_, Nat.le_trans h.sz hz⟩
  exact ⟨hb.os.trans h.bl.os, hb.tape.trans h.bl.tape, hb.output.trans h.bl.output, Nat.le_trans h.bl.size hz, fun k hk => (hb.block k (by omega)).trans (h.bl.block k hk)⟩
theorem rb_new (w : World) : RB w ((w.alloc (.cells #[.int .u8 0, .string ⟨#[]⟩, .int .u64 0, .int .i64 0] 34)).alloc (.cells #[.int .i64 0, .int .i64 0] 29)) := by
  have h1 := tBox_new w 34
  have hb1 : Below w.heap.size w (w.alloc (.cells #[.int .u8 0, .string ⟨#[]⟩, .int .u64 0, .int .i64 0] 34)) := (Below.refl _ _).alloc (Nat.le_refl _) _
  have hz : (w.alloc (.cells #[.int .u8 0, .string ⟨#[]⟩, .int .u64 0, .int .i64 0] 34)).heap.size = w.heap.size + 1 := by simp
  refine ⟨h1.later ((Below.refl _ _).alloc (Nat.le_refl _) _), ?_, next hb1 ((Below.refl _ _).alloc (Nat.le_refl _) _), by simp⟩
  intro i u hu
  rcases i with _ | _ | i <;> simp at hu <;> subst hu <;> exact ⟨by go_simp, by go_simp⟩
set_option maxRecDepth 100000 in
theorem refBadW (x y : Int) (w : World) : Calls Tryz.prog 40 #[.int .i64 x, .int .i64 y] w fun e w' => e = .returned (.tuple #[.agg #[.int .u8 0, .string ⟨#[]⟩, .int .u64 0, .int .i64 0], .int .i64 0, .agg #[.int .i64 x, .int .i64 y]]) ∧ Below w.heap.size w w' := by
  have H := Lib.hid (rb_new w)
  go_enter Tryz.func40, Tryz.ntmps40
  go_upto_region 1 with fail
  generalize (w.alloc (.cells #[.int .u8 0, .string ⟨#[]⟩, .int .u64 0, .int .i64 0] 34)).alloc (.cells #[.int .i64 0, .int .i64 0] 29) = w1 at *
  obtain ⟨c, hc⟩ : ∃ c, c = w.heap.size + 1 := ⟨_, rfl⟩
  have hbs := H.out.bs
  rw [← hc] at hbs ⊢
  have hbc : w.heap.size ≠ c := by omega
  have hbl : w.heap.size ≤ c := by omega
  have HBC := Lib.hid hbc
  have HBL := Lib.hid hbl
  have HBS := Lib.hid hbs
  have HSIX := Lib.hid (filled6 w1 w.heap.size c hbc (.int .u8 0) (.string ⟨#[]⟩) (.int .u64 0) (.int .i64 0) (.int .i64 x) (.int .i64 y) H.out.bt hbs _ rfl)
  obtain ⟨c0, c1, c2, c3, f0, f1, f2, f3⟩ := H.out.bt
  have s0 := (hbs 0 _ rfl).1
  have s1 := (hbs 1 _ rfl).1
  have t0 := (hbs 0 _ rfl).2
  have t1 := (hbs 1 _ rfl).2
  have n1 : ¬ c = w.heap.size := fun e => hbc e.symm
  clear hbs hbl hc
  go_wp2_with fail
  obtain ⟨q0, q1, q2, q3, p0, p1⟩ := HSIX.out
  refine bodyPost_ret (v := .tuple #[.agg #[.int .u8 0, .string ⟨#[]⟩, .int .u64 0, .int .i64 0], .int .i64 0, .agg #[.int .i64 x, .int .i64 y]]) (by simp [results, Tryz.results40, go_sem, q0, q1, q2, q3, p0, p1]) rfl ⟨rfl, below6 H.out.bl (Nat.le_refl _) HBL.out⟩
end Go.Proofs.YtghfaeapgghhlaaGreatDoor.Dt
namespace Go.Proofs.YtghfaeapgghhlaaGreatDoor.Dt
open Go.RowKit Go.Proofs.YtghfaeapgghhlaaGreatDoor.By

set_option maxRecDepth 100000 in
theorem refInW (A : Nat) (l : List (List UInt8)) (n : Nat) (hn : l.length = n) (h64 : n ≤ 1000) (x : ByteArray) (w : World) (h : StrsAt A l w) :
    Calls Tryz.prog 39 #[.slice (some ⟨A, 0, none⟩) n n, .string x] w fun e w' => e = .returned (.bool (decide (x.data.toList ∈ l))) ∧ w = w' := by
  have HN := Lib.hid hn
  have H64 := Lib.hid h64
  have H := Lib.hid h
  clear hn h64 h
  go_enter Tryz.func39, Tryz.ntmps39
  go_wp2_with fail
  go_loopg [5] n (fun gk iv wr => ∃ i : Nat, iv = .int .i64 (i : Int) ∧ gk = n - i ∧ i ≤ n ∧ Hid (∀ y ∈ l.take i, y ≠ x.data.toList) ∧ w = wr)
  case atStart => exact ⟨0, rfl, rfl, Nat.zero_le _, Lib.hid (by simp), rfl⟩
  case round =>
    obtain ⟨i, rfl, rfl, hi, HALL, rfl⟩ := hrel
    by_cases hlt : i < n
    · have i1 : (i : Int) < (n : Int) := by omega
      obtain ⟨y, hy⟩ : ∃ y, l[i]? = some y := ⟨l[i]'(by have := HN.out; omega), by simp⟩
      have c0 := H.out i y hy
      have HY := Lib.hid hy
      have HLT := Lib.hid hlt
      have HKK : Hid (wrap64 ((i : Int) + 1) = ((i + 1 : Nat) : Int)) := Lib.hid (by have := H64.out; unfold wrap64; omega)
      clear hi hlt hy
      by_cases he : y = x.data.toList
      · have HR : Hid (x.data.toList ∈ l) := Lib.hid (by rw [← he]; exact List.mem_of_getElem? HY.out)
        have e1 : (y == x.toList) = true := by rw [ByteArray.toList_eq, he]; simp
        clear he
        go_wp2_with fail
        refine bodyPost_ret (v := .bool true) (by simp [results, Tryz.results39, go_sem]) rfl ⟨by rw [decide_eq_true HR.out], rfl⟩
      · have e1 : (y == x.toList) = false := by rw [ByteArray.toList_eq, beq_eq_false_iff_ne]; exact he
        have HA2 : Hid (∀ z ∈ l.take (i + 1), z ≠ x.data.toList) := Lib.hid (by
          intro z hz
          rw [List.take_add_one, HY.out] at hz
          rcases List.mem_append.1 hz with hz | hz
          · exact HALL.out z hz
          · simp at hz; rw [hz]; exact he)
        clear he
        go_wp2_with fail
        go_roundg (n - (i + 1))
        case measure => exact Nat.sub_lt_sub_left HLT.out (Nat.lt_succ_self _)
        case rel => exact ⟨i + 1, by first | exact congrArg (Value.int .i64) HKK.out | (simp; done) | (simp; exact HKK.out), rfl, HLT.out, HA2, rfl⟩
    · have i1 : ¬ (i : Int) < (n : Int) := by omega
      have HR : Hid (¬ x.data.toList ∈ l) := Lib.hid (fun hm => by
        have h1 := HALL.out
        rw [List.take_of_length_le (by have := HN.out; omega)] at h1
        exact h1 _ hm rfl)
      clear hlt hi
      go_wp2_with fail
      refine bodyPost_ret (v := .bool false) (by simp [results, Tryz.results39, go_sem]) rfl ⟨by rw [decide_eq_false HR.out], rfl⟩
theorem strs_new (w : World) (l : List (List UInt8)) (T : TypeId) (cs : Array Value) (h : cs = (l.map str).toArray) : StrsAt w.heap.size l (w.alloc (.cells cs T)) := by
  subst h
  exact fun j x hx => cell_new w _ _ j _ (by rw [List.getElem?_map, hx]; rfl)
set_option maxRecDepth 100000 in
theorem words_cells : #[.string ⟨#[65, 78, 68]⟩, .string ⟨#[65, 83]⟩, .string ⟨#[66, 69, 71, 73, 78]⟩, .string ⟨#[66, 76, 79, 66]⟩, .string ⟨#[66, 89]⟩, .string ⟨#[67, 79, 77, 77, 73, 84]⟩, .string ⟨#[67, 79, 85, 78, 84]⟩, .string ⟨#[67, 82, 69, 65, 84, 69]⟩, .string ⟨#[68, 69, 76, 69, 84, 69]⟩, .string ⟨#[68, 69, 83, 67]⟩, .string ⟨#[68, 82, 79, 80]⟩, .string ⟨#[70, 82, 79, 77]⟩, .string ⟨#[71, 82, 79, 85, 80]⟩, .string ⟨#[72, 65, 86, 73, 78, 71]⟩, .string ⟨#[73, 78, 68, 69, 88]⟩, .string ⟨#[73, 78, 83, 69, 82, 84]⟩, .string ⟨#[73, 78, 84, 69, 71, 69, 82]⟩, .string ⟨#[73, 78, 84, 79]⟩, .string ⟨#[73, 83]⟩, .string ⟨#[74, 79, 73, 78]⟩, .string ⟨#[75, 69, 89]⟩, .string ⟨#[76, 73, 77, 73, 84]⟩, .string ⟨#[77, 65, 88]⟩, .string ⟨#[77, 73, 78]⟩, .string ⟨#[78, 79, 84]⟩, .string ⟨#[78, 85, 76, 76]⟩, .string ⟨#[79, 78]⟩, .string ⟨#[79, 82]⟩, .string ⟨#[79, 82, 68, 69, 82]⟩, .string ⟨#[80, 82, 73, 77, 65, 82, 89]⟩, .string ⟨#[82, 69, 76, 69, 65, 83, 69]⟩, .string ⟨#[82, 79, 76, 76, 66, 65, 67, 75]⟩, .string ⟨#[83, 65, 86, 69, 80, 79, 73, 78, 84]⟩, .string ⟨#[83, 69, 76, 69, 67, 84]⟩, .string ⟨#[83, 69, 84]⟩, .string ⟨#[83, 85, 77]⟩, .string ⟨#[84, 65, 66, 76, 69]⟩, .string ⟨#[84, 69, 88, 84]⟩, .string ⟨#[84, 79]⟩, .string ⟨#[85, 78, 73, 81, 85, 69]⟩, .string ⟨#[85, 80, 68, 65, 84, 69]⟩, .string ⟨#[86, 65, 76, 85, 69, 83]⟩, .string ⟨#[87, 72, 69, 82, 69]⟩] = (wordsL.map str).toArray := by kernel_rfl
set_option maxRecDepth 100000 in
theorem refWordsW (w : World) : Calls Tryz.prog 58 #[] w fun e w' => ∃ A, e = .returned (.slice (some ⟨A, 0, none⟩) 43 43) ∧ StrsAt A wordsL w' ∧ Below w.heap.size w w' := by
  go_enter Tryz.func58, Tryz.ntmps58
  go_wp2_with fail
  go_ret
  exact ⟨_, rfl, strs_new w wordsL _ _ words_cells, (Below.refl _ _).alloc (Nat.le_refl _) _⟩
theorem refHexW (c : UInt8) (w : World) : Calls Tryz.prog 56 #[byte c] w fun e w' => e = .returned (.int .i64 (hexI c)) ∧ w = w' := by
  have hc := c.toNat_lt
  have HD := Lib.hid (fun W => refDigW c W)
  by_cases h1 : 48 ≤ c.toNat ∧ c.toNat ≤ 57
  · have HR : hexI c = ((c.toNat - 48 : Nat) : Int) := hexI_some (by unfold hexV; rw [if_pos h1])
    rw [show digB c = true from decide_eq_true h1] at HD
    have a3 : IntKind.wrap .u8 ((c.toNat : Int) - 48) = ((c.toNat - 48 : Nat) : Int) := by rw [IntKind.wrap_u8]; omega
    have A0 : Hid ((48 : Int) ≤ (c.toNat : Int)) := Lib.hid (by omega)
    rw [HR]
    clear HR h1
    go_enter Tryz.func56, Tryz.ntmps56
    go_wp2_with fail
    refine (HD.out _).mono ?_
    rintro e w1 ⟨rfl, rfl⟩
    have a1 := A0.out
    go_wp2_with fail
    go_ret
    exact ⟨rfl, rfl⟩
  · rw [show digB c = false from decide_eq_false h1] at HD
    by_cases h2 : 97 ≤ c.toNat ∧ c.toNat ≤ 102
    · have HR : hexI c = ((c.toNat - 87 : Nat) : Int) := hexI_some (by unfold hexV; rw [if_neg h1, if_pos h2])
      have a1 : (97 : Int) ≤ (c.toNat : Int) := by omega
      have a2 : (c.toNat : Int) ≤ 102 := by omega
      have a3 : IntKind.wrap .u8 ((c.toNat : Int) - 97) = ((c.toNat - 97 : Nat) : Int) := by rw [IntKind.wrap_u8]; omega
      have a4 : Hid (wrap64 (((c.toNat - 97 : Nat) : Int) + 10) = ((c.toNat - 87 : Nat) : Int)) := Lib.hid (by unfold wrap64; omega)
      have a5 : Hid (((c.toNat - 97 : Nat) : Int) + 10 = ((c.toNat - 87 : Nat) : Int)) := Lib.hid (by omega)
      rw [HR]
      clear HR h1 h2
      go_enter Tryz.func56, Tryz.ntmps56
      go_wp2_with fail
      refine (HD.out _).mono ?_
      rintro e w1 ⟨rfl, rfl⟩
      go_wp2_with fail
      refine bodyPost_ret (v := .int .i64 ((c.toNat - 87 : Nat) : Int)) (by simp [results, Tryz.results56, go_sem]; first | exact a4.out | exact a5.out) rfl ⟨rfl, rfl⟩
    · have HR : hexI c = -1 := hexI_none (by unfold hexV; rw [if_neg h1, if_neg h2])
      rw [HR]
      clear HR
      by_cases b0 : (97 : Int) ≤ (c.toNat : Int)
      · have b1 : ¬ (c.toNat : Int) ≤ 102 := by omega
        clear h1 h2
        go_enter Tryz.func56, Tryz.ntmps56
        go_wp2_with fail
        refine (HD.out _).mono ?_
        rintro e w1 ⟨rfl, rfl⟩
        go_wp2_with fail
        go_ret
        exact ⟨rfl, rfl⟩
      · clear h1 h2
        go_enter Tryz.func56, Tryz.ntmps56
        go_wp2_with fail
        refine (HD.out _).mono ?_
        rintro e w1 ⟨rfl, rfl⟩
        go_wp2_with fail
        go_ret
        exact ⟨rfl, rfl⟩

end Go.Proofs.YtghfaeapgghhlaaGreatDoor.Dt
namespace Go.Proofs.YtghfaeapgghhlaaGreatDoor.Dt
open Go.RowKit Go.Proofs.YtghfaeapgghhlaaGreatDoor.By

end Go.Proofs.YtghfaeapgghhlaaGreatDoor.Dt
namespace Go.Proofs.YtghfaeapgghhlaaGreatDoor.Dt
open Go.RowKit Go.Proofs.YtghfaeapgghhlaaGreatDoor.By

/-- What a method of the reference hands back: the token, the place behind it, no error; or an error and its place. -/
def refV (b : Nat) : One → Value
  | .tok k s n m => .tuple #[.agg #[.int .u8 (k : Int), .string ⟨s.toArray⟩, .int .u64 (n : Int), .int .i64 (b : Int)], .int .i64 ((b + m : Nat) : Int), .agg #[.int .i64 0, .int .i64 0]]
  | .bad e m => .tuple #[.agg #[.int .u8 0, .string ⟨#[]⟩, .int .u64 0, .int .i64 0], .int .i64 0, .agg #[.int .i64 (e : Int), .int .i64 ((b + m : Nat) : Int)]]
theorem refV_tok {b k n m : Nat} {s : List UInt8} {K N E A : Int} (hk : K = (k : Int)) (hn : N = (n : Int)) (h : E = ((b + m : Nat) : Int)) (ha : A = (b : Int)) : Ending.returned (.tuple #[.agg #[.int .u8 K, .string ⟨s.toArray⟩, .int .u64 N, .int .i64 A], .int .i64 E, .agg #[.int .i64 0, .int .i64 0]]) = .returned (refV b (.tok k s n m)) := by
  subst h ha hk hn; rfl
theorem refV_bad {b e m : Nat} {E A : Int} (he : E = (e : Int)) (h : A = ((b + m : Nat) : Int)) : Ending.returned (.tuple #[.agg #[.int .u8 0, .string ⟨#[]⟩, .int .u64 0, .int .i64 0], .int .i64 0, .agg #[.int .i64 E, .int .i64 A]]) = .returned (refV b (.bad e m)) := by
  subst h he; rfl
theorem RB.fin {w W : World} {c : Nat} (h : RB w W) (hc : c = w.heap.size + 1) : TBox w.heap.size W ∧ Box c [.int .i64 0, .int .i64 0] W ∧ w.heap.size ≠ c ∧ ¬ c = w.heap.size := by
  subst hc
  exact ⟨h.bt, h.bs, by omega, by omega⟩
/-- The boxes, and the bytes so far. -/
def TS (w : World) (v : Value) (O : List UInt8) (W : World) : Prop := RB w W ∧ OwnB W (w.heap.size + 2) 5 v O
theorem TS.later {w : World} {v : Value} {O : List UInt8} {W W' : World} (h : TS w v O W) (hb : Below W.heap.size W W') : TS w v O W' := ⟨h.1.later hb, h.2.below hb⟩
theorem TS.app {w W W' : World} {v' : Value} {O' : List UInt8} (h : RB w W) (hb : Below (w.heap.size + 2) W W') (hz : W.heap.size ≤ W'.heap.size) (ho : OwnB W' (w.heap.size + 2) 5 v' O') : TS w v' O' W' := ⟨h.app hb hz, ho⟩
set_option maxRecDepth 100000 in
set_option maxHeartbeats 16000000 in
theorem refTextW (s : ByteArray) (k : Nat) (x : Int) (hx : x = (k : Int)) (w : World) (hs : s.size ≤ 1000000) (hk : k < s.size) :
    Calls Tryz.prog 31 #[.string s, .int .i64 x] w fun e w' => e = .returned (refV k (textOne (s.data.toList.drop k))) ∧ Below w.heap.size w w' := by
  subst hx
  obtain ⟨R, hR⟩ : ∃ R, R = qscan (s.data.toList.drop (k + 1)) := ⟨_, rfl⟩
  have HONE : Hid (textOne (s.data.toList.drop k) = textR (s.size - k) R) := Lib.hid (by rw [textOne_eq, List.drop_drop, ← hR, List.length_drop, bytes_list])
  have HR0 := Lib.hid hR
  have HS := Lib.hid hs
  have HK := Lib.hid hk
  have HW1 := Lib.hid (wrapI ((k : Int) + 1) (by omega) (by omega))
  clear hs hk hR
  have HB0 := Lib.hid (rb_new w)
  go_enter Tryz.func31, Tryz.ntmps31
  go_upto_region 1 with fail
  generalize ((w.alloc (.cells #[.int .u8 0, .string ⟨#[]⟩, .int .u64 0, .int .i64 0] 34)).alloc (.cells #[.int .i64 0, .int .i64 0] 29)) = w1 at *
  obtain ⟨c, hc⟩ : ∃ c, c = w.heap.size + 1 := ⟨_, rfl⟩
  rw [← hc]
  have HC := Lib.hid hc
  clear hc
  have hw1 := HW1.out
  go_wp2_with fail
  clear hw1
  go_loopg [7, 8] (s.size + 1 - (k + 1)) (fun gk ov iv wr => ∃ (p : Nat) (O : List UInt8), iv = .int .i64 (p : Int) ∧ gk = s.size + 1 - p ∧ p ≤ s.size ∧ k + 1 ≤ p ∧ Hid (TS w ov O wr) ∧ Hid (R = (qscan (s.data.toList.drop p)).map fun x => (O ++ x.1, p - (k + 1) + x.2)) ∧ Hid (O.length ≤ p))
  case atStart => exact ⟨k + 1, [], by first | rfl | (simp; done) | (simp; exact HW1.out), rfl, HK.out, Nat.le_refl _, Lib.hid ⟨HB0.out, OwnB.nil _ _ _⟩, Lib.hid (by rw [HR0.out]; simp), Lib.hid (Nat.zero_le _)⟩
  case round =>
    obtain ⟨p, O, rfl, rfl, hp, hkp, HQ, HT, HOL⟩ := hrel
    obtain ⟨ao, co, rfl⟩ := HQ.out.2.shape
    have HP := Lib.hid hp
    have HKP := Lib.hid hkp
    by_cases hlt : p < s.size
    · have j0 : (0 : Int) ≤ (p : Int) := by omega
      have j1 : (p : Int) < (s.size : Int) := by omega
      have j2 : ¬ (s.size : Int) ≤ (p : Int) := by omega
      obtain ⟨c1, hc, hdr⟩ : ∃ c, s[p] = c ∧ s.data.toList.drop p = c :: s.data.toList.drop (p + 1) := ⟨_, rfl, drop_cons s hlt⟩
      have hcn : (s[p]).toNat = c1.toNat := by rw [hc]
      have HDR := Lib.hid hdr
      have HLT := Lib.hid hlt
      have HWP1 := Lib.hid (wrapI ((p : Int) + 1) (by omega) (by have := HS.out; omega))
      have HWP2 := Lib.hid (wrapI ((p : Int) + 1 + 1) (by omega) (by have := HS.out; omega))
      obtain ⟨d, hd⟩ : ∃ d, d = topB (s.data.toList.drop (p + 1)) := ⟨_, rfl⟩
      have HAT : Hid (∀ W, Calls Tryz.prog 32 #[.string s, .int .i64 ((p : Int) + 1)] W fun e w' => e = .returned (byte d) ∧ W = w') := Lib.hid (fun W => by rw [hd]; exact refAtW s (p + 1) W HS.out _ (by omega))
      have HD := Lib.hid hd
      clear hp hkp hdr hc hd
      by_cases h39 : c1 = 39
      · subst h39
        have hwp := HWP1.out
        by_cases h40 : d = 39
        · subst h40
          have HNX : Hid (p + 2 ≤ s.size ∧ R = (qscan (s.data.toList.drop (p + 2))).map fun x => (O ++ [39] ++ x.1, p + 2 - (k + 1) + x.2)) := Lib.hid (by
            have hlt2 : p + 1 < s.size := by
              rcases Nat.lt_or_ge (p + 1) s.size with h | h
              · exact h
              · exfalso
                have := HD.out
                rw [drop_end s h] at this
                exact absurd this (by decide)
            have h2 := drop_cons s hlt2
            have h3 : s[p + 1] = 39 := by
              have := HD.out
              rw [h2] at this
              exact this.symm
            refine ⟨hlt2, ?_⟩
            rw [HT.out, HDR.out, h2, h3, qscan_two, Option.map_map]
            congr 1
            funext x
            have := HKP.out
            simp
            omega)
          go_wp2_with fail
          refine (HAT.out _).mono ?_
          rintro e w5 ⟨rfl, rfl⟩
          have hwp2 := HWP2.out
          go_wp2_with (at_builtin; refine wpList_append_x rfl (.tmp 32) (.tmp 36) 48 rfl (w.heap.size + 2) 5 Num.elem_u8 _ O rfl (.inl (HQ.out.2.alloc _)) _ [39] rfl (reads_cells wr.heap.size [39] (fun i hi => by rcases i with _ | i; (go_simp); (simp at hi))) (by simp) (by clear hwp hwp2; have := HOL.out; have := HS.out; have := HP.out; simp; omega) (by clear hwp hwp2; have := HQ.out.1.sz; simp; omega) ?_; intro v' w9 hown hbel; have HT9 := Lib.hid (TS.app (W' := w9) HQ.out.1 (((Below.refl _ wr).alloc HQ.out.1.sz (.cells #[byte 39] 5)).trans hbel) (by clear hwp hwp2; have := hbel.size; simp at this; omega) hown); clear hown hbel)
          go_roundg (s.size + 1 - (p + 2))
          case measure => have := HLT.out; omega
          case rel => exact ⟨p + 2, _, by first | rfl | (simp; done) | (simp; omega), rfl, HNX.out.1, by have := HKP.out; omega, HT9, Lib.hid HNX.out.2, Lib.hid (by have := HOL.out; simp; omega)⟩
        · have e40 : ((d.toNat : Int) != 39) = true := by
            have : d.toNat ≠ 39 := fun e => h40 (UInt8.toNat_inj.1 e)
            first | (simp; done) | (simp; omega)
          have HRS : Hid (R = some (O, p - (k + 1) + 1)) := Lib.hid (by
            rw [HT.out, HDR.out, qscan_stop (by rw [← HD.out]; exact h40)]
            simp)
          clear h40
          go_wp2_with fail
          refine (HAT.out _).mono ?_
          rintro e w5 ⟨rfl, rfl⟩
          clear hcn j0 j1 j2 hlt
          by_cases hlong : 1000 < O.length
          · have i1 : (1000 : Int) < (O.length : Int) := by omega
            have HONE : Hid (textOne (s.data.toList.drop k) = .bad 3 0) := Lib.hid (by rw [HONE.out, HRS.out, textR_long hlong])
            clear hlong hwp
            go_wp2_with fail
            refine (refBadW 3 ((k : Int)) wr).mono ?_
            rintro e w9 ⟨rfl, hb9⟩
            have HR9 := Lib.hid ((Lib.hid HQ.out.1).out.later hb9)
            clear hb9
            obtain ⟨hbt, hbs, hbc, hcb⟩ := HR9.out.fin HC.out
            have HSIX := Lib.hid (filled6 w9 w.heap.size c hbc (.int .u8 0) (.string ⟨#[]⟩) (.int .u64 0) (.int .i64 0) (.int .i64 3) (.int .i64 ((k : Int))) hbt hbs _ rfl)
            obtain ⟨c0, c1, c2, c3, f0, f1, f2, f3⟩ := hbt
            have s0 := (hbs 0 _ rfl).1
            have s1 := (hbs 1 _ rfl).1
            have t0 := (hbs 0 _ rfl).2
            have t1 := (hbs 1 _ rfl).2
            clear hbs
            go_wp2_with fail
            obtain ⟨q0, q1, q2, q3, p0, p1⟩ := HSIX.out
            rw [HONE.out]
            refine bodyPost_ret (v := .tuple #[.agg #[.int .u8 0, .string ⟨#[]⟩, .int .u64 0, .int .i64 0], .int .i64 0, .agg #[.int .i64 3, .int .i64 ((k : Int))]]) (by simp [results, Tryz.results31, go_sem, q0, q1, q2, q3, p0, p1]) rfl ⟨refV_bad rfl (by omega), below6 HR9.out.bl (Nat.le_refl _) (by rw [HC.out]; omega)⟩
          · have i1 : ¬ (1000 : Int) < (O.length : Int) := by omega
            have HONE : Hid (textOne (s.data.toList.drop k) = .tok 4 O 0 (p - (k + 1) + 1 + 1)) := Lib.hid (by rw [HONE.out, HRS.out, textR_ok hlong])
            have hcv := convX (P := Tryz.prog) 48 5 9 Tryz.underlying48 Tryz.underlying5 Tryz.underlying9 (.inl HQ.out.2)
            have HR8 := Lib.hid HQ.out.1
            clear hlong
            obtain ⟨hbt, hbs, hbc, hcb⟩ := HR8.out.fin HC.out
            have HSIX := Lib.hid (filled6 wr w.heap.size c hbc (.int .u8 4) (.string ⟨O.toArray⟩) (.int .u64 0) (.int .i64 (k : Int)) (.int .i64 0) (.int .i64 0) hbt hbs _ rfl)
            obtain ⟨c0, c1, c2, c3, f0, f1, f2, f3⟩ := hbt
            have s0 := (hbs 0 _ rfl).1
            have s1 := (hbs 1 _ rfl).1
            have t0 := (hbs 0 _ rfl).2
            have t1 := (hbs 1 _ rfl).2
            clear hbs
            go_wp2_with fail
            obtain ⟨q0, q1, q2, q3, p0, p1⟩ := HSIX.out
            rw [HONE.out]
            refine bodyPost_ret (v := .tuple #[.agg #[.int .u8 4, .string ⟨O.toArray⟩, .int .u64 0, .int .i64 (k : Int)], .int .i64 ((p : Int) + 1), .agg #[.int .i64 0, .int .i64 0]]) (by simp [results, Tryz.results31, go_sem, q0, q1, q2, q3, p0, p1]; exact HWP1.out) rfl ⟨refV_tok rfl rfl (by have := HKP.out; omega) rfl, below6 HR8.out.bl (Nat.le_refl _) (by rw [HC.out]; omega)⟩
      · have e39 : ((c1.toNat : Int) == 39) = false := by
          have : c1.toNat ≠ 39 := fun e => h39 (UInt8.toNat_inj.1 e)
          first | (simp; done) | (simp; omega)
        have HNX : Hid (R = (qscan (s.data.toList.drop (p + 1))).map fun x => (O ++ [c1] ++ x.1, p + 1 - (k + 1) + x.2)) := Lib.hid (by
          rw [HT.out, HDR.out, qscan_other h39, Option.map_map]
          congr 1
          funext x
          have := HKP.out
          simp
          omega)
        clear h39
        have hwp := HWP1.out
        go_wp2_with (at_builtin; refine wpList_append_x rfl (.tmp 32) (.tmp 36) 48 rfl (w.heap.size + 2) 5 Num.elem_u8 _ O rfl (.inl (HQ.out.2.alloc _)) _ [c1] rfl (reads_cells wr.heap.size [c1] (fun i hi => by rcases i with _ | i; (go_simp); (simp at hi))) (by simp) (by clear hwp; have := HOL.out; have := HS.out; have := HP.out; simp; omega) (by clear hwp; have := HQ.out.1.sz; simp; omega) ?_; intro v' w9 hown hbel; have HT9 := Lib.hid (TS.app (W' := w9) HQ.out.1 (((Below.refl _ wr).alloc HQ.out.1.sz (.cells #[byte c1] 5)).trans hbel) (by clear hwp; have := hbel.size; simp at this; omega) hown); clear hown hbel)
        go_roundg (s.size + 1 - (p + 1))
        case measure => have := HLT.out; omega
        case rel => exact ⟨p + 1, _, by first | rfl | (simp; done) | (simp; exact HWP1.out), rfl, HLT.out, by have := HKP.out; omega, HT9, Lib.hid HNX.out, Lib.hid (by have := HOL.out; simp; omega)⟩
    · obtain rfl : p = s.size := by omega
      have j2 : (s.size : Int) ≤ (s.size : Int) := by omega
      have HONE : Hid (textOne (s.data.toList.drop k) = .bad 6 (s.size - k)) := Lib.hid (by
        rw [HONE.out, HT.out, drop_end s (Nat.le_refl _)]
        rfl)
      clear hlt hp hkp
      go_wp2_with fail
      refine (refBadW 6 ((s.size : Int)) wr).mono ?_
      rintro e w9 ⟨rfl, hb9⟩
      have HR9 := Lib.hid ((Lib.hid HQ.out.1).out.later hb9)
      clear hb9
      obtain ⟨hbt, hbs, hbc, hcb⟩ := HR9.out.fin HC.out
      have HSIX := Lib.hid (filled6 w9 w.heap.size c hbc (.int .u8 0) (.string ⟨#[]⟩) (.int .u64 0) (.int .i64 0) (.int .i64 6) (.int .i64 ((s.size : Int))) hbt hbs _ rfl)
      obtain ⟨c0, c1, c2, c3, f0, f1, f2, f3⟩ := hbt
      have s0 := (hbs 0 _ rfl).1
      have s1 := (hbs 1 _ rfl).1
      have t0 := (hbs 0 _ rfl).2
      have t1 := (hbs 1 _ rfl).2
      clear hbs
      go_wp2_with fail
      obtain ⟨q0, q1, q2, q3, p0, p1⟩ := HSIX.out
      rw [HONE.out]
      refine bodyPost_ret (v := .tuple #[.agg #[.int .u8 0, .string ⟨#[]⟩, .int .u64 0, .int .i64 0], .int .i64 0, .agg #[.int .i64 6, .int .i64 ((s.size : Int))]]) (by simp [results, Tryz.results31, go_sem, q0, q1, q2, q3, p0, p1]) rfl ⟨refV_bad rfl (by have := HKP.out; omega), below6 HR9.out.bl (Nat.le_refl _) (by rw [HC.out]; omega)⟩
end Go.Proofs.YtghfaeapgghhlaaGreatDoor.Dt
namespace Go.Proofs.YtghfaeapgghhlaaGreatDoor.Dt
open Go.RowKit Go.Proofs.YtghfaeapgghhlaaGreatDoor.By

theorem decV_app : ∀ (l r : List UInt8) (acc : Nat), decV acc (l ++ r) = (decV acc l).bind fun n => decV n r
  | [], r, acc => rfl
  | c :: l, r, acc => by
    simp only [List.cons_append, decV]
    split
    · exact decV_app l r _
    · rfl
/-- What is too great already stays so. -/
theorem dec_over {l : List UInt8} {m j n : Nat} (hj : j ≤ m) (h : decV 0 (l.take j) = some n) (hn : 9223372036854775808 < n) : ∀ v, decV 0 (l.take m) = some v → 9223372036854775808 < v := by
  intro v hv
  have e : l.take m = l.take j ++ (l.drop j).take (m - j) := by
    rw [← List.take_add, show j + (m - j) = m by omega]
  rw [e, decV_app, h] at hv
  have := decV_le _ n v hv
  omega
theorem num_bad {l : List UInt8} (h0 : ¬ (topB l = 48 ∧ digB (topB (l.drop 1)) = true)) (h : ∀ v, decV 0 (l.take (runL digB l)) = some v → 9223372036854775808 < v) : numOne l = .bad 5 0 := by
  unfold numOne
  rw [if_neg h0]
  cases hd : decV 0 (l.take (runL digB l)) with
  | none => rfl
  | some n => simp only; rw [if_pos (h n hd)]
theorem num_good {l : List UInt8} {n : Nat} (h0 : ¬ (topB l = 48 ∧ digB (topB (l.drop 1)) = true)) (h : decV 0 (l.take (runL digB l)) = some n) (hn : n ≤ 9223372036854775808) : numOne l = .tok 3 [] n (runL digB l) := by
  unfold numOne
  rw [if_neg h0, h]
  simp only
  rw [if_neg (by omega)]
set_option maxRecDepth 100000 in
set_option maxHeartbeats 16000000 in
theorem refNumberW (s : ByteArray) (k : Nat) (x : Int) (hx : x = (k : Int)) (w : World) (hs : s.size ≤ 1000000) (hk : k < s.size) (hdg : digB (topB (s.data.toList.drop k)) = true) :
    Calls Tryz.prog 38 #[.string s, .int .i64 x] w fun e w' => e = .returned (refV k (numOne (s.data.toList.drop k))) ∧ Below w.heap.size w w' := by
  subst hx
  obtain ⟨l, hl⟩ : ∃ l, l = s.data.toList.drop k := ⟨_, rfl⟩
  obtain ⟨m, hm⟩ : ∃ m, m = runL digB l := ⟨_, rfl⟩
  have hml : k + m ≤ s.size := by
    have := runL_le digB l
    rw [← hm, hl, List.length_drop, bytes_list] at this
    omega
  obtain ⟨d, hd⟩ : ∃ d, d = topB (l.drop 1) := ⟨_, rfl⟩
  obtain ⟨c0, hc0, hdr⟩ : ∃ c, s[k] = c ∧ s.data.toList.drop k = c :: s.data.toList.drop (k + 1) := ⟨_, rfl, drop_cons s hk⟩
  have hcn : (s[k]).toNat = c0.toNat := by rw [hc0]
  have htop : topB l = c0 := by rw [hl, hdr]; rfl
  have HTOP := Lib.hid htop
  have HAT : Hid (∀ W, Calls Tryz.prog 32 #[.string s, .int .i64 ((k : Int) + 1)] W fun e w' => e = .returned (byte d) ∧ W = w') := Lib.hid (fun W => by rw [hd, hl, List.drop_drop]; exact refAtW s (k + 1) W hs _ (by omega))
  have HGET : Hid (∀ j, j < m → digB (topB (s.data.toList.drop (k + j))) = true) := Lib.hid (fun j hj => by
    have := runL_get (p := digB) (l := l) (j := j) (by rw [← hm]; exact hj)
    rwa [hl, List.drop_drop] at this)
  have HEND : Hid (digB (topB (s.data.toList.drop (k + m))) = false) := Lib.hid (by
    rcases runL_drop digB l with h1 | h1
    · rw [← hm, hl, List.drop_drop] at h1
      rw [h1]; decide
    · rwa [← hm, hl, List.drop_drop] at h1)
  have HLM : Hid (l.length = s.size - k) := Lib.hid (by rw [hl, List.length_drop, bytes_list])
  have HL := Lib.hid hl
  have HM := Lib.hid hm
  have HD := Lib.hid hd
  have HS := Lib.hid hs
  have HK := Lib.hid hk
  have HML := Lib.hid hml
  have HDG := Lib.hid (show digB c0 = true by rw [← htop, hl]; exact hdg)
  have HKI := Lib.hid (And.intro (show (0 : Int) ≤ (k : Int) by omega) (show (k : Int) < (s.size : Int) by omega))
  have HW1 := Lib.hid (wrapI ((k : Int) + 1) (by omega) (by omega))
  rw [← hl]
  have HCN := Lib.hid hcn
  clear hs hdg hdr hl hm hd htop hml hc0 hcn
  have HB0 := Lib.hid (rb_new w)
  go_enter Tryz.func38, Tryz.ntmps38
  go_upto_region 1 with fail
  generalize ((w.alloc (.cells #[.int .u8 0, .string ⟨#[]⟩, .int .u64 0, .int .i64 0] 34)).alloc (.cells #[.int .i64 0, .int .i64 0] 29)) = w1 at *
  obtain ⟨c, hc⟩ : ∃ c, c = w.heap.size + 1 := ⟨_, rfl⟩
  rw [← hc]
  have HC := Lib.hid hc
  clear hc
  obtain ⟨B, hB⟩ : ∃ B, B = decide (c0 = 48 ∧ digB d = true) := ⟨_, rfl⟩
  have HBB := Lib.hid hB
  clear hB
  go_cut [21] (fun v wx => v = .bool B ∧ w1 = wx)
  case first =>
    obtain ⟨i0, i1⟩ := HKI.out
    have hcn := HCN.out
    have hw1 := HW1.out
    by_cases h48 : c0 = 48
    · subst h48
      have HDW := Lib.hid (refDigW d)
      cases hdd : digB d with
      | true =>
        rw [hdd] at HDW
        obtain rfl : B = true := by rw [HBB.out, hdd]; rfl
        clear hdd
        go_wp2_with fail
        refine (HAT.out _).mono ?_
        rintro e w3 ⟨rfl, rfl⟩
        go_wp2_with fail
        refine (HDW.out _).mono ?_
        rintro e w4 ⟨rfl, rfl⟩
        go_wp2_with fail
        go_meet
        exact ⟨rfl, rfl⟩
      | false =>
        rw [hdd] at HDW
        obtain rfl : B = false := by rw [HBB.out, hdd]; rfl
        clear hdd
        go_wp2_with fail
        refine (HAT.out _).mono ?_
        rintro e w3 ⟨rfl, rfl⟩
        go_wp2_with fail
        refine (HDW.out _).mono ?_
        rintro e w4 ⟨rfl, rfl⟩
        go_wp2_with fail
        go_meet
        exact ⟨rfl, rfl⟩
    · have e1 : ((c0.toNat : Int) == 48) = false := by
        have : c0.toNat ≠ 48 := fun e => h48 (UInt8.toNat_inj.1 e)
        first | (simp; done) | (simp; omega)
      obtain rfl : B = false := by rw [HBB.out]; exact decide_eq_false (fun e => h48 e.1)
      clear h48
      go_wp2_with fail
      go_meet
      exact ⟨rfl, rfl⟩
  case rest =>
    obtain ⟨rfl, rfl⟩ := hcut
    cases B with
    | true =>
      have hbad : c0 = 48 ∧ digB d = true := of_decide_eq_true HBB.out.symm
      have HONE : Hid (numOne l = .bad 6 1) := Lib.hid (by unfold numOne; rw [if_pos (by rw [HTOP.out, ← HD.out]; exact hbad)])
      have hw1 := HW1.out
      clear hbad
      go_wp2_with fail
      refine (refBadW 6 ((k : Int) + 1) w1).mono ?_
      rintro e w9 ⟨rfl, hb9⟩
      have HR9 := Lib.hid (HB0.out.later hb9)
      clear hb9
      obtain ⟨hbt, hbs, hbc, hcb⟩ := HR9.out.fin HC.out
      have HSIX := Lib.hid (filled6 w9 w.heap.size c hbc (.int .u8 0) (.string ⟨#[]⟩) (.int .u64 0) (.int .i64 0) (.int .i64 6) (.int .i64 ((k : Int) + 1)) hbt hbs _ rfl)
      obtain ⟨c0, c1, c2, c3, f0, f1, f2, f3⟩ := hbt
      have s0 := (hbs 0 _ rfl).1
      have s1 := (hbs 1 _ rfl).1
      have t0 := (hbs 0 _ rfl).2
      have t1 := (hbs 1 _ rfl).2
      clear hbs
      go_wp2_with fail
      obtain ⟨q0, q1, q2, q3, p0, p1⟩ := HSIX.out
      rw [HONE.out]
      refine bodyPost_ret (v := .tuple #[.agg #[.int .u8 0, .string ⟨#[]⟩, .int .u64 0, .int .i64 0], .int .i64 0, .agg #[.int .i64 6, .int .i64 ((k : Int) + 1)]]) (by simp [results, Tryz.results38, go_sem, q0, q1, q2, q3, p0, p1]) rfl ⟨refV_bad rfl (by omega), below6 HR9.out.bl (Nat.le_refl _) (by rw [HC.out]; omega)⟩
    | false =>
      have HNB : Hid (¬ (topB l = 48 ∧ digB (topB (l.drop 1)) = true)) := Lib.hid (by rw [HTOP.out, ← HD.out]; exact of_decide_eq_false HBB.out.symm)
      go_wp2_with fail
      go_loopg [7] (m + 1) (fun gk iv wr => ∃ j : Nat, iv = .int .i64 ((k + j : Nat) : Int) ∧ gk = m + 1 - j ∧ j ≤ m ∧ w1 = wr)
      case atStart => exact ⟨0, rfl, rfl, Nat.zero_le _, rfl⟩
      case round =>
        obtain ⟨j, rfl, rfl, hj, rfl⟩ := hrel
        obtain ⟨y, hy⟩ : ∃ y, y = topB (s.data.toList.drop (k + j)) := ⟨_, rfl⟩
        have HA2 : Hid (∀ W, Calls Tryz.prog 32 #[.string s, .int .i64 ((k : Int) + (j : Int))] W fun e w' => e = .returned (byte y) ∧ W = w') := Lib.hid (fun W => by rw [hy]; exact refAtW s (k + j) W HS.out _ (by omega))
        have HDY := Lib.hid (refDigW y)
        by_cases hjm : j < m
        · have hg := HGET.out j hjm
          rw [← hy] at hg
          rw [hg] at HDY
          have HJ := Lib.hid hjm
          have hw2 := wrapI ((k : Int) + (j : Int) + 1) (by omega) (by have h1 := HS.out; have h2 := HML.out; omega)
          clear hj hjm hg hy
          go_wp2_with fail
          refine (HA2.out _).mono ?_
          rintro e w3 ⟨rfl, rfl⟩
          go_wp2_with fail
          refine (HDY.out _).mono ?_
          rintro e w4 ⟨rfl, rfl⟩
          go_wp2_with fail
          go_roundg (m + 1 - (j + 1))
          case measure => have := HJ.out; omega
          case rel => exact ⟨j + 1, by simp; omega, rfl, HJ.out, rfl⟩
        · obtain rfl : j = m := by omega
          have hg := HEND.out
          rw [← hy] at hg
          rw [hg] at HDY
          clear hj hjm hg hy
          go_wp2_with fail
          refine (HA2.out _).mono ?_
          rintro e w3 ⟨rfl, rfl⟩
          go_wp2_with fail
          refine (HDY.out _).mono ?_
          rintro e w4 ⟨rfl, rfl⟩
          go_wp2_with fail
          go_loopg [8, 9] (j + 1) (fun gk nv iv wr => ∃ q n : Nat, nv = .int .u64 (n : Int) ∧ iv = .int .i64 ((k + q : Nat) : Int) ∧ gk = j + 1 - q ∧ q ≤ j ∧ n ≤ 9223372036854775808 ∧ Hid (decV 0 (l.take q) = some n) ∧ w1 = wr)
          case atStart => exact ⟨0, 0, rfl, rfl, rfl, Nat.zero_le _, by decide, Lib.hid rfl, rfl⟩
          case round =>
            obtain ⟨q, n, rfl, rfl, rfl, hq, hn, HV, rfl⟩ := hrel
            by_cases hqj : q < j
            · have hpl : k + q < s.size := by have := HML.out; omega
              obtain ⟨c2, hc2, hdr2⟩ : ∃ c, s[k + q] = c ∧ s.data.toList.drop (k + q) = c :: s.data.toList.drop (k + q + 1) := ⟨_, rfl, drop_cons s hpl⟩
              have hcn2 : (s[k + q]).toNat = c2.toNat := by rw [hc2]
              have hdg2 := HGET.out q hqj
              rw [hdr2] at hdg2
              have hd2 : 48 ≤ c2.toNat ∧ c2.toNat ≤ 57 := of_decide_eq_true hdg2
              have htk : l.take (q + 1) = l.take q ++ [c2] := by
                have hlt : q < l.length := by have h1 := HLM.out; omega
                rw [List.take_succ_eq_append_getElem hlt]
                congr 2
                have h3 : topB (l.drop q) = c2 := by rw [HL.out, List.drop_drop, hdr2]; rfl
                rw [List.drop_eq_getElem_cons hlt] at h3
                exact h3
              have HNX : Hid (decV 0 (l.take (q + 1)) = some (10 * n + (c2.toNat - 48))) := Lib.hid (by
                rw [htk, decV_snoc, HV.out]
                show (if _ then _ else _) = _
                rw [if_pos hd2])
              have HQJ := Lib.hid hqj
              obtain ⟨x, hx⟩ : ∃ x, x = c2.toNat - 48 := ⟨_, rfl⟩
              have hx9 : x ≤ 9 := by omega
              have a3 : IntKind.wrap .u8 ((c2.toNat : Int) - 48) = (x : Int) := by rw [IntKind.wrap_u8]; omega
              have i2 : (0 : Int) ≤ (k : Int) + (q : Int) := by omega
              have i3 : (k : Int) + (q : Int) < (s.size : Int) := by omega
              have i4 : (k : Int) + (q : Int) < (k : Int) + (j : Int) := by omega
              rw [← hx] at HNX
              have HN := Lib.hid hn
              clear hn
              by_cases hov : 9223372036854775808 < 10 * n + x
              · have io : (9223372036854775808 - (x : Int)) / 10 < (n : Int) := by omega
                have HONE : Hid (numOne l = .bad 5 0) := Lib.hid (num_bad HNB.out (by
                  rw [← HM.out]
                  exact dec_over (Nat.succ_le_of_lt HQJ.out) HNX.out hov))
                clear hov htk hdr2 hc2 hdg2 hd2 hx hqj
                go_wp2_with fail
                refine (refBadW 5 ((k : Int)) w1).mono ?_
                rintro e w9 ⟨rfl, hb9⟩
                have HR9 := Lib.hid (HB0.out.later hb9)
                clear hb9
                obtain ⟨hbt, hbs, hbc, hcb⟩ := HR9.out.fin HC.out
                have HSIX := Lib.hid (filled6 w9 w.heap.size c hbc (.int .u8 0) (.string ⟨#[]⟩) (.int .u64 0) (.int .i64 0) (.int .i64 5) (.int .i64 ((k : Int))) hbt hbs _ rfl)
                obtain ⟨c0, c1, c2, c3, f0, f1, f2, f3⟩ := hbt
                have s0 := (hbs 0 _ rfl).1
                have s1 := (hbs 1 _ rfl).1
                have t0 := (hbs 0 _ rfl).2
                have t1 := (hbs 1 _ rfl).2
                clear hbs
                go_wp2_with fail
                obtain ⟨q0, q1, q2, q3, p0, p1⟩ := HSIX.out
                rw [HONE.out]
                refine bodyPost_ret (v := .tuple #[.agg #[.int .u8 0, .string ⟨#[]⟩, .int .u64 0, .int .i64 0], .int .i64 0, .agg #[.int .i64 5, .int .i64 ((k : Int))]]) (by simp [results, Tryz.results38, go_sem, q0, q1, q2, q3, p0, p1]) rfl ⟨refV_bad rfl (by omega), below6 HR9.out.bl (Nat.le_refl _) (by rw [HC.out]; omega)⟩
              · have io : ¬ (9223372036854775808 - (x : Int)) / 10 < (n : Int) := by omega
                have HN2 : Hid (10 * n + x ≤ 9223372036854775808) := Lib.hid (by omega)
                have hw3 := wrapI ((k : Int) + (q : Int) + 1) (by omega) (by have h1 := HS.out; omega)
                clear hov htk hdr2 hc2 hdg2 hd2 hx hqj
                go_wp2_with fail
                go_roundg (j + 1 - (q + 1))
                case measure => have := HQJ.out; omega
                case rel => exact ⟨q + 1, 10 * n + x, by first | rfl | (simp; done) | (push_cast; rfl), by first | rfl | (simp; done) | (simp; omega), rfl, HQJ.out, HN2.out, HNX, rfl⟩
            · obtain rfl : q = j := by omega
              have HONE : Hid (numOne l = .tok 3 [] n q) := Lib.hid (by
                have := num_good HNB.out (by rw [← HM.out]; exact HV.out) hn
                rwa [← HM.out] at this)
              have HN := Lib.hid hn
              clear hqj hn hq
              obtain ⟨hbt, hbs, hbc, hcb⟩ := HB0.out.fin HC.out
              have HSIX := Lib.hid (filled6 w1 w.heap.size c hbc (.int .u8 3) (.string ⟨#[]⟩) (.int .u64 (n : Int)) (.int .i64 (k : Int)) (.int .i64 0) (.int .i64 0) hbt hbs _ rfl)
              obtain ⟨c0, c1, c2, c3, f0, f1, f2, f3⟩ := hbt
              have s0 := (hbs 0 _ rfl).1
              have s1 := (hbs 1 _ rfl).1
              have t0 := (hbs 0 _ rfl).2
              have t1 := (hbs 1 _ rfl).2
              clear hbs
              go_wp2_with fail
              obtain ⟨q0, q1, q2, q3, p0, p1⟩ := HSIX.out
              rw [HONE.out]
              refine bodyPost_ret (v := .tuple #[.agg #[.int .u8 3, .string ⟨#[]⟩, .int .u64 (n : Int), .int .i64 (k : Int)], .int .i64 ((k : Int) + (q : Int)), .agg #[.int .i64 0, .int .i64 0]]) (by simp [results, Tryz.results38, go_sem, q0, q1, q2, q3, p0, p1]) rfl ⟨refV_tok (s := []) rfl rfl (by omega) rfl, below6 HB0.out.bl (Nat.le_refl _) (by rw [HC.out]; omega)⟩
end Go.Proofs.YtghfaeapgghhlaaGreatDoor.Dt
namespace Go.Proofs.YtghfaeapgghhlaaGreatDoor.Dt
open Go.RowKit Go.Proofs.YtghfaeapgghhlaaGreatDoor.By

def RBlobKn (ao : Option Addr) (O : List UInt8) (co : Nat) (s : ByteArray) (p : Nat) (c1 : UInt8) (d : UInt8) (x : UInt8) (a : Nat) (y : Nat) : Nat → Value → World → Prop
  | 0, v, _ => v = .slice ao O.length co
  | 1, v, _ => v = .string s
  | 2, v, _ => v = .int .i64 (p : Int)
  | 3, v, _ => v = .int .u8 (c1.toNat : Int)
  | 4, v, _ => v = .int .i64 (a : Int)
  | 5, v, _ => v = .int .i64 (16 * (a : Int))
  | 6, v, _ => v = .string s
  | 7, v, _ => v = .int .i64 (p : Int)
  | 8, v, _ => v = .int .i64 ((p : Int) + 1)
  | 9, v, _ => v = .int .u8 (d.toNat : Int)
  | 10, v, _ => v = .int .i64 (y : Int)
  | 11, v, _ => v = .int .i64 (x.toNat : Int)
  | 12, v, _ => v = byte x
  | 13, v, w => ∃ b, v = .slice (some ⟨b, 0, none⟩) 1 1 ∧ w.cell? ⟨b, 0, none⟩ = some (byte x)
  | _, _, _ => True
theorem RBlobKn.later {ao : Option Addr} {O : List UInt8} {co : Nat} {s : ByteArray} {p : Nat} {c1 : UInt8} {d : UInt8} {x : UInt8} {a : Nat} {y : Nat} : ∀ (j : Nat) (v : Value) (w1 w2 : World), RBlobKn ao O co s p c1 d x a y j v w1 → Below w1.heap.size w1 w2 → RBlobKn ao O co s p c1 d x a y j v w2
  | 0, _, _, _, h, _ => h
  | 1, _, _, _, h, _ => h
  | 2, _, _, _, h, _ => h
  | 3, _, _, _, h, _ => h
  | 4, _, _, _, h, _ => h
  | 5, _, _, _, h, _ => h
  | 6, _, _, _, h, _ => h
  | 7, _, _, _, h, _ => h
  | 8, _, _, _, h, _ => h
  | 9, _, _, _, h, _ => h
  | 10, _, _, _, h, _ => h
  | 11, _, _, _, h, _ => h
  | 12, _, _, _, h, _ => h
  | 13, _, _, _, ⟨b, h0, c0⟩, hb => ⟨b, h0, (hb.cell (cell_lt c0)).trans c0⟩
  | _ + 14, _, _, _, h, _ => h

set_option maxRecDepth 100000 in
set_option maxHeartbeats 16000000 in
theorem refBlobW (s : ByteArray) (k : Nat) (x : Int) (hx : x = (k : Int)) (w : World) (hs : s.size ≤ 1000000) (hk : k + 2 ≤ s.size) :
    Calls Tryz.prog 33 #[.string s, .int .i64 x] w fun e w' => e = .returned (refV k (blobOne (s.data.toList.drop k))) ∧ Below w.heap.size w w' := by
  subst hx
  obtain ⟨R, hR⟩ : ∃ R, R = bscan (s.data.toList.drop (k + 2)) := ⟨_, rfl⟩
  have HONE : Hid (blobOne (s.data.toList.drop k) = blobR R) := Lib.hid (by rw [blobOne_eq, List.drop_drop, ← hR])
  have HR0 := Lib.hid hR
  have HS := Lib.hid hs
  have HK := Lib.hid hk
  have HW1 := Lib.hid (wrapI ((k : Int) + 2) (by omega) (by omega))
  clear hs hk hR
  have HB0 := Lib.hid (rb_new w)
  go_enter Tryz.func33, Tryz.ntmps33
  go_upto_region 1 with fail
  generalize ((w.alloc (.cells #[.int .u8 0, .string ⟨#[]⟩, .int .u64 0, .int .i64 0] 34)).alloc (.cells #[.int .i64 0, .int .i64 0] 29)) = w1 at *
  obtain ⟨c, hc⟩ : ∃ c, c = w.heap.size + 1 := ⟨_, rfl⟩
  rw [← hc]
  have HC := Lib.hid hc
  clear hc
  have hw1 := HW1.out
  go_wp2_with fail
  clear hw1
  go_loopg [7, 8] (s.size + 1 - (k + 2)) (fun gk ov iv wr => ∃ (p : Nat) (O : List UInt8), iv = .int .i64 (p : Int) ∧ gk = s.size + 1 - p ∧ p ≤ s.size ∧ k + 2 ≤ p ∧ Hid (TS w ov O wr) ∧ Hid (R = bsh O (p - (k + 2)) (bscan (s.data.toList.drop p))) ∧ Hid (O.length ≤ p))
  case atStart => exact ⟨k + 2, [], by first | rfl | (simp; done) | (simp; exact HW1.out), rfl, HK.out, Nat.le_refl _, Lib.hid ⟨HB0.out, OwnB.nil _ _ _⟩, Lib.hid (by rw [HR0.out]; cases bscan (s.data.toList.drop (k + 2)) <;> simp [bsh]), Lib.hid (Nat.zero_le _)⟩
  case round =>
    obtain ⟨p, O, rfl, rfl, hp, hkp, HQ, HT, HOL⟩ := hrel
    obtain ⟨ao, co, rfl⟩ := HQ.out.2.shape
    have HP := Lib.hid hp
    have HKP := Lib.hid hkp
    obtain ⟨c1, hc1⟩ : ∃ c, c = topB (s.data.toList.drop p) := ⟨_, rfl⟩
    have HA0 : Hid (∀ W, Calls Tryz.prog 32 #[.string s, .int .i64 (p : Int)] W fun e w' => e = .returned (byte c1) ∧ W = w') := Lib.hid (fun W => by rw [hc1]; exact refAtW s p W HS.out _ rfl)
    have HC1 := Lib.hid hc1
    clear hc1
    by_cases hlt : p < s.size
    · have j0 : (0 : Int) ≤ (p : Int) := by omega
      have j1 : (p : Int) < (s.size : Int) := by omega
      have j2 : ¬ (s.size : Int) ≤ (p : Int) := by omega
      obtain ⟨c2, hc, hdr⟩ : ∃ c, s[p] = c ∧ s.data.toList.drop p = c :: s.data.toList.drop (p + 1) := ⟨_, rfl, drop_cons s hlt⟩
      have hcn : (s[p]).toNat = c2.toNat := by rw [hc]
      obtain rfl : c1 = c2 := by rw [HC1.out, hdr]; rfl
      have jn : decide (s.size ≤ p) = false := decide_eq_false (by omega)
      have HDR := Lib.hid hdr
      have HLT := Lib.hid hlt
      have HWP1 := Lib.hid (wrapI ((p : Int) + 1) (by omega) (by have := HS.out; omega))
      have HWP2 := Lib.hid (wrapI ((p : Int) + 2) (by omega) (by have := HS.out; omega))
      obtain ⟨d, hd⟩ : ∃ d, d = topB (s.data.toList.drop (p + 1)) := ⟨_, rfl⟩
      have HAT : Hid (∀ W, Calls Tryz.prog 32 #[.string s, .int .i64 ((p : Int) + 1)] W fun e w' => e = .returned (byte d) ∧ W = w') := Lib.hid (fun W => by rw [hd]; exact refAtW s (p + 1) W HS.out _ (by omega))
      have HD := Lib.hid hd
      have HX1 := Lib.hid (fun W => refHexW c1 W)
      have HX2 := Lib.hid (fun W => refHexW d W)
      have HCN := Lib.hid hcn
      clear hp hkp hdr hd hc
      by_cases h39 : c1 = 39
      · subst h39
        have HRS : Hid (R = .inr (O, p - (k + 2) + 1)) := Lib.hid (by
          rw [HT.out, HDR.out, bscan_quote]
          simp [bsh])
        clear HX1 hcn
        go_wp2_with fail
        refine (HA0.out _).mono ?_
        rintro e w5 ⟨rfl, rfl⟩
        by_cases hlong : 1000 < O.length
        · have i1 : (1000 : Int) < (O.length : Int) := by omega
          have HONE : Hid (blobOne (s.data.toList.drop k) = .bad 3 0) := Lib.hid (by rw [HONE.out, HRS.out, blobR_long hlong])
          clear hlong
          go_wp2_with fail
          refine (refBadW 3 ((k : Int)) wr).mono ?_
          rintro e w9 ⟨rfl, hb9⟩
          have HR9 := Lib.hid ((Lib.hid HQ.out.1).out.later hb9)
          clear hb9
          obtain ⟨hbt, hbs, hbc, hcb⟩ := HR9.out.fin HC.out
          have HSIX := Lib.hid (filled6 w9 w.heap.size c hbc (.int .u8 0) (.string ⟨#[]⟩) (.int .u64 0) (.int .i64 0) (.int .i64 3) (.int .i64 ((k : Int))) hbt hbs _ rfl)
          obtain ⟨c0, c1, c2, c3, f0, f1, f2, f3⟩ := hbt
          have s0 := (hbs 0 _ rfl).1
          have s1 := (hbs 1 _ rfl).1
          have t0 := (hbs 0 _ rfl).2
          have t1 := (hbs 1 _ rfl).2
          clear hbs
          go_wp2_with fail
          obtain ⟨q0, q1, q2, q3, p0, p1⟩ := HSIX.out
          rw [HONE.out]
          refine bodyPost_ret (v := .tuple #[.agg #[.int .u8 0, .string ⟨#[]⟩, .int .u64 0, .int .i64 0], .int .i64 0, .agg #[.int .i64 3, .int .i64 ((k : Int))]]) (by simp [results, Tryz.results33, go_sem, q0, q1, q2, q3, p0, p1]) rfl ⟨refV_bad rfl (by omega), below6 HR9.out.bl (Nat.le_refl _) (by rw [HC.out]; omega)⟩
        · have i1 : ¬ (1000 : Int) < (O.length : Int) := by omega
          have HONE : Hid (blobOne (s.data.toList.drop k) = .tok 5 O 0 (p - (k + 2) + 1 + 2)) := Lib.hid (by rw [HONE.out, HRS.out, blobR_ok hlong])
          have hcv := convX (P := Tryz.prog) 48 5 9 Tryz.underlying48 Tryz.underlying5 Tryz.underlying9 (.inl HQ.out.2)
          have HR8 := Lib.hid HQ.out.1
          clear hlong
          obtain ⟨hbt, hbs, hbc, hcb⟩ := HR8.out.fin HC.out
          have HSIX := Lib.hid (filled6 wr w.heap.size c hbc (.int .u8 5) (.string ⟨O.toArray⟩) (.int .u64 0) (.int .i64 (k : Int)) (.int .i64 0) (.int .i64 0) hbt hbs _ rfl)
          obtain ⟨c0, c1, c2, c3, f0, f1, f2, f3⟩ := hbt
          have s0 := (hbs 0 _ rfl).1
          have s1 := (hbs 1 _ rfl).1
          have t0 := (hbs 0 _ rfl).2
          have t1 := (hbs 1 _ rfl).2
          clear hbs
          go_wp2_with fail
          obtain ⟨q0, q1, q2, q3, p0, p1⟩ := HSIX.out
          rw [HONE.out]
          refine bodyPost_ret (v := .tuple #[.agg #[.int .u8 5, .string ⟨O.toArray⟩, .int .u64 0, .int .i64 (k : Int)], .int .i64 ((p : Int) + 1), .agg #[.int .i64 0, .int .i64 0]]) (by simp [results, Tryz.results33, go_sem, q0, q1, q2, q3, p0, p1]; exact HWP1.out) rfl ⟨refV_tok rfl rfl (by have := HKP.out; omega) rfl, below6 HR8.out.bl (Nat.le_refl _) (by rw [HC.out]; omega)⟩
      · have e40 : ((c1.toNat : Int) != 39) = true := by
          have : c1.toNat ≠ 39 := fun e => h39 (UInt8.toNat_inj.1 e)
          first | (simp; done) | (simp; omega)
        have H39 := Lib.hid h39
        clear h39
        cases hqc : hexV c1 with
        | none =>
          rw [hexI_none hqc] at HX1
          have HONE : Hid (blobOne (s.data.toList.drop k) = .bad 6 (p - (k + 2) + 2)) := Lib.hid (by
            rw [HONE.out, HT.out, HDR.out, bscan_none H39.out hqc]
            rfl)
          clear hqc
          go_wp2_with fail
          refine (HA0.out _).mono ?_
          rintro e w5 ⟨rfl, rfl⟩
          go_wp2_with fail
          refine (HX1.out _).mono ?_
          rintro e w5 ⟨rfl, rfl⟩
          skip
          go_wp2_with fail
          refine (refBadW 6 ((p : Int)) wr).mono ?_
          rintro e w9 ⟨rfl, hb9⟩
          have HR9 := Lib.hid ((Lib.hid HQ.out.1).out.later hb9)
          clear hb9
          obtain ⟨hbt, hbs, hbc, hcb⟩ := HR9.out.fin HC.out
          have HSIX := Lib.hid (filled6 w9 w.heap.size c hbc (.int .u8 0) (.string ⟨#[]⟩) (.int .u64 0) (.int .i64 0) (.int .i64 6) (.int .i64 ((p : Int))) hbt hbs _ rfl)
          obtain ⟨c0, c1, c2, c3, f0, f1, f2, f3⟩ := hbt
          have s0 := (hbs 0 _ rfl).1
          have s1 := (hbs 1 _ rfl).1
          have t0 := (hbs 0 _ rfl).2
          have t1 := (hbs 1 _ rfl).2
          clear hbs
          go_wp2_with fail
          obtain ⟨q0, q1, q2, q3, p0, p1⟩ := HSIX.out
          rw [HONE.out]
          refine bodyPost_ret (v := .tuple #[.agg #[.int .u8 0, .string ⟨#[]⟩, .int .u64 0, .int .i64 0], .int .i64 0, .agg #[.int .i64 6, .int .i64 ((p : Int))]]) (by simp [results, Tryz.results33, go_sem, q0, q1, q2, q3, p0, p1]) rfl ⟨refV_bad rfl (by have := HKP.out; omega), below6 HR9.out.bl (Nat.le_refl _) (by rw [HC.out]; omega)⟩
        | some a =>
          rw [hexI_some hqc] at HX1
          have hpa : ¬ (a : Int) < 0 := by omega
          cases hqd : hexV d with
          | none =>
            rw [hexI_none hqd] at HX2
            have HONE : Hid (blobOne (s.data.toList.drop k) = .bad 6 (p - (k + 2) + 1 + 2)) := Lib.hid (by
              rw [HONE.out, HT.out, HDR.out, bscan_half H39.out hqc (by rw [← HD.out]; exact hqd)]
              rfl)
            clear hqc hqd
            have hwp := HWP1.out
            go_wp2_with fail
            refine (HA0.out _).mono ?_
            rintro e w5 ⟨rfl, rfl⟩
            go_wp2_with fail
            refine (HX1.out _).mono ?_
            rintro e w5 ⟨rfl, rfl⟩
            go_wp2_with fail
            refine (HAT.out _).mono ?_
            rintro e w5 ⟨rfl, rfl⟩
            go_wp2_with fail
            refine (HX2.out _).mono ?_
            rintro e w5 ⟨rfl, rfl⟩
            clear hpa
            go_wp2_with fail
            refine (refBadW 6 ((p : Int) + 1) wr).mono ?_
            rintro e w9 ⟨rfl, hb9⟩
            have HR9 := Lib.hid ((Lib.hid HQ.out.1).out.later hb9)
            clear hb9
            obtain ⟨hbt, hbs, hbc, hcb⟩ := HR9.out.fin HC.out
            have HSIX := Lib.hid (filled6 w9 w.heap.size c hbc (.int .u8 0) (.string ⟨#[]⟩) (.int .u64 0) (.int .i64 0) (.int .i64 6) (.int .i64 ((p : Int) + 1)) hbt hbs _ rfl)
            obtain ⟨c0, c1, c2, c3, f0, f1, f2, f3⟩ := hbt
            have s0 := (hbs 0 _ rfl).1
            have s1 := (hbs 1 _ rfl).1
            have t0 := (hbs 0 _ rfl).2
            have t1 := (hbs 1 _ rfl).2
            clear hbs
            go_wp2_with fail
            obtain ⟨q0, q1, q2, q3, p0, p1⟩ := HSIX.out
            rw [HONE.out]
            refine bodyPost_ret (v := .tuple #[.agg #[.int .u8 0, .string ⟨#[]⟩, .int .u64 0, .int .i64 0], .int .i64 0, .agg #[.int .i64 6, .int .i64 ((p : Int) + 1)]]) (by simp [results, Tryz.results33, go_sem, q0, q1, q2, q3, p0, p1]) rfl ⟨refV_bad rfl (by have := HKP.out; omega), below6 HR9.out.bl (Nat.le_refl _) (by rw [HC.out]; omega)⟩
          | some y =>
            rw [hexI_some hqd] at HX2
            have ha := (hexC_hexV hqc).2
            have hy := (hexC_hexV hqd).2
            have hlt2 : p + 1 < s.size := by
              rcases Nat.lt_or_ge (p + 1) s.size with h | h
              · exact h
              · exfalso
                have h1 := HD.out
                rw [drop_end s h] at h1
                rw [h1] at hqd
                exact absurd hqd (by rw [show topB [] = 0 from rfl, hex_zero]; simp)
            have h2 := drop_cons s hlt2
            have h3 : s[p + 1] = d := by
              have h1 := HD.out
              rw [h2] at h1
              exact h1.symm
            have HNX : Hid (p + 2 ≤ s.size ∧ R = bsh (O ++ [UInt8.ofNat (16 * a + y)]) (p + 2 - (k + 2)) (bscan (s.data.toList.drop (p + 2)))) := Lib.hid (by
              refine ⟨hlt2, ?_⟩
              rw [HT.out, HDR.out, h2, h3, bscan_pair H39.out hqc hqd]
              have := HKP.out
              rw [show p - (k + 2) + 2 = p + 2 - (k + 2) by omega])
            have hp2 : ¬ (y : Int) < 0 := by omega
            obtain ⟨x, hx⟩ : ∃ x : UInt8, x = UInt8.ofNat (16 * a + y) := ⟨_, rfl⟩
            have hxn : x.toNat = 16 * a + y := by rw [hx, UInt8.toNat_ofNat', Nat.mod_eq_of_lt (by omega)]
            have HDN : (s[p + 1]).toNat = d.toNat := by rw [h3]
            have HM1 : IntKind.i64.wrap (16 * (a : Int)) = 16 * (a : Int) := wrapK _ (by omega) (by omega)
            have HM2 : IntKind.i64.wrap (16 * (a : Int) + (y : Int)) = (x.toNat : Int) := by rw [wrapK _ (by omega) (by omega), hxn]; omega
            have HM3 : IntKind.u8.wrap (x.toNat : Int) = (x.toNat : Int) := by have := x.toNat_lt; rw [IntKind.wrap_u8]; omega
            have HWP : IntKind.i64.wrap ((p : Int) + 1) = (p : Int) + 1 := wrapK _ (by omega) (by have := HS.out; omega)
            rw [← hx] at HNX
            have HXX1 := HX1.out
            have HXX2 := HX2.out
            have k1 : (0 : Int) ≤ (p : Int) + 1 := by omega
            have k2 : (p : Int) + 1 < (s.size : Int) := by omega
            clear hqc hqd ha hy hx hxn h2 h3
            have hwp := HWP1.out
            go_wp2_with fail
            refine (HA0.out _).mono ?_
            rintro e w5 ⟨rfl, rfl⟩
            go_wp2_with fail
            refine (HX1.out _).mono ?_
            rintro e w5 ⟨rfl, rfl⟩
            go_wp2_with fail
            refine (HAT.out _).mono ?_
            rintro e w5 ⟨rfl, rfl⟩
            go_wp2_with fail
            refine (HX2.out _).mono ?_
            rintro e w5 ⟨rfl, rfl⟩
            go_upto_region 8 with fail
            have HX1 := HXX1
            have HX2 := HXX2
            refine wp_region_kipt 14 (RBlobKn ao O co s p c1 d x a y) 75 (by simp) (by kernel_rfl) (by kernel_rfl) RBlobKn.later ?_ ?_
            · intro i hi A W hother hbW hd
              match i, hi with
                | 0, hi =>
                  have h7 := tmps_at (show A.eval (.tmp 7) = .slice ao O.length co from hother 7 (by kernel_rfl))
                  clear hother hd hi
                  exact kip_same rfl (wanted_none rfl) (.slice ao O.length co) (by simp only [execOp]; go_simp) rfl
                | 1, hi =>
                  have h0 := tmps_at (show A.eval (.tmp 0) = .string s from hother 0 (by kernel_rfl))
                  clear hother hd hi
                  exact kip_same rfl (wanted_none rfl) (.string s) (by simp only [execOp]; go_simp) rfl
                | 2, hi =>
                  have h8 := tmps_at (show A.eval (.tmp 8) = .int .i64 (p : Int) from hother 8 (by kernel_rfl))
                  clear hother hd hi
                  exact kip_same rfl (wanted_none rfl) (.int .i64 (p : Int)) (by simp only [execOp]; go_simp) rfl
                | 3, hi =>
                  have h44 := tmps_at ((hd _ rfl ⟨1, .data⟩ (by simp) rfl).eq (.string s) (fun _ h => h) 44 (by kernel_rfl) (by decide))
                  have h45 := tmps_at ((hd _ rfl ⟨2, .data⟩ (by simp) rfl).eq (.int .i64 (p : Int)) (fun _ h => h) 45 (by kernel_rfl) (by decide))
                  have hcn2 := HCN.out
                  clear hother hd hi
                  exact kip_same rfl (wanted_none rfl) (.int .u8 (c1.toNat : Int)) (by simp only [execOp]; go_simp) rfl
                | 4, hi =>
                  have h46 := tmps_at ((hd _ rfl ⟨3, .data⟩ (by simp) rfl).eq (.int .u8 (c1.toNat : Int)) (fun _ h => h) 46 (by kernel_rfl) (by decide))
                  clear hother hd hi
                  exact kip_call rfl (wanted_none rfl) 56 #[byte c1] (by simp only [execOp]; go_simp) ((HX1 W).mono fun e w2 hh => ⟨⟨_, hh.1, rfl⟩, by rw [← hh.2]; exact Below.refl _ _⟩)
                | 5, hi =>
                  have h47 := tmps_at ((hd _ rfl ⟨4, .data⟩ (by simp) rfl).eq (.int .i64 (a : Int)) (fun _ h => h) 47 (by kernel_rfl) (by decide))
                  have hm1 := HM1
                  clear hother hd hi
                  exact kip_same rfl (wanted_none rfl) (.int .i64 (16 * (a : Int))) (by simp only [execOp]; go_simp) rfl
                | 6, hi =>
                  have h0 := tmps_at (show A.eval (.tmp 0) = .string s from hother 0 (by kernel_rfl))
                  clear hother hd hi
                  exact kip_same rfl (wanted_none rfl) (.string s) (by simp only [execOp]; go_simp) rfl
                | 7, hi =>
                  have h8 := tmps_at (show A.eval (.tmp 8) = .int .i64 (p : Int) from hother 8 (by kernel_rfl))
                  clear hother hd hi
                  exact kip_same rfl (wanted_none rfl) (.int .i64 (p : Int)) (by simp only [execOp]; go_simp) rfl
                | 8, hi =>
                  have h50 := tmps_at ((hd _ rfl ⟨7, .data⟩ (by simp) rfl).eq (.int .i64 (p : Int)) (fun _ h => h) 50 (by kernel_rfl) (by decide))
                  have hw1 := HWP
                  clear hother hd hi
                  exact kip_same rfl (wanted_none rfl) (.int .i64 ((p : Int) + 1)) (by simp only [execOp]; go_simp) rfl
                | 9, hi =>
                  have h49 := tmps_at ((hd _ rfl ⟨6, .data⟩ (by simp) rfl).eq (.string s) (fun _ h => h) 49 (by kernel_rfl) (by decide))
                  have h51 := tmps_at ((hd _ rfl ⟨8, .data⟩ (by simp) rfl).eq (.int .i64 ((p : Int) + 1)) (fun _ h => h) 51 (by kernel_rfl) (by decide))
                  have hdn := HDN
                  clear hother hd hi
                  exact kip_same rfl (wanted_none rfl) (.int .u8 (d.toNat : Int)) (by simp only [execOp]; go_simp) rfl
                | 10, hi =>
                  have h52 := tmps_at ((hd _ rfl ⟨9, .data⟩ (by simp) rfl).eq (.int .u8 (d.toNat : Int)) (fun _ h => h) 52 (by kernel_rfl) (by decide))
                  clear hother hd hi
                  exact kip_call rfl (wanted_none rfl) 56 #[byte d] (by simp only [execOp]; go_simp) ((HX2 W).mono fun e w2 hh => ⟨⟨_, hh.1, rfl⟩, by rw [← hh.2]; exact Below.refl _ _⟩)
                | 11, hi =>
                  have h48 := tmps_at ((hd _ rfl ⟨5, .data⟩ (by simp) rfl).eq (.int .i64 (16 * (a : Int))) (fun _ h => h) 48 (by kernel_rfl) (by decide))
                  have h53 := tmps_at ((hd _ rfl ⟨10, .data⟩ (by simp) rfl).eq (.int .i64 (y : Int)) (fun _ h => h) 53 (by kernel_rfl) (by decide))
                  have hm2 := HM2
                  clear hother hd hi
                  exact kip_same rfl (wanted_none rfl) (.int .i64 (x.toNat : Int)) (by simp only [execOp]; go_simp) rfl
                | 12, hi =>
                  have h54 := tmps_at ((hd _ rfl ⟨11, .data⟩ (by simp) rfl).eq (.int .i64 (x.toNat : Int)) (fun _ h => h) 54 (by kernel_rfl) (by decide))
                  have hm3 := HM3
                  clear hother hd hi
                  exact kip_same rfl (wanted_none rfl) (byte x) (by simp only [execOp]; go_simp) rfl
                | 13, hi =>
                  have h55 := tmps_at ((hd _ rfl ⟨12, .data⟩ (by simp) rfl).eq (byte x) (fun _ h => h) 55 (by kernel_rfl) (by decide))
                  clear hother hd hi
                  exact kip_val rfl (wanted_none rfl) (.slice (some ⟨W.heap.size, 0, none⟩) 1 1) (W.alloc (.cells #[byte x] 5)) (by simp only [execOp]; go_simp) ((Below.refl _ _).alloc (Nat.le_refl _) _) ⟨_, rfl, by go_simp⟩
                | n + 14, hi => omega
            · intro us W hbW hk
              have h0 : us 0 = .slice ao O.length co := hk 0 (by decide)
              obtain ⟨b, h13, z0⟩ : ∃ b, us 13 = .slice (some ⟨b, 0, none⟩) 1 1 ∧ W.cell? ⟨b, 0, none⟩ = some (byte x) := hk 13 (by decide)
              have HQ2 := Lib.hid (HQ.out.later hbW)
              clear hk hbW
              simp only [putAll, dstOf, List.getElem?_toArray, List.getElem?_cons_zero, List.getElem?_cons_succ, Option.bind_some, Act.put, h0, h13, List.drop_succ_cons, List.drop_zero]
              simp only [List.setIfInBounds_toArray, List.set_cons_zero, List.set_cons_succ]
              refine wpList_append_x rfl (.tmp 43) (.tmp 56) 48 rfl (w.heap.size + 2) 5 Num.elem_u8 _ O rfl (.inl HQ2.out.2) _ [x] rfl (reads_cells b [x] (fun i hi => by
                rcases i with _ | i
                · exact z0
                · simp at hi)) (by simp) (by clear hwp HM1 HM2 HM3 HWP; have := HOL.out; have := HS.out; have := HP.out; simp; omega) HQ2.out.1.sz ?_
              intro v' w9 hown hbel
              have HT9 := Lib.hid (TS.app (W' := w9) HQ2.out.1 hbel hbel.size hown)
              clear hown hbel z0 h0 h13 HM1 HM2 HM3 HWP hwp k1 k2
              have hwp := HWP2.out
              go_wp2_with fail
              go_roundg (s.size + 1 - (p + 2))
              case measure => have := HLT.out; omega
              case rel => exact ⟨p + 2, _, by first | rfl | (simp; done) | (simp; exact HWP2.out), rfl, HNX.out.1, by have := HKP.out; omega, HT9, Lib.hid HNX.out.2, Lib.hid (by have := HOL.out; simp; omega)⟩
    · obtain rfl : p = s.size := by omega
      have j2 : (s.size : Int) ≤ (s.size : Int) := by omega
      have HONE : Hid (blobOne (s.data.toList.drop k) = .bad 6 (s.size - (k + 2) + 2)) := Lib.hid (by
        rw [HONE.out, HT.out, drop_end s (Nat.le_refl _)]
        rfl)
      have hz : c1 = 0 := by rw [HC1.out, bytes_end s s.size (Nat.le_refl _)]
      subst hz
      clear hlt hp hkp
      go_wp2_with fail
      refine (HA0.out _).mono ?_
      rintro e w5 ⟨rfl, rfl⟩
      go_wp2_with fail
      refine (refBadW 6 ((s.size : Int)) wr).mono ?_
      rintro e w9 ⟨rfl, hb9⟩
      have HR9 := Lib.hid ((Lib.hid HQ.out.1).out.later hb9)
      clear hb9
      obtain ⟨hbt, hbs, hbc, hcb⟩ := HR9.out.fin HC.out
      have HSIX := Lib.hid (filled6 w9 w.heap.size c hbc (.int .u8 0) (.string ⟨#[]⟩) (.int .u64 0) (.int .i64 0) (.int .i64 6) (.int .i64 ((s.size : Int))) hbt hbs _ rfl)
      obtain ⟨c0, c1, c2, c3, f0, f1, f2, f3⟩ := hbt
      have s0 := (hbs 0 _ rfl).1
      have s1 := (hbs 1 _ rfl).1
      have t0 := (hbs 0 _ rfl).2
      have t1 := (hbs 1 _ rfl).2
      clear hbs
      go_wp2_with fail
      obtain ⟨q0, q1, q2, q3, p0, p1⟩ := HSIX.out
      rw [HONE.out]
      refine bodyPost_ret (v := .tuple #[.agg #[.int .u8 0, .string ⟨#[]⟩, .int .u64 0, .int .i64 0], .int .i64 0, .agg #[.int .i64 6, .int .i64 ((s.size : Int))]]) (by simp [results, Tryz.results33, go_sem, q0, q1, q2, q3, p0, p1]) rfl ⟨refV_bad rfl (by have := HKP.out; omega), below6 HR9.out.bl (Nat.le_refl _) (by rw [HC.out]; omega)⟩
end Go.Proofs.YtghfaeapgghhlaaGreatDoor.Dt
namespace Go.Proofs.YtghfaeapgghhlaaGreatDoor.Dt
open Go.RowKit Go.Proofs.YtghfaeapgghhlaaGreatDoor.By

def WordKn (s : ByteArray) (t : List UInt8) (k m : Nat) (b : Bool) : Nat → Value → World → Prop
  | 0, v, w => ∃ A, v = .slice (some ⟨A, 0, none⟩) 43 43 ∧ StrsAt A wordsL w
  | 1, v, _ => v = .string s
  | 2, v, _ => v = .int .i64 (k : Int)
  | 3, v, _ => v = .int .i64 ((k : Int) + (m : Int))
  | 4, v, _ => v = str t
  | 5, v, _ => v = .bool b
  | 6, v, _ => v = .bool (!b)
  | _, _, _ => True
theorem WordKn.later {s : ByteArray} {t : List UInt8} {k m : Nat} {b : Bool} : ∀ (j : Nat) (v : Value) (w1 w2 : World), WordKn s t k m b j v w1 → Below w1.heap.size w1 w2 → WordKn s t k m b j v w2
  | 0, _, _, _, ⟨A, h, hs⟩, hb => ⟨A, h, hs.later hb⟩
  | 1, _, _, _, h, _ => h
  | 2, _, _, _, h, _ => h
  | 3, _, _, _, h, _ => h
  | 4, _, _, _, h, _ => h
  | 5, _, _, _, h, _ => h
  | 6, _, _, _, h, _ => h
  | _ + 7, _, _, _, h, _ => h
theorem cap_word {c : UInt8} (h : capB c = true) : wordB c = true := by unfold wordB; rw [h]; simp
theorem name_end {c : UInt8} (h : nameB c = false) (hw : wordB c = true) : capB c = true := by
  unfold nameB at h
  rw [hw] at h
  simpa using h
set_option maxRecDepth 100000 in
set_option maxHeartbeats 16000000 in
theorem refWordsFnW (s : ByteArray) (k : Nat) (x : Int) (hx : x = (k : Int)) (w : World) (hs : s.size ≤ 1000000) (hk : k < s.size) :
    Calls Tryz.prog 36 #[.string s, .int .i64 x] w fun e w' => e = .returned (refV k (wordOne (s.data.toList.drop k))) ∧ Below w.heap.size w w' := by
  subst hx
  obtain ⟨l, hl⟩ : ∃ l, l = s.data.toList.drop k := ⟨_, rfl⟩
  have hll : l.length = s.size - k := by rw [hl, List.length_drop, bytes_list]
  obtain ⟨c0, hc0, hdr⟩ : ∃ c, s[k] = c ∧ s.data.toList.drop k = c :: s.data.toList.drop (k + 1) := ⟨_, rfl, drop_cons s hk⟩
  have hcn : (s[k]).toNat = c0.toNat := by rw [hc0]
  have htop : topB l = c0 := by rw [hl, hdr]; rfl
  have HTOP := Lib.hid htop
  have HLL := Lib.hid hll
  have HL := Lib.hid hl
  have HS := Lib.hid hs
  have HK := Lib.hid hk
  have HC0 := Lib.hid (refCapW c0)
  have HCN := Lib.hid hcn
  have i0 : (0 : Int) ≤ (k : Int) := by omega
  have i1 : (k : Int) < (s.size : Int) := by omega
  rw [← hl]
  clear hs hdr hl hll htop hc0 hcn
  have HB0 := Lib.hid (rb_new w)
  go_enter Tryz.func36, Tryz.ntmps36
  go_upto_region 1 with fail
  generalize ((w.alloc (.cells #[.int .u8 0, .string ⟨#[]⟩, .int .u64 0, .int .i64 0] 34)).alloc (.cells #[.int .i64 0, .int .i64 0] 29)) = w1 at *
  obtain ⟨c, hc⟩ : ∃ c, c = w.heap.size + 1 := ⟨_, rfl⟩
  rw [← hc]
  have HC := Lib.hid hc
  clear hc
  have hcn := HCN.out
  cases hcp : capB c0 with
  | true =>
    rw [hcp] at HC0
    obtain ⟨m, hm⟩ : ∃ m, m = runL wordB l := ⟨_, rfl⟩
    obtain ⟨t, ht⟩ : ∃ t, t = l.take m := ⟨_, rfl⟩
    have hml : k + m ≤ s.size := by
      have h1 := runL_le wordB l
      have h2 := HLL.out
      have h3 := HK.out
      rw [hm]; omega
    have hcut : (.string (s.extract k (k + m)) : Value) = str t := by rw [cut_list, ← HL.out, ht]
    have HONE : Hid (wordOne l = if t ∈ wordsL then .tok 1 t 0 m else .bad 6 0) := Lib.hid (by unfold wordOne; rw [HTOP.out, if_pos hcp, ← hm, ← ht])
    have HGET : Hid (∀ j, j < m → wordB (topB (s.data.toList.drop (k + j))) = true) := Lib.hid (fun j hj => by
      have := runL_get (p := wordB) (l := l) (j := j) (by rw [← hm]; exact hj)
      rwa [HL.out, List.drop_drop] at this)
    have HEND : Hid (wordB (topB (s.data.toList.drop (k + m))) = false) := Lib.hid (by
      rcases runL_drop wordB l with h1 | h1
      · rw [← hm, HL.out, List.drop_drop] at h1
        rw [h1]; decide
      · rwa [← hm, HL.out, List.drop_drop] at h1)
    have HM := Lib.hid hm
    have HML := Lib.hid hml
    have HCUT := Lib.hid hcut
    clear hm ht hml hcut hcp
    go_wp2_with fail
    refine (HC0.out _).mono ?_
    rintro e w2 ⟨rfl, rfl⟩
    go_wp2_with fail
    clear hcn
    go_loopg [7] (m + 1) (fun gk iv wr => ∃ j : Nat, iv = .int .i64 ((k + j : Nat) : Int) ∧ gk = m + 1 - j ∧ j ≤ m ∧ w1 = wr)
    case atStart => exact ⟨0, rfl, rfl, Nat.zero_le _, rfl⟩
    case round =>
      obtain ⟨j, rfl, rfl, hj, rfl⟩ := hrel
      obtain ⟨y, hy⟩ : ∃ y, y = topB (s.data.toList.drop (k + j)) := ⟨_, rfl⟩
      have HA2 : Hid (∀ W, Calls Tryz.prog 32 #[.string s, .int .i64 ((k : Int) + (j : Int))] W fun e w' => e = .returned (byte y) ∧ W = w') := Lib.hid (fun W => by rw [hy]; exact refAtW s (k + j) W HS.out _ (by omega))
      have HDY := Lib.hid (refWordW y)
      by_cases hjm : j < m
      · have hg := HGET.out j hjm
        rw [← hy] at hg
        rw [hg] at HDY
        have HJ := Lib.hid hjm
        have hw2 := wrapI ((k : Int) + (j : Int) + 1) (by omega) (by have h1 := HS.out; have h2 := HML.out; omega)
        clear hj hjm hg hy
        go_wp2_with fail
        refine (HA2.out _).mono ?_
        rintro e w3 ⟨rfl, rfl⟩
        go_wp2_with fail
        refine (HDY.out _).mono ?_
        rintro e w4 ⟨rfl, rfl⟩
        go_wp2_with fail
        go_roundg (m + 1 - (j + 1))
        case measure => have := HJ.out; omega
        case rel => exact ⟨j + 1, by simp; omega, rfl, HJ.out, rfl⟩
      · obtain rfl : j = m := by omega
        have hg := HEND.out
        rw [← hy] at hg
        rw [hg] at HDY
        clear hj hjm hg hy
        go_wp2_with fail
        refine (HA2.out _).mono ?_
        rintro e w3 ⟨rfl, rfl⟩
        go_wp2_with fail
        refine (HDY.out _).mono ?_
        rintro e w4 ⟨rfl, rfl⟩
        go_upto_region 5 with fail
        obtain ⟨B, hB⟩ : ∃ B, B = decide (t ∈ wordsL) := ⟨_, rfl⟩
        have HBB := Lib.hid hB
        have HIN : Hid (∀ A W, StrsAt A wordsL W → Calls Tryz.prog 39 #[.slice (some ⟨A, 0, none⟩) 43 43, str t] W fun e w' => e = .returned (.bool B) ∧ W = w') := Lib.hid (fun A W h => by rw [hB]; exact refInW A wordsL 43 words_len (by decide) ⟨t.toArray⟩ W h)
        have j2 : (k : Int) ≤ (k : Int) + (j : Int) := by omega
        have j3 : (k : Int) + (j : Int) ≤ (s.size : Int) := by have := HML.out; omega
        clear hB
        go_cut [25] (fun v wx => v = .bool (!B) ∧ Hid (Below w1.heap.size w1 wx))
        case first =>
          refine wp_region_kip (WordKn s t k j B) 71 (by simp) (by kernel_rfl) (by kernel_rfl) WordKn.later ?_ ?_
          · intro i hi A W hother hbW hd
            match i, hi with
            | 0, hi =>
              clear hother hd hi
              exact kip_call rfl (wanted_none rfl) 58 #[] (by simp only [execOp]; go_simp) ((refWordsW W).mono fun e w2 ⟨A, h1, h2, h3⟩ => ⟨⟨_, h1, A, rfl, h2⟩, h3⟩)
            | 1, hi =>
              have h0 := tmps_at (show A.eval (.tmp 0) = .string s from hother 0 (by kernel_rfl))
              clear hother hd hi
              exact kip_same rfl (wanted_none rfl) (.string s) (by simp only [execOp]; go_simp) rfl
            | 2, hi =>
              have h1 := tmps_at (show A.eval (.tmp 1) = .int .i64 (k : Int) from hother 1 (by kernel_rfl))
              clear hother hd hi
              exact kip_same rfl (wanted_none rfl) (.int .i64 (k : Int)) (by simp only [execOp]; go_simp) rfl
            | 3, hi =>
              have h7 := tmps_at (show A.eval (.tmp 7) = .int .i64 ((k : Int) + (j : Int)) from hother 7 (by kernel_rfl))
              clear hother hd hi
              exact kip_same rfl (wanted_none rfl) (.int .i64 ((k : Int) + (j : Int))) (by simp only [execOp]; go_simp) rfl
            | 4, hi =>
              have h20 := tmps_at ((hd _ rfl ⟨1, .data⟩ (by simp) rfl).eq (.string s) (fun _ h => h) 20 (by kernel_rfl) (by decide))
              have h21 := tmps_at ((hd _ rfl ⟨2, .data⟩ (by simp) rfl).eq (.int .i64 (k : Int)) (fun _ h => h) 21 (by kernel_rfl) (by decide))
              have h22 := tmps_at ((hd _ rfl ⟨3, .data⟩ (by simp) rfl).eq (.int .i64 ((k : Int) + (j : Int))) (fun _ h => h) 22 (by kernel_rfl) (by decide))
              clear hother hd hi
              exact kip_same rfl (wanted_none rfl) (.string (s.extract k (k + j))) (by simp only [execOp]; go_simp; rw [show ((k : Int) + (j : Int)).toNat = k + j by omega]) HCUT.out
            | 5, hi =>
              obtain ⟨av, ⟨ax, rfl, has⟩, hx⟩ := (hd _ rfl ⟨0, .data⟩ (by simp) rfl).get 19 (by kernel_rfl) (by decide)
              have h19 := tmps_at hx
              have h23 := tmps_at ((hd _ rfl ⟨4, .data⟩ (by simp) rfl).eq (str t) (fun _ h => h) 23 (by kernel_rfl) (by decide))
              clear hother hd hi hx
              exact kip_call rfl (wanted_none rfl) 39 #[.slice (some ⟨ax, 0, none⟩) 43 43, str t] (by simp only [execOp]; go_simp) ((HIN.out ax W has).mono fun e w2 hh => ⟨⟨_, hh.1, rfl⟩, by rw [← hh.2]; exact Below.refl _ _⟩)
            | 6, hi =>
              have h24 := tmps_at ((hd _ rfl ⟨5, .data⟩ (by simp) rfl).eq (.bool B) (fun _ h => h) 24 (by kernel_rfl) (by decide))
              clear hother hd hi
              exact kip_same rfl (wanted_none rfl) (.bool (!B)) (by simp only [execOp]; go_simp) rfl
            | n + 7, hi => simp at hi; omega
          · intro us W hbW hkk
            have h6 : us 6 = .bool (!B) := hkk 6 (by decide)
            have HBW := Lib.hid hbW
            clear hkk hbW
            simp only [List.length_cons, List.length_nil, Nat.zero_add, Nat.reduceAdd, putAll, dstOf, List.getElem?_toArray, List.getElem?_cons_zero, List.getElem?_cons_succ, Option.bind_some, Act.put, h6]
            simp only [List.setIfInBounds_toArray, List.set_cons_zero, List.set_cons_succ]
            go_wp2_with fail
            go_meet
            exact ⟨rfl, HBW⟩
        case rest =>
          rename World => w5
          obtain ⟨rfl, HBW⟩ := hcut
          have HB5 := Lib.hid (HB0.out.later HBW.out)
          clear HBW
          cases B with
          | false =>
            have HONE : Hid (wordOne l = .bad 6 0) := Lib.hid (by rw [HONE.out, if_neg (of_decide_eq_false HBB.out.symm)])
            simp only [Bool.not_false]
            go_wp2_with fail
            refine (refBadW 6 ((k : Int)) w5).mono ?_
            rintro e w9 ⟨rfl, hb9⟩
            have HR9 := Lib.hid (HB5.out.later hb9)
            clear hb9
            obtain ⟨hbt, hbs, hbc, hcb⟩ := HR9.out.fin HC.out
            have HSIX := Lib.hid (filled6 w9 w.heap.size c hbc (.int .u8 0) (.string ⟨#[]⟩) (.int .u64 0) (.int .i64 0) (.int .i64 6) (.int .i64 ((k : Int))) hbt hbs _ rfl)
            obtain ⟨c0, c1, c2, c3, f0, f1, f2, f3⟩ := hbt
            have s0 := (hbs 0 _ rfl).1
            have s1 := (hbs 1 _ rfl).1
            have t0 := (hbs 0 _ rfl).2
            have t1 := (hbs 1 _ rfl).2
            clear hbs
            go_wp2_with fail
            obtain ⟨q0, q1, q2, q3, p0, p1⟩ := HSIX.out
            rw [HONE.out]
            refine bodyPost_ret (v := .tuple #[.agg #[.int .u8 0, .string ⟨#[]⟩, .int .u64 0, .int .i64 0], .int .i64 0, .agg #[.int .i64 6, .int .i64 ((k : Int))]]) (by simp [results, Tryz.results36, go_sem, q0, q1, q2, q3, p0, p1]) rfl ⟨refV_bad rfl (by omega), below6 HR9.out.bl (Nat.le_refl _) (by rw [HC.out]; omega)⟩
          | true =>
            have HONE : Hid (wordOne l = .tok 1 t 0 j) := Lib.hid (by rw [HONE.out, if_pos (of_decide_eq_true HBB.out.symm)])
            simp only [Bool.not_true]
            obtain ⟨hbt, hbs, hbc, hcb⟩ := HB5.out.fin HC.out
            have HSIX := Lib.hid (filled6 w5 w.heap.size c hbc (.int .u8 1) (.string (s.extract k (k + j))) (.int .u64 0) (.int .i64 (k : Int)) (.int .i64 0) (.int .i64 0) hbt hbs _ rfl)
            obtain ⟨c0, c1, c2, c3, f0, f1, f2, f3⟩ := hbt
            have s0 := (hbs 0 _ rfl).1
            have s1 := (hbs 1 _ rfl).1
            have t0 := (hbs 0 _ rfl).2
            have t1 := (hbs 1 _ rfl).2
            clear hbs
            go_wp2_with fail
            obtain ⟨q0, q1, q2, q3, p0, p1⟩ := HSIX.out
            rw [HONE.out]
            refine bodyPost_ret (v := .tuple #[.agg #[.int .u8 1, .string (s.extract k (k + j)), .int .u64 0, .int .i64 (k : Int)], .int .i64 ((k : Int) + (j : Int)), .agg #[.int .i64 0, .int .i64 0]]) (by simp [results, Tryz.results36, go_sem, q0, q1, q2, q3, p0, p1]) rfl ⟨by rw [HCUT.out]; exact refV_tok rfl rfl (by omega) rfl, below6 HB5.out.bl (Nat.le_refl _) (by rw [HC.out]; omega)⟩
  | false =>
    rw [hcp] at HC0
    obtain ⟨m, hm⟩ : ∃ m, m = runL nameB l := ⟨_, rfl⟩
    obtain ⟨t, ht⟩ : ∃ t, t = l.take m := ⟨_, rfl⟩
    obtain ⟨z, hz⟩ : ∃ z, z = topB (s.data.toList.drop (k + m)) := ⟨_, rfl⟩
    have hml : k + m ≤ s.size := by
      have h1 := runL_le nameB l
      have h2 := HLL.out
      have h3 := HK.out
      rw [hm]; omega
    have hcut : (.string (s.extract k (k + m)) : Value) = str t := by rw [cut_list, ← HL.out, ht]
    have HONE : Hid (wordOne l = if capB z then .bad 6 m else if 32 < m then .bad 3 0 else .tok 2 t 0 m) := Lib.hid (by
      unfold wordOne
      rw [HTOP.out, if_neg (by rw [hcp]; decide), ← hm, ← ht, hz, HL.out, List.drop_drop])
    have HGET : Hid (∀ j, j < m → nameB (topB (s.data.toList.drop (k + j))) = true) := Lib.hid (fun j hj => by
      have := runL_get (p := nameB) (l := l) (j := j) (by rw [← hm]; exact hj)
      rwa [HL.out, List.drop_drop] at this)
    have HEND : Hid (nameB z = false) := Lib.hid (by
      rw [hz]
      rcases runL_drop nameB l with h1 | h1
      · rw [← hm, HL.out, List.drop_drop] at h1
        rw [h1]; decide
      · rwa [← hm, HL.out, List.drop_drop] at h1)
    have HZ := Lib.hid hz
    have HML := Lib.hid hml
    have HCUT := Lib.hid hcut
    clear hm ht hml hcut hcp hz
    go_wp2_with fail
    refine (HC0.out _).mono ?_
    rintro e w2 ⟨rfl, rfl⟩
    go_wp2_with fail
    clear hcn
    go_loopg [7] (m + 1) (fun gk iv wr => ∃ j : Nat, iv = .int .i64 ((k + j : Nat) : Int) ∧ gk = m + 1 - j ∧ j ≤ m ∧ w1 = wr)
    case atStart => exact ⟨0, rfl, rfl, Nat.zero_le _, rfl⟩
    case round =>
      obtain ⟨j, rfl, rfl, hj, rfl⟩ := hrel
      obtain ⟨y, hy⟩ : ∃ y, y = topB (s.data.toList.drop (k + j)) := ⟨_, rfl⟩
      have HA2 : Hid (∀ W, Calls Tryz.prog 32 #[.string s, .int .i64 ((k : Int) + (j : Int))] W fun e w' => e = .returned (byte y) ∧ W = w') := Lib.hid (fun W => by rw [hy]; exact refAtW s (k + j) W HS.out _ (by omega))
      have HDY := Lib.hid (refWordW y)
      have HCY := Lib.hid (refCapW y)
      by_cases hjm : j < m
      · have hg := HGET.out j hjm
        rw [← hy] at hg
        have hg1 : wordB y = true := by unfold nameB at hg; simp at hg; exact hg.1
        have hg2 : capB y = false := by unfold nameB at hg; simp at hg; exact hg.2
        rw [hg1] at HDY
        rw [hg2] at HCY
        have hpl : k + j < s.size := by have := HML.out; omega
        obtain ⟨c2, hc2, hdr2⟩ : ∃ c, s[k + j] = c ∧ s.data.toList.drop (k + j) = c :: s.data.toList.drop (k + j + 1) := ⟨_, rfl, drop_cons s hpl⟩
        have hcn2 : (s[k + j]).toNat = c2.toNat := by rw [hc2]
        obtain rfl : y = c2 := by rw [hy, hdr2]; rfl
        have HJ := Lib.hid hjm
        have k2 : (0 : Int) ≤ (k : Int) + (j : Int) := by omega
        have k3 : (k : Int) + (j : Int) < (s.size : Int) := by omega
        have hw2 := wrapI ((k : Int) + (j : Int) + 1) (by omega) (by have h1 := HS.out; have h2 := HML.out; omega)
        clear hj hjm hg hg1 hg2 hy hc2 hdr2
        go_wp2_with fail
        refine (HA2.out _).mono ?_
        rintro e w3 ⟨rfl, rfl⟩
        go_wp2_with fail
        refine (HDY.out _).mono ?_
        rintro e w4 ⟨rfl, rfl⟩
        go_wp2_with fail
        refine (HCY.out _).mono ?_
        rintro e w4 ⟨rfl, rfl⟩
        go_wp2_with fail
        go_roundg (m + 1 - (j + 1))
        case measure => have := HJ.out; omega
        case rel => exact ⟨j + 1, by simp; omega, rfl, HJ.out, rfl⟩
      · obtain rfl : j = m := by omega
        obtain rfl : y = z := by rw [hy, HZ.out]
        clear hj hjm hy
        cases hwy : wordB y with
        | true =>
          have hcy := name_end HEND.out hwy
          rw [hwy] at HDY
          rw [hcy] at HCY
          have HONE : Hid (wordOne l = .bad 6 j) := Lib.hid (by rw [HONE.out, if_pos hcy])
          have hpl : k + j < s.size := by
            rcases Nat.lt_or_ge (k + j) s.size with h | h
            · exact h
            · rw [HZ.out, bytes_end s _ h] at hwy; exact absurd hwy (by decide)
          obtain ⟨c2, hc2, hdr2⟩ : ∃ c, s[k + j] = c ∧ s.data.toList.drop (k + j) = c :: s.data.toList.drop (k + j + 1) := ⟨_, rfl, drop_cons s hpl⟩
          have hcn2 : (s[k + j]).toNat = c2.toNat := by rw [hc2]
          obtain rfl : y = c2 := by rw [HZ.out, hdr2]; rfl
          have k2 : (0 : Int) ≤ (k : Int) + (j : Int) := by omega
          have k3 : (k : Int) + (j : Int) < (s.size : Int) := by omega
          clear hwy hcy hc2 hdr2
          go_wp2_with fail
          refine (HA2.out _).mono ?_
          rintro e w3 ⟨rfl, rfl⟩
          go_wp2_with fail
          refine (HDY.out _).mono ?_
          rintro e w4 ⟨rfl, rfl⟩
          go_wp2_with fail
          refine (HCY.out _).mono ?_
          rintro e w4 ⟨rfl, rfl⟩
          go_wp2_with fail
          refine (refBadW 6 ((k : Int) + (j : Int)) w1).mono ?_
          rintro e w9 ⟨rfl, hb9⟩
          have HR9 := Lib.hid (HB0.out.later hb9)
          clear hb9
          obtain ⟨hbt, hbs, hbc, hcb⟩ := HR9.out.fin HC.out
          have HSIX := Lib.hid (filled6 w9 w.heap.size c hbc (.int .u8 0) (.string ⟨#[]⟩) (.int .u64 0) (.int .i64 0) (.int .i64 6) (.int .i64 ((k : Int) + (j : Int))) hbt hbs _ rfl)
          obtain ⟨c0, c1, c2, c3, f0, f1, f2, f3⟩ := hbt
          have s0 := (hbs 0 _ rfl).1
          have s1 := (hbs 1 _ rfl).1
          have t0 := (hbs 0 _ rfl).2
          have t1 := (hbs 1 _ rfl).2
          clear hbs
          go_wp2_with fail
          obtain ⟨q0, q1, q2, q3, p0, p1⟩ := HSIX.out
          rw [HONE.out]
          refine bodyPost_ret (v := .tuple #[.agg #[.int .u8 0, .string ⟨#[]⟩, .int .u64 0, .int .i64 0], .int .i64 0, .agg #[.int .i64 6, .int .i64 ((k : Int) + (j : Int))]]) (by simp [results, Tryz.results36, go_sem, q0, q1, q2, q3, p0, p1]) rfl ⟨refV_bad rfl (by omega), below6 HR9.out.bl (Nat.le_refl _) (by rw [HC.out]; omega)⟩
        | false =>
          rw [hwy] at HDY
          have hcy : capB y = false := by
            cases hc : capB y with
            | false => rfl
            | true => rw [cap_word hc] at hwy; cases hwy
          rw [hcy] at HONE
          clear hwy hcy
          have hw2 : wrap64 ((k : Int) + (j : Int) - (k : Int)) = (j : Int) := by have h1 := HS.out; have h2 := HML.out; unfold wrap64; omega
          go_wp2_with fail
          refine (HA2.out _).mono ?_
          rintro e w3 ⟨rfl, rfl⟩
          go_wp2_with fail
          refine (HDY.out _).mono ?_
          rintro e w4 ⟨rfl, rfl⟩
          by_cases h32 : 32 < j
          · have HONE : Hid (wordOne l = .bad 3 0) := Lib.hid (by rw [HONE.out, if_neg (by decide), if_pos h32])
            have n1 : (32 : Int) < (j : Int) := by omega
            clear h32
            go_wp2_with fail
            refine (refBadW 3 ((k : Int)) w1).mono ?_
            rintro e w9 ⟨rfl, hb9⟩
            have HR9 := Lib.hid (HB0.out.later hb9)
            clear hb9
            obtain ⟨hbt, hbs, hbc, hcb⟩ := HR9.out.fin HC.out
            have HSIX := Lib.hid (filled6 w9 w.heap.size c hbc (.int .u8 0) (.string ⟨#[]⟩) (.int .u64 0) (.int .i64 0) (.int .i64 3) (.int .i64 ((k : Int))) hbt hbs _ rfl)
            obtain ⟨c0, c1, c2, c3, f0, f1, f2, f3⟩ := hbt
            have s0 := (hbs 0 _ rfl).1
            have s1 := (hbs 1 _ rfl).1
            have t0 := (hbs 0 _ rfl).2
            have t1 := (hbs 1 _ rfl).2
            clear hbs
            go_wp2_with fail
            obtain ⟨q0, q1, q2, q3, p0, p1⟩ := HSIX.out
            rw [HONE.out]
            refine bodyPost_ret (v := .tuple #[.agg #[.int .u8 0, .string ⟨#[]⟩, .int .u64 0, .int .i64 0], .int .i64 0, .agg #[.int .i64 3, .int .i64 ((k : Int))]]) (by simp [results, Tryz.results36, go_sem, q0, q1, q2, q3, p0, p1]) rfl ⟨refV_bad rfl (by omega), below6 HR9.out.bl (Nat.le_refl _) (by rw [HC.out]; omega)⟩
          · have HONE : Hid (wordOne l = .tok 2 t 0 j) := Lib.hid (by rw [HONE.out, if_neg (by decide), if_neg h32])
            have n1 : ¬ (32 : Int) < (j : Int) := by omega
            have k2 : (0 : Int) ≤ (k : Int) + (j : Int) := by omega
            have j2 : (k : Int) ≤ (k : Int) + (j : Int) := by omega
            have j3 : (k : Int) + (j : Int) ≤ (s.size : Int) := by have := HML.out; omega
            clear h32
            obtain ⟨hbt, hbs, hbc, hcb⟩ := HB0.out.fin HC.out
            have HSIX := Lib.hid (filled6 w1 w.heap.size c hbc (.int .u8 2) (.string (s.extract k (k + j))) (.int .u64 0) (.int .i64 (k : Int)) (.int .i64 0) (.int .i64 0) hbt hbs _ rfl)
            obtain ⟨c0, c1, c2, c3, f0, f1, f2, f3⟩ := hbt
            have s0 := (hbs 0 _ rfl).1
            have s1 := (hbs 1 _ rfl).1
            have t0 := (hbs 0 _ rfl).2
            have t1 := (hbs 1 _ rfl).2
            clear hbs
            go_wp2_with fail
            obtain ⟨q0, q1, q2, q3, p0, p1⟩ := HSIX.out
            rw [HONE.out]
            refine bodyPost_ret (v := .tuple #[.agg #[.int .u8 2, .string (s.extract k (k + j)), .int .u64 0, .int .i64 (k : Int)], .int .i64 ((k : Int) + (j : Int)), .agg #[.int .i64 0, .int .i64 0]]) (by simp [results, Tryz.results36, go_sem, q0, q1, q2, q3, p0, p1]) rfl ⟨by rw [HCUT.out]; exact refV_tok rfl rfl (by omega) rfl, below6 HB0.out.bl (Nat.le_refl _) (by rw [HC.out]; omega)⟩
end Go.Proofs.YtghfaeapgghhlaaGreatDoor.Dt
namespace Go.Proofs.YtghfaeapgghhlaaGreatDoor.Dt
open Go.RowKit Go.Proofs.YtghfaeapgghhlaaGreatDoor.By

/-- A token, the place behind it, an error and its place. -/
structure RT where
  t : Tk
  z : Int
  e : Int
  b : Int
def refT (b : Nat) : One → RT
  | .tok k s n m => ⟨⟨k, ⟨s.toArray⟩, n, (b : Int)⟩, ((b + m : Nat) : Int), 0, 0⟩
  | .bad e m => ⟨⟨0, ⟨#[]⟩, 0, 0⟩, 0, (e : Int), ((b + m : Nat) : Int)⟩
theorem refV_eq (b : Nat) (o : One) : refV b o = .tuple #[.agg #[.int .u8 ((refT b o).t.k : Int), .string (refT b o).t.s, .int .u64 ((refT b o).t.n : Int), .int .i64 (refT b o).t.a], .int .i64 (refT b o).z, .agg #[.int .i64 (refT b o).e, .int .i64 (refT b o).b]] := by cases o <;> rfl
theorem twos_cells : #[.string ⟨#[60, 62]⟩, .string ⟨#[60, 61]⟩, .string ⟨#[62, 61]⟩, .string ⟨#[124, 124]⟩] = (twosL.map str).toArray := by kernel_rfl
def signs1 : List (List UInt8) := signsL.map fun c => [c]
theorem signs_cells : #[.string ⟨#[40]⟩, .string ⟨#[41]⟩, .string ⟨#[44]⟩, .string ⟨#[46]⟩, .string ⟨#[42]⟩, .string ⟨#[43]⟩, .string ⟨#[45]⟩, .string ⟨#[47]⟩, .string ⟨#[37]⟩, .string ⟨#[61]⟩, .string ⟨#[60]⟩, .string ⟨#[62]⟩, .string ⟨#[59]⟩] = (signs1.map str).toArray := by kernel_rfl
theorem signs1_mem (c : UInt8) : [c] ∈ signs1 ↔ c ∈ signsL := by
  unfold signs1
  simp
set_option maxRecDepth 100000 in
set_option maxHeartbeats 16000000 in
theorem refOneW (s : ByteArray) (k : Nat) (x : Int) (hx : x = (k : Int)) (w : World) (hs : s.size ≤ 1000000) (hk : k < s.size) :
    Calls Tryz.prog 13 #[.string s, .int .i64 x] w fun e w' => e = .returned (refV k (oneL (s.data.toList.drop k))) ∧ Below w.heap.size w w' := by
  subst hx
  obtain ⟨l, hl⟩ : ∃ l, l = s.data.toList.drop k := ⟨_, rfl⟩
  have hll : l.length = s.size - k := by rw [hl, List.length_drop, bytes_list]
  obtain ⟨b0, hb0, hdr⟩ : ∃ c, s[k] = c ∧ s.data.toList.drop k = c :: s.data.toList.drop (k + 1) := ⟨_, rfl, drop_cons s hk⟩
  have hcn : (s[k]).toNat = b0.toNat := by rw [hb0]
  have htop : topB l = b0 := by rw [hl, hdr]; rfl
  obtain ⟨d, hd⟩ : ∃ d, d = topB (l.drop 1) := ⟨_, rfl⟩
  have HAT : Hid (∀ W, Calls Tryz.prog 32 #[.string s, .int .i64 ((k : Int) + 1)] W fun e w' => e = .returned (byte d) ∧ W = w') := Lib.hid (fun W => by rw [hd, hl, List.drop_drop]; exact refAtW s (k + 1) W hs _ (by omega))
  rw [← hl, refV_eq]
  obtain ⟨V, hV⟩ : ∃ V, V = refT k (oneL l) := ⟨_, rfl⟩
  have hv2 := refV_eq k (oneL l)
  rw [← hV] at hv2 ⊢
  obtain ⟨⟨tk, ts, tn, ta⟩, tz, te, tb⟩ := V
  have HV := Lib.hid hv2
  have HC0 := Lib.hid htop
  have HD := Lib.hid hd.symm
  have HLL := Lib.hid hll
  have HL := Lib.hid hl
  have HS := Lib.hid hs
  have HK := Lib.hid hk
  have HW1 := Lib.hid (wrapI ((k : Int) + 1) (by omega) (by omega))
  have HW2 := Lib.hid (wrapI ((k : Int) + 2) (by omega) (by omega))
  have i0 : (0 : Int) ≤ (k : Int) := by omega
  have i1 : (k : Int) < (s.size : Int) := by omega
  clear hs hdr hl hll htop hb0 hd hv2 hV
  simp only
  have HB0 := Lib.hid (rb_new w)
  go_enter Tryz.func13, Tryz.ntmps13
  go_upto_region 1 with fail
  generalize ((w.alloc (.cells #[.int .u8 0, .string ⟨#[]⟩, .int .u64 0, .int .i64 0] 34)).alloc (.cells #[.int .i64 0, .int .i64 0] 29)) = w1 at *
  obtain ⟨c, hc⟩ : ∃ c, c = w.heap.size + 1 := ⟨_, rfl⟩
  rw [← hc]
  have HC := Lib.hid hc
  clear hc
  go_upto_region 2 with fail
  clear i0 i1 hcn
  by_cases h39 : b0 = 39
  · subst h39
    have HQT : Hid (∀ W, Calls Tryz.prog 31 #[.string s, .int .i64 (k : Int)] W fun e w' => e = .returned (.tuple #[.agg #[.int .u8 (tk : Int), .string ts, .int .u64 (tn : Int), .int .i64 ta], .int .i64 tz, .agg #[.int .i64 te, .int .i64 tb]]) ∧ Below W.heap.size W w') := Lib.hid (fun W => by
      have h1 : oneL l = textOne l := by
        unfold oneL
        rw [if_pos HC0.out]
      have h2 := HV.out
      rw [h1] at h2
      rw [← h2, HL.out]
      exact refTextW s k _ rfl W HS.out HK.out)
    go_wp2_with fail
    refine (HQT.out _).mono ?_
    rintro e w9 ⟨rfl, hb9⟩
    have HR9 := Lib.hid (HB0.out.later hb9)
    clear hb9
    obtain ⟨hbt, hbs, hbc, hcb⟩ := HR9.out.fin HC.out
    have HSIX := Lib.hid (filled6 w9 w.heap.size c hbc (.int .u8 (tk : Int)) (.string ts) (.int .u64 (tn : Int)) (.int .i64 ta) (.int .i64 te) (.int .i64 tb) hbt hbs _ rfl)
    obtain ⟨c0, c1, c2, c3, f0, f1, f2, f3⟩ := hbt
    have s0 := (hbs 0 _ rfl).1
    have s1 := (hbs 1 _ rfl).1
    have t0 := (hbs 0 _ rfl).2
    have t1 := (hbs 1 _ rfl).2
    clear hbs
    go_wp2_with fail
    obtain ⟨q0, q1, q2, q3, p0, p1⟩ := HSIX.out
    refine bodyPost_ret (v := .tuple #[.agg #[.int .u8 (tk : Int), .string ts, .int .u64 (tn : Int), .int .i64 ta], .int .i64 tz, .agg #[.int .i64 te, .int .i64 tb]]) (by simp [results, Tryz.results13, go_sem, q0, q1, q2, q3, p0, p1]) rfl ⟨rfl, below6 HR9.out.bl (Nat.le_refl _) (by rw [HC.out]; omega)⟩
  · have e39 : ((b0.toNat : Int) == 39) = false := by
      have : b0.toNat ≠ 39 := fun e => h39 (UInt8.toNat_inj.1 e)
      first | (simp; done) | (simp; omega)
    have H39 : Hid (¬ topB l = 39) := Lib.hid (by rw [HC0.out]; exact h39)
    clear h39
    go_upto_region 4 with fail
    obtain ⟨B, hB⟩ : ∃ B, B = decide (b0 = 120 ∧ d = 39) := ⟨_, rfl⟩
    have HBB := Lib.hid hB
    clear hB e39
    go_cut [20] (fun v wx => v = .bool B ∧ w1 = wx)
    case first =>
      have hw1 := HW1.out
      by_cases h120 : b0 = 120
      · subst h120
        by_cases hd : d = 39
        · subst hd
          obtain rfl : B = true := by rw [HBB.out]; rfl
          go_wp2_with fail
          refine (HAT.out _).mono ?_
          rintro e w3 ⟨rfl, rfl⟩
          go_wp2_with fail
          go_meet
          exact ⟨rfl, rfl⟩
        · obtain rfl : B = false := by rw [HBB.out]; exact decide_eq_false (fun e => hd e.2)
          have e1 : ((d.toNat : Int) == 39) = false := by
            have : d.toNat ≠ 39 := fun e => hd (UInt8.toNat_inj.1 e)
            first | (simp; done) | (simp; omega)
          clear hd
          go_wp2_with fail
          refine (HAT.out _).mono ?_
          rintro e w3 ⟨rfl, rfl⟩
          go_wp2_with fail
          go_meet
          exact ⟨rfl, rfl⟩
      · obtain rfl : B = false := by rw [HBB.out]; exact decide_eq_false (fun e => h120 e.1)
        have e1 : ((b0.toNat : Int) == 120) = false := by
          have : b0.toNat ≠ 120 := fun e => h120 (UInt8.toNat_inj.1 e)
          first | (simp; done) | (simp; omega)
        clear h120
        go_wp2_with fail
        go_meet
        exact ⟨rfl, rfl⟩
    case rest =>
      obtain ⟨rfl, rfl⟩ := hcut
      have HBT : Hid ((topB l = 120 ∧ topB (l.drop 1) = 39) ↔ B = true) := Lib.hid (by rw [HC0.out, HD.out, HBB.out]; exact decide_eq_true_iff.symm)
      clear HBB
      cases B with
      | true =>
        have HQB : Hid (∀ W, Calls Tryz.prog 33 #[.string s, .int .i64 (k : Int)] W fun e w' => e = .returned (.tuple #[.agg #[.int .u8 (tk : Int), .string ts, .int .u64 (tn : Int), .int .i64 ta], .int .i64 tz, .agg #[.int .i64 te, .int .i64 tb]]) ∧ Below W.heap.size W w') := Lib.hid (fun W => by
          have h1 : oneL l = blobOne l := by
            unfold oneL
            rw [if_neg H39.out, if_pos (HBT.out.2 rfl)]
          have h2 := HV.out
          rw [h1] at h2
          rw [← h2, HL.out]
          exact refBlobW s k _ rfl W HS.out (by
            have h5 := (HBT.out.2 rfl).2
            rw [HL.out, List.drop_drop] at h5
            rcases Nat.lt_or_ge (k + 1) s.size with h6 | h6
            · exact h6
            · rw [bytes_end s (k + 1) h6] at h5; exact absurd h5 (by decide)))
        go_wp2_with fail
        refine (HQB.out _).mono ?_
        rintro e w9 ⟨rfl, hb9⟩
        have HR9 := Lib.hid (HB0.out.later hb9)
        clear hb9
        obtain ⟨hbt, hbs, hbc, hcb⟩ := HR9.out.fin HC.out
        have HSIX := Lib.hid (filled6 w9 w.heap.size c hbc (.int .u8 (tk : Int)) (.string ts) (.int .u64 (tn : Int)) (.int .i64 ta) (.int .i64 te) (.int .i64 tb) hbt hbs _ rfl)
        obtain ⟨c0, c1, c2, c3, f0, f1, f2, f3⟩ := hbt
        have s0 := (hbs 0 _ rfl).1
        have s1 := (hbs 1 _ rfl).1
        have t0 := (hbs 0 _ rfl).2
        have t1 := (hbs 1 _ rfl).2
        clear hbs
        go_wp2_with fail
        obtain ⟨q0, q1, q2, q3, p0, p1⟩ := HSIX.out
        refine bodyPost_ret (v := .tuple #[.agg #[.int .u8 (tk : Int), .string ts, .int .u64 (tn : Int), .int .i64 ta], .int .i64 tz, .agg #[.int .i64 te, .int .i64 tb]]) (by simp [results, Tryz.results13, go_sem, q0, q1, q2, q3, p0, p1]) rfl ⟨rfl, below6 HR9.out.bl (Nat.le_refl _) (by rw [HC.out]; omega)⟩
      | false =>
        have H120 : Hid (¬ (topB l = 120 ∧ topB (l.drop 1) = 39)) := Lib.hid (fun e => absurd (HBT.out.1 e) (by decide))
        clear HBT
        go_upto_region 6 with fail
        obtain ⟨S, hS⟩ : ∃ S, S = smallB b0 := ⟨_, rfl⟩
        obtain ⟨P, hP⟩ : ∃ P, P = capB b0 := ⟨_, rfl⟩
        have HSM : Hid (∀ W, Calls Tryz.prog 34 #[byte b0] W fun e w' => e = .returned (.bool S) ∧ W = w') := Lib.hid (fun W => by rw [hS]; exact refSmallW b0 W)
        have HCP : Hid (∀ W, Calls Tryz.prog 35 #[byte b0] W fun e w' => e = .returned (.bool P) ∧ W = w') := Lib.hid (fun W => by rw [hP]; exact refCapW b0 W)
        have HSP : Hid ((smallB (topB l) || capB (topB l)) = (S || P)) := Lib.hid (by rw [HC0.out, hS, hP])
        clear hS hP
        go_cut [36] (fun v wx => v = .bool (S || P) ∧ w1 = wx)
        case first =>
          cases S with
          | true =>
            go_wp2_with fail
            refine (HSM.out _).mono ?_
            rintro e w5 ⟨rfl, rfl⟩
            go_wp2_with fail
            go_meet
            exact ⟨rfl, rfl⟩
          | false =>
            cases P with
            | true =>
              go_wp2_with fail
              refine (HSM.out _).mono ?_
              rintro e w5 ⟨rfl, rfl⟩
              go_wp2_with fail
              refine (HCP.out _).mono ?_
              rintro e w5 ⟨rfl, rfl⟩
              go_wp2_with fail
              go_meet
              exact ⟨rfl, rfl⟩
            | false =>
              go_wp2_with fail
              refine (HSM.out _).mono ?_
              rintro e w5 ⟨rfl, rfl⟩
              go_wp2_with fail
              refine (HCP.out _).mono ?_
              rintro e w5 ⟨rfl, rfl⟩
              go_wp2_with fail
              go_meet
              exact ⟨rfl, rfl⟩
        case rest =>
          obtain ⟨rfl, rfl⟩ := hcut
          obtain ⟨X, hX⟩ : ∃ X, X = (S || P) := ⟨_, rfl⟩
          rw [← hX] at HSP ⊢
          clear hX HSM HCP
          cases X with
          | true =>
            have HWD : Hid (∀ W, Calls Tryz.prog 36 #[.string s, .int .i64 (k : Int)] W fun e w' => e = .returned (.tuple #[.agg #[.int .u8 (tk : Int), .string ts, .int .u64 (tn : Int), .int .i64 ta], .int .i64 tz, .agg #[.int .i64 te, .int .i64 tb]]) ∧ Below W.heap.size W w') := Lib.hid (fun W => by
              have h1 : oneL l = wordOne l := by
                unfold oneL
                rw [if_neg H39.out, if_neg H120.out, if_pos HSP.out]
              have h2 := HV.out
              rw [h1] at h2
              rw [← h2, HL.out]
              exact refWordsFnW s k _ rfl W HS.out HK.out)
            go_wp2_with fail
            refine (HWD.out _).mono ?_
            rintro e w9 ⟨rfl, hb9⟩
            have HR9 := Lib.hid (HB0.out.later hb9)
            clear hb9
            obtain ⟨hbt, hbs, hbc, hcb⟩ := HR9.out.fin HC.out
            have HSIX := Lib.hid (filled6 w9 w.heap.size c hbc (.int .u8 (tk : Int)) (.string ts) (.int .u64 (tn : Int)) (.int .i64 ta) (.int .i64 te) (.int .i64 tb) hbt hbs _ rfl)
            obtain ⟨c0, c1, c2, c3, f0, f1, f2, f3⟩ := hbt
            have s0 := (hbs 0 _ rfl).1
            have s1 := (hbs 1 _ rfl).1
            have t0 := (hbs 0 _ rfl).2
            have t1 := (hbs 1 _ rfl).2
            clear hbs
            go_wp2_with fail
            obtain ⟨q0, q1, q2, q3, p0, p1⟩ := HSIX.out
            refine bodyPost_ret (v := .tuple #[.agg #[.int .u8 (tk : Int), .string ts, .int .u64 (tn : Int), .int .i64 ta], .int .i64 tz, .agg #[.int .i64 te, .int .i64 tb]]) (by simp [results, Tryz.results13, go_sem, q0, q1, q2, q3, p0, p1]) rfl ⟨rfl, below6 HR9.out.bl (Nat.le_refl _) (by rw [HC.out]; omega)⟩
          | false =>
            obtain ⟨D, hD⟩ : ∃ D, D = digB b0 := ⟨_, rfl⟩
            have HDG : Hid (∀ W, Calls Tryz.prog 37 #[byte b0] W fun e w' => e = .returned (.bool D) ∧ W = w') := Lib.hid (fun W => by rw [hD]; exact refDigW b0 W)
            have HDD : Hid (digB (topB l) = D) := Lib.hid (by rw [HC0.out, hD])
            clear hD
            go_wp2_with fail
            refine (HDG.out _).mono ?_
            rintro e w5 ⟨rfl, rfl⟩
            cases D with
            | true =>
              have HNU : Hid (∀ W, Calls Tryz.prog 38 #[.string s, .int .i64 (k : Int)] W fun e w' => e = .returned (.tuple #[.agg #[.int .u8 (tk : Int), .string ts, .int .u64 (tn : Int), .int .i64 ta], .int .i64 tz, .agg #[.int .i64 te, .int .i64 tb]]) ∧ Below W.heap.size W w') := Lib.hid (fun W => by
                have h1 : oneL l = numOne l := by
                  unfold oneL
                  rw [if_neg H39.out, if_neg H120.out, if_neg (by rw [HSP.out]; decide), if_pos HDD.out]
                have h2 := HV.out
                rw [h1] at h2
                rw [← h2, HL.out]
                exact refNumberW s k _ rfl W HS.out HK.out (by rw [← HL.out]; exact HDD.out))
              go_wp2_with fail
              refine (HNU.out _).mono ?_
              rintro e w9 ⟨rfl, hb9⟩
              have HR9 := Lib.hid (HB0.out.later hb9)
              clear hb9
              obtain ⟨hbt, hbs, hbc, hcb⟩ := HR9.out.fin HC.out
              have HSIX := Lib.hid (filled6 w9 w.heap.size c hbc (.int .u8 (tk : Int)) (.string ts) (.int .u64 (tn : Int)) (.int .i64 ta) (.int .i64 te) (.int .i64 tb) hbt hbs _ rfl)
              obtain ⟨c0, c1, c2, c3, f0, f1, f2, f3⟩ := hbt
              have s0 := (hbs 0 _ rfl).1
              have s1 := (hbs 1 _ rfl).1
              have t0 := (hbs 0 _ rfl).2
              have t1 := (hbs 1 _ rfl).2
              clear hbs
              go_wp2_with fail
              obtain ⟨q0, q1, q2, q3, p0, p1⟩ := HSIX.out
              refine bodyPost_ret (v := .tuple #[.agg #[.int .u8 (tk : Int), .string ts, .int .u64 (tn : Int), .int .i64 ta], .int .i64 tz, .agg #[.int .i64 te, .int .i64 tb]]) (by simp [results, Tryz.results13, go_sem, q0, q1, q2, q3, p0, p1]) rfl ⟨rfl, below6 HR9.out.bl (Nat.le_refl _) (by rw [HC.out]; omega)⟩
            | false =>
              have HONE : Hid (oneL l = if l.take 2 ∈ twosL then .tok 6 (l.take 2) 0 2 else if b0 ∈ signsL then .tok 6 (l.take 1) 0 1 else .bad 6 0) := Lib.hid (by
                unfold oneL
                rw [if_neg H39.out, if_neg H120.out, if_neg (by rw [HSP.out]; decide), if_neg (by rw [HDD.out]; decide)]
                unfold signOne
                rw [HC0.out])
              have HT1 : Hid (l.take 1 = [b0]) := Lib.hid (by
                have h1 := HC0.out
                cases hh : l with
                | nil => have h2 := HLL.out; have h3 := HK.out; rw [hh] at h2; simp at h2; omega
                | cons a b => rw [hh] at h1; have h4 : a = b0 := h1; rw [h4]; rfl)
              have HCUT1 : Hid ((.string (s.extract k (k + 1)) : Value) = str [b0]) := Lib.hid (by rw [cut_list, ← HL.out, HT1.out])
              have HIN2 : Hid (Calls Tryz.prog 39 #[.slice (some ⟨w1.heap.size, 0, none⟩) 4 4, str (l.take 2)] (w1.alloc (.cells #[.string ⟨#[60, 62]⟩, .string ⟨#[60, 61]⟩, .string ⟨#[62, 61]⟩, .string ⟨#[124, 124]⟩] 9)) fun e w' => e = .returned (.bool (decide (l.take 2 ∈ twosL))) ∧ (w1.alloc (.cells #[.string ⟨#[60, 62]⟩, .string ⟨#[60, 61]⟩, .string ⟨#[62, 61]⟩, .string ⟨#[124, 124]⟩] 9)) = w') := Lib.hid (refInW w1.heap.size twosL 4 (by decide) (by decide) ⟨(l.take 2).toArray⟩ _ (strs_new w1 twosL _ _ twos_cells))
              go_upto_region 10 with fail
              obtain ⟨B, hB⟩ : ∃ B, B = decide (l.take 2 ∈ twosL) := ⟨_, rfl⟩
              have HBB := Lib.hid hB
              rw [← hB] at HIN2
              clear hB
              go_cut [71] (fun v wx => v = .bool B ∧ Hid (Below w1.heap.size w1 wx) ∧ (B = true → k + 2 ≤ s.size))
              case first =>
                have hw2 := HW2.out
                by_cases h2s : k + 2 ≤ s.size
                · have e2 : decide ((k : Int) + 2 ≤ (s.size : Int)) = true := decide_eq_true (by omega)
                  have j0 : (0 : Int) ≤ (k : Int) := by omega
                  have j1 : (k : Int) ≤ (k : Int) + 2 := by omega
                  have j2 : (k : Int) + 2 ≤ (s.size : Int) := by omega
                  have hcut : (.string (s.extract k (k + 2)) : Value) = str (l.take 2) := by rw [cut_list, ← HL.out]
                  have H2S := Lib.hid h2s
                  clear h2s
                  go_wp2_with fail
                  first
                  | refine HIN2.out.mono ?_
                  | (trace_state; fail)
                  rintro e w3 ⟨rfl, rfl⟩
                  go_wp2_with fail
                  go_meet
                  exact ⟨rfl, Lib.hid ((Below.refl _ _).alloc (Nat.le_refl _) _), fun _ => H2S.out⟩
                · have e2 : decide ((k : Int) + 2 ≤ (s.size : Int)) = false := decide_eq_false (by omega)
                  obtain rfl : B = false := by
                    rw [HBB.out]
                    refine decide_eq_false (fun h => h2s ?_)
                    have h1 : (l.take 2).length = 2 := by
                      revert h
                      generalize l.take 2 = y
                      intro h
                      simp only [twosL, List.mem_cons, List.not_mem_nil, or_false] at h
                      rcases h with rfl | rfl | rfl | rfl <;> rfl
                    rw [List.length_take, HLL.out] at h1
                    omega
                  clear h2s
                  go_wp2_with fail
                  go_meet
                  exact ⟨rfl, Lib.hid (Below.refl _ _), fun h => absurd h (by decide)⟩
              case rest =>
                rename World => wx
                obtain ⟨rfl, hbe, h2⟩ := hcut
                have HB1 := Lib.hid (HB0.out.later hbe.out)
                clear hbe HIN2
                cases B with
                | true =>
                  have HBT : Hid (l.take 2 ∈ twosL) := Lib.hid (of_decide_eq_true HBB.out.symm)
                  have H2S := Lib.hid (h2 rfl)
                  clear h2 HBB
                  have hw2 := HW2.out
                  have j0 : (0 : Int) ≤ (k : Int) := by omega
                  have j1 : (k : Int) ≤ (k : Int) + 2 := by omega
                  have j2 : (k : Int) + 2 ≤ (s.size : Int) := by have := H2S.out; omega
                  have hcut : (.string (s.extract k (k + 2)) : Value) = str (l.take 2) := by rw [cut_list, ← HL.out]
                  obtain ⟨hbt, hbs, hbc, hcb⟩ := HB1.out.fin HC.out
                  have HSIX := Lib.hid (filled6 wx w.heap.size c hbc (.int .u8 6) (str (l.take 2)) (.int .u64 0) (.int .i64 (k : Int)) (.int .i64 0) (.int .i64 0) hbt hbs _ rfl)
                  obtain ⟨c0, c1, c2, c3, f0, f1, f2, f3⟩ := hbt
                  have s0 := (hbs 0 _ rfl).1
                  have s1 := (hbs 1 _ rfl).1
                  have t0 := (hbs 0 _ rfl).2
                  have t1 := (hbs 1 _ rfl).2
                  clear hbs
                  go_wp2_with fail
                  obtain ⟨q0, q1, q2, q3, p0, p1⟩ := HSIX.out
                  refine bodyPost_ret (v := .tuple #[.agg #[.int .u8 6, str (l.take 2), .int .u64 0, .int .i64 (k : Int)], .int .i64 ((k : Int) + 2), .agg #[.int .i64 0, .int .i64 0]]) (by simp [results, Tryz.results13, go_sem, q0, q1, q2, q3, p0, p1]; exact HW2.out) rfl ⟨(by rw [← HV.out, HONE.out, if_pos HBT.out]; exact refV_tok (by rfl) (by rfl) (by simp) rfl), below6 HB1.out.bl (Nat.le_refl _) (by rw [HC.out]; omega)⟩
                | false =>
                  have HBF : Hid (¬ l.take 2 ∈ twosL) := Lib.hid (of_decide_eq_false HBB.out.symm)
                  clear h2 HBB
                  have hw1 := HW1.out
                  have j0 : (0 : Int) ≤ (k : Int) := by omega
                  have j1 : (k : Int) ≤ (k : Int) + 1 := by omega
                  have j2 : (k : Int) + 1 ≤ (s.size : Int) := by have := HK.out; omega
                  have hcut := HCUT1.out
                  have HIN3 : Hid (Calls Tryz.prog 39 #[.slice (some ⟨wx.heap.size, 0, none⟩) 13 13, str [b0]] (wx.alloc (.cells #[.string ⟨#[40]⟩, .string ⟨#[41]⟩, .string ⟨#[44]⟩, .string ⟨#[46]⟩, .string ⟨#[42]⟩, .string ⟨#[43]⟩, .string ⟨#[45]⟩, .string ⟨#[47]⟩, .string ⟨#[37]⟩, .string ⟨#[61]⟩, .string ⟨#[60]⟩, .string ⟨#[62]⟩, .string ⟨#[59]⟩] 9)) fun e w' => e = .returned (.bool (decide ([b0] ∈ signs1))) ∧ (wx.alloc (.cells #[.string ⟨#[40]⟩, .string ⟨#[41]⟩, .string ⟨#[44]⟩, .string ⟨#[46]⟩, .string ⟨#[42]⟩, .string ⟨#[43]⟩, .string ⟨#[45]⟩, .string ⟨#[47]⟩, .string ⟨#[37]⟩, .string ⟨#[61]⟩, .string ⟨#[60]⟩, .string ⟨#[62]⟩, .string ⟨#[59]⟩] 9)) = w') := Lib.hid (refInW wx.heap.size signs1 13 (by decide) (by decide) ⟨#[b0]⟩ _ (strs_new wx signs1 _ _ signs_cells))
                  obtain ⟨B, hB⟩ : ∃ B, B = decide ([b0] ∈ signs1) := ⟨_, rfl⟩
                  have HBB := Lib.hid hB
                  rw [← hB] at HIN3
                  clear hB
                  go_upto_region 12 with fail
                  go_cut [88] (fun v wz => v = .bool B ∧ Hid (Below wx.heap.size wx wz))
                  case first =>
                    go_wp2_with fail
                    refine HIN3.out.mono ?_
                    rintro e w3 ⟨rfl, rfl⟩
                    go_wp2_with fail
                    go_meet
                    exact ⟨rfl, Lib.hid ((Below.refl _ _).alloc (Nat.le_refl _) _)⟩
                  case rest =>
                    rename World => wz
                    obtain ⟨rfl, hbe⟩ := hcut
                    have HB2 := Lib.hid (HB1.out.later hbe.out)
                    clear hbe HIN3
                    cases B with
                    | true =>
                      have HBT : Hid (b0 ∈ signsL) := Lib.hid ((signs1_mem b0).1 (of_decide_eq_true HBB.out.symm))
                      clear HBB
                      obtain ⟨hbt, hbs, hbc, hcb⟩ := HB2.out.fin HC.out
                      have HSIX := Lib.hid (filled6 wz w.heap.size c hbc (.int .u8 6) (str [b0]) (.int .u64 0) (.int .i64 (k : Int)) (.int .i64 0) (.int .i64 0) hbt hbs _ rfl)
                      obtain ⟨c0, c1, c2, c3, f0, f1, f2, f3⟩ := hbt
                      have s0 := (hbs 0 _ rfl).1
                      have s1 := (hbs 1 _ rfl).1
                      have t0 := (hbs 0 _ rfl).2
                      have t1 := (hbs 1 _ rfl).2
                      clear hbs
                      go_wp2_with fail
                      obtain ⟨q0, q1, q2, q3, p0, p1⟩ := HSIX.out
                      refine bodyPost_ret (v := .tuple #[.agg #[.int .u8 6, str [b0], .int .u64 0, .int .i64 (k : Int)], .int .i64 ((k : Int) + 1), .agg #[.int .i64 0, .int .i64 0]]) (by simp [results, Tryz.results13, go_sem, q0, q1, q2, q3, p0, p1]; exact HW1.out) rfl ⟨(by rw [← HV.out, HONE.out, if_neg HBF.out, if_pos HBT.out, HT1.out]; exact refV_tok (by rfl) (by rfl) (by simp) rfl), below6 HB2.out.bl (Nat.le_refl _) (by rw [HC.out]; omega)⟩
                    | false =>
                      have HBN : Hid (¬ b0 ∈ signsL) := Lib.hid (fun h => absurd ((signs1_mem b0).2 h) (of_decide_eq_false HBB.out.symm))
                      clear HBB
                      have HONE := Lib.hid (show oneL l = .bad 6 0 by rw [HONE.out, if_neg HBF.out, if_neg HBN.out])
                      go_wp2_with fail
                      refine (refBadW 6 ((k : Int)) wz).mono ?_
                      rintro e w9 ⟨rfl, hb9⟩
                      have HR9 := Lib.hid (HB2.out.later hb9)
                      clear hb9
                      obtain ⟨hbt, hbs, hbc, hcb⟩ := HR9.out.fin HC.out
                      have HSIX := Lib.hid (filled6 w9 w.heap.size c hbc (.int .u8 0) (.string ⟨#[]⟩) (.int .u64 0) (.int .i64 0) (.int .i64 6) (.int .i64 ((k : Int))) hbt hbs _ rfl)
                      obtain ⟨c0, c1, c2, c3, f0, f1, f2, f3⟩ := hbt
                      have s0 := (hbs 0 _ rfl).1
                      have s1 := (hbs 1 _ rfl).1
                      have t0 := (hbs 0 _ rfl).2
                      have t1 := (hbs 1 _ rfl).2
                      clear hbs
                      go_wp2_with fail
                      obtain ⟨q0, q1, q2, q3, p0, p1⟩ := HSIX.out
                      refine bodyPost_ret (v := .tuple #[.agg #[.int .u8 0, .string ⟨#[]⟩, .int .u64 0, .int .i64 0], .int .i64 0, .agg #[.int .i64 6, .int .i64 ((k : Int))]]) (by simp [results, Tryz.results13, go_sem, q0, q1, q2, q3, p0, p1]) rfl ⟨(by rw [← HV.out, HONE.out]; exact refV_bad rfl (by simp)), below6 HR9.out.bl (Nat.le_refl _) (by rw [HC.out]; omega)⟩
end Go.Proofs.YtghfaeapgghhlaaGreatDoor.Dt
