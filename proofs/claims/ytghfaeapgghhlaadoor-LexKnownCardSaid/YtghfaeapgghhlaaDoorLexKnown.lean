/- LexKnown: the law returns true at every input. -/
import Derived.Test.YtghfaeapgghhlaaDoorLiftD
import Derived.Test.YtghfaeapgghhlaaDoorTie
import Derived.Test.YtghfaeapgghhlaaDoorCards
import Derived.SevenTiedAt
import Derived.Stop.Joined
import Derived.Test.YtghfaeapgghhlaaDoorLexWorks
import Derived.Test.YtghfaeapgghhlaaDoorLexLaid
import Derived.Test.YtghfaeapgghhlaaDoorLexPut
import Derived.Test.YtghfaeapgghhlaaDoorLexRA
import Derived.Test.YtghfaeapgghhlaaDoorKipT
import Derived.Test.YtghfaeapgghhlaaDoorOpen
namespace Go.Proofs.YtghfaeapgghhlaaDoor.LexKnown
open Go.ChangeShapes Go.WideShapes Go.ChangeAt Go.RowKit Go.Proofs.YtghfaeapgghhlaaDoor.By
set_option linter.unusedVariables false
-- laid lx9
/- LexKnown: the document's examples. No conditions beyond what the row lists. -/
open Go.Proofs.YtghfaeapgghhlaaDoor.Dt
theorem rowT_new (W : World) (l : List Tk) (cs : Array Value) (h : cs = (tCells l).toArray) : TksAt (W.alloc (.cells cs 48)) (.slice (some ⟨W.heap.size, 0, none⟩) l.length l.length) l := by
  subst h
  refine ⟨_, _, rfl, Nat.le_refl _, fun i x hx => ⟨W.heap.size, 0, rfl, fun j u hu => ?_⟩⟩
  rw [Nat.zero_add]
  exact cell_new W _ _ _ u (tCells_get l i x hx j u hu)
def K7 : List (List UInt8) := [[83, 69, 76, 69, 67], [97, 66], [49, 50, 97], [48, 49], [39, 97], [120, 39, 48], [33]]
def A7 (k : Nat) : Nat := [0, 1, 2, 1, 2, 3, 0].getD k 0
theorem k7_cells : #[.string ⟨#[83, 69, 76, 69, 67]⟩, .string ⟨#[97, 66]⟩, .string ⟨#[49, 50, 97]⟩, .string ⟨#[48, 49]⟩, .string ⟨#[39, 97]⟩, .string ⟨#[120, 39, 48]⟩, .string ⟨#[33]⟩] = (K7.map str).toArray := by kernel_rfl
theorem k7_toks : ∀ k : Fin 7, toksL (K7.getD k.val []) = .inl (6, A7 k.val) := by decide +kernel
theorem k7_len : ∀ k : Fin 7, (K7.getD k.val []).length ≤ 100 := by decide +kernel
theorem pick7 {W : World} {b k : Nat} (h0 : W.cell? ⟨b, 0, none⟩ = some (.int .i64 0)) (h1 : W.cell? ⟨b, 1, none⟩ = some (.int .i64 1)) (h2 : W.cell? ⟨b, 2, none⟩ = some (.int .i64 2)) (h3 : W.cell? ⟨b, 3, none⟩ = some (.int .i64 1)) (h4 : W.cell? ⟨b, 4, none⟩ = some (.int .i64 2)) (h5 : W.cell? ⟨b, 5, none⟩ = some (.int .i64 3)) (h6 : W.cell? ⟨b, 6, none⟩ = some (.int .i64 0)) (hk : k < 7) : W.cell? ⟨b, k, none⟩ = some (.int .i64 ((A7 k : Nat) : Int)) := by
  rcases k with _ | _ | _ | _ | _ | _ | _ | k
  · exact h0
  · exact h1
  · exact h2
  · exact h3
  · exact h4
  · exact h5
  · exact h6
  · omega
theorem toks_a : toksL (ByteArray.data ⟨#[39, 105, 116, 39, 39, 115, 39]⟩).toList = .inr [⟨4, ⟨#[105, 116, 39, 115]⟩, 0, 0⟩] := by decide +kernel
theorem toks_b : toksL (ByteArray.data ⟨#[120, 39, 48, 102, 39]⟩).toList = .inr [⟨5, ⟨#[15]⟩, 0, 0⟩] := by decide +kernel
theorem toks_c : toksL (ByteArray.data ⟨#[97, 45, 45, 98]⟩).toList = .inr [⟨2, ⟨#[97]⟩, 0, 0⟩] := by decide +kernel
theorem toks_d : toksL (ByteArray.data ⟨#[57, 50, 50, 51, 51, 55, 50, 48, 51, 54, 56, 53, 52, 55, 55, 53, 56, 48, 57]⟩).toList = .inl (5, 0) := by decide +kernel
theorem toks_e : toksL (Lib.repeatL [97] 33) = .inl (3, 0) := by decide +kernel
theorem toks_f : toksL (Lib.repeatL [32] 4097) = .inl (3, 4096) := by
  rw [toksL_eq, if_pos (by rw [Lib.repeatL_length]; decide)]
theorem write_g : writeL [⟨2, ⟨#[97]⟩, 0, 0⟩, ⟨6, ⟨#[60, 61]⟩, 0, 0⟩, ⟨4, ⟨#[39]⟩, 0, 0⟩] = ([97, 32, 60, 61, 32, 39, 39, 39, 39], 0) := by decide +kernel
theorem write_h : writeL [⟨2, ⟨#[65]⟩, 0, 0⟩] = ([], 2) := by decide +kernel
def KnK (k : Nat) : Nat → Value → World → Prop
  | 0, v, _ => v = .slice none 0 0
  | 1, v, _ => v = .int .i64 0
  | 2, v, _ => v = .bool false
  | 3, v, _ => v = .bool false
  | 4, v, _ => v = .agg #[.int .i64 6, .int .i64 ((A7 k : Nat) : Int)]
  | 5, v, w => ∃ b, v = .slice (some ⟨b, 0, none⟩) 7 7 ∧ w.cell? ⟨b, 0, none⟩ = some (.int .i64 0) ∧ w.cell? ⟨b, 1, none⟩ = some (.int .i64 1) ∧ w.cell? ⟨b, 2, none⟩ = some (.int .i64 2) ∧ w.cell? ⟨b, 3, none⟩ = some (.int .i64 1) ∧ w.cell? ⟨b, 4, none⟩ = some (.int .i64 2) ∧ w.cell? ⟨b, 5, none⟩ = some (.int .i64 3) ∧ w.cell? ⟨b, 6, none⟩ = some (.int .i64 0)
  | 6, v, _ => v = .int .i64 (k : Int)
  | 7, v, w => ∃ b, v = .pointer (some ⟨b, k, none⟩) ∧ w.cell? ⟨b, k, none⟩ = some (.int .i64 ((A7 k : Nat) : Int))
  | 8, v, _ => v = .int .i64 ((A7 k : Nat) : Int)
  | 9, v, _ => v = .agg #[.int .i64 6, .int .i64 ((A7 k : Nat) : Int)]
  | 10, v, _ => v = .bool false
  | _, _, _ => True
theorem KnK.later {k : Nat} : ∀ (j : Nat) (v : Value) (w1 w2 : World), KnK k j v w1 → Below w1.heap.size w1 w2 → KnK k j v w2
  | 0, _, _, _, h, _ => h
  | 1, _, _, _, h, _ => h
  | 2, _, _, _, h, _ => h
  | 3, _, _, _, h, _ => h
  | 4, _, _, _, h, _ => h
  | 5, _, _, _, ⟨b, h0, c0, c1, c2, c3, c4, c5, c6⟩, hb => ⟨b, h0, (hb.cell (cell_lt c0)).trans c0, (hb.cell (cell_lt c1)).trans c1, (hb.cell (cell_lt c2)).trans c2, (hb.cell (cell_lt c3)).trans c3, (hb.cell (cell_lt c4)).trans c4, (hb.cell (cell_lt c5)).trans c5, (hb.cell (cell_lt c6)).trans c6⟩
  | 6, _, _, _, h, _ => h
  | 7, _, _, _, ⟨b, h0, c0⟩, hb => ⟨b, h0, (hb.cell (cell_lt c0)).trans c0⟩
  | 8, _, _, _, h, _ => h
  | 9, _, _, _, h, _ => h
  | 10, _, _, _, h, _ => h
  | _ + 11, _, _, _, h, _ => h
set_option maxRecDepth 100000 in
set_option maxHeartbeats 32000000 in
theorem walk (w : World) (hw : LX w) :
    Calls Tryd.prog 10 #[] w fun e w' => e = .returned (.bool true) ∧ Below w.heap.size w w' := by
  have HW := Lib.hid hw
  clear hw
  have HTK : Hid (∀ (x : ByteArray) W, LX W → x.size ≤ 1000000 → Calls Tryd.prog 24 #[.string x] W fun e w' => toksPost (toksL x.data.toList) e w' ∧ Below W.heap.size W w') := Lib.hid (fun x W h1 h2 => tokensLexW x W h1 h2)
  go_enter Tryd.func10, Tryd.ntmps10
  go_wp2_with fail
  refine (lexWorks w HW.out).mono ?_
  rintro e w1 ⟨rfl, hb1⟩
  have HBw1 := Lib.hid hb1
  clear hb1
  go_wp2_with fail
  refine (HTK.out ⟨#[39, 105, 116, 39, 39, 115, 39]⟩ w1 (HW.out.later HBw1.out) (by decide)).mono ?_
  rintro e w1x ⟨hp, hbx⟩
  rw [toks_a] at hp
  obtain ⟨va, rfl, hat⟩ := hp
  have hba : Below w1x.heap.size w1x (w1x.alloc (.cells #[.int .i64 0, .int .i64 0] 43)) := (Below.refl _ _).alloc (Nat.le_refl _) _
  have HBw2 := Lib.hid (next (next HBw1.out hbx) hba)
  have HAa := Lib.hid (SlAt.below hat hba)
  clear hbx hat hba
  go_upto_region 4 with fail
  generalize w1x.alloc (.cells #[.int .i64 0, .int .i64 0] 43) = w2 at *
  go_wp2_with fail
  refine (HTK.out ⟨#[120, 39, 48, 102, 39]⟩ w2 (HW.out.later HBw2.out) (by decide)).mono ?_
  rintro e w2x ⟨hp, hbx⟩
  rw [toks_b] at hp
  obtain ⟨vb, rfl, hat⟩ := hp
  have hba : Below w2x.heap.size w2x (w2x.alloc (.cells #[.int .i64 0, .int .i64 0] 43)) := (Below.refl _ _).alloc (Nat.le_refl _) _
  have HBw3 := Lib.hid (next (next HBw2.out hbx) hba)
  have HAa := Lib.hid (SlAt.below HAa.out (hbx.trans (hba.mono hbx.size)))
  have HAb := Lib.hid (SlAt.below hat hba)
  clear hbx hat hba
  go_upto_region 5 with fail
  generalize w2x.alloc (.cells #[.int .i64 0, .int .i64 0] 43) = w3 at *
  go_wp2_with fail
  refine (HTK.out ⟨#[97, 45, 45, 98]⟩ w3 (HW.out.later HBw3.out) (by decide)).mono ?_
  rintro e w3x ⟨hp, hbx⟩
  rw [toks_c] at hp
  obtain ⟨vc, rfl, hat⟩ := hp
  have hba : Below w3x.heap.size w3x (w3x.alloc (.cells #[.int .i64 0, .int .i64 0] 43)) := (Below.refl _ _).alloc (Nat.le_refl _) _
  have HBw4 := Lib.hid (next (next HBw3.out hbx) hba)
  have HAa := Lib.hid (SlAt.below HAa.out (hbx.trans (hba.mono hbx.size)))
  have HAb := Lib.hid (SlAt.below HAb.out (hbx.trans (hba.mono hbx.size)))
  have HAc := Lib.hid (SlAt.below hat hba)
  clear hbx hat hba
  go_upto_region 6 with fail
  generalize w3x.alloc (.cells #[.int .i64 0, .int .i64 0] 43) = w4 at *
  have hba : Below w4.heap.size w4 (w4.alloc (.cells #[.int .u8 4, .string ⟨#[105, 116, 39, 115]⟩, .int .u64 0, .int .i64 0] 48)) := (Below.refl _ _).alloc (Nat.le_refl _) _
  have HBq := Lib.hid (next HBw4.out hba)
  have HAa := Lib.hid (SlAt.below HAa.out hba)
  have HAb := Lib.hid (SlAt.below HAb.out hba)
  have HAc := Lib.hid (SlAt.below HAc.out hba)
  have HAr := Lib.hid (rowT_new w4 [⟨4, ⟨#[105, 116, 39, 115]⟩, 0, 0⟩] #[.int .u8 4, .string ⟨#[105, 116, 39, 115]⟩, .int .u64 0, .int .i64 0] rfl)
  clear hba
  go_wp2_with fail
  refine (sameW _ _ _ [⟨4, ⟨#[105, 116, 39, 115]⟩, 0, 0⟩] _ (by simp) HAa.out HAr.out ⟨⟨rfl, rfl, rfl⟩, trivial⟩).mono ?_
  rintro e w5 ⟨rfl, hbs⟩
  have HBw5 := Lib.hid (next HBq.out hbs)
  have HAb := Lib.hid (SlAt.below HAb.out hbs)
  have HAc := Lib.hid (SlAt.below HAc.out hbs)
  clear hbs HBq HAr
  have hba : Below w5.heap.size w5 (w5.alloc (.cells #[.int .u8 5, .string ⟨#[15]⟩, .int .u64 0, .int .i64 0] 48)) := (Below.refl _ _).alloc (Nat.le_refl _) _
  have HBq := Lib.hid (next HBw5.out hba)
  have HAb := Lib.hid (SlAt.below HAb.out hba)
  have HAc := Lib.hid (SlAt.below HAc.out hba)
  have HAr := Lib.hid (rowT_new w5 [⟨5, ⟨#[15]⟩, 0, 0⟩] #[.int .u8 5, .string ⟨#[15]⟩, .int .u64 0, .int .i64 0] rfl)
  clear hba
  go_wp2_with fail
  refine (sameW _ _ _ [⟨5, ⟨#[15]⟩, 0, 0⟩] _ (by simp) HAb.out HAr.out ⟨⟨rfl, rfl, rfl⟩, trivial⟩).mono ?_
  rintro e w6 ⟨rfl, hbs⟩
  have HBw6 := Lib.hid (next HBq.out hbs)
  have HAc := Lib.hid (SlAt.below HAc.out hbs)
  clear hbs HBq HAr
  have hba : Below w6.heap.size w6 (w6.alloc (.cells #[.int .u8 2, .string ⟨#[97]⟩, .int .u64 0, .int .i64 0] 48)) := (Below.refl _ _).alloc (Nat.le_refl _) _
  have HBq := Lib.hid (next HBw6.out hba)
  have HAc := Lib.hid (SlAt.below HAc.out hba)
  have HAr := Lib.hid (rowT_new w6 [⟨2, ⟨#[97]⟩, 0, 0⟩] #[.int .u8 2, .string ⟨#[97]⟩, .int .u64 0, .int .i64 0] rfl)
  clear hba
  go_wp2_with fail
  refine (sameW _ _ _ [⟨2, ⟨#[97]⟩, 0, 0⟩] _ (by simp) HAc.out HAr.out ⟨⟨rfl, rfl, rfl⟩, trivial⟩).mono ?_
  rintro e w7 ⟨rfl, hbs⟩
  have HBw7 := Lib.hid (next HBq.out hbs)
  clear hbs HBq HAr
  have hst := strs_new w7 K7 9 _ k7_cells
  have hba : Below w7.heap.size w7 (w7.alloc (.cells #[.string ⟨#[83, 69, 76, 69, 67]⟩, .string ⟨#[97, 66]⟩, .string ⟨#[49, 50, 97]⟩, .string ⟨#[48, 49]⟩, .string ⟨#[39, 97]⟩, .string ⟨#[120, 39, 48]⟩, .string ⟨#[33]⟩] 9)) := (Below.refl _ _).alloc (Nat.le_refl _) _
  have HST := Lib.hid hst
  have HBw8 := Lib.hid (next HBw7.out hba)
  clear hst hba
  go_upto_region 9 with fail
  generalize w7.alloc (.cells #[.string ⟨#[83, 69, 76, 69, 67]⟩, .string ⟨#[97, 66]⟩, .string ⟨#[49, 50, 97]⟩, .string ⟨#[48, 49]⟩, .string ⟨#[39, 97]⟩, .string ⟨#[120, 39, 48]⟩, .string ⟨#[33]⟩] 9) = w8 at *
  generalize w7.heap.size = bk at *
  go_loopg [56] 7 (fun gk iv wr => ∃ k : Nat, iv = .int .i64 (k : Int) ∧ gk = 7 - k ∧ k ≤ 7 ∧ Hid (Below w8.heap.size w8 wr))
  case atStart => exact ⟨0, rfl, rfl, Nat.zero_le _, Lib.hid (Below.refl _ _)⟩
  case round =>
    obtain ⟨k, rfl, rfl, hk, HBR⟩ := hrel
    by_cases hlt : k < 7
    · have i1 : (k : Int) < 7 := by omega
      have HK7 := Lib.hid hlt
      have hkk : K7[k]? = some (K7.getD k []) := by rw [List.getD_eq_getElem?_getD, List.getElem?_eq_getElem hlt]; rfl
      have c0 := (HBR.out.cell (cell_lt (HST.out k _ hkk))).trans (HST.out k _ hkk)
      obtain ⟨S, hS⟩ : ∃ S : ByteArray, S = ⟨(K7.getD k []).toArray⟩ := ⟨_, rfl⟩
      replace c0 : wr.cell? ⟨bk, k, none⟩ = some (.string S) := by rw [hS]; exact c0
      have HTS : Hid (toksL S.data.toList = .inl (6, A7 k) ∧ S.size ≤ 100) := Lib.hid (by rw [hS]; exact ⟨k7_toks ⟨k, hlt⟩, k7_len ⟨k, hlt⟩⟩)
      have HKK : Hid (wrap64 ((k : Int) + 1) = ((k + 1 : Nat) : Int)) := Lib.hid (by unfold wrap64; omega)
      clear hk hlt hkk hS
      go_wp2_with fail
      clear c0
      refine (HTK.out S wr (HW.out.later (next HBw8.out HBR.out)) (by have := HTS.out.2; omega)).mono ?_
      rintro e w9 ⟨hp, hb9⟩
      rw [HTS.out.1] at hp
      obtain rfl : e = .returned (.tuple #[.slice none 0 0, .agg #[.int .i64 6, .int .i64 ((A7 k : Nat) : Int)]]) := hp
      have HB9 := Lib.hid (next HBR.out hb9)
      clear hb9
      go_upto_region 12 with fail
      have z0 : (w9.alloc (.cells #[.int .i64 6, .int .i64 ((A7 k : Nat) : Int)] 43)).cell? ⟨w9.heap.size, 0, none⟩ = some (.int .i64 6) := by go_simp
      have z1 : (w9.alloc (.cells #[.int .i64 6, .int .i64 ((A7 k : Nat) : Int)] 43)).cell? ⟨w9.heap.size, 1, none⟩ = some (.int .i64 ((A7 k : Nat) : Int)) := by go_simp
      have HBA : Hid (Below w8.heap.size w8 (w9.alloc (.cells #[.int .i64 6, .int .i64 ((A7 k : Nat) : Int)] 43))) := Lib.hid (HB9.out.alloc HB9.out.size _)
      generalize w9.alloc (.cells #[.int .i64 6, .int .i64 ((A7 k : Nat) : Int)] 43) = w10 at *
      generalize w9.heap.size = q at *
      have HY := Lib.hid (And.intro z0 z1)
      clear z0 z1
      refine wp_region_kipt 11 (KnK k) 137 (by simp) (by kernel_rfl) (by kernel_rfl) KnK.later ?_ ?_
      · intro i hi A W hother hbW hd
        match i, hi with
          | 0, hi =>
            have h9 := tmps_at (show A.eval (.tmp 9) = .slice none 0 0 from hother 9 (by kernel_rfl))
            clear hother hd hi
            exact kip_same rfl (wanted_none rfl) (.slice none 0 0) (by simp only [execOp]; go_simp) rfl
          | 1, hi =>
            have h66 := tmps_at ((hd _ rfl ⟨0, .data⟩ (by simp) rfl).eq (.slice none 0 0) (fun _ h => h) 66 (by kernel_rfl) (by decide))
            clear hother hd hi
            exact kip_same rfl (wanted_none rfl) (.int .i64 0) (by simp only [execOp]; go_simp) rfl
          | 2, hi =>
            have h67 := tmps_at ((hd _ rfl ⟨1, .data⟩ (by simp) rfl).eq (.int .i64 0) (fun _ h => h) 67 (by kernel_rfl) (by decide))
            clear hother hd hi
            exact kip_same rfl (wanted_none rfl) (.bool false) (by simp only [execOp]; go_simp) rfl
          | 3, hi =>
            have h68 := tmps_at ((hd _ rfl ⟨2, .data⟩ (by simp) rfl).eq (.bool false) (fun _ h => h) 68 (by kernel_rfl) (by decide))
            clear hother hd hi
            exact kip_same rfl (wanted_none rfl) (.bool false) (by simp only [execOp]; go_simp) rfl
          | 4, hi =>
            have h10 := tmps_at (show A.eval (.tmp 10) = .pointer (some ⟨q, 0, none⟩) from hother 10 (by kernel_rfl))
            have hgd := (hd _ rfl ⟨3, .guard⟩ (by simp) rfl).eq (.bool false) (fun _ h => h) 69 (by kernel_rfl) (by decide)
            have z0 := (hbW.cell (cell_lt HY.out.1)).trans HY.out.1
            have z1 := (hbW.cell (cell_lt HY.out.2)).trans HY.out.2
            clear hother hd hi
            exact kip_same rfl (wanted_some rfl (by kernel_rfl) hgd) (.agg #[.int .i64 6, .int .i64 ((A7 k : Nat) : Int)]) (by simp only [execOp]; go_simp) rfl
          | 5, hi =>
            have hgd := (hd _ rfl ⟨3, .guard⟩ (by simp) rfl).eq (.bool false) (fun _ h => h) 69 (by kernel_rfl) (by decide)
            clear hother hd hi
            exact kip_val rfl (wanted_some rfl (by kernel_rfl) hgd) (.slice (some ⟨W.heap.size, 0, none⟩) 7 7) (W.alloc (.cells #[.int .i64 0, .int .i64 1, .int .i64 2, .int .i64 1, .int .i64 2, .int .i64 3, .int .i64 0] 3)) (by simp only [execOp]; go_simp) ((Below.refl _ _).alloc (Nat.le_refl _) _) ⟨_, rfl, by go_simp, by go_simp, by go_simp, by go_simp, by go_simp, by go_simp, by go_simp⟩
          | 6, hi =>
            have h7 := tmps_at (show A.eval (.tmp 7) = .int .i64 (k : Int) from hother 7 (by kernel_rfl))
            have hgd := (hd _ rfl ⟨3, .guard⟩ (by simp) rfl).eq (.bool false) (fun _ h => h) 69 (by kernel_rfl) (by decide)
            clear hother hd hi
            exact kip_same rfl (wanted_some rfl (by kernel_rfl) hgd) (.int .i64 (k : Int)) (by simp only [execOp]; go_simp) rfl
          | 7, hi =>
            obtain ⟨bv5, ⟨bx5, be5, bc5_0, bc5_1, bc5_2, bc5_3, bc5_4, bc5_5, bc5_6⟩, hx5⟩ := (hd _ rfl ⟨5, .data⟩ (by simp) rfl).get 71 (by kernel_rfl) (by decide)
            rw [be5] at hx5
            have hy5 := tmps_at hx5
            have h72 := tmps_at ((hd _ rfl ⟨6, .data⟩ (by simp) rfl).eq (.int .i64 (k : Int)) (fun _ h => h) 72 (by kernel_rfl) (by decide))
            have hgd := (hd _ rfl ⟨3, .guard⟩ (by simp) rfl).eq (.bool false) (fun _ h => h) 69 (by kernel_rfl) (by decide)
            clear hother hd hi
            have hck := pick7 bc5_0 bc5_1 bc5_2 bc5_3 bc5_4 bc5_5 bc5_6 HK7.out
            have k0 : (0 : Int) ≤ (k : Int) := by omega
            have k1 : (k : Int) < 7 := by have := HK7.out; omega
            exact kip_val rfl (wanted_some rfl (by kernel_rfl) hgd) (.pointer (some ⟨bx5, k, none⟩)) W (by simp only [execOp]; go_simp) (Below.refl _ _) ⟨_, rfl, hck⟩
          | 8, hi =>
            obtain ⟨bv7, ⟨bx7, be7, bc7⟩, hx7⟩ := (hd _ rfl ⟨7, .data⟩ (by simp) rfl).get 73 (by kernel_rfl) (by decide)
            rw [be7] at hx7
            have hy7 := tmps_at hx7
            have hgd := (hd _ rfl ⟨3, .guard⟩ (by simp) rfl).eq (.bool false) (fun _ h => h) 69 (by kernel_rfl) (by decide)
            clear hother hd hi
            exact kip_same rfl (wanted_some rfl (by kernel_rfl) hgd) (.int .i64 ((A7 k : Nat) : Int)) (by simp only [execOp]; go_simp) rfl
          | 9, hi =>
            have h74 := tmps_at ((hd _ rfl ⟨8, .data⟩ (by simp) rfl).eq (.int .i64 ((A7 k : Nat) : Int)) (fun _ h => h) 74 (by kernel_rfl) (by decide))
            have hgd := (hd _ rfl ⟨3, .guard⟩ (by simp) rfl).eq (.bool false) (fun _ h => h) 69 (by kernel_rfl) (by decide)
            clear hother hd hi
            exact kip_same rfl (wanted_some rfl (by kernel_rfl) hgd) (.agg #[.int .i64 6, .int .i64 ((A7 k : Nat) : Int)]) (by simp only [execOp]; go_simp) rfl
          | 10, hi =>
            have h70 := tmps_at ((hd _ rfl ⟨4, .data⟩ (by simp) rfl).eq (.agg #[.int .i64 6, .int .i64 ((A7 k : Nat) : Int)]) (fun _ h => h) 70 (by kernel_rfl) (by decide))
            have h75 := tmps_at ((hd _ rfl ⟨9, .data⟩ (by simp) rfl).eq (.agg #[.int .i64 6, .int .i64 ((A7 k : Nat) : Int)]) (fun _ h => h) 75 (by kernel_rfl) (by decide))
            have hgd := (hd _ rfl ⟨3, .guard⟩ (by simp) rfl).eq (.bool false) (fun _ h => h) 69 (by kernel_rfl) (by decide)
            have hq : ∀ W, (binOp .neq 43 (.agg #[.int .i64 6, .int .i64 ((A7 k : Nat) : Int)]) (.agg #[.int .i64 6, .int .i64 ((A7 k : Nat) : Int)])).run Tryd.prog W = .ok (.bool false) W := neq_toldS _ _ _ _ false (by simp)
            clear hother hd hi
            exact kip_same rfl (wanted_some rfl (by kernel_rfl) hgd) (.bool false) (by simp only [execOp]; go_simp) rfl
          | n + 11, hi => omega
      · intro us W hbW hk
        have h3 : us 3 = .bool false := hk 3 (by decide)
        have h10 : us 10 = .bool false := hk 10 (by decide)
        have HBX := Lib.hid (next HBA.out hbW)
        clear hk hbW
        simp only [putAll, dstOf, List.getElem?_toArray, List.getElem?_cons_zero, List.getElem?_cons_succ, Option.bind_some, Act.put, h3, h10, List.drop_succ_cons, List.drop_zero]
        simp only [List.setIfInBounds_toArray, List.set_cons_zero, List.set_cons_succ]
        go_wp2_with fail
        go_roundg (7 - (k + 1))
        case measure => exact Nat.sub_lt_sub_left HK7.out (Nat.lt_succ_self _)
        case rel => exact ⟨k + 1, by first | exact congrArg (Value.int .i64) HKK.out | (simp; done) | (simp; exact HKK.out), rfl, HK7.out, HBX⟩
    · obtain rfl : k = 7 := by omega
      have HBE := Lib.hid (next HBw8.out HBR.out)
      clear hlt hk HBR
      have HBwr := HBE
      go_wp2_with fail
      refine (HTK.out ⟨#[57, 50, 50, 51, 51, 55, 50, 48, 51, 54, 56, 53, 52, 55, 55, 53, 56, 48, 57]⟩ wr (HW.out.later HBwr.out) (by decide)).mono ?_
      rintro e wrx ⟨hp, hbx⟩
      rw [toks_d] at hp
      obtain rfl : e = .returned (.tuple #[.slice none 0 0, .agg #[.int .i64 5, .int .i64 0]]) := hp
      have hba : Below wrx.heap.size wrx (wrx.alloc (.cells #[.int .i64 5, .int .i64 0] 43)) := (Below.refl _ _).alloc (Nat.le_refl _) _
      have hbt := hbx.trans (hba.mono hbx.size)
      have HBu2 := Lib.hid (next HBwr.out hbt)
      clear hbx hba hbt
      go_upto_region 16 with fail
      have z0 : (wrx.alloc (.cells #[.int .i64 5, .int .i64 0] 43)).cell? ⟨wrx.heap.size, 0, none⟩ = some (.int .i64 5) := by go_simp
      have z1 : (wrx.alloc (.cells #[.int .i64 5, .int .i64 0] 43)).cell? ⟨wrx.heap.size, 1, none⟩ = some (.int .i64 0) := by go_simp
      have HZd := Lib.hid (And.intro z0 z1)
      clear z0 z1
      generalize wrx.alloc (.cells #[.int .i64 5, .int .i64 0] 43) = u2 at *
      generalize wrx.heap.size = qd at *
      go_wp2_with fail
      refine (Tryd.strings_Repeat ⟨#[97]⟩ 33 u2 (by decide) (by decide)).mono ?_
      rintro e u2r ⟨rfl, hbr⟩
      have HBu2r := Lib.hid (next HBu2.out hbr)
      have HZd := Lib.hid (And.intro ((hbr.cell (cell_lt HZd.out.1)).trans HZd.out.1) ((hbr.cell (cell_lt HZd.out.2)).trans HZd.out.2))
      clear hbr
      go_wp2_with fail
      refine (HTK.out ⟨(Lib.repeatL [97] 33).toArray⟩ u2r (HW.out.later HBu2r.out) (by show (Lib.repeatL _ _).length ≤ _; rw [Lib.repeatL_length]; decide)).mono ?_
      rintro e u2rx ⟨hp, hbx⟩
      rw [show (ByteArray.data ⟨(Lib.repeatL [97] 33).toArray⟩).toList = Lib.repeatL [97] 33 from rfl, toks_e] at hp
      obtain rfl : e = .returned (.tuple #[.slice none 0 0, .agg #[.int .i64 3, .int .i64 0]]) := hp
      have hba : Below u2rx.heap.size u2rx (u2rx.alloc (.cells #[.int .i64 3, .int .i64 0] 43)) := (Below.refl _ _).alloc (Nat.le_refl _) _
      have hbt := hbx.trans (hba.mono hbx.size)
      have HBu3 := Lib.hid (next HBu2r.out hbt)
      have HZd := Lib.hid (And.intro ((hbt.cell (cell_lt HZd.out.1)).trans HZd.out.1) ((hbt.cell (cell_lt HZd.out.2)).trans HZd.out.2))
      clear hbx hba hbt
      go_upto_region 17 with fail
      have z0 : (u2rx.alloc (.cells #[.int .i64 3, .int .i64 0] 43)).cell? ⟨u2rx.heap.size, 0, none⟩ = some (.int .i64 3) := by go_simp
      have z1 : (u2rx.alloc (.cells #[.int .i64 3, .int .i64 0] 43)).cell? ⟨u2rx.heap.size, 1, none⟩ = some (.int .i64 0) := by go_simp
      have HZe := Lib.hid (And.intro z0 z1)
      clear z0 z1
      generalize u2rx.alloc (.cells #[.int .i64 3, .int .i64 0] 43) = u3 at *
      generalize u2rx.heap.size = qe at *
      go_wp2_with fail
      refine (Tryd.strings_Repeat ⟨#[32]⟩ 4097 u3 (by decide) (by decide)).mono ?_
      rintro e u3r ⟨rfl, hbr⟩
      have HBu3r := Lib.hid (next HBu3.out hbr)
      have HZd := Lib.hid (And.intro ((hbr.cell (cell_lt HZd.out.1)).trans HZd.out.1) ((hbr.cell (cell_lt HZd.out.2)).trans HZd.out.2))
      have HZe := Lib.hid (And.intro ((hbr.cell (cell_lt HZe.out.1)).trans HZe.out.1) ((hbr.cell (cell_lt HZe.out.2)).trans HZe.out.2))
      clear hbr
      go_wp2_with fail
      refine (HTK.out ⟨(Lib.repeatL [32] 4097).toArray⟩ u3r (HW.out.later HBu3r.out) (by show (Lib.repeatL _ _).length ≤ _; rw [Lib.repeatL_length]; decide)).mono ?_
      rintro e u3rx ⟨hp, hbx⟩
      rw [show (ByteArray.data ⟨(Lib.repeatL [32] 4097).toArray⟩).toList = Lib.repeatL [32] 4097 from rfl, toks_f] at hp
      obtain rfl : e = .returned (.tuple #[.slice none 0 0, .agg #[.int .i64 3, .int .i64 4096]]) := hp
      have hba : Below u3rx.heap.size u3rx (u3rx.alloc (.cells #[.int .i64 3, .int .i64 4096] 43)) := (Below.refl _ _).alloc (Nat.le_refl _) _
      have hbt := hbx.trans (hba.mono hbx.size)
      have HBu4 := Lib.hid (next HBu3r.out hbt)
      have HZd := Lib.hid (And.intro ((hbt.cell (cell_lt HZd.out.1)).trans HZd.out.1) ((hbt.cell (cell_lt HZd.out.2)).trans HZd.out.2))
      have HZe := Lib.hid (And.intro ((hbt.cell (cell_lt HZe.out.1)).trans HZe.out.1) ((hbt.cell (cell_lt HZe.out.2)).trans HZe.out.2))
      clear hbx hba hbt
      go_upto_region 18 with fail
      have z0 : (u3rx.alloc (.cells #[.int .i64 3, .int .i64 4096] 43)).cell? ⟨u3rx.heap.size, 0, none⟩ = some (.int .i64 3) := by go_simp
      have z1 : (u3rx.alloc (.cells #[.int .i64 3, .int .i64 4096] 43)).cell? ⟨u3rx.heap.size, 1, none⟩ = some (.int .i64 4096) := by go_simp
      have HZf := Lib.hid (And.intro z0 z1)
      clear z0 z1
      generalize u3rx.alloc (.cells #[.int .i64 3, .int .i64 4096] 43) = u4 at *
      generalize u3rx.heap.size = qf at *
      have hba : Below u4.heap.size u4 (u4.alloc (.cells #[.int .u8 2, .string ⟨#[97]⟩, .int .u64 0, .int .i64 0, .int .u8 6, .string ⟨#[60, 61]⟩, .int .u64 0, .int .i64 0, .int .u8 4, .string ⟨#[39]⟩, .int .u64 0, .int .i64 0] 48)) := (Below.refl _ _).alloc (Nat.le_refl _) _
      have hwr := writeW _ [⟨2, ⟨#[97]⟩, 0, 0⟩, ⟨6, ⟨#[60, 61]⟩, 0, 0⟩, ⟨4, ⟨#[39]⟩, 0, 0⟩] _ (HW.out.later (next HBu4.out hba)) (rowT_new u4 [⟨2, ⟨#[97]⟩, 0, 0⟩, ⟨6, ⟨#[60, 61]⟩, 0, 0⟩, ⟨4, ⟨#[39]⟩, 0, 0⟩] #[.int .u8 2, .string ⟨#[97]⟩, .int .u64 0, .int .i64 0, .int .u8 6, .string ⟨#[60, 61]⟩, .int .u64 0, .int .i64 0, .int .u8 4, .string ⟨#[39]⟩, .int .u64 0, .int .i64 0] rfl) (by decide) (by decide)
      rw [write_g] at hwr
      have HWR := Lib.hid hwr
      have HBA := Lib.hid hba
      clear hwr hba
      go_wp2_with fail
      refine HWR.out.mono ?_
      rintro e u5 ⟨rfl, hbw⟩
      have hbt := HBA.out.trans (hbw.mono HBA.out.size)
      have HBu5 := Lib.hid (next HBu4.out hbt)
      have HZd := Lib.hid (And.intro ((hbt.cell (cell_lt HZd.out.1)).trans HZd.out.1) ((hbt.cell (cell_lt HZd.out.2)).trans HZd.out.2))
      have HZe := Lib.hid (And.intro ((hbt.cell (cell_lt HZe.out.1)).trans HZe.out.1) ((hbt.cell (cell_lt HZe.out.2)).trans HZe.out.2))
      have HZf := Lib.hid (And.intro ((hbt.cell (cell_lt HZf.out.1)).trans HZf.out.1) ((hbt.cell (cell_lt HZf.out.2)).trans HZf.out.2))
      clear hbw hbt HWR HBA
      go_upto_region 19 with fail
      have hba : Below u5.heap.size u5 (u5.alloc (.cells #[.int .u8 2, .string ⟨#[65]⟩, .int .u64 0, .int .i64 0] 48)) := (Below.refl _ _).alloc (Nat.le_refl _) _
      have hwr := writeW _ [⟨2, ⟨#[65]⟩, 0, 0⟩] _ (HW.out.later (next HBu5.out hba)) (rowT_new u5 [⟨2, ⟨#[65]⟩, 0, 0⟩] #[.int .u8 2, .string ⟨#[65]⟩, .int .u64 0, .int .i64 0] rfl) (by decide) (by decide)
      rw [write_h] at hwr
      have HWR := Lib.hid hwr
      have HBA := Lib.hid hba
      clear hwr hba
      go_wp2_with fail
      refine HWR.out.mono ?_
      rintro e u6 ⟨rfl, hbw⟩
      have hbt := HBA.out.trans (hbw.mono HBA.out.size)
      have HBu6 := Lib.hid (next HBu5.out hbt)
      have HZd := Lib.hid (And.intro ((hbt.cell (cell_lt HZd.out.1)).trans HZd.out.1) ((hbt.cell (cell_lt HZd.out.2)).trans HZd.out.2))
      have HZe := Lib.hid (And.intro ((hbt.cell (cell_lt HZe.out.1)).trans HZe.out.1) ((hbt.cell (cell_lt HZe.out.2)).trans HZe.out.2))
      have HZf := Lib.hid (And.intro ((hbt.cell (cell_lt HZf.out.1)).trans HZf.out.1) ((hbt.cell (cell_lt HZf.out.2)).trans HZf.out.2))
      clear hbw hbt HWR HBA
      have hq1 : ∀ W, (binOp .eql 43 (.agg #[.int .i64 5, .int .i64 0]) (.agg #[.int .i64 5, .int .i64 0])).run Tryd.prog W = .ok (.bool true) W := eq_toldS _ _ _ _ true (by simp)
      have hq2 : ∀ W, (binOp .eql 43 (.agg #[.int .i64 3, .int .i64 0]) (.agg #[.int .i64 3, .int .i64 0])).run Tryd.prog W = .ok (.bool true) W := eq_toldS _ _ _ _ true (by simp)
      have hq3 : ∀ W, (binOp .eql 43 (.agg #[.int .i64 3, .int .i64 4096]) (.agg #[.int .i64 3, .int .i64 4096])).run Tryd.prog W = .ok (.bool true) W := eq_toldS _ _ _ _ true (by simp)
      obtain ⟨d0, d1⟩ := HZd.out
      obtain ⟨e0, e1⟩ := HZe.out
      obtain ⟨f0, f1⟩ := HZf.out
      go_upto_region 20 with fail
      go_wp2_with fail
      clear hq1 hq2 hq3 d0 d1 e0 e1 f0 f1
      refine (wordsW u6 (HW.out.later HBu6.out)).mono ?_
      rintro e u7 ⟨Aw, rfl, hs7, hb7⟩
      have HBu7 := Lib.hid (next HBu6.out hb7)
      have HS7 := Lib.hid hs7
      clear hb7 hs7
      go_wp2_with fail
      refine (refWordsW u7).mono ?_
      rintro e u8 ⟨Ar, rfl, hs8, hb8⟩
      have HBu8 := Lib.hid (next HBu7.out hb8)
      have HS8 := Lib.hid hs8
      have HS78 := Lib.hid (HS7.out.later hb8)
      clear hb8 hs8
      have hce : ∀ (B : Nat) (h : StrsAt B wordsL u8) (j : Nat), j < (wordsL.map fun x => (⟨x.toArray⟩ : ByteArray)).length → u8.cell? ⟨B, 0 + j, none⟩ = some (.string ((wordsL.map fun x => (⟨x.toArray⟩ : ByteArray)).getD j ByteArray.empty)) := fun B h j hj => by
        rw [List.length_map] at hj
        rw [Nat.zero_add, h j wordsL[j] (List.getElem?_eq_getElem hj), List.getD_eq_getElem?_getD, List.getElem?_map, List.getElem?_eq_getElem hj]; rfl
      have HEQ := Lib.hid (Tryd.slices_Equal_string Aw 0 43 43 Ar 0 43 43 (wordsL.map fun x => ⟨x.toArray⟩) (wordsL.map fun x => ⟨x.toArray⟩) u8 (by rw [List.length_map, words_len]; omega) (by rw [List.length_map, words_len]; omega) (by decide) (by decide) (hce Aw HS78.out) (hce Ar HS8.out))
      clear hce
      go_wp2_with fail
      refine HEQ.out.mono ?_
      rintro e u9 ⟨he, qq, rfl⟩
      obtain rfl : e = .returned (.bool true) := by rw [he]; simp only [decide_true]
      have HBu9 := Lib.hid (drewN_below HBu8.out qq)
      go_wp2_with fail
      go_ret
      exact ⟨rfl, HBu9.out⟩

theorem own : ownKnob Tryd.prog.godebug = none := by kernel_rfl
theorem laid : laidOutB Tryd.prog = true := by kernel_rfl
def laidD : List (String × DataW Unit) := [("math/bits.deBruijn32tab", Rows.laid_math_bits_deBruijn32tab), ("math/bits.deBruijn64tab", Rows.laid_math_bits_deBruijn64tab), ("internal/strconv.uint64pow10", Rows.laid_internal_strconv_uint64pow10), ("unicode/utf8.acceptRanges", Rows.laid_unicode_utf8_acceptRanges), ("strconv.ErrRange", Rows.laid_strconv_ErrRange), ("strconv.ErrSyntax", Rows.laid_strconv_ErrSyntax), ("unicode.White_Space", Rows.laid_unicode_White_Space), ("strings.asciiSpace", Rows.laid_strings_asciiSpace), ("unicode/utf8.first", Rows.laid_unicode_utf8_first)]

set_option maxRecDepth 100000 in
theorem opened {H : Type} (enc : TypeId × Value → H) (W : World) (args : Array Value) (ds : List (DataW H)) (p : List MemPlace) (hsh : W.ShapedOpen Tryd.prog) (hL : laidMetH Tryd.prog laidD W) :
    Lift.Owes enc Tryd.prog 10 Tryd.f10.params.toList W args ds p := by
  have HL := Lib.hid hL
  clear hL
  intro hA hval hsz _
  rw [Tryd.params10] at hA hval hsz
  obtain ⟨rfl, rfl, rfl⟩ := trodAll_none hA
  exact walk  W (lx9 hsh HL.out) 

set_option maxRecDepth 100000 in
theorem lifted (os : Os) (started : os.Started) (H : Type) (enc : TypeId × Value → H) :
    ReturnsInHanded {} Tryd.checked os 10 .any (fun w args => (Rows.lexKnownSpec.pre enc Tryd.prog Tryd.f10 [] false w args ∧ laidMetH Tryd.prog laidD w) ∧ sizedMet enc Tryd.prog Tryd.f10 (OpenSpec.ofChange Rows.lexKnownSpec) false w args)
      (Rows.lexKnownSpec.post enc Tryd.prog Tryd.f10 false true false false) := by
  refine Lift.liftedD (C := Tryd.checked) (X := fun w _ => laidMetH Tryd.prog laidD w) (fun _ _ _ hh h => h.of_heap hh) own started (by kernel_rfl) Tryd.func10
    (ChangeSpec.witness_shaped (enc := enc) (C := Tryd.checked) (os := os) (X := fun w _ => laidMetH Tryd.prog laidD w) false (World.laidAll Tryd.prog os laidD) #[] 8 (World.laidAll_os _ _ _)
      (World.shaped_of_ZipB (by kernel_rfl) (by kernel_rfl)) (by kernel_rfl) (by kernel_rfl) (by kernel_rfl)
      (by rw [MakeChecks.laidMetH_plain _ _ _ (by kernel_rfl)]; exact laidMet_laidAll _ (by kernel_rfl) (by kernel_rfl)))
    laid (by rw [Tryd.params10]; intro t ht; simp at ht; skip) rfl 4 rfl Tryd.underlying4
    (fun ds hds => by match ds, hds with | [], _ => rfl) (fun W args ds p hsh hL => opened enc W args ds p hsh hL)

theorem row_said : Rows.LexKnownSaid :=
  OpenClaim.holds_of_wide 10 Tryd.f10 rfl rfl rfl rfl rfl rfl rfl ⟨rfl, rfl, rfl, rfl, rfl⟩ rfl rfl rfl rfl rfl (by kernel_rfl) Tryd.func10 (by kernel_rfl)
    (of_decide_eq_true (by kernel_rfl)) (by unfold Func.isWrapper; first | (rw [if_pos (by decide +kernel)]; kernel_rfl) | (rw [if_neg (by decide +kernel)]; exact ⟨rfl, rfl⟩))
    (fun os started H enc _ => lifted os started H enc)

theorem said : Rows.LexKnownCardSaid :=
  Claim7.holds_tied_plain_at .later [] [.data, .data, .data, .data, .sentinel, .sentinel, .listed, .data, .pinned] true (true, "beeeb87dc6d8e7c394a9af8ed07e7d2b6f4d2f56e63b48bb337aad32e36f280c") true
    row_said (fun _ h => by cases h) (by kernel_rfl) (fun _ h => by cases h) lexKnown_row_tie rfl ⟨rfl, rfl⟩ (by kernel_rfl) rfl
    (fun f fn hf hfn => by
      obtain rfl : f = 10 := Option.some.inj ((show Tryd.prog.funcNamed "counterfoil/counterfoillaw13.LexKnown" = some 10 by kernel_rfl).symm.trans hf) |>.symm
      obtain rfl : fn = Tryd.f10 := (Option.some.inj (Tryd.func10.symm.trans hfn)).symm
      exact ⟨by kernel_rfl, fun j t ht => by
        rw [Tryd.params10] at ht
        simp at ht⟩)
    (by kernel_rfl)
#print axioms said
end Go.Proofs.YtghfaeapgghhlaaDoor.LexKnown
