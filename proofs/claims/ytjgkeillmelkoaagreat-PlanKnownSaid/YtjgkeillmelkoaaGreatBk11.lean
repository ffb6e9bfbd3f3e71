import Derived.Deep.DeepCutAuto
import Derived.ScopeJumps
import Derived.WalkMore
import Derived.Test.YtjgkeillmelkoaaGreatBk10
import Derived.Test.YtjgkeillmelkoaaGreatBk07
import Derived.Test.YtjgkeillmelkoaaGreatBk02
import Derived.Test.YtjgkeillmelkoaaGreatBk04
import Derived.Test.YtjgkeillmelkoaaGreatBk06
import Derived.Test.YtjgkeillmelkoaaGreatBk05
namespace Go.Proofs.YtjgkeillmelkoaaGreat.Dt
open Go.RowKit Go.Proofs.YtjgkeillmelkoaaGreat.By

/-- A token's text as the reference tells it: none, where a text or a blob is too long. -/
def refTx (t : Tk) : List UInt8 := if (t.k = 4 ∨ t.k = 5) ∧ 1000 < t.s.size then [] else textT t
theorem refTx_ok (t : Tk) : okT t ↔ refTx t ≠ [] ∧ oneL (refTx t) = .tok t.k t.s.data.toList t.n (refTx t).length := by
  unfold refTx
  split
  · rename_i h
    constructor
    · intro ho; have := ho.2.1; omega
    · intro ho; exact absurd rfl ho.1
  · constructor
    · intro ho; exact ⟨ho.1, ho.2.2⟩
    · rintro ⟨h1, h2⟩
      refine ⟨h1, ?_, h2⟩
      have := (one_ok h1 h2 t.a).1.2.1
      have e : (⟨t.s.data.toList.toArray⟩ : ByteArray) = t.s := ByteArray.ext Array.toArray_toList
      simp only at this
      rwa [e] at this
theorem refTx_of {t : Tk} (h : okT t) : refTx t = textT t := by
  unfold refTx
  rw [if_neg (by have := h.2.1; omega)]
theorem refTx_len {t : Tk} (hs : t.s.size ≤ 100000) (hn : t.n < 18446744073709551616) : (refTx t).length ≤ 100100 := by
  unfold refTx
  split
  · simp
  · unfold textT
    split
    · rw [bytes_list]; omega
    split
    · have := dec_len 20 t.n (by omega) (by omega); omega
    split
    · have := quoteL_len t.s.data.toList
      rw [bytes_list] at this
      simp only [List.length_cons, List.length_append, List.length_nil]; omega
    split
    · have := hexL_length t.s.data.toList
      rw [bytes_list] at this
      simp only [List.length_cons, List.length_append, List.length_nil]; omega
    · exact Nat.zero_le _
theorem joinL_snoc : ∀ (L : List (List UInt8)) (x : List UInt8), joinL (L ++ [x]) = if L = [] then x else joinL L ++ [32] ++ x
  | [], x => rfl
  | [y], x => by
    show y ++ 32 :: x = _
    simp [joinL]
  | y :: z :: L, x => by
    show y ++ 32 :: joinL (z :: L ++ [x]) = _
    rw [joinL_snoc (z :: L) x, if_neg (by simp), if_neg (by simp)]
    show y ++ 32 :: (joinL (z :: L) ++ [32] ++ x) = (y ++ 32 :: joinL (z :: L)) ++ [32] ++ x
    simp
theorem digitsNat (m : Nat) (W : World) (h : m ≤ 9223372036854775807) : Calls Tryz.prog 106 #[.int .i64 (m : Int)] W fun e w' => e = .returned (str (Lib.decDigits m)) ∧ Below W.heap.size W w' :=
  (digitsW (m : Int) W (by omega) (by omega)).mono fun _ _ ⟨h1, h2⟩ => ⟨by rw [h1, Lib.itoa_nonneg], h2⟩
theorem lit_2 (s : ByteArray) (h : s.size ≤ 1000) : litV ⟨2, 0, s⟩ = 39 :: (quoteL s.data.toList ++ [39]) := by
  have hc : checkV ⟨2, 0, s⟩ = 0 := by
    unfold checkV
    rw [if_neg (by unfold badV; simp), if_neg (by show ¬ 1000 < s.size; omega)]
  unfold litV
  rw [if_neg (by rw [hc]; simp), if_neg (by simp), if_pos rfl]
theorem lit_3 (s : ByteArray) (h : s.size ≤ 1000) : litV ⟨3, 0, s⟩ = 120 :: 39 :: (hexL s.data.toList ++ [39]) := by
  have hc : checkV ⟨3, 0, s⟩ = 0 := by
    unfold checkV
    rw [if_neg (by unfold badV; simp), if_neg (by show ¬ 1000 < s.size; omega)]
  unfold litV
  rw [if_neg (by rw [hc]; simp), if_neg (by simp), if_neg (by simp), if_pos rfl]
set_option maxRecDepth 100000 in
set_option maxHeartbeats 16000000 in
theorem refTxW (k n : Nat) (s : ByteArray) (a : Int) (w : World) (hn : n < 18446744073709551616) (hs : s.size ≤ 100000) :
    Calls Tryz.prog 102 #[.agg #[.int .u8 (k : Int), .string s, .int .u64 (n : Int), .int .i64 a]] w fun e w' => e = .returned (str (refTx ⟨k, s, n, a⟩)) ∧ Below w.heap.size w w' := by
  have HS := Lib.hid hs
  have HN := Lib.hid hn
  clear hs hn
  by_cases hk1 : k = 1
  · have hk := hk1
    subst hk
    go_enter Tryz.func102, Tryz.ntmps102
    go_upto_region 1 with fail
    have y0 : (w.alloc (.cells #[.int .u8 (1), .string s, .int .u64 (n : Int), .int .i64 a] 114)).cell? ⟨w.heap.size, 0, none⟩ = some (.int .u8 (1)) := by go_simp
    have y1 : (w.alloc (.cells #[.int .u8 (1), .string s, .int .u64 (n : Int), .int .i64 a] 114)).cell? ⟨w.heap.size, 1, none⟩ = some (.string s) := by go_simp
    have y2 : (w.alloc (.cells #[.int .u8 (1), .string s, .int .u64 (n : Int), .int .i64 a] 114)).cell? ⟨w.heap.size, 2, none⟩ = some (.int .u64 (n : Int)) := by go_simp
    have HB : Hid (Below w.heap.size w (w.alloc (.cells #[.int .u8 (1), .string s, .int .u64 (n : Int), .int .i64 a] 114))) := Lib.hid ((Below.refl _ _).alloc (Nat.le_refl _) _)
    generalize (w.alloc (.cells #[.int .u8 (1), .string s, .int .u64 (n : Int), .int .i64 a] 114)) = w1 at *
    go_wp2_with fail
    go_ret
    exact ⟨by rw [show refTx ⟨1, s, n, a⟩ = s.data.toList by unfold refTx; rw [if_neg (by simp), textT_w (by simp)]]; rfl, HB.out⟩
  by_cases hk2 : k = 2
  · have hk := hk2
    subst hk
    go_enter Tryz.func102, Tryz.ntmps102
    go_upto_region 1 with fail
    have y0 : (w.alloc (.cells #[.int .u8 (2), .string s, .int .u64 (n : Int), .int .i64 a] 114)).cell? ⟨w.heap.size, 0, none⟩ = some (.int .u8 (2)) := by go_simp
    have y1 : (w.alloc (.cells #[.int .u8 (2), .string s, .int .u64 (n : Int), .int .i64 a] 114)).cell? ⟨w.heap.size, 1, none⟩ = some (.string s) := by go_simp
    have y2 : (w.alloc (.cells #[.int .u8 (2), .string s, .int .u64 (n : Int), .int .i64 a] 114)).cell? ⟨w.heap.size, 2, none⟩ = some (.int .u64 (n : Int)) := by go_simp
    have HB : Hid (Below w.heap.size w (w.alloc (.cells #[.int .u8 (2), .string s, .int .u64 (n : Int), .int .i64 a] 114))) := Lib.hid ((Below.refl _ _).alloc (Nat.le_refl _) _)
    generalize (w.alloc (.cells #[.int .u8 (2), .string s, .int .u64 (n : Int), .int .i64 a] 114)) = w1 at *
    go_wp2_with fail
    go_ret
    exact ⟨by rw [show refTx ⟨2, s, n, a⟩ = s.data.toList by unfold refTx; rw [if_neg (by simp), textT_w (by simp)]]; rfl, HB.out⟩
  by_cases hk6 : k = 6
  · have hk := hk6
    subst hk
    go_enter Tryz.func102, Tryz.ntmps102
    go_upto_region 1 with fail
    have y0 : (w.alloc (.cells #[.int .u8 (6), .string s, .int .u64 (n : Int), .int .i64 a] 114)).cell? ⟨w.heap.size, 0, none⟩ = some (.int .u8 (6)) := by go_simp
    have y1 : (w.alloc (.cells #[.int .u8 (6), .string s, .int .u64 (n : Int), .int .i64 a] 114)).cell? ⟨w.heap.size, 1, none⟩ = some (.string s) := by go_simp
    have y2 : (w.alloc (.cells #[.int .u8 (6), .string s, .int .u64 (n : Int), .int .i64 a] 114)).cell? ⟨w.heap.size, 2, none⟩ = some (.int .u64 (n : Int)) := by go_simp
    have HB : Hid (Below w.heap.size w (w.alloc (.cells #[.int .u8 (6), .string s, .int .u64 (n : Int), .int .i64 a] 114))) := Lib.hid ((Below.refl _ _).alloc (Nat.le_refl _) _)
    generalize (w.alloc (.cells #[.int .u8 (6), .string s, .int .u64 (n : Int), .int .i64 a] 114)) = w1 at *
    go_wp2_with fail
    go_ret
    exact ⟨by rw [show refTx ⟨6, s, n, a⟩ = s.data.toList by unfold refTx; rw [if_neg (by simp), textT_w (by simp)]]; rfl, HB.out⟩
  by_cases hk3 : k = 3
  · have hk := hk3
    subst hk
    have HT : Hid (refTx ⟨3, s, n, a⟩ = Lib.decDigits n) := Lib.hid (by unfold refTx; rw [if_neg (by simp), textT_3 rfl])
    by_cases h10 : n < 10
    · have i1 : ¬ (10 : Int) ≤ (n : Int) := by omega
      have hw1 : IntKind.wrap .i64 (n : Int) = (n : Int) := by rw [IntKind.wrap_i64]; omega
      have hw2 : wrap64 (n : Int) = (n : Int) := by unfold wrap64; omega
      clear h10
      go_enter Tryz.func102, Tryz.ntmps102
      go_upto_region 1 with fail
      have y0 : (w.alloc (.cells #[.int .u8 (3), .string s, .int .u64 (n : Int), .int .i64 a] 114)).cell? ⟨w.heap.size, 0, none⟩ = some (.int .u8 (3)) := by go_simp
      have y1 : (w.alloc (.cells #[.int .u8 (3), .string s, .int .u64 (n : Int), .int .i64 a] 114)).cell? ⟨w.heap.size, 1, none⟩ = some (.string s) := by go_simp
      have y2 : (w.alloc (.cells #[.int .u8 (3), .string s, .int .u64 (n : Int), .int .i64 a] 114)).cell? ⟨w.heap.size, 2, none⟩ = some (.int .u64 (n : Int)) := by go_simp
      have HB : Hid (Below w.heap.size w (w.alloc (.cells #[.int .u8 (3), .string s, .int .u64 (n : Int), .int .i64 a] 114))) := Lib.hid ((Below.refl _ _).alloc (Nat.le_refl _) _)
      generalize (w.alloc (.cells #[.int .u8 (3), .string s, .int .u64 (n : Int), .int .i64 a] 114)) = w1 at *
      go_wp2_with fail
      refine (digitsNat n w1 (by have := HN.out; omega)).mono ?_
      rintro e w2 ⟨rfl, hb2⟩
      go_wp2_with fail
      go_ret
      exact ⟨by rw [HT.out]; rfl, next HB.out hb2⟩
    · have i1 : (10 : Int) ≤ (n : Int) := by omega
      obtain ⟨m, hm⟩ : ∃ m, m = n / 10 := ⟨_, rfl⟩
      obtain ⟨d, hd⟩ : ∃ d, d = n % 10 := ⟨_, rfl⟩
      have HD : Hid (Lib.decDigits n = Lib.decDigits m ++ Lib.decDigits d) := Lib.hid (by rw [dec_big h10, ← hm, ← hd, dec_small (n := d) (by omega)])
      have HMD : Hid (m ≤ 1844674407370955161 ∧ d < 10) := Lib.hid (by have := HN.out; omega)
      have q1 : (n : Int) / 10 = (m : Int) := by omega
      have q2 : Int.tdiv (n : Int) 10 = (m : Int) := by rw [Int.tdiv_eq_ediv_of_nonneg (by omega)]; exact q1
      have q3 : (n : Int) % 10 = (d : Int) := by omega
      have q4 : Int.tmod (n : Int) 10 = (d : Int) := by rw [Int.tmod_eq_emod_of_nonneg (by omega)]; exact q3
      have w11 : IntKind.wrap .i64 (m : Int) = (m : Int) := by rw [IntKind.wrap_i64]; have := HMD.out; omega
      have w12 : wrap64 (m : Int) = (m : Int) := by unfold wrap64; have := HMD.out; omega
      have w13 : IntKind.wrap .i64 (d : Int) = (d : Int) := by rw [IntKind.wrap_i64]; have := HMD.out; omega
      have w14 : wrap64 (d : Int) = (d : Int) := by unfold wrap64; have := HMD.out; omega
      obtain ⟨DM, hDM⟩ : ∃ D : ByteArray, D = ⟨(Lib.decDigits m).toArray⟩ := ⟨_, rfl⟩
      obtain ⟨DD, hDD⟩ : ∃ D : ByteArray, D = ⟨(Lib.decDigits d).toArray⟩ := ⟨_, rfl⟩
      obtain ⟨DN, hDN⟩ : ∃ D : ByteArray, D = ⟨(Lib.decDigits n).toArray⟩ := ⟨_, rfl⟩
      have HDN := Lib.hid hDN
      have hadd : ∀ W, (Op.stringOp .add DM DD).run Tryz.prog W = .ok (.string DN) W := fun W => by
        rw [hDM, hDD, hDN, HD.out]
        exact add_str (Lib.decDigits m) (Lib.decDigits d) (by have h1 := dec_len 19 m (by have := HMD.out; omega) (by decide); have h2 := dec_len 1 d (by have := HMD.out; omega) (by decide); omega) W
      have HDM : Hid (∀ W, Calls Tryz.prog 106 #[.int .i64 (m : Int)] W fun e w' => e = .returned (.string DM) ∧ Below W.heap.size W w') := Lib.hid (fun W => by rw [hDM]; exact digitsNat m W (by have := HMD.out; omega))
      have HDD : Hid (∀ W, Calls Tryz.prog 106 #[.int .i64 (d : Int)] W fun e w' => e = .returned (.string DD) ∧ Below W.heap.size W w') := Lib.hid (fun W => by rw [hDD]; exact digitsNat d W (by have := HMD.out; omega))
      have v11 : IntKind.wrap .u64 (m : Int) = (m : Int) := (IntKind.wrap_u64 _).trans (Int.emod_eq_of_lt (Int.natCast_nonneg m) (Int.ofNat_lt.2 (Nat.lt_of_le_of_lt HMD.out.1 (by decide))))
      have v12 : IntKind.wrap .u64 (d : Int) = (d : Int) := (IntKind.wrap_u64 _).trans (Int.emod_eq_of_lt (Int.natCast_nonneg d) (Int.ofNat_lt.2 (Nat.lt_trans HMD.out.2 (by decide))))
      clear h10 hm hd hDM hDD
      go_enter Tryz.func102, Tryz.ntmps102
      go_upto_region 1 with fail
      have y0 : (w.alloc (.cells #[.int .u8 (3), .string s, .int .u64 (n : Int), .int .i64 a] 114)).cell? ⟨w.heap.size, 0, none⟩ = some (.int .u8 (3)) := by go_simp
      have y1 : (w.alloc (.cells #[.int .u8 (3), .string s, .int .u64 (n : Int), .int .i64 a] 114)).cell? ⟨w.heap.size, 1, none⟩ = some (.string s) := by go_simp
      have y2 : (w.alloc (.cells #[.int .u8 (3), .string s, .int .u64 (n : Int), .int .i64 a] 114)).cell? ⟨w.heap.size, 2, none⟩ = some (.int .u64 (n : Int)) := by go_simp
      have HB : Hid (Below w.heap.size w (w.alloc (.cells #[.int .u8 (3), .string s, .int .u64 (n : Int), .int .i64 a] 114))) := Lib.hid ((Below.refl _ _).alloc (Nat.le_refl _) _)
      generalize (w.alloc (.cells #[.int .u8 (3), .string s, .int .u64 (n : Int), .int .i64 a] 114)) = w1 at *
      have l2 := lat_cell y2
      go_upto_region 4 with fail
      refine wp_region_later (by kernel_rfl) (by kernel_rfl) ?_
      repeat (go_big_quiet_step ((go_at_call 106; first | with_reducible exact lat_calls (HDM.out _) | with_reducible exact lat_calls (HDD.out _))))
      refine wpQuiet_nil ?_
      refine later_out (fun w2 hb2 => ?_)
      clear hadd l2 y0 y1 y2 q1 q2 q3 q4 v11 v12 w11 w12 w13 w14
      go_wp2_with fail
      go_ret
      exact ⟨by rw [HT.out]; rfl, next HB.out hb2⟩
  by_cases hk4 : k = 4
  · have hk := hk4
    subst hk
    by_cases hbig : 1000 < s.size
    · have i1 : (1000 : Int) < (s.size : Int) := by omega
      have HT : Hid (refTx ⟨4, s, n, a⟩ = []) := Lib.hid (by unfold refTx; rw [if_pos ⟨by simp, hbig⟩])
      clear hbig
      go_enter Tryz.func102, Tryz.ntmps102
      go_upto_region 1 with fail
      have y0 : (w.alloc (.cells #[.int .u8 (4), .string s, .int .u64 (n : Int), .int .i64 a] 114)).cell? ⟨w.heap.size, 0, none⟩ = some (.int .u8 (4)) := by go_simp
      have y1 : (w.alloc (.cells #[.int .u8 (4), .string s, .int .u64 (n : Int), .int .i64 a] 114)).cell? ⟨w.heap.size, 1, none⟩ = some (.string s) := by go_simp
      have y2 : (w.alloc (.cells #[.int .u8 (4), .string s, .int .u64 (n : Int), .int .i64 a] 114)).cell? ⟨w.heap.size, 2, none⟩ = some (.int .u64 (n : Int)) := by go_simp
      have HB : Hid (Below w.heap.size w (w.alloc (.cells #[.int .u8 (4), .string s, .int .u64 (n : Int), .int .i64 a] 114))) := Lib.hid ((Below.refl _ _).alloc (Nat.le_refl _) _)
      generalize (w.alloc (.cells #[.int .u8 (4), .string s, .int .u64 (n : Int), .int .i64 a] 114)) = w1 at *
      go_wp2_with fail
      go_ret
      exact ⟨by rw [HT.out]; rfl, HB.out⟩
    · have i1 : ¬ (1000 : Int) < (s.size : Int) := by omega
      have HT : Hid (refTx ⟨4, s, n, a⟩ = litV ⟨2, 0, s⟩) := Lib.hid (by unfold refTx; rw [if_neg (fun h => hbig h.2), textT_4 rfl, lit_2 s (by omega)])
      have HL : Hid (∀ W, Calls Tryz.prog 107 #[.agg #[.int .u8 2, .int .i64 0, .string s]] W fun e w' => e = .returned (str (litV ⟨2, 0, s⟩)) ∧ Below W.heap.size W w') := Lib.hid (fun W => refLiteralW ⟨2, 0, s⟩ W ⟨by show 2 < 256; decide, ⟨by show (-9223372036854775808 : Int) ≤ 0; decide, by show (0 : Int) ≤ 9223372036854775807; decide⟩, by show s.size ≤ _; omega⟩ (by show s.size ≤ _; omega))
      clear hbig
      go_enter Tryz.func102, Tryz.ntmps102
      go_upto_region 1 with fail
      have y0 : (w.alloc (.cells #[.int .u8 (4), .string s, .int .u64 (n : Int), .int .i64 a] 114)).cell? ⟨w.heap.size, 0, none⟩ = some (.int .u8 (4)) := by go_simp
      have y1 : (w.alloc (.cells #[.int .u8 (4), .string s, .int .u64 (n : Int), .int .i64 a] 114)).cell? ⟨w.heap.size, 1, none⟩ = some (.string s) := by go_simp
      have y2 : (w.alloc (.cells #[.int .u8 (4), .string s, .int .u64 (n : Int), .int .i64 a] 114)).cell? ⟨w.heap.size, 2, none⟩ = some (.int .u64 (n : Int)) := by go_simp
      have HB : Hid (Below w.heap.size w (w.alloc (.cells #[.int .u8 (4), .string s, .int .u64 (n : Int), .int .i64 a] 114))) := Lib.hid ((Below.refl _ _).alloc (Nat.le_refl _) _)
      generalize (w.alloc (.cells #[.int .u8 (4), .string s, .int .u64 (n : Int), .int .i64 a] 114)) = w1 at *
      go_wp2_with fail
      refine (HL.out _).mono ?_
      rintro e w2 ⟨rfl, hb2⟩
      go_wp2_with fail
      go_ret
      exact ⟨by rw [HT.out]; rfl, next HB.out hb2⟩
  by_cases hk5 : k = 5
  · have hk := hk5
    subst hk
    by_cases hbig : 1000 < s.size
    · have i1 : (1000 : Int) < (s.size : Int) := by omega
      have HT : Hid (refTx ⟨5, s, n, a⟩ = []) := Lib.hid (by unfold refTx; rw [if_pos ⟨by simp, hbig⟩])
      clear hbig
      go_enter Tryz.func102, Tryz.ntmps102
      go_upto_region 1 with fail
      have y0 : (w.alloc (.cells #[.int .u8 (5), .string s, .int .u64 (n : Int), .int .i64 a] 114)).cell? ⟨w.heap.size, 0, none⟩ = some (.int .u8 (5)) := by go_simp
      have y1 : (w.alloc (.cells #[.int .u8 (5), .string s, .int .u64 (n : Int), .int .i64 a] 114)).cell? ⟨w.heap.size, 1, none⟩ = some (.string s) := by go_simp
      have y2 : (w.alloc (.cells #[.int .u8 (5), .string s, .int .u64 (n : Int), .int .i64 a] 114)).cell? ⟨w.heap.size, 2, none⟩ = some (.int .u64 (n : Int)) := by go_simp
      have HB : Hid (Below w.heap.size w (w.alloc (.cells #[.int .u8 (5), .string s, .int .u64 (n : Int), .int .i64 a] 114))) := Lib.hid ((Below.refl _ _).alloc (Nat.le_refl _) _)
      generalize (w.alloc (.cells #[.int .u8 (5), .string s, .int .u64 (n : Int), .int .i64 a] 114)) = w1 at *
      go_wp2_with fail
      go_ret
      exact ⟨by rw [HT.out]; rfl, HB.out⟩
    · have i1 : ¬ (1000 : Int) < (s.size : Int) := by omega
      have HT : Hid (refTx ⟨5, s, n, a⟩ = litV ⟨3, 0, s⟩) := Lib.hid (by unfold refTx; rw [if_neg (fun h => hbig h.2), textT_5 rfl, lit_3 s (by omega)])
      have HL : Hid (∀ W, Calls Tryz.prog 107 #[.agg #[.int .u8 3, .int .i64 0, .string s]] W fun e w' => e = .returned (str (litV ⟨3, 0, s⟩)) ∧ Below W.heap.size W w') := Lib.hid (fun W => refLiteralW ⟨3, 0, s⟩ W ⟨by show 3 < 256; decide, ⟨by show (-9223372036854775808 : Int) ≤ 0; decide, by show (0 : Int) ≤ 9223372036854775807; decide⟩, by show s.size ≤ _; omega⟩ (by show s.size ≤ _; omega))
      clear hbig
      go_enter Tryz.func102, Tryz.ntmps102
      go_upto_region 1 with fail
      have y0 : (w.alloc (.cells #[.int .u8 (5), .string s, .int .u64 (n : Int), .int .i64 a] 114)).cell? ⟨w.heap.size, 0, none⟩ = some (.int .u8 (5)) := by go_simp
      have y1 : (w.alloc (.cells #[.int .u8 (5), .string s, .int .u64 (n : Int), .int .i64 a] 114)).cell? ⟨w.heap.size, 1, none⟩ = some (.string s) := by go_simp
      have y2 : (w.alloc (.cells #[.int .u8 (5), .string s, .int .u64 (n : Int), .int .i64 a] 114)).cell? ⟨w.heap.size, 2, none⟩ = some (.int .u64 (n : Int)) := by go_simp
      have HB : Hid (Below w.heap.size w (w.alloc (.cells #[.int .u8 (5), .string s, .int .u64 (n : Int), .int .i64 a] 114))) := Lib.hid ((Below.refl _ _).alloc (Nat.le_refl _) _)
      generalize (w.alloc (.cells #[.int .u8 (5), .string s, .int .u64 (n : Int), .int .i64 a] 114)) = w1 at *
      go_wp2_with fail
      refine (HL.out _).mono ?_
      rintro e w2 ⟨rfl, hb2⟩
      go_wp2_with fail
      go_ret
      exact ⟨by rw [HT.out]; rfl, next HB.out hb2⟩
  have f1 : ((k : Int) == 1) = false := by first | (simp; done) | (simp; omega)
  have f2 : ((k : Int) == 2) = false := by first | (simp; done) | (simp; omega)
  have f3 : ((k : Int) == 3) = false := by first | (simp; done) | (simp; omega)
  have f4 : ((k : Int) == 4) = false := by first | (simp; done) | (simp; omega)
  have f5 : ((k : Int) == 5) = false := by first | (simp; done) | (simp; omega)
  have f6 : ((k : Int) == 6) = false := by first | (simp; done) | (simp; omega)
  have H0 : Hid (refTx ⟨k, s, n, a⟩ = []) := Lib.hid (by unfold refTx; rw [if_neg (by show ¬ ((k = 4 ∨ k = 5) ∧ _); omega)]; exact textT_0 (by show k = 0 ∨ 6 < k; omega))
  clear hk1 hk2 hk3 hk4 hk5 hk6
  go_enter Tryz.func102, Tryz.ntmps102
  go_upto_region 1 with fail
  have y0 : (w.alloc (.cells #[.int .u8 ((k : Int)), .string s, .int .u64 (n : Int), .int .i64 a] 114)).cell? ⟨w.heap.size, 0, none⟩ = some (.int .u8 ((k : Int))) := by go_simp
  have y1 : (w.alloc (.cells #[.int .u8 ((k : Int)), .string s, .int .u64 (n : Int), .int .i64 a] 114)).cell? ⟨w.heap.size, 1, none⟩ = some (.string s) := by go_simp
  have y2 : (w.alloc (.cells #[.int .u8 ((k : Int)), .string s, .int .u64 (n : Int), .int .i64 a] 114)).cell? ⟨w.heap.size, 2, none⟩ = some (.int .u64 (n : Int)) := by go_simp
  have HB : Hid (Below w.heap.size w (w.alloc (.cells #[.int .u8 ((k : Int)), .string s, .int .u64 (n : Int), .int .i64 a] 114))) := Lib.hid ((Below.refl _ _).alloc (Nat.le_refl _) _)
  generalize (w.alloc (.cells #[.int .u8 ((k : Int)), .string s, .int .u64 (n : Int), .int .i64 a] 114)) = w1 at *
  go_wp2_with fail
  go_ret
  exact ⟨by rw [H0.out]; rfl, HB.out⟩
end Go.Proofs.YtjgkeillmelkoaaGreat.Dt
namespace Go.Proofs.YtjgkeillmelkoaaGreat.Dt
open Go.RowKit Go.Proofs.YtjgkeillmelkoaaGreat.By

theorem refSmallW (c : UInt8) (w : World) : Calls Tryz.prog 78 #[byte c] w fun e w' => e = .returned (.bool (smallB c)) ∧ w = w' := by
  have hc := c.toNat_lt
  by_cases h1 : 97 ≤ c.toNat
  · have a1 : (97 : Int) ≤ (c.toNat : Int) := by omega
    by_cases h2 : c.toNat ≤ 122
    · have a2 : (c.toNat : Int) ≤ 122 := by omega
      rw [show smallB c = true from decide_eq_true ⟨h1, h2⟩]
      clear h1 h2
      go_enter Tryz.func78, Tryz.ntmps78
      go_wp2_with fail
      go_ret
      exact ⟨rfl, rfl⟩
    · have a2 : ¬ (c.toNat : Int) ≤ 122 := by omega
      rw [show smallB c = false from decide_eq_false (fun h => h2 h.2)]
      clear h1 h2
      go_enter Tryz.func78, Tryz.ntmps78
      go_wp2_with fail
      go_ret
      exact ⟨rfl, rfl⟩
  · have a1 : ¬ (97 : Int) ≤ (c.toNat : Int) := by omega
    rw [show smallB c = false from decide_eq_false (fun h => h1 h.1)]
    clear h1
    go_enter Tryz.func78, Tryz.ntmps78
    go_wp2_with fail
    go_ret
    exact ⟨rfl, rfl⟩
theorem refCapW (c : UInt8) (w : World) : Calls Tryz.prog 79 #[byte c] w fun e w' => e = .returned (.bool (capB c)) ∧ w = w' := by
  have hc := c.toNat_lt
  by_cases h1 : 65 ≤ c.toNat
  · have a1 : (65 : Int) ≤ (c.toNat : Int) := by omega
    by_cases h2 : c.toNat ≤ 90
    · have a2 : (c.toNat : Int) ≤ 90 := by omega
      rw [show capB c = true from decide_eq_true ⟨h1, h2⟩]
      clear h1 h2
      go_enter Tryz.func79, Tryz.ntmps79
      go_wp2_with fail
      go_ret
      exact ⟨rfl, rfl⟩
    · have a2 : ¬ (c.toNat : Int) ≤ 90 := by omega
      rw [show capB c = false from decide_eq_false (fun h => h2 h.2)]
      clear h1 h2
      go_enter Tryz.func79, Tryz.ntmps79
      go_wp2_with fail
      go_ret
      exact ⟨rfl, rfl⟩
  · have a1 : ¬ (65 : Int) ≤ (c.toNat : Int) := by omega
    rw [show capB c = false from decide_eq_false (fun h => h1 h.1)]
    clear h1
    go_enter Tryz.func79, Tryz.ntmps79
    go_wp2_with fail
    go_ret
    exact ⟨rfl, rfl⟩
theorem refDigW (c : UInt8) (w : World) : Calls Tryz.prog 81 #[byte c] w fun e w' => e = .returned (.bool (digB c)) ∧ w = w' := by
  have hc := c.toNat_lt
  by_cases h1 : 48 ≤ c.toNat
  · have a1 : (48 : Int) ≤ (c.toNat : Int) := by omega
    by_cases h2 : c.toNat ≤ 57
    · have a2 : (c.toNat : Int) ≤ 57 := by omega
      rw [show digB c = true from decide_eq_true ⟨h1, h2⟩]
      clear h1 h2
      go_enter Tryz.func81, Tryz.ntmps81
      go_wp2_with fail
      go_ret
      exact ⟨rfl, rfl⟩
    · have a2 : ¬ (c.toNat : Int) ≤ 57 := by omega
      rw [show digB c = false from decide_eq_false (fun h => h2 h.2)]
      clear h1 h2
      go_enter Tryz.func81, Tryz.ntmps81
      go_wp2_with fail
      go_ret
      exact ⟨rfl, rfl⟩
  · have a1 : ¬ (48 : Int) ≤ (c.toNat : Int) := by omega
    rw [show digB c = false from decide_eq_false (fun h => h1 h.1)]
    clear h1
    go_enter Tryz.func81, Tryz.ntmps81
    go_wp2_with fail
    go_ret
    exact ⟨rfl, rfl⟩
theorem refWordW (c : UInt8) (w : World) : Calls Tryz.prog 47 #[byte c] w fun e w' => e = .returned (.bool (wordB c)) ∧ w = w' := by
  have HS := Lib.hid (fun W => refSmallW c W)
  have HC := Lib.hid (fun W => refCapW c W)
  have HD := Lib.hid (fun W => refDigW c W)
  have hr : wordB c = (smallB c || capB c || digB c || decide (c.toNat = 95)) := rfl
  rw [hr]
  clear hr
  generalize smallB c = s at *
  generalize capB c = p at *
  generalize digB c = d at *
  cases s with
  | true =>
    simp only [Bool.true_or]
    go_enter Tryz.func47, Tryz.ntmps47
    go_wp2_with fail
    refine (HS.out _).mono ?_
    rintro e w1 ⟨rfl, rfl⟩
    go_wp2_with fail
    go_ret
    exact ⟨rfl, rfl⟩
  | false =>
    cases p with
    | true =>
      simp only [Bool.true_or, Bool.or_true]
      go_enter Tryz.func47, Tryz.ntmps47
      go_wp2_with fail
      refine (HS.out _).mono ?_
      rintro e w1 ⟨rfl, rfl⟩
      go_wp2_with fail
      refine (HC.out _).mono ?_
      rintro e w1 ⟨rfl, rfl⟩
      go_wp2_with fail
      go_ret
      exact ⟨rfl, rfl⟩
    | false =>
      cases d with
      | true =>
        simp only [Bool.true_or, Bool.or_true]
        go_enter Tryz.func47, Tryz.ntmps47
        go_wp2_with fail
        refine (HS.out _).mono ?_
        rintro e w1 ⟨rfl, rfl⟩
        go_wp2_with fail
        refine (HC.out _).mono ?_
        rintro e w1 ⟨rfl, rfl⟩
        go_wp2_with fail
        refine (HD.out _).mono ?_
        rintro e w1 ⟨rfl, rfl⟩
        go_wp2_with fail
        go_ret
        exact ⟨rfl, rfl⟩
      | false =>
        by_cases h : c.toNat = 95
        · have e1 : ((c.toNat : Int) == 95) = true := by simp; omega
          simp only [Bool.false_or, decide_eq_true h]
          clear h
          go_enter Tryz.func47, Tryz.ntmps47
          go_wp2_with fail
          refine (HS.out _).mono ?_
          rintro e w1 ⟨rfl, rfl⟩
          go_wp2_with fail
          refine (HC.out _).mono ?_
          rintro e w1 ⟨rfl, rfl⟩
          go_wp2_with fail
          refine (HD.out _).mono ?_
          rintro e w1 ⟨rfl, rfl⟩
          go_wp2_with fail
          go_ret
          exact ⟨rfl, rfl⟩
        · have e1 : ((c.toNat : Int) == 95) = false := by simp; omega
          simp only [Bool.false_or, decide_eq_false h]
          clear h
          go_enter Tryz.func47, Tryz.ntmps47
          go_wp2_with fail
          refine (HS.out _).mono ?_
          rintro e w1 ⟨rfl, rfl⟩
          go_wp2_with fail
          refine (HC.out _).mono ?_
          rintro e w1 ⟨rfl, rfl⟩
          go_wp2_with fail
          refine (HD.out _).mono ?_
          rintro e w1 ⟨rfl, rfl⟩
          go_wp2_with fail
          go_ret
          exact ⟨rfl, rfl⟩
end Go.Proofs.YtjgkeillmelkoaaGreat.Dt
namespace Go.Proofs.YtjgkeillmelkoaaGreat.Dt
open Go.RowKit Go.Proofs.YtjgkeillmelkoaaGreat.By

/-- What a cutting into tokens hands back. -/
def toksPost : TR → Ending → World → Prop
  | .inl x, e, _ => e = .returned (.tuple #[.slice none 0 0, .agg #[.int .i64 (x.1 : Int), .int .i64 (x.2 : Int)]])
  | .inr l, e, w => ∃ v, e = .returned (.tuple #[v, .agg #[.int .i64 0, .int .i64 0]]) ∧ TksAt w v l
theorem filled2 (w : World) (b : Nat) (x y : Value) (h : Box b [.int .i64 0, .int .i64 0] w) : ∀ W, W = ((w.setCell ⟨b, 0, none⟩ x).setCell ⟨b, 1, none⟩ y) → W.cell? ⟨b, 0, none⟩ = some x ∧ W.cell? ⟨b, 1, none⟩ = some y := by
  rintro W rfl
  have s0 := set_same3 w ⟨b, 0, none⟩ x _ (h 0 _ rfl).1
  have s1 := set_same3 (w.setCell ⟨b, 0, none⟩ x) ⟨b, 1, none⟩ y _ ((set_else3 w b 0 1 x (by decide)).trans (h 1 _ rfl).1)
  exact ⟨(set_else3 _ b 1 0 y (by decide)).trans s0, s1⟩
/-- The loop's world: the reader at place p, the spot's box, the tokens so far. -/
structure LS (w : World) (r : Nat) (s : ByteArray) (p : Nat) (v : Value) (O : List Tk) (W : World) : Prop where
  rd : RD r s p W
  bx : Box w.heap.size [.int .i64 0, .int .i64 0] W
  own : OwnT W (r + 1) v O
  bl : Below w.heap.size w W
  sz : r + 1 ≤ W.heap.size
/-- What was cut off, and what the rest comes to. -/
def cT (O : List Tk) : TR → TR
  | .inl e => .inl e
  | .inr t => .inr (O ++ t)
theorem cT_step (O : List Tk) {b k n m : Nat} {l s : List UInt8} (ho : oneL l = .tok k s n m) (hw : ¬ (k ≠ 6 ∧ wordB (topB (l.drop m)) = true)) : cT O (stepT b l tk) = cT (O ++ [⟨k, ⟨s.toArray⟩, n, (b : Int)⟩]) (tk (b + m) (l.drop m)) := by
  unfold stepT
  rw [ho]
  simp only
  rw [if_neg hw]
  cases tk (b + m) (l.drop m) with
  | inl e => rfl
  | inr t => simp [cT]
theorem cT_word (O : List Tk) {b k n m : Nat} {l s : List UInt8} (ho : oneL l = .tok k s n m) (hw : k ≠ 6 ∧ wordB (topB (l.drop m)) = true) : cT O (stepT b l tk) = .inl (6, b + m) := by
  unfold stepT
  rw [ho]
  simp only
  rw [if_pos hw]
  rfl
theorem cT_bad (O : List Tk) {b e m : Nat} {l : List UInt8} (ho : oneL l = .bad e m) : cT O (stepT b l tk) = .inl (e, b + m) := by
  unfold stepT
  rw [ho]
  rfl
end Go.Proofs.YtjgkeillmelkoaaGreat.Dt
