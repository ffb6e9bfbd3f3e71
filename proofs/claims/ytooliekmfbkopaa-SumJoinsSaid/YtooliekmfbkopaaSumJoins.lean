/- SumJoins: bytes that end with a whole block may be added one after the other, and zero bytes that fill the last block change nothing. No conditions. -/
import Derived.Test.YtooliekmfbkopaaLift
import Derived.Test.YtooliekmfbkopaaSumRef
import Derived.Test.YtooliekmfbkopaaLater
import Derived.Test.YtooliekmfbkopaaQuiet
import Derived.Test.YtooliekmfbkopaaSumEq
import Derived.Lib.SmallJoins
import Derived.Deep.DeepCutAuto
namespace Go.Proofs.Ytooliekmfbkopaa.SumJoins
open Go.ChangeShapes Go.WideShapes Go.ChangeAt Go.RowKit Go.Proofs.Ytooliekmfbkopaa.By
set_option linter.unusedVariables false
open Go.Proofs.Ytooliekmfbkopaa.Sum
theorem eq_same (p : Nat × Nat) (w : World) : (binOp .eql 28 (.agg #[.int .u32 (p.1 : Int), .int .u32 (p.2 : Int)]) (.agg #[.int .u32 (p.1 : Int), .int .u32 (p.2 : Int)])).run Try.prog w = .ok (.bool true) w := by
  rw [eql_pair]; simp
theorem getD_front (m n : List UInt8) (i : Nat) (h : i < m.length) : (m ++ n).getD i 0 = m.getD i 0 := by
  simp only [List.getD]; rw [List.getElem?_append_left h]
theorem getD_zeros (n : List UInt8) (r i : Nat) : (n ++ List.replicate r 0).getD i 0 = n.getD i 0 := by
  simp only [List.getD]
  rcases Nat.lt_or_ge i n.length with h | h
  · rw [List.getElem?_append_left h]
  · rw [List.getElem?_append_right h, List.getElem?_eq_none h, List.getElem?_replicate]
    split <;> rfl
theorem addL_append (n : List UInt8) : ∀ (k : Nat) (m : List UInt8) (p : Nat × Nat), m.length = 8 * k → addL p (m ++ n) = addL (addL p m) n := by
  intro k
  induction k with
  | zero =>
    intro m p h
    obtain rfl : m = [] := List.eq_nil_of_length_eq_zero (by omega)
    rfl
  | succ k ih =>
    intro m p h
    have hm : m ≠ [] := by intro e; rw [e] at h; simp at h
    rw [addL_cons p m hm, addL_cons p (m ++ n) (by simp [hm])]
    have e1 : Num.val4 (m ++ n) = Num.val4 m := val4_congr fun i hi => getD_front m n i (by omega)
    have e2 : Num.val4 ((m ++ n).drop 4) = Num.val4 (m.drop 4) := val4_congr fun i hi => by rw [getD_drop, getD_drop, getD_front m n _ (by omega)]
    rw [e1, e2, List.drop_append_of_le_length (by omega)]
    exact ih _ _ (by simp; omega)
theorem addL_zeros (r : Nat) (hr : r < 8) : ∀ (f : Nat) (n : List UInt8) (p : Nat × Nat), n.length ≤ f → (n.length + r) % 8 = 0 → addL p (n ++ List.replicate r 0) = addL p n := by
  intro f
  induction f with
  | zero =>
    intro n p h h2
    obtain rfl : n = [] := List.eq_nil_of_length_eq_zero (by omega)
    simp only [List.length_nil] at h2
    obtain rfl : r = 0 := by omega
    rfl
  | succ f ih =>
    intro n p h h2
    by_cases hn : n = []
    · subst hn
      simp only [List.length_nil] at h2
      obtain rfl : r = 0 := by omega
      rfl
    have h0 : 0 < n.length := List.length_pos_iff.2 hn
    rw [addL_cons p n hn, addL_cons p (n ++ _) (by simp [hn])]
    have e1 : Num.val4 (n ++ List.replicate r 0) = Num.val4 n := val4_congr fun i hi => getD_zeros n r i
    have e2 : Num.val4 ((n ++ List.replicate r 0).drop 4) = Num.val4 (n.drop 4) := val4_congr fun i hi => by rw [getD_drop, getD_drop, getD_zeros]
    rw [e1, e2]
    rcases Nat.lt_or_ge n.length 8 with h8 | h8
    · have a1 : (n ++ List.replicate r 0).drop 8 = [] := List.drop_eq_nil_of_le (by simp; omega)
      have a2 : n.drop 8 = [] := List.drop_eq_nil_of_le (by omega)
      rw [a1, a2]
    · rw [List.drop_append_of_le_length h8]
      exact ih _ _ (by simp; omega) (by simp; omega)
set_option maxRecDepth 100000 in
set_option maxHeartbeats 4000000 in
theorem walk (a b : Nat) (s t : ByteArray) (w : World) (ha : a < 4294967296) (hb : b < 4294967296) (hs : s.size ≤ 140737488351232) (ht : t.size ≤ 140737488351232) :
    Calls Try.prog 7 #[.agg #[.int .u32 (a : Int), .int .u32 (b : Int)], .string s, .string t] w fun e w' => e = .returned (.bool true) ∧ Below w.heap.size w w' := by
  have HS := Lib.hid (And.intro hs ht); clear hs ht ha hb
  by_cases hm : 65536 < s.size ∨ 65536 < t.size
  · have HM := Lib.hid hm
    rcases Nat.lt_or_ge 65536 s.size with h1 | h1
    · clear hm
      go_enter Try.func7, Try.ntmps7
      go_wp2_with fail
      refine (works _).mono ?_
      rintro e w1 ⟨rfl, hb1⟩
      go_wp2_with fail
      go_ret
      exact ⟨rfl, ((Below.refl _ _).alloc (Nat.le_refl _) _).trans (hb1.mono (by simp))⟩
    · have h2 : 65536 < t.size := by omega
      clear hm
      go_enter Try.func7, Try.ntmps7
      go_wp2_with fail
      refine (works _).mono ?_
      rintro e w1 ⟨rfl, hb1⟩
      go_wp2_with fail
      go_ret
      exact ⟨rfl, ((Below.refl _ _).alloc (Nat.le_refl _) _).trans (hb1.mono (by simp))⟩
  · have h1 : s.size ≤ 65536 := by omega
    have h2 : t.size ≤ 65536 := by omega
    obtain ⟨T, hT⟩ : ∃ T : ByteArray, T = s.extract 0 (s.size / 8 * 8) := ⟨_, rfl⟩
    obtain ⟨k, hk⟩ : ∃ k : Nat, k = 7 - (t.size + 7) % 8 := ⟨_, rfl⟩
    obtain ⟨D, hD⟩ : ∃ D : ByteArray, D = t ++ ByteArray.extract { data := #[0, 0, 0, 0, 0, 0, 0] } 0 k := ⟨_, rfl⟩
    obtain ⟨U, hU⟩ : ∃ U : ByteArray, U = T ++ t := ⟨_, rfl⟩
    obtain ⟨V, hV⟩ : ∃ V : ByteArray, V = T ++ D := ⟨_, rfl⟩
    have lT : T.size = 8 * (s.size / 8) := by rw [hT, ByteArray.size_extract]; omega
    have dZ : (ByteArray.extract { data := #[0, 0, 0, 0, 0, 0, 0] } 0 k).data.toList = List.replicate k 0 := by
      have : k ≤ 7 := by omega
      clear hD hk
      match k, this with
      | 0, _ => rfl
      | 1, _ => rfl
      | 2, _ => rfl
      | 3, _ => rfl
      | 4, _ => rfl
      | 5, _ => rfl
      | 6, _ => rfl
      | 7, _ => rfl
    have lD : D.size = t.size + k := by rw [hD, ByteArray.size_append, ByteArray.size_extract]; show t.size + (min k 7 - 0) = _; omega
    have lV : (V.size : Int) = T.size + D.size := by rw [hV, ByteArray.size_append]; omega
    have hP : (D.size : Int) % 8 = 0 := by omega
    obtain ⟨r, hr⟩ : ∃ r, r = addL (a, b) T.data.toList := ⟨_, rfl⟩
    obtain ⟨q, hq⟩ : ∃ q, q = addL r t.data.toList := ⟨_, rfl⟩
    have eU : addL (a, b) U.data.toList = q := by
      rw [hU, hq, hr, show (T ++ t).data.toList = T.data.toList ++ t.data.toList by simp]
      exact addL_append _ (s.size / 8) _ _ (by simpa using lT)
    have eV : addL (a, b) V.data.toList = q := by
      rw [hV, hD, show (T ++ (t ++ ByteArray.extract { data := #[0, 0, 0, 0, 0, 0, 0] } 0 k)).data.toList = (T.data.toList ++ t.data.toList) ++ (ByteArray.extract { data := #[0, 0, 0, 0, 0, 0, 0] } 0 k).data.toList by simp only [ByteArray.data_append, Array.toList_append, List.append_assoc], dZ]
      rw [addL_zeros k (by omega) _ _ _ (Nat.le_refl _) (by simp only [List.length_append, Array.length_toList, ByteArray.size_data]; omega), ← eU, hU]
      rw [show (T ++ t).data.toList = T.data.toList ++ t.data.toList by simp]
    have h1' : ∀ u, Calls Try.prog 24 #[.agg #[.int .u32 (a : Int), .int .u32 (b : Int)], .string U] u fun e w' => e = .returned (.agg #[.int .u32 (q.1 : Int), .int .u32 (q.2 : Int)]) ∧ Below u.heap.size u w' := fun u => eU ▸ add (a, b) U u
    have h2' : ∀ u, Calls Try.prog 24 #[.agg #[.int .u32 (a : Int), .int .u32 (b : Int)], .string T] u fun e w' => e = .returned (.agg #[.int .u32 (r.1 : Int), .int .u32 (r.2 : Int)]) ∧ Below u.heap.size u w' := fun u => hr ▸ add (a, b) T u
    have h3' : ∀ u, Calls Try.prog 24 #[.agg #[.int .u32 (r.1 : Int), .int .u32 (r.2 : Int)], .string t] u fun e w' => e = .returned (.agg #[.int .u32 (q.1 : Int), .int .u32 (q.2 : Int)]) ∧ Below u.heap.size u w' := fun u => hq ▸ add r t u
    have h4' : ∀ u, Calls Try.prog 24 #[.agg #[.int .u32 (a : Int), .int .u32 (b : Int)], .string V] u fun e w' => e = .returned (.agg #[.int .u32 (q.1 : Int), .int .u32 (q.2 : Int)]) ∧ Below u.heap.size u w' := fun u => eV ▸ add (a, b) V u
    have haddV := fun w => run_string_add_sum (P := Try.prog) w T D (by omega)
    have H1 := Lib.hid h1'
    have H2 := Lib.hid h2'
    have H3 := Lib.hid h3'
    have H4 := Lib.hid h4'
    have HT := Lib.hid hT
    have HD := Lib.hid (hk ▸ hD)
    have HU := Lib.hid hU
    rw [← hV] at haddV
    clear h1' h2' h3' h4' eU eV hq hr lD lT lV dZ hD hU hT hV
    clear hm hk
    go_enter Try.func7, Try.ntmps7
    go_wp2_with fail
    refine (works _).mono ?_
    rintro e w1 ⟨rfl, hb1⟩
    have c0 : w1.cell? ⟨w.heap.size, 0, none⟩ = some (.int .u32 (a : Int)) := by rw [hb1.cell (by simp)]; go_simp
    have c1 : w1.cell? ⟨w.heap.size, 1, none⟩ = some (.int .u32 (b : Int)) := by rw [hb1.cell (by simp)]; go_simp
    have n1 : w.heap.size < w1.heap.size := Nat.lt_of_lt_of_le (by simp) hb1.size
    go_wp2_with fail
    rw [← HT.out, ← HD.out, ← HU.out]
    refine (H1.out _).mono ?_
    rintro e w2 ⟨rfl, hb2⟩
    have m0 : w2.cell? ⟨w.heap.size, 0, none⟩ = some (.int .u32 (a : Int)) := by rw [hb2.cell (by omega)]; exact c0
    have m1 : w2.cell? ⟨w.heap.size, 1, none⟩ = some (.int .u32 (b : Int)) := by rw [hb2.cell (by omega)]; exact c1
    have n2 : w.heap.size < w2.heap.size := Nat.lt_of_lt_of_le n1 hb2.size
    go_upto_region 8 with (fail)
    have hbel : Below w.heap.size w (w2.alloc (.cells #[.int .u32 (q.1 : Int), .int .u32 (q.2 : Int)] 28)) := ((((Below.refl _ _).alloc (Nat.le_refl _) _).trans (hb1.mono (by simp))).trans (hb2.mono (by omega))).alloc (by omega) _
    have hsz : w2.heap.size < (w2.alloc (.cells #[.int .u32 (q.1 : Int), .int .u32 (q.2 : Int)] 28)).heap.size := by simp
    have o0 := lat_cell (w := (w2.alloc (.cells #[.int .u32 (q.1 : Int), .int .u32 (q.2 : Int)] 28))) (p := ⟨w.heap.size, 0, none⟩) (v := .int .u32 (a : Int)) (by go_simp)
    have o1 := lat_cell (w := (w2.alloc (.cells #[.int .u32 (q.1 : Int), .int .u32 (q.2 : Int)] 28))) (p := ⟨w.heap.size, 1, none⟩) (v := .int .u32 (b : Int)) (by go_simp)
    have o2 := lat_cell (w := (w2.alloc (.cells #[.int .u32 (q.1 : Int), .int .u32 (q.2 : Int)] 28))) (p := ⟨w2.heap.size, 0, none⟩) (v := .int .u32 (q.1 : Int)) (by go_simp)
    have o3 := lat_cell (w := (w2.alloc (.cells #[.int .u32 (q.1 : Int), .int .u32 (q.2 : Int)] 28))) (p := ⟨w2.heap.size, 1, none⟩) (v := .int .u32 (q.2 : Int)) (by go_simp)
    generalize w2.alloc (.cells #[.int .u32 (q.1 : Int), .int .u32 (q.2 : Int)] 28) = W at *
    clear hb1 hb2 c0 c1 m0 m1
    have hq := eq_same q
    refine wp_region_later (by kernel_rfl) (by kernel_rfl) ?_
    repeat (go_big_quiet_step ((first | (go_at_call 24; (with_reducible refine lat_calls (H2.out _))) | (go_at_call 24; (with_reducible refine lat_calls (H3.out _))) | (go_at_call 24; (with_reducible refine lat_calls (H4.out _))))))
    refine wpQuiet_nil ?_
    refine later_out (fun w3 hb3 => ?_)
    go_wp2_with fail
    go_ret
    exact ⟨rfl, next hbel hb3⟩

theorem own : ownKnob Try.prog.godebug = none := by kernel_rfl
theorem laid : laidOutB Try.prog = true := by kernel_rfl

theorem opened {H : Type} (enc : TypeId × Value → H) (W : World) (args : Array Value) (ds : List (DataW H)) (p : List MemPlace) :
    Lift.Owes enc Try.prog 7 Try.f7.params.toList W args ds p := by
  intro hA hval hsz _
  rw [Try.params7] at hA hval hsz
  obtain ⟨v0, vs0, d0, ds0, p0, q0, hargs, rfl, rfl, h0, r0⟩ := trodAll_cons hA
  obtain ⟨v1, vs1, d1, ds1, p1, q1, rfl, rfl, rfl, h1, r1⟩ := trodAll_cons r0
  obtain ⟨v2, vs2, d2, ds2, p2, q2, rfl, rfl, rfl, h2, r2⟩ := trodAll_cons r1
  obtain ⟨rfl, rfl, rfl⟩ := trodAll_nil r2
  obtain rfl : args = #[v0, v1, v2] := by cases args; simp_all
  obtain ⟨base0, hv0⟩ := hval 0 _ v0 rfl rfl
  obtain ⟨x0, y0, e0, g0, m0, rfl, rfl, rfl, hx0, hy0⟩ := Joins.open_agg2 Try.underlying28 (by kernel_rfl) (by kernel_rfl) hv0 h0
  obtain ⟨xn0, cx0, rfl, wx0⟩ := DataW.trod_int Try.underlying26 hx0
  simp at cx0; subst cx0
  obtain ⟨lx0, ux0⟩ := bounds_u32 wx0
  obtain ⟨xm0, rfl⟩ := Int.eq_ofNat_of_zero_le lx0
  obtain ⟨yn0, cy0, rfl, wy0⟩ := DataW.trod_int Try.underlying26 hy0
  simp at cy0; subst cy0
  obtain ⟨ly0, uy0⟩ := bounds_u32 wy0
  obtain ⟨ym0, rfl⟩ := Int.eq_ofNat_of_zero_le ly0
  obtain ⟨base1, hv1⟩ := hval 1 _ v1 rfl rfl
  obtain ⟨s1, rfl, rfl, rfl, ws1⟩ := ChangeMaps.open_string Try.underlying9 hv1 h1
  have z1 := sized_string hsz (j := 1) rfl rfl
  simp only [reachBytes, Array.length_toList] at z1
  obtain ⟨base2, hv2⟩ := hval 2 _ v2 rfl rfl
  obtain ⟨s2, rfl, rfl, rfl, ws2⟩ := ChangeMaps.open_string Try.underlying9 hv2 h2
  have z2 := sized_string hsz (j := 2) rfl rfl
  simp only [reachBytes, Array.length_toList] at z2
  exact walk xm0 ym0 s1 s2 W (by omega) (by omega) z1 z2

set_option maxRecDepth 100000 in
theorem lifted (os : Os) (started : os.Started) (H : Type) (enc : TypeId × Value → H) :
    ReturnsInHanded {} Try.checked os 7 .any (Rows.sumJoinsSpec.pre6 enc Try.prog Try.f7 Rows.sumJoinsRow.domain false)
      (Rows.sumJoinsSpec.post enc Try.prog Try.f7 false true false false) := by
  refine Lift.lifted (C := Try.checked) own started (by kernel_rfl) Try.func7
    (ChangeSpec.witness6 (enc := enc) (C := Try.checked) false ⟨#[], #[.agg #[.int .u32 0, .int .u32 0], .string ByteArray.empty, .string ByteArray.empty], []⟩ 8 (by kernel_rfl) (by kernel_rfl) (by kernel_rfl) (by kernel_rfl))
    laid (by rw [Try.params7]; intro t ht; simp at ht; rcases ht with rfl | rfl | rfl <;> exact ⟨by kernel_rfl, of_decide_eq_true (by kernel_rfl)⟩) rfl 4 rfl Try.underlying4
    (fun ds hds => by match ds, hds with | [_, _, _], _ => rfl) (opened enc)

theorem said : Rows.SumJoinsSaid :=
  OpenClaim.holds_of_wide 7 Try.f7 rfl rfl rfl rfl rfl rfl rfl ⟨rfl, rfl, rfl, rfl, rfl⟩ rfl rfl rfl rfl rfl (by kernel_rfl) Try.func7 (by kernel_rfl)
    (of_decide_eq_true (by kernel_rfl)) (by unfold Func.isWrapper; first | (rw [if_pos (by decide +kernel)]; kernel_rfl) | (rw [if_neg (by decide +kernel)]; exact ⟨rfl, rfl⟩))
    (fun os started H enc _ => lifted os started H enc)
#print axioms said
end Go.Proofs.Ytooliekmfbkopaa.SumJoins
