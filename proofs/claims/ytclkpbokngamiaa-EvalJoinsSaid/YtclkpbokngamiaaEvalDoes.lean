/-
  The walk of package eval's does: what an operation comes to.
-/
import Derived.Test.YtclkpbokngamiaaEvalLogic
import Derived.Test.YtclkpbokngamiaaEvalReckon
import Derived.Test.YtclkpbokngamiaaLaterTail
namespace Go.Proofs.Ytclkpbokngamiaa.Dt
open Go.RowKit Go.Proofs.Ytclkpbokngamiaa.By

theorem null_next {l : List V} {k : Nat} {y : V} (hy : l[k]? = some y) (nb : Bool) (h : nb = nullB (l.take k)) : (nb || decide (y.k = 0)) = nullB (l.take (k + 1)) := by
  obtain ⟨hk, rfl⟩ := List.getElem?_eq_some_iff.1 hy
  unfold nullB at *
  rw [List.take_succ_eq_append_getElem hk, List.any_append, ← h]
  simp
theorem kinds_next {l : List V} {k : Nat} {y : V} (hy : l[k]? = some y) : (l.take (k + 1)).map V.k = (l.take k).map V.k ++ [y.k] := by
  obtain ⟨hk, rfl⟩ := List.getElem?_eq_some_iff.1 hy
  rw [List.take_succ_eq_append_getElem hk, List.map_append]; rfl

theorem reckon (op : Nat) (a b : Int) (w : World) (h6 : 6 ≤ op) (h10 : op ≤ 10) (ha : inR a) (hb : inR b) : Calls Try.prog 40 #[.int .u8 (op : Int), .int .i64 a, .int .i64 b] w fun e w' => e = .returned (resV (reckonS op a b)) ∧ Below w.heap.size w w' := by
  have : op = 6 ∨ op = 7 ∨ op = 8 ∨ op = 9 ∨ op = 10 := by omega
  rcases this with rfl | rfl | rfl | rfl | rfl
  · exact reckon_sum a b w ha hb
  · exact reckon_sub a b w ha hb
  · exact reckon_mul a b w ha hb
  · by_cases h0 : b = 0
    · subst h0; exact reckon_zero 9 a w (.inl rfl)
    · have e : reckonS 9 a b = overS (a.tdiv b) := by simp [reckonS, h0]
      rw [e]; exact reckon_div a b w ha hb h0
  · by_cases h0 : b = 0
    · subst h0; exact reckon_zero 10 a w (.inr rfl)
    · have e : reckonS 10 a b = (numV (a.tmod b), 0) := by simp [reckonS, h0]
      rw [e]; exact reckon_mod a b w ha hb h0

/-- What is there behind the loop over the values. -/
structure DoesAt (l : List V) (a : Option Addr) (c : Nat) (w wr : World) (kv : Value) (k : Nat) (ks : List Nat) : Prop where
  own : OwnU wr (w.heap.size + 1) kv ks
  ks : ks = (l.take k).map V.k
  res : ResBox w.heap.size wr
  at_ : VsAt wr (.slice a l.length c) l
  bel : Below w.heap.size w wr

set_option maxRecDepth 100000 in
set_option maxHeartbeats 8000000 in
theorem does (op : Nat) (v : Value) (l : List V) (w : World) (hat : VsAt w v l) (hok : ∀ x ∈ l, x.ok) (hf : Fits op l) :
    Calls Try.prog 30 #[.int .u8 (op : Int), v] w fun e w' => e = .returned (resV (doS op l)) ∧ Below w.heap.size w w' := by
  obtain ⟨a, c, rfl⟩ := hat.shape
  obtain ⟨ho3, ho19, hlen⟩ := hf
  have hl2 : l.length ≤ 2 := by rw [hlen]; split <;> omega
  have HAT := Lib.hid hat; clear hat
  have HOK := Lib.hid hok; clear hok
  have HLEN := Lib.hid hlen; clear hlen
  go_enter Try.func30, Try.ntmps30
  go_wp2_with fail
  go_loopw [6, 7, 13] (fun kv nv i wr => ∃ (k : Nat) (nb : Bool) (ks : List Nat), i = .int .i64 (k : Int) ∧ nv = .bool nb ∧ k ≤ l.length ∧ Hid (nb = nullB (l.take k)) ∧ Hid (DoesAt l a c w wr kv k ks) ∧ ks.length ≤ 2 ∧ w.heap.size < wr.heap.size) (fun _ _ i _ => l.length - (intOf i).toNat)
  case atStart => exact ⟨0, false, [], rfl, rfl, Nat.zero_le _, rfl, ⟨OwnU.nil _ _, rfl, resBox_new _ _, HAT.out.below ((Below.refl _ _).alloc (Nat.le_refl _) _), (Below.refl _ _).alloc (Nat.le_refl _) _⟩, by simp, by simp⟩
  case round =>
    obtain ⟨k, nb, ks, rfl, rfl, hkl, hnb, hda, hlk, hzr⟩ := hrel
    by_cases hlt : k < l.length
    · obtain ⟨y, hy⟩ : ∃ y, l[k]? = some y := ⟨l[k], by simp⟩
      have hyk : y.k < 256 := (HOK.out y (List.mem_of_getElem? hy)).1
      obtain ⟨b, o, rfl, hbz, d0, d1, d2⟩ := at3 hda.out.at_ hy
      have HN := Lib.hid (null_next hy nb hnb.out)
      have HK := Lib.hid (kinds_next hy)
      clear hy
      have ilt : (k : Int) < (l.length : Int) := by omega
      obtain ⟨ak, ck, rfl⟩ := hda.out.own.shape
      have hsrc : Reads ((wr.alloc (.cells #[.int .u8 (y.k : Int), .int .i64 y.n, .string y.s] 23)).alloc (.cells #[.int .u8 (y.k : Int)] 5)) 1 (.slice (some ⟨wr.heap.size + 1, 0, none⟩) 1 1) 1 [.int .u8 (y.k : Int)] := by
        have := reads_of_owns (own_one (wr.alloc (.cells #[.int .u8 (y.k : Int), .int .i64 y.n, .string y.s] 23)) (w.heap.size + 1) 5 (.int .u8 (y.k : Int)) (by simp; omega))
        simpa using this
      have hbelA : Below w.heap.size w ((wr.alloc (.cells #[.int .u8 (y.k : Int), .int .i64 y.n, .string y.s] 23)).alloc (.cells #[.int .u8 (y.k : Int)] 5)) := (hda.out.bel.alloc (by omega) _).alloc (by simp; omega) _
      have hresA : ResBox w.heap.size ((wr.alloc (.cells #[.int .u8 (y.k : Int), .int .i64 y.n, .string y.s] 23)).alloc (.cells #[.int .u8 (y.k : Int)] 5)) := hda.out.res.later (((Below.refl _ wr).alloc (Nat.le_refl _) _).alloc (by simp) _)
      have HA := Lib.hid (And.intro hbelA hresA)
      clear hbelA hresA
      have key : ∀ (w2 : World) (v' : Value), OwnU w2 (w.heap.size + 1) v' (ks ++ [y.k]) → Below (w.heap.size + 1) ((wr.alloc (.cells #[.int .u8 (y.k : Int), .int .i64 y.n, .string y.s] 23)).alloc (.cells #[.int .u8 (y.k : Int)] 5)) w2 → DoesAt l (some ⟨b, o, none⟩) c w w2 v' (k + 1) (ks ++ [y.k]) := by
        intro w2 v' h1 h2
        have hb := HA.out.1.trans (h2.mono (Nat.le_succ _))
        exact ⟨h1, by rw [HK.out, ← hda.out.ks], HA.out.2.below h2 (Nat.lt_succ_self _), HAT.out.below hb, hb⟩
      have KEY := Lib.hid key; clear key
      have hk1 : ks.length + 1 ≤ 2 := by
        have := congrArg List.length hda.out.ks
        simp at this
        omega
      cases nb
      · go_wp2_with (at_builtin; refine wpList_append_reads rfl (.tmp 17) (.tmp 20) 56 rfl (w.heap.size + 1) 5 1 1 elU8 _ ks.length (uCells ks) rfl (World.ownsRow.alloc (World.ownsRow.alloc hda.out.own _) _) _ 1 [.int .u8 (y.k : Int)] rfl hsrc (by simp [Value.oneCell']) (by unfold maxLen; omega) (by omega) (by simp; omega) ?_; intro v' w2 hown2 hgrow2 hbel2; have hbx : w2.cell? ⟨wr.heap.size, 0, none⟩ = some (.int .u8 (y.k : Int)) := ((cell_grown hgrow2 (by simp; omega) (OwnU.notBlock hda.out.own (Nat.le_refl _)) 0).trans (by go_simp)); have HO2 := Lib.hid (OwnU.snoc hown2); have HB2 := Lib.hid hbel2; clear hown2 hgrow2 hbel2)
        have hz2 := (KEY.out _ _ HO2.out HB2.out).res.lt
        go_roundw
        case rel => exact ⟨k + 1, ((y.k : Int) == 0), ks ++ [y.k], by go_num, rfl, by omega, by unfold Hid; rw [← HN.out]; rw [Bool.false_or, Bool.eq_iff_iff]; simp, KEY.out _ _ HO2.out HB2.out, by simpa using hk1, hz2⟩
        case measure => simp [intOf]; omega
      · go_wp2_with (at_builtin; refine wpList_append_reads rfl (.tmp 17) (.tmp 20) 56 rfl (w.heap.size + 1) 5 1 1 elU8 _ ks.length (uCells ks) rfl (World.ownsRow.alloc (World.ownsRow.alloc hda.out.own _) _) _ 1 [.int .u8 (y.k : Int)] rfl hsrc (by simp [Value.oneCell']) (by unfold maxLen; omega) (by omega) (by simp; omega) ?_; intro v' w2 hown2 hgrow2 hbel2; have hbx : w2.cell? ⟨wr.heap.size, 0, none⟩ = some (.int .u8 (y.k : Int)) := ((cell_grown hgrow2 (by simp; omega) (OwnU.notBlock hda.out.own (Nat.le_refl _)) 0).trans (by go_simp)); have HO2 := Lib.hid (OwnU.snoc hown2); have HB2 := Lib.hid hbel2; clear hown2 hgrow2 hbel2)
        have hz2 := (KEY.out _ _ HO2.out HB2.out).res.lt
        go_roundw
        case rel => exact ⟨k + 1, true, ks ++ [y.k], by go_num, rfl, by omega, by unfold Hid; rw [← HN.out]; rfl, KEY.out _ _ HO2.out HB2.out, by simpa using hk1, hz2⟩
        case measure => simp [intOf]; omega
    · obtain rfl : k = l.length := by omega
      obtain ⟨ak, ck, rfl⟩ := hda.out.own.shape
      have hks : ks = l.map V.k := by rw [hda.out.ks, List.take_length]
      have hnn : nb = nullB l := by rw [hnb.out, List.take_length]
      have hk256 : ∀ k ∈ ks, k < 256 := by
        intro k hk
        rw [hks] at hk
        obtain ⟨x, hx, rfl⟩ := List.mem_map.1 hk
        exact (HOK.out x hx).1
      have hkn : ks.length = l.length := by rw [hks, List.length_map]
      have htog := together op _ ks wr hda.out.own.at_ (by omega) hk256 (by omega) (fun h1 h2 => by have := HLEN.out; rw [if_neg (by omega)] at this; omega)
      have hres := hda.out.res
      have hbw := hda.out.bel
      have HTOG := Lib.hid htog
      have HNN := Lib.hid hnn
      have HKS := Lib.hid (And.intro hks hkn)
      clear htog hks hk256 hkn hnn hnb hda
      cases htv : togetherB op ks
      · have hS : doS op l = (nullV, 150) := doS_tog (by rw [← HKS.out.1]; exact htv)
        rw [htv] at HTOG
        have HS := Lib.hid hS
        clear htv hS
        go_wp2_with fail
        refine HTOG.out.mono ?_
        rintro e w2 ⟨rfl, hb2⟩
        have hr2 := hres.later hb2
        have hb2' := next hbw hb2
        clear hres hbw hb2
        have hz2 := hr2.lt
        obtain ⟨c0, c1, c2, f0, f1, f2⟩ := hr2
        go_wp2_with fail
        obtain ⟨q0, q1, q2⟩ := filled3 w2 w.heap.size _ _ _ (.int .u8 0) (.int .i64 0) (.string ⟨#[]⟩) c0 c1 c2
        refine bodyPost_ret (v := .tuple #[.agg #[.int .u8 0, .int .i64 0, .string ⟨#[]⟩], .int .i64 150]) (by simp [results, Try.results30, go_sem, q0, q1, q2]) rfl ⟨by rw [HS.out]; rfl, ?_⟩
        go_grown
      · rw [htv] at HTOG
        have hT : togetherB op (l.map V.k) = true := by rw [← HKS.out.1, htv]
        have HT := Lib.hid hT
        clear htv hT
        have hpos : 0 < l.length := by rw [HLEN.out]; split <;> omega
        obtain ⟨x, hx⟩ : ∃ x, l[0]? = some x := ⟨l[0], by simp⟩
        have hgx : l.getD 0 nullV = x := by rw [List.getD, hx]; rfl
        have HX := Lib.hid (And.intro hgx hx)
        have HXO := Lib.hid (HOK.out x (List.mem_of_getElem? hx))
        have i0 : (0 : Int) < (l.length : Int) := by omega
        clear hgx hx
        by_cases c5 : op = 5
        · subst c5
          have hS : doS 5 l = (truthV nb, 0) := by rw [doS_5 HT.out, HNN.out]
          have HS := Lib.hid hS
          clear hS
          go_wp2_with fail
          refine HTOG.out.mono ?_
          rintro e w2 ⟨rfl, hb2⟩
          have hr2 := hres.later hb2
          have hb2' := next hbw hb2
          clear hres hbw hb2
          have hz2 := hr2.lt
          have hs2 := hb2'.size
          go_wp2_with fail
          refine (truth nb _).mono ?_
          rintro e wf ⟨rfl, hbf⟩
          have hrf := hr2.later hbf
          have hzf := hrf.lt
          have hbelf := next hb2' hbf
          clear hbf hr2 hb2'
          obtain ⟨c0, c1, c2, f0, f1, f2⟩ := hrf
          go_wp2_with fail
          obtain ⟨q0, q1, q2⟩ := filled3 wf w.heap.size _ _ _ (.int .u8 ((truthV nb).k : Int)) (.int .i64 (truthV nb).n) (.string (truthV nb).s) c0 c1 c2
          refine bodyPost_ret (v := .tuple #[(truthV nb).val, .int .i64 (0)]) (by simp [results, Try.results30, go_sem, q0, q1, q2]) rfl ⟨by rw [HS.out]; first | done | rfl, ?_⟩
          go_grown
        have e5 : ((op : Int) == 5) = false := by simp; omega
        by_cases c18 : op = 18
        · subst c18
          have hl1 : 1 < l.length := by rw [HLEN.out, if_neg (by omega)]; omega
          obtain ⟨y, hy⟩ : ∃ y, l[1]? = some y := ⟨l[1], by simp⟩
          have hgy : l.getD 1 nullV = y := by rw [List.getD, hy]; rfl
          have HY := Lib.hid (And.intro hgy hy)
          have i1 : (1 : Int) < (l.length : Int) := by omega
          clear hgy hy
          have hS : doS 18 l = (logicS x y false, 0) := by rw [doS_18 HT.out, HX.out.1, HY.out.1]
          have HS := Lib.hid hS
          clear hS
          go_wp2_with fail
          refine HTOG.out.mono ?_
          rintro e w2 ⟨rfl, hb2⟩
          have hr2 := hres.later hb2
          have hb2' := next hbw hb2
          clear hres hbw hb2
          have hz2 := hr2.lt
          have hs2 := hb2'.size
          obtain ⟨b, o, hab, hbz, d0, d1, d2⟩ := at3 (HAT.out.below hb2') HX.out.2
          cases hab
          rw [Nat.zero_mul, Nat.add_zero] at d0 d1 d2
          obtain ⟨b', o', hab', _, g0, g1, g2⟩ := at3 (HAT.out.below hb2') HY.out.2
          cases hab'
          rw [Nat.one_mul] at g0 g1 g2
          go_wp2_with fail
          have l0 := lat_cell d0
          have l1 := lat_cell d1
          have l2 := lat_cell d2
          have k0 := lat_cell g0
          have k1 := lat_cell g1
          have k2 := lat_cell g2
          refine wp_region_later_tail 9 (by kernel_rfl) (by kernel_rfl) ?_
          simp only [List.take_succ_cons, List.take_zero, List.drop_succ_cons, List.drop_zero]
          repeat (go_big_quiet_step ((go_at_call 39; exact lat_calls (logic x y false _))))
          refine wpQuiet_nil ?_
          refine later_out (fun wf hbf => ?_)
          have hrf := hr2.later hbf
          have hzf := hrf.lt
          have hbelf := next hb2' hbf
          clear hbf hr2 hb2'
          clear l0 l1 l2 k0 k1 k2 d0 d1 d2 g0 g1 g2
          obtain ⟨c0, c1, c2, f0, f1, f2⟩ := hrf
          go_wp2_with fail
          obtain ⟨q0, q1, q2⟩ := filled3 wf w.heap.size _ _ _ (.int .u8 ((logicS x y false).k : Int)) (.int .i64 (logicS x y false).n) (.string (logicS x y false).s) c0 c1 c2
          refine bodyPost_ret (v := .tuple #[(logicS x y false).val, .int .i64 (0)]) (by simp [results, Try.results30, go_sem, q0, q1, q2]) rfl ⟨by rw [HS.out]; first | done | rfl, ?_⟩
          go_grown
        have e18 : ((op : Int) == 18) = false := by simp; omega
        by_cases c19 : op = 19
        · subst c19
          have hl1 : 1 < l.length := by rw [HLEN.out, if_neg (by omega)]; omega
          obtain ⟨y, hy⟩ : ∃ y, l[1]? = some y := ⟨l[1], by simp⟩
          have hgy : l.getD 1 nullV = y := by rw [List.getD, hy]; rfl
          have HY := Lib.hid (And.intro hgy hy)
          have i1 : (1 : Int) < (l.length : Int) := by omega
          clear hgy hy
          have hS : doS 19 l = (logicS x y true, 0) := by rw [doS_19 HT.out, HX.out.1, HY.out.1]
          have HS := Lib.hid hS
          clear hS
          go_wp2_with fail
          refine HTOG.out.mono ?_
          rintro e w2 ⟨rfl, hb2⟩
          have hr2 := hres.later hb2
          have hb2' := next hbw hb2
          clear hres hbw hb2
          have hz2 := hr2.lt
          have hs2 := hb2'.size
          obtain ⟨b, o, hab, hbz, d0, d1, d2⟩ := at3 (HAT.out.below hb2') HX.out.2
          cases hab
          rw [Nat.zero_mul, Nat.add_zero] at d0 d1 d2
          obtain ⟨b', o', hab', _, g0, g1, g2⟩ := at3 (HAT.out.below hb2') HY.out.2
          cases hab'
          rw [Nat.one_mul] at g0 g1 g2
          go_wp2_with fail
          have l0 := lat_cell d0
          have l1 := lat_cell d1
          have l2 := lat_cell d2
          have k0 := lat_cell g0
          have k1 := lat_cell g1
          have k2 := lat_cell g2
          refine wp_region_later_tail 9 (by kernel_rfl) (by kernel_rfl) ?_
          simp only [List.take_succ_cons, List.take_zero, List.drop_succ_cons, List.drop_zero]
          repeat (go_big_quiet_step ((go_at_call 39; exact lat_calls (logic x y true _))))
          refine wpQuiet_nil ?_
          refine later_out (fun wf hbf => ?_)
          have hrf := hr2.later hbf
          have hzf := hrf.lt
          have hbelf := next hb2' hbf
          clear hbf hr2 hb2'
          clear l0 l1 l2 k0 k1 k2 d0 d1 d2 g0 g1 g2
          obtain ⟨c0, c1, c2, f0, f1, f2⟩ := hrf
          go_wp2_with fail
          obtain ⟨q0, q1, q2⟩ := filled3 wf w.heap.size _ _ _ (.int .u8 ((logicS x y true).k : Int)) (.int .i64 (logicS x y true).n) (.string (logicS x y true).s) c0 c1 c2
          refine bodyPost_ret (v := .tuple #[(logicS x y true).val, .int .i64 (0)]) (by simp [results, Try.results30, go_sem, q0, q1, q2]) rfl ⟨by rw [HS.out]; first | done | rfl, ?_⟩
          go_grown
        have e19 : ((op : Int) == 19) = false := by simp; omega
        by_cases hnb1 : nb = true
        · subst hnb1
          have hS : doS op l = (nullV, 0) := doS_null HT.out c5 c18 c19 HNN.out.symm
          have HS := Lib.hid hS
          clear hS
          go_wp2_with fail
          refine HTOG.out.mono ?_
          rintro e w2 ⟨rfl, hb2⟩
          have hr2 := hres.later hb2
          have hb2' := next hbw hb2
          clear hres hbw hb2
          have hz2 := hr2.lt
          have hs2 := hb2'.size
          obtain ⟨c0, c1, c2, f0, f1, f2⟩ := hr2
          go_wp2_with fail
          obtain ⟨q0, q1, q2⟩ := filled3 w2 w.heap.size _ _ _ (.int .u8 0) (.int .i64 0) (.string ⟨#[]⟩) c0 c1 c2
          refine bodyPost_ret (v := .tuple #[.agg #[.int .u8 0, .int .i64 0, .string ⟨#[]⟩], .int .i64 0]) (by simp [results, Try.results30, go_sem, q0, q1, q2]) rfl ⟨by rw [HS.out]; rfl, ?_⟩
          go_grown
        have hnb0 : nb = false := by simpa using hnb1
        subst hnb0
        have HN0 := Lib.hid HNN.out.symm
        by_cases c4 : op = 4
        · subst c4
          have hS : doS 4 l = (truthV (!trueB x), 0) := by rw [doS_4 HT.out HN0.out, HX.out.1]
          have HS := Lib.hid hS
          clear hS
          go_wp2_with fail
          refine HTOG.out.mono ?_
          rintro e w2 ⟨rfl, hb2⟩
          have hr2 := hres.later hb2
          have hb2' := next hbw hb2
          clear hres hbw hb2
          have hz2 := hr2.lt
          have hs2 := hb2'.size
          obtain ⟨b, o, hab, hbz, d0, d1, d2⟩ := at3 (HAT.out.below hb2') HX.out.2
          cases hab
          rw [Nat.zero_mul, Nat.add_zero] at d0 d1 d2
          go_wp2_with fail
          refine (trueW x _).mono ?_
          rintro e w3 ⟨rfl, hb3⟩
          have hr3 := hr2.later hb3
          have hb3' := next hb2' hb3
          have hz3 := hr3.lt
          clear d0 d1 d2 hb3 hr2 hb2'
          go_wp2_with fail
          refine (truth (!trueB x) _).mono ?_
          rintro e wf ⟨rfl, hbf⟩
          have hrf := hr3.later hbf
          have hzf := hrf.lt
          have hbelf := next hb3' hbf
          clear hbf hr3 hb3'
          obtain ⟨c0, c1, c2, f0, f1, f2⟩ := hrf
          go_wp2_with fail
          obtain ⟨q0, q1, q2⟩ := filled3 wf w.heap.size _ _ _ (.int .u8 ((truthV (!trueB x)).k : Int)) (.int .i64 (truthV (!trueB x)).n) (.string (truthV (!trueB x)).s) c0 c1 c2
          refine bodyPost_ret (v := .tuple #[(truthV (!trueB x)).val, .int .i64 (0)]) (by simp [results, Try.results30, go_sem, q0, q1, q2]) rfl ⟨by rw [HS.out]; first | done | rfl, ?_⟩
          go_grown
        have e4 : ((op : Int) == 4) = false := by simp; omega
        by_cases c3 : op = 3
        · subst c3
          have hcon := fun W => reckon_sub 0 x.n W (by unfold inR; omega) HXO.out.2.1
          obtain ⟨R, hR⟩ : ∃ R, R = overS (0 - x.n) := ⟨_, rfl⟩
          rw [← hR] at hcon
          have HC := Lib.hid hcon
          have HRR := Lib.hid hR
          clear hcon hR
          have hS : doS 3 l = R := by rw [doS_3 HT.out HN0.out, HX.out.1, HRR.out]
          have HS := Lib.hid hS
          clear hS
          go_wp2_with fail
          refine HTOG.out.mono ?_
          rintro e w2 ⟨rfl, hb2⟩
          have hr2 := hres.later hb2
          have hb2' := next hbw hb2
          clear hres hbw hb2
          have hz2 := hr2.lt
          have hs2 := hb2'.size
          obtain ⟨b, o, hab, hbz, d0, d1, d2⟩ := at3 (HAT.out.below hb2') HX.out.2
          cases hab
          rw [Nat.zero_mul, Nat.add_zero] at d0 d1 d2
          go_wp2_with fail
          refine (HC.out _).mono ?_
          rintro e wf ⟨rfl, hbf⟩
          have hrf := hr2.later hbf
          have hzf := hrf.lt
          have hbelf := next hb2' hbf
          clear hbf hr2 hb2'
          clear d0 d1 d2
          obtain ⟨c0, c1, c2, f0, f1, f2⟩ := hrf
          go_wp2_with fail
          obtain ⟨q0, q1, q2⟩ := filled3 wf w.heap.size _ _ _ (.int .u8 (R.1.k : Int)) (.int .i64 R.1.n) (.string R.1.s) c0 c1 c2
          refine bodyPost_ret (v := .tuple #[R.1.val, .int .i64 (R.2 : Int)]) (by simp [results, Try.results30, go_sem, q0, q1, q2]) rfl ⟨by rw [HS.out]; first | done | rfl, ?_⟩
          go_grown
        have e3 : ((op : Int) == 3) = false := by simp; omega
        have hl1 : 1 < l.length := by rw [HLEN.out, if_neg (by omega)]; omega
        obtain ⟨y, hy⟩ : ∃ y, l[1]? = some y := ⟨l[1], by simp⟩
        have hgy : l.getD 1 nullV = y := by rw [List.getD, hy]; rfl
        have HY := Lib.hid (And.intro hgy hy)
        have i1 : (1 : Int) < (l.length : Int) := by omega
        clear hgy hy
        have HYO := Lib.hid (HOK.out y (List.mem_of_getElem? HY.out.2))
        by_cases c11 : op = 11
        · subst c11
          obtain ⟨S, hSs⟩ : ∃ S, S = x.s ++ y.s := ⟨_, rfl⟩
          have hsz : S.size = x.s.size + y.s.size := by rw [hSs, ByteArray.size_append]
          have hadd := fun w => run_string_add_sum (P := Try.prog) w x.s y.s (by have := HXO.out.2.2; have := HYO.out.2.2; omega)
          rw [← hSs] at hadd
          have hD : doS 11 l = (if 1000 < S.size then (nullV, 3) else (⟨2, 0, S⟩, 0)) := by rw [doS_11 HT.out HN0.out, HX.out.1, HY.out.1, hsz, hSs]
          have hsb : S.size ≤ 281474976702464 := by have := HXO.out.2.2; have := HYO.out.2.2; omega
          clear hSs hsz
          go_wp2_with fail
          refine HTOG.out.mono ?_
          rintro e w2 ⟨rfl, hb2⟩
          have hr2 := hres.later hb2
          have hb2' := next hbw hb2
          clear hres hbw hb2
          have hz2 := hr2.lt
          have hs2 := hb2'.size
          obtain ⟨b, o, hab, hbz, d0, d1, d2⟩ := at3 (HAT.out.below hb2') HX.out.2
          cases hab
          rw [Nat.zero_mul, Nat.add_zero] at d0 d1 d2
          obtain ⟨b', o', hab', _, g0, g1, g2⟩ := at3 (HAT.out.below hb2') HY.out.2
          cases hab'
          rw [Nat.one_mul] at g0 g1 g2
          go_wp2_with fail
          have l2 := lat_cell d2
          have k2 := lat_cell g2
          refine wp_region_later (by kernel_rfl) (by kernel_rfl) ?_
          repeat (go_big_quiet_step (fail))
          refine wpQuiet_nil ?_
          refine later_out (fun wf hbf => ?_)
          have hrf := hr2.later hbf
          have hzf := hrf.lt
          have hbelf := next hb2' hbf
          clear hbf hr2 hb2'
          clear l2 k2 d0 d1 d2 g0 g1 g2
          obtain ⟨c0, c1, c2, f0, f1, f2⟩ := hrf
          by_cases hlong : 1000 < S.size
          · rw [if_pos hlong] at hD
            have HS := Lib.hid hD
            clear hD
            go_wp2_with fail
            obtain ⟨q0, q1, q2⟩ := filled3 wf w.heap.size _ _ _ (.int .u8 0) (.int .i64 0) (.string ⟨#[]⟩) c0 c1 c2
            refine bodyPost_ret (v := .tuple #[.agg #[.int .u8 0, .int .i64 0, .string ⟨#[]⟩], .int .i64 3]) (by simp [results, Try.results30, go_sem, q0, q1, q2]) rfl ⟨by rw [HS.out]; rfl, ?_⟩
            go_grown
          · rw [if_neg hlong] at hD
            have HS := Lib.hid hD
            clear hD
            go_wp2_with fail
            obtain ⟨q0, q1, q2⟩ := filled3 wf w.heap.size _ _ _ (.int .u8 2) (.int .i64 0) (.string S) c0 c1 c2
            refine bodyPost_ret (v := .tuple #[.agg #[.int .u8 2, .int .i64 0, .string S], .int .i64 0]) (by simp [results, Try.results30, go_sem, q0, q1, q2]) rfl ⟨by rw [HS.out]; rfl, ?_⟩
            go_grown
        have e11 : ((op : Int) == 11) = false := by simp; omega
        by_cases c12 : 12 ≤ op
        · have e12 : decide ((12 : Int) ≤ (op : Int)) = true := decide_eq_true (by omega)
          have hS : doS op l = (truthV (holdsB op (cmpV x y)), 0) := by rw [doS_cmp HT.out HN0.out c12 (by omega), HX.out.1, HY.out.1]
          have HS := Lib.hid hS
          clear hS
          go_wp2_with fail
          refine HTOG.out.mono ?_
          rintro e w2 ⟨rfl, hb2⟩
          have hr2 := hres.later hb2
          have hb2' := next hbw hb2
          clear hres hbw hb2
          have hz2 := hr2.lt
          have hs2 := hb2'.size
          obtain ⟨b, o, hab, hbz, d0, d1, d2⟩ := at3 (HAT.out.below hb2') HX.out.2
          cases hab
          rw [Nat.zero_mul, Nat.add_zero] at d0 d1 d2
          obtain ⟨b', o', hab', _, g0, g1, g2⟩ := at3 (HAT.out.below hb2') HY.out.2
          cases hab'
          rw [Nat.one_mul] at g0 g1 g2
          go_wp2_with fail
          have l0 := lat_cell d0
          have l1 := lat_cell d1
          have l2 := lat_cell d2
          have k0 := lat_cell g0
          have k1 := lat_cell g1
          have k2 := lat_cell g2
          refine wp_region_later_tail 10 (by kernel_rfl) (by kernel_rfl) ?_
          simp only [List.take_succ_cons, List.take_zero, List.drop_succ_cons, List.drop_zero]
          repeat (go_big_quiet_step ((first | (go_at_call 34; exact lat_calls (compare x y _)) | (go_at_call 41; exact lat_calls_same (holds op _ _ (by omega))) | (go_at_call 38; exact lat_calls (truth _ _)))))
          refine wpQuiet_nil ?_
          refine later_out (fun wf hbf => ?_)
          have hrf := hr2.later hbf
          have hzf := hrf.lt
          have hbelf := next hb2' hbf
          clear hbf hr2 hb2'
          clear l0 l1 l2 k0 k1 k2 d0 d1 d2 g0 g1 g2
          obtain ⟨c0, c1, c2, f0, f1, f2⟩ := hrf
          go_wp2_with fail
          obtain ⟨q0, q1, q2⟩ := filled3 wf w.heap.size _ _ _ (.int .u8 ((truthV (holdsB op (cmpV x y))).k : Int)) (.int .i64 (truthV (holdsB op (cmpV x y))).n) (.string (truthV (holdsB op (cmpV x y))).s) c0 c1 c2
          refine bodyPost_ret (v := .tuple #[(truthV (holdsB op (cmpV x y))).val, .int .i64 (0)]) (by simp [results, Try.results30, go_sem, q0, q1, q2]) rfl ⟨by rw [HS.out]; first | done | rfl, ?_⟩
          go_grown
        have e12 : decide ((12 : Int) ≤ (op : Int)) = false := decide_eq_false (by omega)
        have hcon := fun W => reckon op x.n y.n W (by omega) (by omega) HXO.out.2.1 HYO.out.2.1
        obtain ⟨R, hR⟩ : ∃ R, R = reckonS op x.n y.n := ⟨_, rfl⟩
        rw [← hR] at hcon
        have HC := Lib.hid hcon
        have HRR := Lib.hid hR
        clear hcon hR
        have hS : doS op l = R := by rw [doS_num HT.out HN0.out (by omega) (by omega), HX.out.1, HY.out.1, HRR.out]
        have HS := Lib.hid hS
        clear hS
        go_wp2_with fail
        refine HTOG.out.mono ?_
        rintro e w2 ⟨rfl, hb2⟩
        have hr2 := hres.later hb2
        have hb2' := next hbw hb2
        clear hres hbw hb2
        have hz2 := hr2.lt
        have hs2 := hb2'.size
        obtain ⟨b, o, hab, hbz, d0, d1, d2⟩ := at3 (HAT.out.below hb2') HX.out.2
        cases hab
        rw [Nat.zero_mul, Nat.add_zero] at d0 d1 d2
        obtain ⟨b', o', hab', _, g0, g1, g2⟩ := at3 (HAT.out.below hb2') HY.out.2
        cases hab'
        rw [Nat.one_mul] at g0 g1 g2
        go_wp2_with fail
        have l0 := lat_cell d0
        have l1 := lat_cell d1
        have l2 := lat_cell d2
        have k0 := lat_cell g0
        have k1 := lat_cell g1
        have k2 := lat_cell g2
        refine wp_region_later_tail 12 (by kernel_rfl) (by kernel_rfl) ?_
        simp only [List.take_succ_cons, List.take_zero, List.drop_succ_cons, List.drop_zero]
        repeat (go_big_quiet_step ((go_at_call 40; exact lat_calls (HC.out _))))
        refine wpQuiet_nil ?_
        refine later_out (fun wf hbf => ?_)
        have hrf := hr2.later hbf
        have hzf := hrf.lt
        have hbelf := next hb2' hbf
        clear hbf hr2 hb2'
        clear l0 l1 l2 k0 k1 k2 d0 d1 d2 g0 g1 g2
        obtain ⟨c0, c1, c2, f0, f1, f2⟩ := hrf
        go_wp2_with fail
        obtain ⟨q0, q1, q2⟩ := filled3 wf w.heap.size _ _ _ (.int .u8 (R.1.k : Int)) (.int .i64 R.1.n) (.string R.1.s) c0 c1 c2
        refine bodyPost_ret (v := .tuple #[R.1.val, .int .i64 (R.2 : Int)]) (by simp [results, Try.results30, go_sem, q0, q1, q2]) rfl ⟨by rw [HS.out]; first | done | rfl, ?_⟩
        go_grown
end Go.Proofs.Ytclkpbokngamiaa.Dt
