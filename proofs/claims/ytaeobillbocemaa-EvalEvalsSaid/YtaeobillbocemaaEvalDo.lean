/-
  The walk of the reference's do: what an operation comes to.
-/
import Derived.Test.YtaeobillbocemaaEvalDoes
import Derived.Test.YtaeobillbocemaaEvalFit
import Derived.Test.YtaeobillbocemaaEvalNumR
import Derived.Test.YtaeobillbocemaaValueR
import Derived.Deep.DeepCutAuto
namespace Go.Proofs.Ytaeobillbocemaa.Dt
open Go.RowKit Go.Proofs.Ytaeobillbocemaa.By

def zeroB (l : List V) : Bool := l.any fun v => decide (v.k = 1) && decide (v.n = 0)
def oneB' (l : List V) : Bool := l.any fun v => decide (v.k = 1) && decide (v.n ≠ 0)
theorem any_next {p : V → Bool} {l : List V} {k : Nat} {y : V} (hy : l[k]? = some y) {b : Bool} (h : b = (l.take k).any p) : (b || p y) = (l.take (k + 1)).any p := by
  obtain ⟨hk, rfl⟩ := List.getElem?_eq_some_iff.1 hy
  rw [List.take_succ_eq_append_getElem hk, List.any_append, ← h]
  simp
theorem list2 {α : Type} {l : List α} (h : l.length = 2) : ∃ a b, l = [a, b] := by
  match l, h with
  | [a, b], _ => exact ⟨a, b, rfl⟩
theorem list1 {α : Type} {l : List α} (h : l.length = 1) : ∃ a, l = [a] := by
  match l, h with
  | [a], _ => exact ⟨a, rfl⟩
theorem tog1 {a b : V} (h : allB 1 ([a, b].map V.k) = true) : (a.k = 0 ∨ a.k = 1) ∧ (b.k = 0 ∨ b.k = 1) := by
  simpa [allB] using h
theorem doS_and {l : List V} (h : togetherB 18 (l.map V.k) = true) (hl : l.length = 2) : doS 18 l = if zeroB l = true then (truthV false, 0) else if nullB l = true then (nullV, 0) else (truthV true, 0) := by
  rw [doS_18 h]
  obtain ⟨a, b, rfl⟩ := list2 hl
  obtain ⟨ha, hb⟩ := tog1 h
  simp only [List.getD_cons_zero, List.getD_cons_succ, logicS, zeroB, nullB, trueB, List.any_cons, List.any_nil]
  rcases ha with ha | ha <;> rcases hb with hb | hb <;> by_cases h1 : a.n = 0 <;> by_cases h2 : b.n = 0 <;> simp [ha, hb, h1, h2]
theorem doS_or {l : List V} (h : togetherB 19 (l.map V.k) = true) (hl : l.length = 2) : doS 19 l = if oneB' l = true then (truthV true, 0) else if nullB l = true then (nullV, 0) else (truthV false, 0) := by
  rw [doS_19 h]
  obtain ⟨a, b, rfl⟩ := list2 hl
  obtain ⟨ha, hb⟩ := tog1 h
  simp only [List.getD_cons_zero, List.getD_cons_succ, logicS, oneB', nullB, trueB, List.any_cons, List.any_nil]
  rcases ha with ha | ha <;> rcases hb with hb | hb <;> by_cases h1 : a.n = 0 <;> by_cases h2 : b.n = 0 <;> simp [ha, hb, h1, h2]
theorem doS_not {l : List V} (h : togetherB 4 (l.map V.k) = true) (hl : l.length = 1) (hn : nullB l = false) : doS 4 l = (truthV (zeroB l), 0) := by
  rw [doS_4 h hn]
  obtain ⟨a, rfl⟩ := list1 hl
  have ha : a.k = 0 ∨ a.k = 1 := by simpa [togetherB, allB] using h
  have hn' : a.k ≠ 0 := by simpa [nullB] using hn
  have h1 : a.k = 1 := by omega
  simp only [List.getD_cons_zero, zeroB, trueB, List.any_cons, List.any_nil, h1]
  by_cases h2 : a.n = 0 <;> simp [h2]
theorem refnum (op : Nat) (a b : Int) (w : World) (h6 : 6 ≤ op) (h10 : op ≤ 10) (ha : inR a) (hb : inR b) : Calls Try.prog 64 #[.int .u8 (op : Int), .int .i64 a, .int .i64 b] w fun e w' => e = .returned (resV (reckonS op a b)) ∧ Below w.heap.size w w' := by
  have : op = 6 ∨ op = 7 ∨ op = 8 ∨ op = 9 ∨ op = 10 := by omega
  rcases this with rfl | rfl | rfl | rfl | rfl
  · exact refnum_sum a b w ha hb
  · exact refnum_sub a b w ha hb
  · exact refnum_mul a b w ha hb
  · by_cases h0 : b = 0
    · subst h0; exact refnum_zero 9 a w (.inl rfl)
    · have e : reckonS 9 a b = overS (a.tdiv b) := by simp [reckonS, h0]
      rw [e]; exact refnum_div a b w ha hb h0
  · by_cases h0 : b = 0
    · subst h0; exact refnum_zero 10 a w (.inr rfl)
    · have e : reckonS 10 a b = (numV (a.tmod b), 0) := by simp [reckonS, h0]
      rw [e]; exact refnum_mod a b w ha hb h0

/-- The bools of the loop. -/
structure DoB (l : List V) (k : Nat) (nb zb ob : Bool) : Prop where
  n : nb = nullB (l.take k)
  z : zb = zeroB (l.take k)
  o : ob = oneB' (l.take k)
theorem DoB.next {l : List V} {k : Nat} {nb zb ob : Bool} {y : V} (h : DoB l k nb zb ob) (hy : l[k]? = some y) :
    DoB l (k + 1) (nb || decide (y.k = 0)) (zb || (decide (y.k = 1) && decide (y.n = 0))) (ob || (decide (y.k = 1) && decide (y.n ≠ 0))) :=
  ⟨null_next hy nb h.n, any_next hy h.z, any_next hy h.o⟩

set_option maxRecDepth 100000 in
set_option maxHeartbeats 16000000 in
theorem refDo (op : Nat) (v : Value) (l : List V) (w : World) (hat : VsAt w v l) (hok : ∀ x ∈ l, x.ok) (hf : Fits op l) :
    Calls Try.prog 46 #[.int .u8 (op : Int), v] w fun e w' => e = .returned (resV (doS op l)) ∧ Below w.heap.size w w' := by
  obtain ⟨a, c, rfl⟩ := hat.shape
  obtain ⟨ho3, ho19, hlen⟩ := hf
  have hl2 : l.length ≤ 2 := by rw [hlen]; split <;> omega
  have HAT := Lib.hid hat; clear hat
  have HOK := Lib.hid hok; clear hok
  have HLEN := Lib.hid hlen; clear hlen
  go_enter Try.func46, Try.ntmps46
  go_wp2_with fail
  go_loopg [6, 7, 8, 9, 10] l.length (fun gk kv nv zv ov i wr => ∃ (k : Nat) (nb zb ob : Bool) (ks : List Nat), i = .int .i64 (k : Int) ∧ gk = l.length - k ∧ nv = .bool nb ∧ zv = .bool zb ∧ ov = .bool ob ∧ k ≤ l.length ∧ Hid (DoB l k nb zb ob) ∧ Hid (DoesAt l a c w wr kv k ks) ∧ ks.length ≤ 2 ∧ w.heap.size < wr.heap.size)
  case atStart => exact ⟨0, false, false, false, [], rfl, rfl, rfl, rfl, rfl, Nat.zero_le _, ⟨rfl, rfl, rfl⟩, ⟨OwnU.nil _ _, rfl, resBox_new _ _, HAT.out.below ((Below.refl _ _).alloc (Nat.le_refl _) _), (Below.refl _ _).alloc (Nat.le_refl _) _⟩, by simp, by simp⟩
  case round =>
    obtain ⟨k, nb, zb, ob, ks, rfl, rfl, rfl, rfl, rfl, hkl, hnb, hda, hlk, hzr⟩ := hrel
    by_cases hlt : k < l.length
    · obtain ⟨y, hy⟩ : ∃ y, l[k]? = some y := ⟨l[k], by simp⟩
      have hyk : y.k < 256 := (HOK.out y (List.mem_of_getElem? hy)).1
      obtain ⟨b, o, rfl, hbz, d0, d1, d2⟩ := at3 hda.out.at_ hy
      have hn := hnb.out.next hy
      have HY := Lib.hid hy
      have HK := Lib.hid (kinds_next hy)
      clear hy
      have ilt : (k : Int) < (l.length : Int) := by omega
      obtain ⟨ak, ck, rfl⟩ := hda.out.own.shape
      have hsrc : Reads (wr.alloc (.cells #[.int .u8 (y.k : Int)] 5)) 1 (.slice (some ⟨wr.heap.size, 0, none⟩) 1 1) 1 [.int .u8 (y.k : Int)] :=
        reads_of_owns (own_one wr (w.heap.size + 1) 5 (.int .u8 (y.k : Int)) (by omega))
      have hbelA : Below w.heap.size w (wr.alloc (.cells #[.int .u8 (y.k : Int)] 5)) := hda.out.bel.alloc (by omega) _
      have hresA : ResBox w.heap.size (wr.alloc (.cells #[.int .u8 (y.k : Int)] 5)) := hda.out.res.later ((Below.refl _ wr).alloc (Nat.le_refl _) _)
      have HA := Lib.hid (And.intro hbelA hresA)
      clear hbelA hresA
      have key : ∀ (w2 : World) (v' : Value), OwnU w2 (w.heap.size + 1) v' (ks ++ [y.k]) → Below (w.heap.size + 1) (wr.alloc (.cells #[.int .u8 (y.k : Int)] 5)) w2 → DoesAt l (some ⟨b, o, none⟩) c w w2 v' (k + 1) (ks ++ [y.k]) := by
        intro w2 v' h1 h2
        have hb := HA.out.1.trans (h2.mono (Nat.le_succ _))
        exact ⟨h1, by rw [HK.out, ← hda.out.ks], HA.out.2.below h2 (Nat.lt_succ_self _), HAT.out.below hb, hb⟩
      have KEY := Lib.hid key; clear key
      have hk1 : ks.length + 1 ≤ 2 := by
        have := congrArg List.length hda.out.ks
        simp at this
        omega
      have HN : Hid (DoB l (k + 1) (nb || ((y.k : Int) == 0)) (zb || (((y.k : Int) == 1) && (y.n == 0))) (ob || (((y.k : Int) == 1) && (y.n != 0)))) := by
        have e0 : ((y.k : Int) == 0) = decide (y.k = 0) := by rw [Bool.eq_iff_iff]; simp
        have e1 : ((y.k : Int) == 1) = decide (y.k = 1) := by rw [Bool.eq_iff_iff]; simp; omega
        have e2 : (y.n == 0) = decide (y.n = 0) := by rw [Bool.eq_iff_iff]; simp
        have e3 : (y.n != 0) = decide (y.n ≠ 0) := by rw [Bool.eq_iff_iff]; simp
        rw [e0, e1, e2, e3]
        exact hn
      clear hn
      go_upto_region 9 with (at_builtin; refine wpList_append_reads rfl (.tmp 18) (.tmp 24) 55 rfl (w.heap.size + 1) 5 1 1 elU8 _ ks.length (uCells ks) rfl (World.ownsRow.alloc hda.out.own _) _ 1 [.int .u8 (y.k : Int)] rfl hsrc (by simp [Value.oneCell']) (by unfold maxLen; omega) (by omega) (by simp; omega) ?_; intro v' w2 hown2 hgrow2 hbel2; have HO2 := Lib.hid (OwnU.snoc hown2); have HB2 := Lib.hid hbel2; clear hown2 hgrow2 hbel2)
      have hat2 := at3 (KEY.out _ _ HO2.out HB2.out).at_ (k := k) (y := y) HY.out
      obtain ⟨b9, o9, hbo9, hbz9, g0, g1, g2⟩ := hat2
      cases hbo9
      clear d0 d1 d2 hsrc
      have hz2 := (KEY.out _ _ HO2.out HB2.out).res.lt
      go_cut [7] (fun c wx => c = .bool (nb || ((y.k : Int) == 0)) ∧ w2 = wx)
      case first =>
        cases nb
        · go_wp2_with fail
          go_meet
          exact ⟨rfl, rfl⟩
        · go_wp2_with fail
          go_meet
          exact ⟨rfl, rfl⟩
      case rest =>
        obtain ⟨rfl, rfl⟩ := hcut
        go_upto_region 10 with fail
        go_cut [8] (fun c wx => c = .bool (zb || (((y.k : Int) == 1) && (y.n == 0))) ∧ w2 = wx)
        case first =>
          cases zb
          · cases e1 : ((y.k : Int) == 1)
            · go_wp2_with fail
              go_meet
              exact ⟨by simp [e1], rfl⟩
            · go_wp2_with fail
              go_meet
              exact ⟨by simp [e1], rfl⟩
          · go_wp2_with fail
            go_meet
            exact ⟨rfl, rfl⟩
        case rest =>
          obtain ⟨rfl, rfl⟩ := hcut
          cases e1 : ((y.k : Int) == 1)
          · cases ob
            · go_wp2_with fail
              go_roundg (l.length - (k + 1))
              case measure => omega
              case rel => exact ⟨k + 1, _, _, _, ks ++ [y.k], by go_num, rfl, rfl, rfl, rfl, by omega, by simpa [e1] using HN, KEY.out _ _ HO2.out HB2.out, by simpa using hk1, hz2⟩
            · go_wp2_with fail
              go_roundg (l.length - (k + 1))
              case measure => omega
              case rel => exact ⟨k + 1, _, _, _, ks ++ [y.k], by go_num, rfl, rfl, rfl, rfl, by omega, by simpa [e1] using HN, KEY.out _ _ HO2.out HB2.out, by simpa using hk1, hz2⟩

          · cases ob
            · go_wp2_with fail
              go_roundg (l.length - (k + 1))
              case measure => omega
              case rel => exact ⟨k + 1, _, _, _, ks ++ [y.k], by go_num, rfl, rfl, rfl, rfl, by omega, by simpa [e1] using HN, KEY.out _ _ HO2.out HB2.out, by simpa using hk1, hz2⟩
            · go_wp2_with fail
              go_roundg (l.length - (k + 1))
              case measure => omega
              case rel => exact ⟨k + 1, _, _, _, ks ++ [y.k], by go_num, rfl, rfl, rfl, rfl, by omega, by simpa [e1] using HN, KEY.out _ _ HO2.out HB2.out, by simpa using hk1, hz2⟩
    · obtain rfl : k = l.length := by omega
      obtain ⟨ak, ck, rfl⟩ := hda.out.own.shape
      have hks : ks = l.map V.k := by rw [hda.out.ks, List.take_length]
      have hnn : nb = nullB l ∧ zb = zeroB l ∧ ob = oneB' l := by
        have := hnb.out
        refine ⟨?_, ?_, ?_⟩
        · rw [this.n, List.take_length]
        · rw [this.z, List.take_length]
        · rw [this.o, List.take_length]
      have hk256 : ∀ k ∈ ks, k < 256 := by
        intro k hk
        rw [hks] at hk
        obtain ⟨x, hx, rfl⟩ := List.mem_map.1 hk
        exact (HOK.out x hx).1
      have hkn : ks.length = l.length := by rw [hks, List.length_map]
      have htog := fit op _ ks wr hda.out.own.at_ (by omega) hk256 (by omega) (fun h1 h2 => by have := HLEN.out; rw [if_neg (by omega)] at this; omega)
      have hres := hda.out.res
      have hbw := hda.out.bel
      have HTOG := Lib.hid htog
      have HNN := Lib.hid hnn
      have HKS := Lib.hid (And.intro hks hkn)
      clear htog hks hk256 hkn hnn hnb hda
      cases htv : togetherB op ks
      · have hS : doS op l = (nullV, 150) := doS_tog (by rw [← HKS.out.1]; exact htv)
        rw [htv] at HTOG
        have HS := Lib.hid hS
        clear htv hS
        go_wp2_with fail
        refine HTOG.out.mono ?_
        rintro e w2 ⟨rfl, hb2⟩
        have hr2 := hres.later hb2
        have hb2' := next hbw hb2
        clear hres hbw hb2
        have hz2 := hr2.lt
        have hs2 := hb2'.size
        obtain ⟨c0, c1, c2, f0, f1, f2⟩ := hr2
        go_wp2_with fail
        obtain ⟨q0, q1, q2⟩ := filled3 w2 w.heap.size _ _ _ (.int .u8 0) (.int .i64 0) (.string ⟨#[]⟩) c0 c1 c2
        refine bodyPost_ret (v := .tuple #[.agg #[.int .u8 0, .int .i64 0, .string ⟨#[]⟩], .int .i64 150]) (by simp [results, Try.results46, go_sem, q0, q1, q2]) rfl ⟨by rw [HS.out]; rfl, ?_⟩
        go_grown
      · rw [htv] at HTOG
        have hT : togetherB op (l.map V.k) = true := by rw [← HKS.out.1, htv]
        have HT := Lib.hid hT
        clear htv hT
        have hpos : 0 < l.length := by rw [HLEN.out]; split <;> omega
        obtain ⟨x, hx⟩ : ∃ x, l[0]? = some x := ⟨l[0], by simp⟩
        have hgx : l.getD 0 nullV = x := by rw [List.getD, hx]; rfl
        have HX := Lib.hid (And.intro hgx hx)
        have HXO := Lib.hid (HOK.out x (List.mem_of_getElem? hx))
        have i0 : (0 : Int) < (l.length : Int) := by omega
        clear hgx hx
        by_cases c5 : op = 5
        · subst c5
          have hS : doS 5 l = (truthV nb, 0) := by rw [doS_5 HT.out, HNN.out.1]
          have HS := Lib.hid hS
          clear hS

          go_wp2_with fail
          refine HTOG.out.mono ?_
          rintro e w2 ⟨rfl, hb2⟩
          have hr2 := hres.later hb2
          have hb2' := next hbw hb2
          clear hres hbw hb2
          have hz2 := hr2.lt
          have hs2 := hb2'.size

          go_wp2_with fail
          refine (refYes nb _).mono ?_
          rintro e wf ⟨rfl, hbf⟩

          have hrf := hr2.later hbf
          have hzf := hrf.lt
          have hbelf := next hb2' hbf
          clear hbf hr2 hb2'
          obtain ⟨c0, c1, c2, f0, f1, f2⟩ := hrf
          go_wp2_with fail
          obtain ⟨q0, q1, q2⟩ := filled3 wf w.heap.size _ _ _ (.int .u8 ((truthV nb).k : Int)) (.int .i64 (truthV nb).n) (.string (truthV nb).s) c0 c1 c2
          refine bodyPost_ret (v := .tuple #[(truthV nb).val, .int .i64 (0)]) (by simp [results, Try.results46, go_sem, q0, q1, q2]) rfl ⟨by rw [HS.out]; first | done | rfl, ?_⟩
          go_grown

        have e5 : ((op : Int) == 5) = false := by simp; omega
        by_cases c18 : op = 18
        · subst c18
          have hD := doS_and HT.out (by rw [HLEN.out, if_neg (by omega)])
          rw [← HNN.out.1, ← HNN.out.2.1] at hD
          cases zb
          · cases nb
            · have HS : Hid (doS 18 l = (truthV true, 0)) := Lib.hid (by rw [hD]; simp)
              clear hD
              go_wp2_with fail
              refine HTOG.out.mono ?_
              rintro e w2 ⟨rfl, hb2⟩
              have hr2 := hres.later hb2
              have hb2' := next hbw hb2
              clear hres hbw hb2
              have hz2 := hr2.lt
              have hs2 := hb2'.size

              go_wp2_with fail
              refine (refYes true _).mono ?_
              rintro e wf ⟨rfl, hbf⟩

              have hrf := hr2.later hbf
              have hzf := hrf.lt
              have hbelf := next hb2' hbf
              clear hbf hr2 hb2'
              obtain ⟨c0, c1, c2, f0, f1, f2⟩ := hrf
              go_wp2_with fail
              obtain ⟨q0, q1, q2⟩ := filled3 wf w.heap.size _ _ _ (.int .u8 ((truthV true).k : Int)) (.int .i64 (truthV true).n) (.string (truthV true).s) c0 c1 c2
              refine bodyPost_ret (v := .tuple #[(truthV true).val, .int .i64 (0)]) (by simp [results, Try.results46, go_sem, q0, q1, q2]) rfl ⟨by rw [HS.out]; first | done | rfl, ?_⟩
              go_grown

            · have HS : Hid (doS 18 l = (nullV, 0)) := Lib.hid (by rw [hD]; simp)
              clear hD
              go_wp2_with fail
              refine HTOG.out.mono ?_
              rintro e w2 ⟨rfl, hb2⟩
              have hr2 := hres.later hb2
              have hb2' := next hbw hb2
              clear hres hbw hb2
              have hz2 := hr2.lt
              have hs2 := hb2'.size

              obtain ⟨c0, c1, c2, f0, f1, f2⟩ := hr2
              go_wp2_with fail
              obtain ⟨q0, q1, q2⟩ := filled3 w2 w.heap.size _ _ _ (.int .u8 0) (.int .i64 0) (.string ⟨#[]⟩) c0 c1 c2
              refine bodyPost_ret (v := .tuple #[.agg #[.int .u8 0, .int .i64 0, .string ⟨#[]⟩], .int .i64 0]) (by simp [results, Try.results46, go_sem, q0, q1, q2]) rfl ⟨by rw [HS.out]; rfl, ?_⟩
              go_grown

          · have HS : Hid (doS 18 l = (truthV false, 0)) := Lib.hid (by rw [hD]; simp)
            clear hD
            go_wp2_with fail
            refine HTOG.out.mono ?_
            rintro e w2 ⟨rfl, hb2⟩
            have hr2 := hres.later hb2
            have hb2' := next hbw hb2
            clear hres hbw hb2
            have hz2 := hr2.lt
            have hs2 := hb2'.size

            go_wp2_with fail
            refine (refYes false _).mono ?_
            rintro e wf ⟨rfl, hbf⟩

            have hrf := hr2.later hbf
            have hzf := hrf.lt
            have hbelf := next hb2' hbf
            clear hbf hr2 hb2'
            obtain ⟨c0, c1, c2, f0, f1, f2⟩ := hrf
            go_wp2_with fail
            obtain ⟨q0, q1, q2⟩ := filled3 wf w.heap.size _ _ _ (.int .u8 ((truthV false).k : Int)) (.int .i64 (truthV false).n) (.string (truthV false).s) c0 c1 c2
            refine bodyPost_ret (v := .tuple #[(truthV false).val, .int .i64 (0)]) (by simp [results, Try.results46, go_sem, q0, q1, q2]) rfl ⟨by rw [HS.out]; first | done | rfl, ?_⟩
            go_grown

        have e18 : ((op : Int) == 18) = false := by simp; omega
        by_cases c19 : op = 19
        · subst c19
          have hD := doS_or HT.out (by rw [HLEN.out, if_neg (by omega)])
          rw [← HNN.out.1, ← HNN.out.2.2] at hD
          cases ob
          · cases nb
            · have HS : Hid (doS 19 l = (truthV false, 0)) := Lib.hid (by rw [hD]; simp)
              clear hD
              go_wp2_with fail
              refine HTOG.out.mono ?_
              rintro e w2 ⟨rfl, hb2⟩
              have hr2 := hres.later hb2
              have hb2' := next hbw hb2
              clear hres hbw hb2
              have hz2 := hr2.lt
              have hs2 := hb2'.size

              go_wp2_with fail
              refine (refYes false _).mono ?_
              rintro e wf ⟨rfl, hbf⟩

              have hrf := hr2.later hbf
              have hzf := hrf.lt
              have hbelf := next hb2' hbf
              clear hbf hr2 hb2'
              obtain ⟨c0, c1, c2, f0, f1, f2⟩ := hrf
              go_wp2_with fail
              obtain ⟨q0, q1, q2⟩ := filled3 wf w.heap.size _ _ _ (.int .u8 ((truthV false).k : Int)) (.int .i64 (truthV false).n) (.string (truthV false).s) c0 c1 c2
              refine bodyPost_ret (v := .tuple #[(truthV false).val, .int .i64 (0)]) (by simp [results, Try.results46, go_sem, q0, q1, q2]) rfl ⟨by rw [HS.out]; first | done | rfl, ?_⟩
              go_grown

            · have HS : Hid (doS 19 l = (nullV, 0)) := Lib.hid (by rw [hD]; simp)
              clear hD
              go_wp2_with fail
              refine HTOG.out.mono ?_
              rintro e w2 ⟨rfl, hb2⟩
              have hr2 := hres.later hb2
              have hb2' := next hbw hb2
              clear hres hbw hb2
              have hz2 := hr2.lt
              have hs2 := hb2'.size

              obtain ⟨c0, c1, c2, f0, f1, f2⟩ := hr2
              go_wp2_with fail
              obtain ⟨q0, q1, q2⟩ := filled3 w2 w.heap.size _ _ _ (.int .u8 0) (.int .i64 0) (.string ⟨#[]⟩) c0 c1 c2
              refine bodyPost_ret (v := .tuple #[.agg #[.int .u8 0, .int .i64 0, .string ⟨#[]⟩], .int .i64 0]) (by simp [results, Try.results46, go_sem, q0, q1, q2]) rfl ⟨by rw [HS.out]; rfl, ?_⟩
              go_grown

          · have HS : Hid (doS 19 l = (truthV true, 0)) := Lib.hid (by rw [hD]; simp)
            clear hD
            go_wp2_with fail
            refine HTOG.out.mono ?_
            rintro e w2 ⟨rfl, hb2⟩
            have hr2 := hres.later hb2
            have hb2' := next hbw hb2
            clear hres hbw hb2
            have hz2 := hr2.lt
            have hs2 := hb2'.size

            go_wp2_with fail
            refine (refYes true _).mono ?_
            rintro e wf ⟨rfl, hbf⟩

            have hrf := hr2.later hbf
            have hzf := hrf.lt
            have hbelf := next hb2' hbf
            clear hbf hr2 hb2'
            obtain ⟨c0, c1, c2, f0, f1, f2⟩ := hrf
            go_wp2_with fail
            obtain ⟨q0, q1, q2⟩ := filled3 wf w.heap.size _ _ _ (.int .u8 ((truthV true).k : Int)) (.int .i64 (truthV true).n) (.string (truthV true).s) c0 c1 c2
            refine bodyPost_ret (v := .tuple #[(truthV true).val, .int .i64 (0)]) (by simp [results, Try.results46, go_sem, q0, q1, q2]) rfl ⟨by rw [HS.out]; first | done | rfl, ?_⟩
            go_grown

        have e19 : ((op : Int) == 19) = false := by simp; omega
        by_cases hnb1 : nb = true
        · subst hnb1
          have hS : doS op l = (nullV, 0) := doS_null HT.out c5 c18 c19 HNN.out.1.symm
          have HS := Lib.hid hS
          clear hS

          go_wp2_with fail
          refine HTOG.out.mono ?_
          rintro e w2 ⟨rfl, hb2⟩
          have hr2 := hres.later hb2
          have hb2' := next hbw hb2
          clear hres hbw hb2
          have hz2 := hr2.lt
          have hs2 := hb2'.size

          obtain ⟨c0, c1, c2, f0, f1, f2⟩ := hr2
          go_wp2_with fail
          obtain ⟨q0, q1, q2⟩ := filled3 w2 w.heap.size _ _ _ (.int .u8 0) (.int .i64 0) (.string ⟨#[]⟩) c0 c1 c2
          refine bodyPost_ret (v := .tuple #[.agg #[.int .u8 0, .int .i64 0, .string ⟨#[]⟩], .int .i64 0]) (by simp [results, Try.results46, go_sem, q0, q1, q2]) rfl ⟨by rw [HS.out]; rfl, ?_⟩
          go_grown

        have hnb0 : nb = false := by simpa using hnb1
        subst hnb0
        have HN0 := Lib.hid HNN.out.1.symm
        by_cases c4 : op = 4
        · subst c4
          have hS : doS 4 l = (truthV zb, 0) := by rw [doS_not HT.out (by rw [HLEN.out, if_pos (by omega)]) HN0.out, HNN.out.2.1]
          have HS := Lib.hid hS
          clear hS

          go_wp2_with fail
          refine HTOG.out.mono ?_
          rintro e w2 ⟨rfl, hb2⟩
          have hr2 := hres.later hb2
          have hb2' := next hbw hb2
          clear hres hbw hb2
          have hz2 := hr2.lt
          have hs2 := hb2'.size

          go_wp2_with fail
          refine (refYes zb _).mono ?_
          rintro e wf ⟨rfl, hbf⟩

          have hrf := hr2.later hbf
          have hzf := hrf.lt
          have hbelf := next hb2' hbf
          clear hbf hr2 hb2'
          obtain ⟨c0, c1, c2, f0, f1, f2⟩ := hrf
          go_wp2_with fail
          obtain ⟨q0, q1, q2⟩ := filled3 wf w.heap.size _ _ _ (.int .u8 ((truthV zb).k : Int)) (.int .i64 (truthV zb).n) (.string (truthV zb).s) c0 c1 c2
          refine bodyPost_ret (v := .tuple #[(truthV zb).val, .int .i64 (0)]) (by simp [results, Try.results46, go_sem, q0, q1, q2]) rfl ⟨by rw [HS.out]; first | done | rfl, ?_⟩
          go_grown

        have e4 : ((op : Int) == 4) = false := by simp; omega
        by_cases c3 : op = 3
        · subst c3
          have hcon := fun W => refnum_sub 0 x.n W (by unfold inR; omega) HXO.out.2.1
          obtain ⟨R, hR⟩ : ∃ R, R = overS (0 - x.n) := ⟨_, rfl⟩
          rw [← hR] at hcon
          have HC := Lib.hid hcon
          have HRR := Lib.hid hR
          clear hcon hR
          have hS : doS 3 l = R := by rw [doS_3 HT.out HN0.out, HX.out.1, HRR.out]
          have HS := Lib.hid hS
          clear hS

          go_wp2_with fail
          refine HTOG.out.mono ?_
          rintro e w2 ⟨rfl, hb2⟩
          have hr2 := hres.later hb2
          have hb2' := next hbw hb2
          clear hres hbw hb2
          have hz2 := hr2.lt
          have hs2 := hb2'.size

          obtain ⟨b, o, hab, hbz, d0, d1, d2⟩ := at3 (HAT.out.below hb2') HX.out.2
          cases hab
          rw [Nat.zero_mul, Nat.add_zero] at d0 d1 d2

          go_wp2_with fail
          refine (HC.out _).mono ?_
          rintro e wf ⟨rfl, hbf⟩

          have hrf := hr2.later hbf
          have hzf := hrf.lt
          have hbelf := next hb2' hbf
          clear hbf hr2 hb2'
          clear d0 d1 d2
          obtain ⟨c0, c1, c2, f0, f1, f2⟩ := hrf
          go_wp2_with fail
          obtain ⟨q0, q1, q2⟩ := filled3 wf w.heap.size _ _ _ (.int .u8 (R.1.k : Int)) (.int .i64 R.1.n) (.string R.1.s) c0 c1 c2
          refine bodyPost_ret (v := .tuple #[R.1.val, .int .i64 (R.2 : Int)]) (by simp [results, Try.results46, go_sem, q0, q1, q2]) rfl ⟨by rw [HS.out]; first | done | rfl, ?_⟩
          go_grown

        have e3 : ((op : Int) == 3) = false := by simp; omega
        have hl1 : 1 < l.length := by rw [HLEN.out, if_neg (by omega)]; omega
        obtain ⟨y, hy⟩ : ∃ y, l[1]? = some y := ⟨l[1], by simp⟩
        have hgy : l.getD 1 nullV = y := by rw [List.getD, hy]; rfl
        have HY := Lib.hid (And.intro hgy hy)
        have i1 : (1 : Int) < (l.length : Int) := by omega
        clear hgy hy
        have HYO := Lib.hid (HOK.out y (List.mem_of_getElem? HY.out.2))
        by_cases c11 : op = 11
        · subst c11
          obtain ⟨S, hSs⟩ : ∃ S, S = x.s ++ y.s := ⟨_, rfl⟩
          have hsz : S.size = x.s.size + y.s.size := by rw [hSs, ByteArray.size_append]
          have hadd := fun w => run_string_add_sum (P := Try.prog) w x.s y.s (by have := HXO.out.2.2; have := HYO.out.2.2; omega)
          rw [← hSs] at hadd
          have hD : doS 11 l = (if 1000 < x.s.size + y.s.size then (nullV, 3) else (⟨2, 0, S⟩, 0)) := by rw [doS_11 HT.out HN0.out, HX.out.1, HY.out.1, hSs]
          have hwr : wrap64 ((x.s.size : Int) + (y.s.size : Int)) = (x.s.size : Int) + (y.s.size : Int) := by have := HXO.out.2.2; have := HYO.out.2.2; unfold wrap64; omega
          clear hSs hsz
          go_wp2_with fail
          refine HTOG.out.mono ?_
          rintro e w2 ⟨rfl, hb2⟩
          have hr2 := hres.later hb2
          have hb2' := next hbw hb2
          clear hres hbw hb2
          have hz2 := hr2.lt
          have hs2 := hb2'.size

          obtain ⟨b, o, hab, hbz, d0, d1, d2⟩ := at3 (HAT.out.below hb2') HX.out.2
          cases hab
          rw [Nat.zero_mul, Nat.add_zero] at d0 d1 d2

          obtain ⟨b', o', hab', _, g0, g1, g2⟩ := at3 (HAT.out.below hb2') HY.out.2
          cases hab'
          rw [Nat.one_mul] at g0 g1 g2

          go_wp2_with fail
          have l2 := lat_cell d2
          have k2 := lat_cell g2
          refine wp_region_later (by kernel_rfl) (by kernel_rfl) ?_
          repeat (go_big_quiet_step (fail))
          refine wpQuiet_nil ?_
          refine later_out (fun wf hbf => ?_)
          have hrf := hr2.later hbf
          have hzf := hrf.lt
          have hbelf := next hb2' hbf
          have m2 := (hbf.cell (cell_lt d2)).trans d2
          have n2 := (hbf.cell (cell_lt g2)).trans g2
          clear hbf hr2 hb2'
          clear l2 k2 d0 d1 d2 g0 g1 g2
          by_cases hlong : 1000 < x.s.size + y.s.size
          · have hlg : decide ((1000 : Int) < (x.s.size : Int) + (y.s.size : Int)) = true := decide_eq_true (by omega)
            rw [if_pos hlong] at hD
            have HS := Lib.hid hD
            clear hD
            obtain ⟨c0, c1, c2, f0, f1, f2⟩ := hrf
            go_wp2_with fail
            obtain ⟨q0, q1, q2⟩ := filled3 wf w.heap.size _ _ _ (.int .u8 0) (.int .i64 0) (.string ⟨#[]⟩) c0 c1 c2
            refine bodyPost_ret (v := .tuple #[.agg #[.int .u8 0, .int .i64 0, .string ⟨#[]⟩], .int .i64 3]) (by simp [results, Try.results46, go_sem, q0, q1, q2]) rfl ⟨by rw [HS.out]; rfl, ?_⟩
            go_grown
          · have hlg : decide ((1000 : Int) < (x.s.size : Int) + (y.s.size : Int)) = false := decide_eq_false (by omega)
            rw [if_neg hlong] at hD
            have HS := Lib.hid hD
            clear hD
            go_wp2_with fail
            have l2 := lat_cell m2
            have k2 := lat_cell n2
            refine wp_region_later_tail 10 (by kernel_rfl) (by kernel_rfl) ?_
            simp only [List.take_succ_cons, List.take_zero, List.drop_succ_cons, List.drop_zero]
            repeat (go_big_quiet_step (fail))
            refine wpQuiet_nil ?_
            refine later_out (fun wg hbg => ?_)
            have hrg := hrf.later hbg
            have hzg := hrg.lt
            have hbelg := next hbelf hbg
            clear l2 k2 m2 n2 hbg hrf hbelf
            obtain ⟨c0, c1, c2, f0, f1, f2⟩ := hrg
            go_wp2_with fail
            obtain ⟨q0, q1, q2⟩ := filled3 wg w.heap.size _ _ _ (.int .u8 2) (.int .i64 0) (.string S) c0 c1 c2
            refine bodyPost_ret (v := .tuple #[.agg #[.int .u8 2, .int .i64 0, .string S], .int .i64 0]) (by simp [results, Try.results46, go_sem, q0, q1, q2]) rfl ⟨by rw [HS.out]; rfl, ?_⟩
            go_grown

        have e11 : ((op : Int) == 11) = false := by simp; omega
        by_cases c12 : 12 ≤ op
        · have e12 : decide ((12 : Int) ≤ (op : Int)) = true := decide_eq_true (by omega)
          obtain ⟨C, hC⟩ : ∃ C, C = cmpV x y := ⟨_, rfl⟩
          have hcc := fun W => refCompare x y W HXO.out.1 HYO.out.1 (by have := HXO.out.2.2; omega) (by have := HYO.out.2.2; omega)
          rw [← hC] at hcc
          have HCC := Lib.hid hcc
          clear hcc
          have hS : doS op l = (truthV (holdsB op C), 0) := by rw [doS_cmp HT.out HN0.out c12 (by omega), HX.out.1, HY.out.1, ← hC]
          clear hC

          go_wp2_with fail
          refine HTOG.out.mono ?_
          rintro e w2 ⟨rfl, hb2⟩
          have hr2 := hres.later hb2
          have hb2' := next hbw hb2
          clear hres hbw hb2
          have hz2 := hr2.lt
          have hs2 := hb2'.size

          obtain ⟨b, o, hab, hbz, d0, d1, d2⟩ := at3 (HAT.out.below hb2') HX.out.2
          cases hab
          rw [Nat.zero_mul, Nat.add_zero] at d0 d1 d2

          obtain ⟨b', o', hab', _, g0, g1, g2⟩ := at3 (HAT.out.below hb2') HY.out.2
          cases hab'
          rw [Nat.one_mul] at g0 g1 g2

          go_wp2_with fail

          have l0 := lat_cell d0
          have l1 := lat_cell d1
          have l2 := lat_cell d2
          have k0 := lat_cell g0
          have k1 := lat_cell g1
          have k2 := lat_cell g2

          refine wp_region_later_tail 7 (by kernel_rfl) (by kernel_rfl) ?_
          simp only [List.take_succ_cons, List.take_zero, List.drop_succ_cons, List.drop_zero]
          repeat (go_big_quiet_step ((go_at_call 62; exact lat_calls (HCC.out _))))
          refine wpQuiet_nil ?_
          refine later_out (fun w3 hb3 => ?_)
          have hr3 := hr2.later hb3
          have hz3 := hr3.lt
          have hb3' := next hb2' hb3
          clear hb3 hr2 hb2'
          clear l0 l1 l2 k0 k1 k2 d0 d1 d2 g0 g1 g2
          rcases (show op = 12 ∨ op = 13 ∨ op = 14 ∨ op = 15 ∨ op = 16 ∨ op = 17 by omega) with h | h | h | h | h | h
          · subst h
            have hB : holdsB 12 C = (C == 0) := by rw [Bool.eq_iff_iff]; simp [holdsB]
            rw [hB] at hS
            have HS := Lib.hid hS
            clear hS hB
            go_wp2_with fail
            refine (refYes (C == 0) _).mono ?_
            rintro e wf ⟨rfl, hbf⟩
            have hrf := hr3.later (((Below.refl _ w3).alloc (Nat.le_refl _) _).trans (hbf.mono (by simp)))
            have hzf := hrf.lt
            have hbelf := next (hb3'.alloc (by have := hb3'.size; omega) _) hbf
            clear hbf hr3 hb3'
            obtain ⟨c0, c1, c2, f0, f1, f2⟩ := hrf
            go_wp2_with fail
            obtain ⟨q0, q1, q2⟩ := filled3 wf w.heap.size _ _ _ (.int .u8 ((truthV (C == 0)).k : Int)) (.int .i64 (truthV (C == 0)).n) (.string (truthV (C == 0)).s) c0 c1 c2
            refine bodyPost_ret (v := .tuple #[(truthV (C == 0)).val, .int .i64 (0)]) (by simp [results, Try.results46, go_sem, q0, q1, q2]) rfl ⟨by rw [HS.out]; first | done | rfl, ?_⟩
            go_grown
          · subst h
            have hB : holdsB 13 C = (C != 0) := by rw [Bool.eq_iff_iff]; simp [holdsB]
            rw [hB] at hS
            have HS := Lib.hid hS
            clear hS hB
            go_wp2_with fail
            refine (refYes (C != 0) _).mono ?_
            rintro e wf ⟨rfl, hbf⟩
            have hrf := hr3.later (((Below.refl _ w3).alloc (Nat.le_refl _) _).trans (hbf.mono (by simp)))
            have hzf := hrf.lt
            have hbelf := next (hb3'.alloc (by have := hb3'.size; omega) _) hbf
            clear hbf hr3 hb3'
            obtain ⟨c0, c1, c2, f0, f1, f2⟩ := hrf
            go_wp2_with fail
            obtain ⟨q0, q1, q2⟩ := filled3 wf w.heap.size _ _ _ (.int .u8 ((truthV (C != 0)).k : Int)) (.int .i64 (truthV (C != 0)).n) (.string (truthV (C != 0)).s) c0 c1 c2
            refine bodyPost_ret (v := .tuple #[(truthV (C != 0)).val, .int .i64 (0)]) (by simp [results, Try.results46, go_sem, q0, q1, q2]) rfl ⟨by rw [HS.out]; first | done | rfl, ?_⟩
            go_grown
          · subst h
            have hB : holdsB 14 C = (decide (C < 0)) := by rw [Bool.eq_iff_iff]; simp [holdsB]
            rw [hB] at hS
            have HS := Lib.hid hS
            clear hS hB
            go_wp2_with fail
            refine (refYes (decide (C < 0)) _).mono ?_
            rintro e wf ⟨rfl, hbf⟩
            have hrf := hr3.later (((Below.refl _ w3).alloc (Nat.le_refl _) _).trans (hbf.mono (by simp)))
            have hzf := hrf.lt
            have hbelf := next (hb3'.alloc (by have := hb3'.size; omega) _) hbf
            clear hbf hr3 hb3'
            obtain ⟨c0, c1, c2, f0, f1, f2⟩ := hrf
            go_wp2_with fail
            obtain ⟨q0, q1, q2⟩ := filled3 wf w.heap.size _ _ _ (.int .u8 ((truthV (decide (C < 0))).k : Int)) (.int .i64 (truthV (decide (C < 0))).n) (.string (truthV (decide (C < 0))).s) c0 c1 c2
            refine bodyPost_ret (v := .tuple #[(truthV (decide (C < 0))).val, .int .i64 (0)]) (by simp [results, Try.results46, go_sem, q0, q1, q2]) rfl ⟨by rw [HS.out]; first | done | rfl, ?_⟩
            go_grown
          · subst h
            have hB : holdsB 15 C = (decide (C ≤ 0)) := by rw [Bool.eq_iff_iff]; simp [holdsB]
            rw [hB] at hS
            have HS := Lib.hid hS
            clear hS hB
            go_wp2_with fail
            refine (refYes (decide (C ≤ 0)) _).mono ?_
            rintro e wf ⟨rfl, hbf⟩
            have hrf := hr3.later (((Below.refl _ w3).alloc (Nat.le_refl _) _).trans (hbf.mono (by simp)))
            have hzf := hrf.lt
            have hbelf := next (hb3'.alloc (by have := hb3'.size; omega) _) hbf
            clear hbf hr3 hb3'
            obtain ⟨c0, c1, c2, f0, f1, f2⟩ := hrf
            go_wp2_with fail
            obtain ⟨q0, q1, q2⟩ := filled3 wf w.heap.size _ _ _ (.int .u8 ((truthV (decide (C ≤ 0))).k : Int)) (.int .i64 (truthV (decide (C ≤ 0))).n) (.string (truthV (decide (C ≤ 0))).s) c0 c1 c2
            refine bodyPost_ret (v := .tuple #[(truthV (decide (C ≤ 0))).val, .int .i64 (0)]) (by simp [results, Try.results46, go_sem, q0, q1, q2]) rfl ⟨by rw [HS.out]; first | done | rfl, ?_⟩
            go_grown
          · subst h
            have hB : holdsB 16 C = (decide (0 < C)) := by rw [Bool.eq_iff_iff]; simp [holdsB]
            rw [hB] at hS
            have HS := Lib.hid hS
            clear hS hB
            go_wp2_with fail
            refine (refYes (decide (0 < C)) _).mono ?_
            rintro e wf ⟨rfl, hbf⟩
            have hrf := hr3.later (((Below.refl _ w3).alloc (Nat.le_refl _) _).trans (hbf.mono (by simp)))
            have hzf := hrf.lt
            have hbelf := next (hb3'.alloc (by have := hb3'.size; omega) _) hbf
            clear hbf hr3 hb3'
            obtain ⟨c0, c1, c2, f0, f1, f2⟩ := hrf
            go_wp2_with fail
            obtain ⟨q0, q1, q2⟩ := filled3 wf w.heap.size _ _ _ (.int .u8 ((truthV (decide (0 < C))).k : Int)) (.int .i64 (truthV (decide (0 < C))).n) (.string (truthV (decide (0 < C))).s) c0 c1 c2
            refine bodyPost_ret (v := .tuple #[(truthV (decide (0 < C))).val, .int .i64 (0)]) (by simp [results, Try.results46, go_sem, q0, q1, q2]) rfl ⟨by rw [HS.out]; first | done | rfl, ?_⟩
            go_grown
          · subst h
            have hB : holdsB 17 C = (decide (0 ≤ C)) := by rw [Bool.eq_iff_iff]; simp [holdsB]
            rw [hB] at hS
            have HS := Lib.hid hS
            clear hS hB
            go_wp2_with fail
            refine (refYes (decide (0 ≤ C)) _).mono ?_
            rintro e wf ⟨rfl, hbf⟩
            have hrf := hr3.later (((Below.refl _ w3).alloc (Nat.le_refl _) _).trans (hbf.mono (by simp)))
            have hzf := hrf.lt
            have hbelf := next (hb3'.alloc (by have := hb3'.size; omega) _) hbf
            clear hbf hr3 hb3'
            obtain ⟨c0, c1, c2, f0, f1, f2⟩ := hrf
            go_wp2_with fail
            obtain ⟨q0, q1, q2⟩ := filled3 wf w.heap.size _ _ _ (.int .u8 ((truthV (decide (0 ≤ C))).k : Int)) (.int .i64 (truthV (decide (0 ≤ C))).n) (.string (truthV (decide (0 ≤ C))).s) c0 c1 c2
            refine bodyPost_ret (v := .tuple #[(truthV (decide (0 ≤ C))).val, .int .i64 (0)]) (by simp [results, Try.results46, go_sem, q0, q1, q2]) rfl ⟨by rw [HS.out]; first | done | rfl, ?_⟩
            go_grown

        have e12 : decide ((12 : Int) ≤ (op : Int)) = false := decide_eq_false (by omega)
        have hcon := fun W => refnum op x.n y.n W (by omega) (by omega) HXO.out.2.1 HYO.out.2.1
        obtain ⟨R, hR⟩ : ∃ R, R = reckonS op x.n y.n := ⟨_, rfl⟩
        rw [← hR] at hcon
        have HC := Lib.hid hcon
        have HRR := Lib.hid hR
        clear hcon hR
        have hS : doS op l = R := by rw [doS_num HT.out HN0.out (by omega) (by omega), HX.out.1, HY.out.1, HRR.out]
        have HS := Lib.hid hS
        clear hS

        go_wp2_with fail
        refine HTOG.out.mono ?_
        rintro e w2 ⟨rfl, hb2⟩
        have hr2 := hres.later hb2
        have hb2' := next hbw hb2
        clear hres hbw hb2
        have hz2 := hr2.lt
        have hs2 := hb2'.size

        obtain ⟨b, o, hab, hbz, d0, d1, d2⟩ := at3 (HAT.out.below hb2') HX.out.2
        cases hab
        rw [Nat.zero_mul, Nat.add_zero] at d0 d1 d2

        obtain ⟨b', o', hab', _, g0, g1, g2⟩ := at3 (HAT.out.below hb2') HY.out.2
        cases hab'
        rw [Nat.one_mul] at g0 g1 g2

        go_wp2_with fail

        have l0 := lat_cell d0
        have l1 := lat_cell d1
        have l2 := lat_cell d2
        have k0 := lat_cell g0
        have k1 := lat_cell g1
        have k2 := lat_cell g2

        refine wp_region_later_tail 12 (by kernel_rfl) (by kernel_rfl) ?_
        simp only [List.take_succ_cons, List.take_zero, List.drop_succ_cons, List.drop_zero]
        repeat (go_big_quiet_step ((go_at_call 64; exact lat_calls (HC.out _))))
        refine wpQuiet_nil ?_
        refine later_out (fun wf hbf => ?_)

        have hrf := hr2.later hbf
        have hzf := hrf.lt
        have hbelf := next hb2' hbf
        clear hbf hr2 hb2'
        clear l0 l1 l2 k0 k1 k2 d0 d1 d2 g0 g1 g2
        obtain ⟨c0, c1, c2, f0, f1, f2⟩ := hrf
        go_wp2_with fail
        obtain ⟨q0, q1, q2⟩ := filled3 wf w.heap.size _ _ _ (.int .u8 (R.1.k : Int)) (.int .i64 R.1.n) (.string R.1.s) c0 c1 c2
        refine bodyPost_ret (v := .tuple #[R.1.val, .int .i64 (R.2 : Int)]) (by simp [results, Try.results46, go_sem, q0, q1, q2]) rfl ⟨by rw [HS.out]; first | done | rfl, ?_⟩
        go_grown
end Go.Proofs.Ytaeobillbocemaa.Dt
