/-
  The walks of value.text and of its closure: what stands in quotes.
-/
import Derived.Test.YtghfaeapgghhlaaDoorValLit
namespace Go.Proofs.YtghfaeapgghhlaaDoor.Dt
open Go.RowKit Go.Proofs.YtghfaeapgghhlaaDoor.By

/-- What stands between the first and the last byte. -/
def midL (l : List UInt8) : List UInt8 := (l.drop 1).dropLast
theorem midL_length (s : ByteArray) : (midL s.data.toList).length = s.size - 2 := by
  unfold midL
  rw [List.length_dropLast, List.length_drop, bytes_list]; omega
theorem midL_at (s : ByteArray) {k : Nat} (h1 : 1 ≤ k) (h2 : k + 1 < s.size) : (midL s.data.toList).drop (k - 1) = s[k] :: (midL s.data.toList).drop k := by
  have hl := midL_length s
  rw [List.drop_eq_getElem_cons (by omega), show k - 1 + 1 = k by omega]
  congr 1
  unfold midL
  rw [List.getElem_dropLast, List.getElem_drop]
  have e : 1 + (k - 1) = k := by omega
  simp only [e]
  rfl
theorem midL_end (s : ByteArray) {k : Nat} (h : s.size ≤ k + 1) : (midL s.data.toList).drop (k - 1) = [] := List.drop_eq_nil_of_le (by rw [midL_length]; omega)
theorem head_at (s : ByteArray) (h : 0 < s.size) : s.data.toList.head? = some s[0] := by
  rw [List.head?_eq_getElem?, List.getElem?_eq_getElem (by rw [bytes_list]; exact h)]; rfl
theorem last_at (s : ByteArray) (h : 0 < s.size) : s.data.toList.getLast? = some (s[s.size - 1]'(by omega)) := by
  rw [List.getLast?_eq_getElem?, bytes_list, List.getElem?_eq_getElem (by rw [bytes_list]; omega)]; rfl

/-- The next byte. -/
theorem text1 (s : ByteArray) (k b a : Nat) (w : World) (h1 : w.cell? ⟨b, 0, none⟩ = some (.string s)) (h2 : Box a [.int .i64 (k : Int)] w) (hk : k < s.size) (hs : s.size ≤ 1000000) :
    Calls Tryd.prog 62 #[.pointer (some ⟨b, 0, none⟩), .pointer (some ⟨a, 0, none⟩)] w fun e w' => e = .returned (byte s[k]) ∧ w' = w.setCell ⟨a, 0, none⟩ (.int .i64 ((k + 1 : Nat) : Int)) := by
  have c1 : w.cell? ⟨a, 0, none⟩ = some (.int .i64 (k : Int)) := (h2 0 _ rfl).1
  have f1 : w.frozen? ⟨a, 0, none⟩ = false := (h2 0 _ rfl).2
  have HKK : wrap64 ((k : Int) + 1) = ((k + 1 : Nat) : Int) := by unfold wrap64; omega
  have ilt : (k : Int) < (s.size : Int) := by omega
  have HS := Lib.hid hs
  clear h2 hs
  go_enter Tryd.func62, Tryd.ntmps62
  go_wp2_with fail
  refine bodyPost_ret (v := byte s[k]) (by simp [results, Tryd.results62, go_sem]) rfl ⟨rfl, by simp⟩

set_option maxRecDepth 100000 in
set_option maxHeartbeats 8000000 in
theorem textW (s : ByteArray) (w : World) (hs : s.size ≤ 1000000) :
    Calls Tryd.prog 41 #[.string s] w fun e w' => e = .returned (.tuple #[str ((textS s.data.toList).getD []), .bool (textS s.data.toList).isSome]) ∧ Below w.heap.size w w' := by
  have HS := Lib.hid hs
  obtain ⟨T, hT⟩ : ∃ T, T = textS s.data.toList := ⟨_, rfl⟩
  rw [← hT]
  have hbel : Below w.heap.size w (w.alloc (.cells #[.string s] 9)) := (Below.refl _ _).alloc (Nat.le_refl _) _
  have HB0 := Lib.hid hbel
  clear hbel
  unfold textS at hT
  have hl := bytes_list s
  by_cases h2 : s.size < 2
  · rw [if_pos (.inl (by omega))] at hT
    subst hT
    have j2 : (s.size : Int) < 2 := by omega
    clear hl h2 hs
    go_enter Tryd.func41, Tryd.ntmps41
    go_wp2_with fail
    refine bodyPost_ret (v := .tuple #[str [], .bool false]) (by simp [results, Tryd.results41, go_sem]) rfl ⟨rfl, HB0.out⟩
  · have j2 : ¬ (s.size : Int) < 2 := by omega
    have i0 : 0 < s.size := by omega
    have i1 : s.size - 1 < s.size := by omega
    have ii1 : ((s.size - 1 : Nat) : Int) < (s.size : Int) := by omega
    have w1 : wrap64 ((s.size : Int) - 1) = ((s.size - 1 : Nat) : Int) := by unfold wrap64; omega
    have hh := head_at s i0
    have hla := last_at s i0
    by_cases h0 : s[0] = 39
    · have e0 : (((s[0]).toNat : Int) != 39) = false := by rw [h0]; rfl
      by_cases h9 : s[s.size - 1] = 39
      · have e9 : (((s[s.size - 1]).toNat : Int) != 39) = false := by rw [h9]; rfl
        rw [if_neg (by rw [hh, hla, h0, h9]; rintro (h | h | h); (omega); (exact h rfl); (exact h rfl))] at hT
        have HT : Hid (T = unq (midL s.data.toList)) := Lib.hid hT
        clear hT hh hla h0 h9 hl hs h2
        go_enter Tryd.func41, Tryd.ntmps41
        go_wp2_with fail
        have hbx : Box (w.heap.size + 1) [.int .i64 ((1 : Nat) : Int)] ((w.alloc (.cells #[.string s] 9)).alloc (.cells #[.int .i64 1] 3)) := by
          intro i u hu
          rcases i with _ | i
          · obtain rfl := Option.some.inj hu
            exact ⟨by go_simp, by go_simp⟩
          · simp at hu
        have hcs : ((w.alloc (.cells #[.string s] 9)).alloc (.cells #[.int .i64 1] 3)).cell? ⟨w.heap.size, 0, none⟩ = some (.string s) := by go_simp
        have hb2 : Below w.heap.size w ((w.alloc (.cells #[.string s] 9)).alloc (.cells #[.int .i64 1] 3)) := HB0.out.alloc (by simp) _
        have hsz : ((w.alloc (.cells #[.string s] 9)).alloc (.cells #[.int .i64 1] 3)).heap.size = w.heap.size + 2 := by simp
        have HBX := Lib.hid hbx
        have HCS := Lib.hid hcs
        have HB2 := Lib.hid hb2
        have HSZ := Lib.hid hsz
        clear hbx hcs hb2 hsz e0 e9 HB0

        generalize (w.alloc (.cells #[.string s] 9)).alloc (.cells #[.int .i64 1] 3) = W2 at *
        go_loopg [4] s.size (fun gk ov wr => ∃ (k : Nat) (L : List UInt8), gk = s.size + 1 - k ∧ 1 ≤ k ∧ k + 1 ≤ s.size ∧ Hid (T = (unq ((midL s.data.toList).drop (k - 1))).map (L ++ ·)) ∧ Hid (OwnB wr (w.heap.size + 2) 5 ov L) ∧ Hid (Box (w.heap.size + 1) [.int .i64 (k : Int)] wr) ∧ Hid (wr.cell? ⟨w.heap.size, 0, none⟩ = some (.string s)) ∧ Hid (Below w.heap.size w wr) ∧ Hid (L.length ≤ k) ∧ Hid (w.heap.size + 2 ≤ wr.heap.size))
        case atStart => exact ⟨1, [], rfl, Nat.le_refl _, by omega, Lib.hid (by rw [HT.out]; simp), Lib.hid (OwnB.nil _ _ _), HBX, HCS, HB2, Lib.hid (Nat.zero_le _), Lib.hid (Nat.le_of_eq HSZ.out.symm)⟩
        case round =>
          obtain ⟨k, L, rfl, hk1, hk2, HTK, HOWN, HBK, HCK, HBW, HLEN, HSW⟩ := hrel
          obtain ⟨ao, co, rfl⟩ := HOWN.out.shape
          have c1 : wr.cell? ⟨w.heap.size + 1, 0, none⟩ = some (.int .i64 (k : Int)) := (HBK.out 0 _ rfl).1
          have c2 := HCK.out
          by_cases hlt : k + 1 < s.size
          · have ilt : (k : Int) < ((s.size - 1 : Nat) : Int) := by omega
            have hks : k < s.size := by omega
            have hdr := midL_at s hk1 hlt
            obtain ⟨c, hc⟩ : ∃ c, s[k] = c := ⟨_, rfl⟩
            have HN1 : Hid (∀ W : World, W.cell? ⟨w.heap.size, 0, none⟩ = some (.string s) → Box (w.heap.size + 1) [.int .i64 (k : Int)] W → Calls Tryd.prog 62 #[.pointer (some ⟨w.heap.size, 0, none⟩), .pointer (some ⟨w.heap.size + 1, 0, none⟩)] W fun e w' => e = .returned (byte c) ∧ w' = W.setCell ⟨w.heap.size + 1, 0, none⟩ (.int .i64 ((k + 1 : Nat) : Int))) := Lib.hid (fun W h1 h2 => by rw [← hc]; exact text1 s k _ _ W h1 h2 hks HS.out)
            rw [hc] at hdr
            have HDR := Lib.hid hdr
            have HK1 := Lib.hid hk1
            have HLT := Lib.hid hlt
            by_cases h39 : c = 39
            · have hne : ((c.toNat : Int) == 39) = true := by rw [h39]; rfl
              subst h39
              by_cases hend : k + 2 < s.size
              · have jne : ¬ (k + 1 = s.size - 1) := by omega
                have hks2 : k + 1 < s.size := hlt
                have hdr2 := midL_at s (k := k + 1) (by omega) (by omega)
                obtain ⟨d, hd⟩ : ∃ d, s[k + 1] = d := ⟨_, rfl⟩
                have HN2 : Hid (∀ W : World, W.cell? ⟨w.heap.size, 0, none⟩ = some (.string s) → Box (w.heap.size + 1) [.int .i64 ((k + 1 : Nat) : Int)] W → Calls Tryd.prog 62 #[.pointer (some ⟨w.heap.size, 0, none⟩), .pointer (some ⟨w.heap.size + 1, 0, none⟩)] W fun e w' => e = .returned (byte d) ∧ w' = W.setCell ⟨w.heap.size + 1, 0, none⟩ (.int .i64 ((k + 2 : Nat) : Int))) := Lib.hid (fun W h1 h2 => by rw [← hd]; exact text1 s (k + 1) _ _ W h1 h2 hks2 HS.out)
                rw [hd, Nat.add_sub_cancel] at hdr2
                have HDR2 := Lib.hid hdr2
                by_cases hd39 : d = 39
                · have dne : ((d.toNat : Int) != 39) = false := by rw [hd39]; rfl
                  have HNX : Hid (T = (unq ((midL s.data.toList).drop (k + 2 - 1))).map ((L ++ [39]) ++ ·)) := Lib.hid (by
                    rw [HTK.out, HDR.out, HDR2.out, hd39, unq_quote, Option.map_map, show k + 2 - 1 = k + 1 by omega]
                    congr 1
                    funext x
                    simp)
                  have HEND := Lib.hid hend
                  clear hk1 hk2 hlt hks hdr hc hend hks2 hdr2 hd hd39
                  generalize hcg : (39 : UInt8) = c at *
                  clear hcg
                  go_wp2_with fail
                  refine (HN1.out _ c2 HBK.out).mono ?_
                  rintro e w3 ⟨rfl, rfl⟩
                  have HBK3 : Hid (Box (w.heap.size + 1) [.int .i64 ((k + 1 : Nat) : Int)] (wr.setCell ⟨w.heap.size + 1, 0, none⟩ (.int .i64 ((k + 1 : Nat) : Int)))) := Lib.hid (HBK.out.set (i := 0) (u := .int .i64 ((k + 1 : Nat) : Int)) (by simp))
                  have HCK3 : Hid ((wr.setCell ⟨w.heap.size + 1, 0, none⟩ (.int .i64 ((k + 1 : Nat) : Int))).cell? ⟨w.heap.size, 0, none⟩ = some (.string s)) := Lib.hid (by rw [set_other _ _ _ _ _ _ (by omega)]; exact HCK.out)
                  have HOWN3 : Hid (OwnB (wr.setCell ⟨w.heap.size + 1, 0, none⟩ (.int .i64 ((k + 1 : Nat) : Int))) (w.heap.size + 2) 5 (.slice ao L.length co) L) := Lib.hid (ownsRow_setCell_below HOWN.out (by simp) _)
                  have HBW3 : Hid (Below w.heap.size w (wr.setCell ⟨w.heap.size + 1, 0, none⟩ (.int .i64 ((k + 1 : Nat) : Int)))) := Lib.hid (below_set HBW.out (by omega))
                  have HSW3 : Hid (w.heap.size + 2 ≤ (wr.setCell ⟨w.heap.size + 1, 0, none⟩ (.int .i64 ((k + 1 : Nat) : Int))).heap.size) := Lib.hid (by rw [World.size_setCell]; exact HSW.out)
                  generalize wr.setCell ⟨w.heap.size + 1, 0, none⟩ (.int .i64 ((k + 1 : Nat) : Int)) = w3 at *
                  have d3 : w3.cell? ⟨w.heap.size + 1, 0, none⟩ = some (.int .i64 ((k + 1 : Nat) : Int)) := (HBK3.out 0 _ rfl).1
                  have e3 := HCK3.out

                  clear c1 c2 HN1
                  go_wp2_with fail
                  refine (HN2.out _ e3 HBK3.out).mono ?_
                  rintro e w4 ⟨rfl, rfl⟩
                  have HBK4 : Hid (Box (w.heap.size + 1) [.int .i64 ((k + 2 : Nat) : Int)] (w3.setCell ⟨w.heap.size + 1, 0, none⟩ (.int .i64 ((k + 2 : Nat) : Int)))) := Lib.hid (HBK3.out.set (i := 0) (u := .int .i64 ((k + 2 : Nat) : Int)) (by simp))
                  have HCK4 : Hid ((w3.setCell ⟨w.heap.size + 1, 0, none⟩ (.int .i64 ((k + 2 : Nat) : Int))).cell? ⟨w.heap.size, 0, none⟩ = some (.string s)) := Lib.hid (by rw [set_other _ _ _ _ _ _ (by omega)]; exact HCK3.out)
                  have HOWN4 : Hid (OwnB (w3.setCell ⟨w.heap.size + 1, 0, none⟩ (.int .i64 ((k + 2 : Nat) : Int))) (w.heap.size + 2) 5 (.slice ao L.length co) L) := Lib.hid (ownsRow_setCell_below HOWN3.out (by simp) _)
                  have HBW4 : Hid (Below w.heap.size w (w3.setCell ⟨w.heap.size + 1, 0, none⟩ (.int .i64 ((k + 2 : Nat) : Int)))) := Lib.hid (below_set HBW3.out (by omega))
                  have HSW4 : Hid (w.heap.size + 2 ≤ (w3.setCell ⟨w.heap.size + 1, 0, none⟩ (.int .i64 ((k + 2 : Nat) : Int))).heap.size) := Lib.hid (by rw [World.size_setCell]; exact HSW3.out)
                  generalize w3.setCell ⟨w.heap.size + 1, 0, none⟩ (.int .i64 ((k + 2 : Nat) : Int)) = w4 at *
                  have d4 : w4.cell? ⟨w.heap.size + 1, 0, none⟩ = some (.int .i64 ((k + 2 : Nat) : Int)) := (HBK4.out 0 _ rfl).1
                  have e4 := HCK4.out

                  clear d3 e3 HN2
                  go_wp2_with (at_builtin; refine wpList_append_x rfl (.tmp 46) (.tmp 48) 55 rfl (w.heap.size + 2) 5 Num.elem_u8 _ L rfl (.inl (HOWN4.out.alloc _)) _ [c] rfl (reads_cells w4.heap.size [c] (fun i hi => by rcases i with _ | i; (go_simp); (simp at hi))) (by simp) (by have := HLEN.out; have := HS.out; have := HLT.out; simp; omega) (by have := HSW4.out; simp; omega) ?_; intro v' w9 hown hbel; have HBX9 : Hid (Box (w.heap.size + 1) [.int .i64 ((k + 2 : Nat) : Int)] w9) := Lib.hid (fun i u hu => by
                    have h := HBK4.out.later (w' := w4.alloc (.cells #[byte c] 5)) ((Below.refl _ _).alloc (Nat.le_refl _) _) i u hu
                    exact ⟨(hbel.cell (p := ⟨w.heap.size + 1, i, none⟩) (by simp)).trans h.1, (hbel.frozen (p := ⟨w.heap.size + 1, i, none⟩) (by simp)).trans h.2⟩); have HCK9 : Hid (w9.cell? ⟨w.heap.size, 0, none⟩ = some (.string s)) := Lib.hid ((hbel.cell (p := ⟨w.heap.size, 0, none⟩) (by simp)).trans ((((Below.refl _ w4).alloc (Nat.le_refl _) (.cells #[byte c] 5)).cell (cell_lt HCK4.out)).trans HCK4.out)); have HBW9 := Lib.hid ((HBW4.out.alloc HBW4.out.size (.cells #[byte c] 5)).trans (hbel.mono (by omega))); have HSW9 : Hid (w.heap.size + 2 ≤ w9.heap.size) := Lib.hid (by have h1 := hbel.size; have h2 := HSW4.out; simp at h1; omega); have HO9 := Lib.hid hown; clear hown hbel)
                  go_roundg (s.size + 1 - (k + 2))
                  case measure => have := HLT.out; omega

                  case rel => exact ⟨k + 2, _, rfl, by omega, HEND.out, HNX, HO9, HBX9, HCK9, HBW9, Lib.hid (by have := HLEN.out; simp; omega), HSW9⟩
                · have dne : ((d.toNat : Int) != 39) = true := by
                    have : d.toNat ≠ 39 := fun e => hd39 (UInt8.toNat_inj.1 e)
                    simp; omega
                  have HNX : Hid (T = none) := Lib.hid (by
                    rw [HTK.out, HDR.out, HDR2.out]
                    simp [unq, hd39])
                  clear hk1 hk2 hlt hks hdr hc hend hks2 hdr2 hd hd39
                  generalize hcg : (39 : UInt8) = c at *
                  clear hcg
                  go_wp2_with fail
                  refine (HN1.out _ c2 HBK.out).mono ?_
                  rintro e w3 ⟨rfl, rfl⟩
                  have HBK3 : Hid (Box (w.heap.size + 1) [.int .i64 ((k + 1 : Nat) : Int)] (wr.setCell ⟨w.heap.size + 1, 0, none⟩ (.int .i64 ((k + 1 : Nat) : Int)))) := Lib.hid (HBK.out.set (i := 0) (u := .int .i64 ((k + 1 : Nat) : Int)) (by simp))
                  have HCK3 : Hid ((wr.setCell ⟨w.heap.size + 1, 0, none⟩ (.int .i64 ((k + 1 : Nat) : Int))).cell? ⟨w.heap.size, 0, none⟩ = some (.string s)) := Lib.hid (by rw [set_other _ _ _ _ _ _ (by omega)]; exact HCK.out)
                  have HOWN3 : Hid (OwnB (wr.setCell ⟨w.heap.size + 1, 0, none⟩ (.int .i64 ((k + 1 : Nat) : Int))) (w.heap.size + 2) 5 (.slice ao L.length co) L) := Lib.hid (ownsRow_setCell_below HOWN.out (by simp) _)
                  have HBW3 : Hid (Below w.heap.size w (wr.setCell ⟨w.heap.size + 1, 0, none⟩ (.int .i64 ((k + 1 : Nat) : Int)))) := Lib.hid (below_set HBW.out (by omega))
                  have HSW3 : Hid (w.heap.size + 2 ≤ (wr.setCell ⟨w.heap.size + 1, 0, none⟩ (.int .i64 ((k + 1 : Nat) : Int))).heap.size) := Lib.hid (by rw [World.size_setCell]; exact HSW.out)
                  generalize wr.setCell ⟨w.heap.size + 1, 0, none⟩ (.int .i64 ((k + 1 : Nat) : Int)) = w3 at *
                  have d3 : w3.cell? ⟨w.heap.size + 1, 0, none⟩ = some (.int .i64 ((k + 1 : Nat) : Int)) := (HBK3.out 0 _ rfl).1
                  have e3 := HCK3.out

                  clear c1 c2 HN1
                  go_wp2_with fail
                  refine (HN2.out _ e3 HBK3.out).mono ?_
                  rintro e w4 ⟨rfl, rfl⟩
                  have HB9 := Lib.hid (below_set (i := 0) (u := .int .i64 ((k + 2 : Nat) : Int)) HBW3.out (show w.heap.size ≤ w.heap.size + 1 by omega))
                  go_wp2_with fail
                  refine bodyPost_ret (v := .tuple #[str [], .bool false]) (by simp [results, Tryd.results41, go_sem]) rfl ⟨by rw [HNX.out]; rfl, HB9.out⟩
              · have jeq : k + 1 = s.size - 1 := by omega
                have HNX : Hid (T = none) := Lib.hid (by
                  rw [HTK.out, HDR.out, show (midL s.data.toList).drop k = [] from midL_end s (k := k + 1) (by omega)]
                  rfl)
                clear hk1 hk2 hlt hks hdr hc hend
                generalize hcg : (39 : UInt8) = c at *
                clear hcg
                go_wp2_with fail
                refine (HN1.out _ c2 HBK.out).mono ?_
                rintro e w3 ⟨rfl, rfl⟩
                have HBK3 : Hid (Box (w.heap.size + 1) [.int .i64 ((k + 1 : Nat) : Int)] (wr.setCell ⟨w.heap.size + 1, 0, none⟩ (.int .i64 ((k + 1 : Nat) : Int)))) := Lib.hid (HBK.out.set (i := 0) (u := .int .i64 ((k + 1 : Nat) : Int)) (by simp))
                have HCK3 : Hid ((wr.setCell ⟨w.heap.size + 1, 0, none⟩ (.int .i64 ((k + 1 : Nat) : Int))).cell? ⟨w.heap.size, 0, none⟩ = some (.string s)) := Lib.hid (by rw [set_other _ _ _ _ _ _ (by omega)]; exact HCK.out)
                have HOWN3 : Hid (OwnB (wr.setCell ⟨w.heap.size + 1, 0, none⟩ (.int .i64 ((k + 1 : Nat) : Int))) (w.heap.size + 2) 5 (.slice ao L.length co) L) := Lib.hid (ownsRow_setCell_below HOWN.out (by simp) _)
                have HBW3 : Hid (Below w.heap.size w (wr.setCell ⟨w.heap.size + 1, 0, none⟩ (.int .i64 ((k + 1 : Nat) : Int)))) := Lib.hid (below_set HBW.out (by omega))
                have HSW3 : Hid (w.heap.size + 2 ≤ (wr.setCell ⟨w.heap.size + 1, 0, none⟩ (.int .i64 ((k + 1 : Nat) : Int))).heap.size) := Lib.hid (by rw [World.size_setCell]; exact HSW.out)
                generalize wr.setCell ⟨w.heap.size + 1, 0, none⟩ (.int .i64 ((k + 1 : Nat) : Int)) = w3 at *
                have d3 : w3.cell? ⟨w.heap.size + 1, 0, none⟩ = some (.int .i64 ((k + 1 : Nat) : Int)) := (HBK3.out 0 _ rfl).1
                have e3 := HCK3.out

                clear c1 c2 HN1
                go_wp2_with fail
                refine bodyPost_ret (v := .tuple #[str [], .bool false]) (by simp [results, Tryd.results41, go_sem]) rfl ⟨by rw [HNX.out]; rfl, HBW3.out⟩
            · have hne : ((c.toNat : Int) == 39) = false := by
                have : c.toNat ≠ 39 := fun e => h39 (UInt8.toNat_inj.1 e)
                simp; omega
              have HNX : Hid (T = (unq ((midL s.data.toList).drop (k + 1 - 1))).map ((L ++ [c]) ++ ·)) := Lib.hid (by
                rw [HTK.out, HDR.out, unq_other h39, Option.map_map, Nat.add_sub_cancel]
                congr 1
                funext x
                simp)
              clear hk1 hk2 hlt hks hdr hc h39
              go_wp2_with fail
              refine (HN1.out _ c2 HBK.out).mono ?_
              rintro e w3 ⟨rfl, rfl⟩
              have HBK3 : Hid (Box (w.heap.size + 1) [.int .i64 ((k + 1 : Nat) : Int)] (wr.setCell ⟨w.heap.size + 1, 0, none⟩ (.int .i64 ((k + 1 : Nat) : Int)))) := Lib.hid (HBK.out.set (i := 0) (u := .int .i64 ((k + 1 : Nat) : Int)) (by simp))
              have HCK3 : Hid ((wr.setCell ⟨w.heap.size + 1, 0, none⟩ (.int .i64 ((k + 1 : Nat) : Int))).cell? ⟨w.heap.size, 0, none⟩ = some (.string s)) := Lib.hid (by rw [set_other _ _ _ _ _ _ (by omega)]; exact HCK.out)
              have HOWN3 : Hid (OwnB (wr.setCell ⟨w.heap.size + 1, 0, none⟩ (.int .i64 ((k + 1 : Nat) : Int))) (w.heap.size + 2) 5 (.slice ao L.length co) L) := Lib.hid (ownsRow_setCell_below HOWN.out (by simp) _)
              have HBW3 : Hid (Below w.heap.size w (wr.setCell ⟨w.heap.size + 1, 0, none⟩ (.int .i64 ((k + 1 : Nat) : Int)))) := Lib.hid (below_set HBW.out (by omega))
              have HSW3 : Hid (w.heap.size + 2 ≤ (wr.setCell ⟨w.heap.size + 1, 0, none⟩ (.int .i64 ((k + 1 : Nat) : Int))).heap.size) := Lib.hid (by rw [World.size_setCell]; exact HSW.out)
              generalize wr.setCell ⟨w.heap.size + 1, 0, none⟩ (.int .i64 ((k + 1 : Nat) : Int)) = w3 at *
              have d3 : w3.cell? ⟨w.heap.size + 1, 0, none⟩ = some (.int .i64 ((k + 1 : Nat) : Int)) := (HBK3.out 0 _ rfl).1
              have e3 := HCK3.out
              clear c1 c2 HN1
              go_wp2_with (at_builtin; refine wpList_append_x rfl (.tmp 46) (.tmp 48) 55 rfl (w.heap.size + 2) 5 Num.elem_u8 _ L rfl (.inl (HOWN3.out.alloc _)) _ [c] rfl (reads_cells w3.heap.size [c] (fun i hi => by rcases i with _ | i; (go_simp); (simp at hi))) (by simp) (by have := HLEN.out; have := HS.out; have := HLT.out; simp; omega) (by have := HSW3.out; simp; omega) ?_; intro v' w9 hown hbel; have HBX9 : Hid (Box (w.heap.size + 1) [.int .i64 ((k + 1 : Nat) : Int)] w9) := Lib.hid (fun i u hu => by
                have h := HBK3.out.later (w' := w3.alloc (.cells #[byte c] 5)) ((Below.refl _ _).alloc (Nat.le_refl _) _) i u hu
                exact ⟨(hbel.cell (p := ⟨w.heap.size + 1, i, none⟩) (by simp)).trans h.1, (hbel.frozen (p := ⟨w.heap.size + 1, i, none⟩) (by simp)).trans h.2⟩); have HCK9 : Hid (w9.cell? ⟨w.heap.size, 0, none⟩ = some (.string s)) := Lib.hid ((hbel.cell (p := ⟨w.heap.size, 0, none⟩) (by simp)).trans ((((Below.refl _ w3).alloc (Nat.le_refl _) (.cells #[byte c] 5)).cell (cell_lt HCK3.out)).trans HCK3.out)); have HBW9 := Lib.hid ((HBW3.out.alloc HBW3.out.size (.cells #[byte c] 5)).trans (hbel.mono (by omega))); have HSW9 : Hid (w.heap.size + 2 ≤ w9.heap.size) := Lib.hid (by have h1 := hbel.size; have h2 := HSW3.out; simp at h1; omega); have HO9 := Lib.hid hown; clear hown hbel)
              go_roundg (s.size + 1 - (k + 1))
              case measure => have := HLT.out; omega
              case rel => exact ⟨k + 1, _, rfl, by omega, HLT.out, HNX, HO9, HBX9, HCK9, HBW9, Lib.hid (by have := HLEN.out; simp; omega), HSW9⟩
          · have ilt : ¬ (k : Int) < ((s.size - 1 : Nat) : Int) := by omega
            have hres : T = some L := by rw [HTK.out, midL_end s (by omega)]; simp [unq]
            have HRES := Lib.hid hres
            have hcv2 := convX (P := Tryd.prog) 55 5 9 Tryd.underlying55 Tryd.underlying5 Tryd.underlying9 (.inl HOWN.out)
            clear hk1 hk2 hlt hres
            go_wp2_with fail
            refine bodyPost_ret (v := .tuple #[str L, .bool true]) (by simp [results, Tryd.results41, go_sem]) rfl ⟨by rw [HRES.out]; rfl, HBW.out⟩
      · have e9 : (((s[s.size - 1]).toNat : Int) != 39) = true := by
          have : (s[s.size - 1]).toNat ≠ 39 := fun e => h9 (UInt8.toNat_inj.1 e)
          simp; omega
        rw [if_pos (.inr (.inr (by rw [hla]; simpa using h9)))] at hT
        subst hT
        clear hh hla h0 h9 hl hs h2
        go_enter Tryd.func41, Tryd.ntmps41
        go_wp2_with fail
        refine bodyPost_ret (v := .tuple #[str [], .bool false]) (by simp [results, Tryd.results41, go_sem]) rfl ⟨rfl, HB0.out⟩
    · have e0 : (((s[0]).toNat : Int) != 39) = true := by
        have : (s[0]).toNat ≠ 39 := fun e => h0 (UInt8.toNat_inj.1 e)
        simp; omega
      rw [if_pos (.inr (.inl (by rw [hh]; simpa using h0)))] at hT
      subst hT
      clear hh hla h0 hl hs h2
      go_enter Tryd.func41, Tryd.ntmps41
      go_wp2_with fail
      refine bodyPost_ret (v := .tuple #[str [], .bool false]) (by simp [results, Tryd.results41, go_sem]) rfl ⟨rfl, HB0.out⟩
end Go.Proofs.YtghfaeapgghhlaaDoor.Dt
