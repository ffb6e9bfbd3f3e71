/- LexBlanks: the law returns true at every input. -/
import Derived.Test.YtghfaeapgghhlaaDoorLiftD
import Derived.Test.YtghfaeapgghhlaaDoorTie
import Derived.Test.YtghfaeapgghhlaaDoorCards
import Derived.SevenTiedAt
import Derived.Stop.Joined
import Derived.Test.YtghfaeapgghhlaaDoorLexWorks
import Derived.Test.YtghfaeapgghhlaaDoorLexLaid
import Derived.Test.YtghfaeapgghhlaaDoorLexPut
import Derived.Test.YtghfaeapgghhlaaDoorBuildQ
import Derived.Test.YtghfaeapgghhlaaDoorOpen
namespace Go.Proofs.YtghfaeapgghhlaaDoor.LexBlanks
open Go.ChangeShapes Go.WideShapes Go.ChangeAt Go.RowKit Go.Proofs.YtghfaeapgghhlaaDoor.By
set_option linter.unusedVariables false
-- laid lx9
/- LexBlanks: what stands between tokens makes no difference but in their places. No conditions beyond what the row lists. -/
open Go.Proofs.YtghfaeapgghhlaaDoor.Dt
theorem one_atT (W : World) (t : Tk) : TksAt (W.alloc (.cells #[.int .u8 (t.k : Int), .string t.s, .int .u64 (t.n : Int), .int .i64 t.a] 48)) (.slice (some ⟨W.heap.size, 0, none⟩) 1 1) [t] := by
  refine ⟨_, _, rfl, Nat.le_refl _, fun i x hx => ⟨W.heap.size, 0, rfl, fun j u hu => ?_⟩⟩
  rcases i with _ | i <;> simp at hx <;> subst hx <;> (rcases j with _ | _ | _ | _ | j <;> simp [Tk.cells] at hu <;> subst hu <;> go_simp)
theorem write_one (t : Tk) : writeL [t] = if okT t then (textT t, 0) else ([], 2) := by
  unfold writeL
  by_cases h : okT t
  · rw [if_pos (by intro x hx; simp at hx; subst hx; exact h), if_pos h]; rfl
  · rw [if_neg (fun a => h (a t (by simp))), if_neg h]
theorem grow_below {w a b : World} (h1 : Below w.heap.size w a) (h2 : Below w.heap.size a b) : Below w.heap.size w b := h1.trans h2
theorem ss_cap {w : World} {a : Option Addr} {n c : Nat} {l : List ByteArray} (h : SsAt w (.slice a n c) l) : n = l.length ∧ l.length ≤ c := by
  obtain ⟨a', c', e, hc, _⟩ := h
  simp only [Value.slice.injEq] at e
  obtain ⟨_, h1, rfl⟩ := e
  exact ⟨h1, hc⟩
theorem gap_none {gs : List ByteArray} {i : Nat} (h : gs.length ≤ i) : gapAt gs i = [] := by
  unfold gapAt
  rw [List.getElem?_eq_none h]
theorem gap_some {gs : List ByteArray} {i : Nat} {g : ByteArray} (h : gs[i]? = some g) : gapAt gs i = gapL g.data.toList := by
  unfold gapAt
  rw [h]
set_option maxRecDepth 100000 in
set_option maxHeartbeats 32000000 in
theorem walk (lv : Value) (l : List Tk) (gv : Value) (gs : List ByteArray) (w : World) (hw : LX w) (ha : TksAt w lv l) (ho : ∀ t ∈ l, t.ok) (hl : l.length ≤ 140737488351232) (hg : SsAt w gv gs) (_hgo : ∀ s ∈ gs, s.size ≤ 140737488351232) (_hgl : gs.length ≤ 140737488351232) :
    Calls Tryd.prog 9 #[lv, gv] w fun e w' => e = .returned (.bool true) ∧ Below w.heap.size w w' := by
  obtain ⟨ar, cr, rfl⟩ := ha.shape
  obtain ⟨ag, cg, rfl⟩ := hg.shape
  have HW := Lib.hid hw
  have HA := Lib.hid ha
  have HO := Lib.hid ho
  have HL := Lib.hid hl
  have HG := Lib.hid hg
  have HCA := Lib.hid (tks_cap2 ha).2
  have HCG := Lib.hid (ss_cap hg).2
  clear hw ha ho hl hg _hgo _hgl
  have HTK : Hid (∀ (x : ByteArray) W, LX W → x.size ≤ 1000000 → Calls Tryd.prog 24 #[.string x] W fun e w' => toksPost (toksL x.data.toList) e w' ∧ Below W.heap.size W w') := Lib.hid (fun x W h1 h2 => tokensLexW x W h1 h2)
  have HQ1 : Hid (∀ W, (binOp .eql 43 (.agg #[.int .i64 0, .int .i64 0]) (.agg #[.int .i64 0, .int .i64 0])).run Tryd.prog W = .ok (.bool true) W) := Lib.hid (eq_toldS _ _ _ _ true (by simp))
  go_enter Tryd.func9, Tryd.ntmps9
  go_wp2_with fail
  refine (lexWorks w HW.out).mono ?_
  rintro e w1 ⟨rfl, hb1⟩
  have HB1 := Lib.hid hb1
  clear hb1
  go_wp2_with fail
  refine (longT _ l w1 (HA.out.below HB1.out) HL.out).mono ?_
  rintro e w2 ⟨hr, hb2⟩
  have HB2 := Lib.hid (next HB1.out hb2)
  clear hb2
  rcases hr with rfl | ⟨rfl, h400, hsz⟩
  · go_wp2_with fail
    go_ret
    exact ⟨rfl, HB2.out⟩
  have H400 := Lib.hid h400
  clear h400 hsz
  by_cases h8 : 400 < gs.length
  · have i1 : (400 : Int) < (gs.length : Int) := by omega
    clear h8
    go_wp2_with fail
    go_ret
    exact ⟨rfl, HB2.out⟩
  have HGL : Hid (gs.length ≤ 400) := Lib.hid (by omega)
  have i1 : ¬ (400 : Int) < (gs.length : Int) := by omega
  clear h8
  have HBU : Hid (BuildB w.heap.size w2.heap.size [] (w2.alloc (.cells #[.pointer none, .slice none 0 0] 57))) := Lib.hid (buildB_new _ _ HB2.out.size)
  have HB3 : Hid (Below w.heap.size w (w2.alloc (.cells #[.pointer none, .slice none 0 0] 57))) := Lib.hid (HB2.out.alloc HB2.out.size _)
  go_upto_region 6 with fail
  clear i1
  generalize w2.alloc (.cells #[.pointer none, .slice none 0 0] 57) = w3 at *
  generalize w2.heap.size = b at *
  go_wp2_with fail
  go_loopg [25] l.length (fun gk iv wr => ∃ i : Nat, iv = .int .i64 (i : Int) ∧ gk = l.length - i ∧ i ≤ l.length ∧ Hid (Below w.heap.size w wr) ∧ Hid (BuildB w.heap.size b (glue (pairsT gs 0 (l.take i))) wr) ∧ Hid (∀ t ∈ l.take i, okT t) ∧ Hid ((glue (pairsT gs 0 (l.take i))).length ≤ 12000 * i))
  case atStart => exact ⟨0, rfl, rfl, Nat.zero_le _, HB3, HBU, Lib.hid (by simp), Lib.hid (by simp [pairsT, glue])⟩
  case round =>
    obtain ⟨i, rfl, rfl, hi, HBR, HBB, HALL, HXL⟩ := hrel
    by_cases hlt : i < l.length
    · have i1 : (i : Int) < (l.length : Int) := by omega
      have icp : (i : Int) < (cr : Int) := by have := HCA.out; omega
      obtain ⟨t, hy⟩ : ∃ t, l[i]? = some t := ⟨l[i], by simp⟩
      have HLI := Lib.hid hlt
      have HN : Hid (t.n < 18446744073709551616) := Lib.hid (HO.out t (List.mem_of_getElem? hy)).2.2.1
      have HSN := Lib.hid (glue_snoc gs l hy)
      have HTI : Hid (okT t → ∀ x ∈ l.take (i + 1), okT x) := Lib.hid (fun h x hx => by
        have e : l[i] = t := by rw [List.getElem?_eq_getElem hlt] at hy; exact Option.some.inj hy
        rw [List.take_succ_eq_append_getElem hlt] at hx
        rcases List.mem_append.1 hx with h1 | h1
        · exact HALL.out x h1
        · simp at h1; exact (h1.trans e).symm ▸ h)
      obtain ⟨bm, om, rfl, -, d0, d1, d2, d3⟩ := at4 (HA.out.below HBR.out) hy
      have HBN : Hid (Below wr.heap.size wr (wr.alloc (.cells #[.int .u8 (t.k : Int), .string t.s, .int .u64 (t.n : Int), .int .i64 t.a] 48))) := Lib.hid ((Below.refl _ _).alloc (Nat.le_refl _) _)
      generalize hYe : glue (pairsT gs 0 (l.take (i + 1))) = Y at *
      have HEY := Lib.hid hYe
      clear hYe
      generalize glue (pairsT gs 0 (l.take i)) = X at *
      obtain ⟨tk, ts, tn, ta⟩ := t
      clear hi hlt hy
      go_upto_region 9 with fail
      have y0 : (wr.alloc (.cells #[.int .u8 (tk : Int), .string ts, .int .u64 (tn : Int), .int .i64 ta] 48)).cell? ⟨wr.heap.size, 0, none⟩ = some (.int .u8 (tk : Int)) := by go_simp
      have y1 : (wr.alloc (.cells #[.int .u8 (tk : Int), .string ts, .int .u64 (tn : Int), .int .i64 ta] 48)).cell? ⟨wr.heap.size, 1, none⟩ = some (.string ts) := by go_simp
      have y2 : (wr.alloc (.cells #[.int .u8 (tk : Int), .string ts, .int .u64 (tn : Int), .int .i64 ta] 48)).cell? ⟨wr.heap.size, 2, none⟩ = some (.int .u64 (tn : Int)) := by go_simp
      have y3 : (wr.alloc (.cells #[.int .u8 (tk : Int), .string ts, .int .u64 (tn : Int), .int .i64 ta] 48)).cell? ⟨wr.heap.size, 3, none⟩ = some (.int .i64 ta) := by go_simp
      clear d0 d1 d2 d3
      have HB4 := Lib.hid (next HBR.out HBN.out)
      have HB4B := Lib.hid (HBB.out.later HBN.out)
      clear HBN
      generalize wr.alloc (.cells #[.int .u8 (tk : Int), .string ts, .int .u64 (tn : Int), .int .i64 ta] 48) = w4 at *
      generalize wr.heap.size = bt at *
      have hb5 : Below w4.heap.size w4 (w4.alloc (.cells #[.int .u8 (tk : Int), .string ts, .int .u64 (tn : Int), .int .i64 ta] 48)) := (Below.refl _ _).alloc (Nat.le_refl _) _
      have HB5 := Lib.hid (next HB4.out hb5)
      have HB5B := Lib.hid (HB4B.out.later hb5)
      have hwr := writeW _ [⟨tk, ts, tn, ta⟩] _ (HW.out.later HB5.out) (one_atT w4 ⟨tk, ts, tn, ta⟩) (by intro x hx; simp at hx; subst hx; exact HN.out) (by simp)
      rw [write_one] at hwr
      have HWR := Lib.hid hwr
      clear hb5 hwr
      go_wp2_with fail
      clear y0 y1 y2 y3
      refine HWR.out.mono ?_
      rintro e w6 ⟨he, hb6⟩
      have HB6 := Lib.hid (next HB5.out hb6)
      have HB6B := Lib.hid (HB5B.out.later hb6)
      clear hb6 HWR HB5 HB5B HB4 HB4B
      by_cases hok : okT ⟨tk, ts, tn, ta⟩
      · rw [if_pos hok] at he
        obtain ⟨S, hS⟩ : ∃ S : ByteArray, S = sT ⟨tk, ts, tn, ta⟩ := ⟨_, rfl⟩
        obtain rfl : e = .returned (.tuple #[.string S, .int .i64 0]) := by rw [he, hS]; rfl
        have HOK := Lib.hid hok
        have HSL : Hid (S.data.toList = textT ⟨tk, ts, tn, ta⟩ ∧ S.size ≤ 2003) := Lib.hid ⟨by rw [hS]; rfl, by rw [hS]; exact textT_len hok.2.1 HN.out⟩
        clear he hS hok
        go_upto_if 41 with fail
        go_cut [] (fun wx => Hid (BuildB w.heap.size b (X ++ gapAt gs i) wx) ∧ Hid (Below w.heap.size w wx) ∧ Hid ((gapAt gs i).length ≤ 9300))
        case first =>
          by_cases hgi : i < gs.length
          · have g1 : (i : Int) < (gs.length : Int) := by omega
            have g2 : (i : Int) < (cg : Int) := by have := HCG.out; omega
            obtain ⟨g, hgy⟩ : ∃ g, gs[i]? = some g := ⟨gs[i], by simp⟩
            obtain ⟨bg, og, rfl, c0⟩ := at1 (SlAt.below HG.out HB6.out) hgy
            have HGA := Lib.hid (gap_some hgy)
            clear hgi hgy
            by_cases hbig : 1024 < g.size
            · have g3 : (1024 : Int) < (g.size : Int) := by omega
              clear hbig
              go_wp2_with fail
              go_ret
              exact ⟨rfl, HB6.out⟩
            have g3 : ¬ (1024 : Int) < (g.size : Int) := by omega
            have HGS : Hid (g.size ≤ 1024) := Lib.hid (by omega)
            clear hbig
            have hcv : ∀ W : World, (convert 9 55 (.string g)).run Tryd.prog W = .ok (.slice (some ⟨W.heap.size, 0, none⟩) g.size (grownCap W g.size 0 5)) (Lib.bytesWorld W 5 g) := fun W => Lib.run_convert_string_bytes W 9 55 5 g Tryd.underlying9 Tryd.underlying55 Tryd.underlying5
            go_wp2_with fail
            clear hcv c0
            have hb7 := Lib.bytesWorld_below w6 5 g
            have HB7 := Lib.hid (next HB6.out hb7)
            have HB7B := Lib.hid (HB6B.out.later hb7)
            have HQ7 := Lib.hid (Apart.new HB6B.out hb7 (by rw [Lib.bytesWorld_size]; omega))
            have HC7 : Hid (∀ x (hx : x < g.size), (Lib.bytesWorld w6 5 g).cell? ⟨w6.heap.size, x, none⟩ = some (.int .u8 ((g[x]).toNat : Int))) := Lib.hid (fun x hx => by
              rw [Lib.bytesWorld_cell _ _ _ _ hx, List.getD_eq_getElem?_getD, List.getElem?_eq_getElem (by rw [bytes_list]; exact hx)]; rfl)
            have HCP : Hid (g.size ≤ grownCap w6 g.size 0 5) := Lib.hid (grownCap_ge w6 g.size 0 5)
            clear hb7
            generalize grownCap w6 g.size 0 5 = G at *
            generalize Lib.bytesWorld w6 5 g = w7 at *
            generalize w6.heap.size = q at *
            go_loopg [54] g.size (fun gk jv wj => ∃ j : Nat, jv = .int .i64 (j : Int) ∧ gk = g.size - j ∧ j ≤ g.size ∧ Hid (BuildB w.heap.size b (X ++ gapL (g.data.toList.take j)) wj) ∧ Hid (Below w.heap.size w wj) ∧ Hid (Apart q b wj) ∧ Hid (∀ x (hx : x < g.size), wj.cell? ⟨q, x, none⟩ = some (.int .u8 ((g[x]).toNat : Int))))
            case atStart => exact ⟨0, rfl, rfl, Nat.zero_le _, Lib.hid (by rw [List.take_zero]; show BuildB _ _ (X ++ []) _; rw [List.append_nil]; exact HB7B.out), HB7, HQ7, HC7⟩
            case round =>
              rename World => wj
              obtain ⟨j, rfl, rfl, hj, HBJ, HWJ, HQJ, HCJ⟩ := hrel
              by_cases hjl : j < g.size
              · have j1 : (j : Int) < (g.size : Int) := by omega
                have j2 : (j : Int) < (G : Int) := by have := HCP.out; omega
                obtain ⟨c, hc⟩ : ∃ c, c = g[j] := ⟨_, rfl⟩
                have hcell := HCJ.out j hjl
                rw [← hc] at hcell
                have HLT := Lib.hid hjl
                have hgx : gapL (g.data.toList.take (j + 1)) = gapL (g.data.toList.take j) ++ blankOf c := by
                  rw [List.take_succ_eq_append_getElem (by rw [bytes_list]; exact hjl), gapL_app, gapL_one, hc]; rfl
                have hlj : (X ++ gapL (g.data.toList.take j)).length ≤ 5000000 := by
                  have h1 := gapL_len (g.data.toList.take j)
                  have h2 := HXL.out
                  have h3 := HGS.out
                  have h4 := H400.out
                  have h5 := HLI.out
                  rw [List.length_append]
                  rw [List.length_take, bytes_list] at h1
                  omega
                have HLJ := Lib.hid hlj
                have HJJ : Hid (wrap64 ((j : Int) + 1) = ((j + 1 : Nat) : Int)) := Lib.hid (by have h3 := HGS.out; unfold wrap64; omega)
                have hbo : ∀ n, c.toNat % 5 = n → blankOf c = (if n = 0 then [32] else if n = 1 then [9] else if n = 2 then [10] else if n = 3 then [13] else remark) := fun n hn => by unfold blankOf; rw [hn]
                clear hlj hj hjl hc
                have hk5 : c.toNat % 5 = 0 ∨ c.toNat % 5 = 1 ∨ c.toNat % 5 = 2 ∨ c.toNat % 5 = 3 ∨ c.toNat % 5 = 4 := by omega
                rcases hk5 with hk5 | hk5 | hk5 | hk5 | hk5
                · have m1 : (c.toNat : Int) % 5 = 0 := by omega
                  have m2 : Int.tmod (c.toNat : Int) 5 = 0 := by rw [Int.tmod_eq_emod_of_nonneg (by omega)]; exact m1
                  have HNX : Hid (X ++ gapL (g.data.toList.take j) ++ [32] = X ++ gapL (g.data.toList.take (j + 1))) := Lib.hid (by rw [hgx, hbo 0 (by omega)]; simp)
                  clear hk5 hgx hbo
                  go_wp2_with fail
                  refine (writeByteQ w.heap.size b _ 32 wj HBJ.out (by have := HLJ.out; omega) HWJ.out.size q HQJ.out).mono ?_
                  rintro e wk ⟨rfl, hbk, hlk, hqk, hkk⟩
                  rw [HNX.out] at hbk
                  have HBK := Lib.hid hbk
                  have HWK := Lib.hid (grow_below HWJ.out hlk)
                  have HQK := Lib.hid hqk
                  have HCK : Hid (∀ x (hx : x < g.size), wk.cell? ⟨q, x, none⟩ = some (.int .u8 ((g[x]).toNat : Int))) := Lib.hid (fun x hx => cells_kept (HCJ.out x hx) hkk)
                  clear hbk hlk hqk hkk m1 m2
                  go_wp2_with fail
                  go_roundg (g.size - (j + 1))
                  case measure => exact Nat.sub_lt_sub_left HLT.out (Nat.lt_succ_self _)
                  case rel => exact ⟨j + 1, by first | exact congrArg (Value.int .i64) HJJ.out | (simp; done) | (simp; exact HJJ.out), rfl, HLT.out, HBK, HWK, HQK, HCK⟩
                · have m1 : (c.toNat : Int) % 5 = 1 := by omega
                  have m2 : Int.tmod (c.toNat : Int) 5 = 1 := by rw [Int.tmod_eq_emod_of_nonneg (by omega)]; exact m1
                  have HNX : Hid (X ++ gapL (g.data.toList.take j) ++ [9] = X ++ gapL (g.data.toList.take (j + 1))) := Lib.hid (by rw [hgx, hbo 1 (by omega)]; simp)
                  clear hk5 hgx hbo
                  go_wp2_with fail
                  refine (writeByteQ w.heap.size b _ 9 wj HBJ.out (by have := HLJ.out; omega) HWJ.out.size q HQJ.out).mono ?_
                  rintro e wk ⟨rfl, hbk, hlk, hqk, hkk⟩
                  rw [HNX.out] at hbk
                  have HBK := Lib.hid hbk
                  have HWK := Lib.hid (grow_below HWJ.out hlk)
                  have HQK := Lib.hid hqk
                  have HCK : Hid (∀ x (hx : x < g.size), wk.cell? ⟨q, x, none⟩ = some (.int .u8 ((g[x]).toNat : Int))) := Lib.hid (fun x hx => cells_kept (HCJ.out x hx) hkk)
                  clear hbk hlk hqk hkk m1 m2
                  go_wp2_with fail
                  go_roundg (g.size - (j + 1))
                  case measure => exact Nat.sub_lt_sub_left HLT.out (Nat.lt_succ_self _)
                  case rel => exact ⟨j + 1, by first | exact congrArg (Value.int .i64) HJJ.out | (simp; done) | (simp; exact HJJ.out), rfl, HLT.out, HBK, HWK, HQK, HCK⟩
                · have m1 : (c.toNat : Int) % 5 = 2 := by omega
                  have m2 : Int.tmod (c.toNat : Int) 5 = 2 := by rw [Int.tmod_eq_emod_of_nonneg (by omega)]; exact m1
                  have HNX : Hid (X ++ gapL (g.data.toList.take j) ++ [10] = X ++ gapL (g.data.toList.take (j + 1))) := Lib.hid (by rw [hgx, hbo 2 (by omega)]; simp)
                  clear hk5 hgx hbo
                  go_wp2_with fail
                  refine (writeByteQ w.heap.size b _ 10 wj HBJ.out (by have := HLJ.out; omega) HWJ.out.size q HQJ.out).mono ?_
                  rintro e wk ⟨rfl, hbk, hlk, hqk, hkk⟩
                  rw [HNX.out] at hbk
                  have HBK := Lib.hid hbk
                  have HWK := Lib.hid (grow_below HWJ.out hlk)
                  have HQK := Lib.hid hqk
                  have HCK : Hid (∀ x (hx : x < g.size), wk.cell? ⟨q, x, none⟩ = some (.int .u8 ((g[x]).toNat : Int))) := Lib.hid (fun x hx => cells_kept (HCJ.out x hx) hkk)
                  clear hbk hlk hqk hkk m1 m2
                  go_wp2_with fail
                  go_roundg (g.size - (j + 1))
                  case measure => exact Nat.sub_lt_sub_left HLT.out (Nat.lt_succ_self _)
                  case rel => exact ⟨j + 1, by first | exact congrArg (Value.int .i64) HJJ.out | (simp; done) | (simp; exact HJJ.out), rfl, HLT.out, HBK, HWK, HQK, HCK⟩
                · have m1 : (c.toNat : Int) % 5 = 3 := by omega
                  have m2 : Int.tmod (c.toNat : Int) 5 = 3 := by rw [Int.tmod_eq_emod_of_nonneg (by omega)]; exact m1
                  have HNX : Hid (X ++ gapL (g.data.toList.take j) ++ [13] = X ++ gapL (g.data.toList.take (j + 1))) := Lib.hid (by rw [hgx, hbo 3 (by omega)]; simp)
                  clear hk5 hgx hbo
                  go_wp2_with fail
                  refine (writeByteQ w.heap.size b _ 13 wj HBJ.out (by have := HLJ.out; omega) HWJ.out.size q HQJ.out).mono ?_
                  rintro e wk ⟨rfl, hbk, hlk, hqk, hkk⟩
                  rw [HNX.out] at hbk
                  have HBK := Lib.hid hbk
                  have HWK := Lib.hid (grow_below HWJ.out hlk)
                  have HQK := Lib.hid hqk
                  have HCK : Hid (∀ x (hx : x < g.size), wk.cell? ⟨q, x, none⟩ = some (.int .u8 ((g[x]).toNat : Int))) := Lib.hid (fun x hx => cells_kept (HCJ.out x hx) hkk)
                  clear hbk hlk hqk hkk m1 m2
                  go_wp2_with fail
                  go_roundg (g.size - (j + 1))
                  case measure => exact Nat.sub_lt_sub_left HLT.out (Nat.lt_succ_self _)
                  case rel => exact ⟨j + 1, by first | exact congrArg (Value.int .i64) HJJ.out | (simp; done) | (simp; exact HJJ.out), rfl, HLT.out, HBK, HWK, HQK, HCK⟩
                · have m1 : (c.toNat : Int) % 5 = 4 := by omega
                  have m2 : Int.tmod (c.toNat : Int) 5 = 4 := by rw [Int.tmod_eq_emod_of_nonneg (by omega)]; exact m1
                  have HNX : Hid (X ++ gapL (g.data.toList.take j) ++ (⟨#[32, 45, 45, 32, 105, 116, 39, 115, 10]⟩ : ByteArray).data.toList = X ++ gapL (g.data.toList.take (j + 1))) := Lib.hid (by rw [hgx, hbo 4 (by omega)]; simp [remark])
                  clear hk5 hgx hbo
                  go_wp2_with fail
                  refine (writeStringQ w.heap.size b _ ⟨#[32, 45, 45, 32, 105, 116, 39, 115, 10]⟩ wj HBJ.out (by have h1 := HLJ.out; have h2 : (⟨#[32, 45, 45, 32, 105, 116, 39, 115, 10]⟩ : ByteArray).size = 9 := rfl; omega) HWJ.out.size q HQJ.out).mono ?_
                  rintro e wk ⟨rfl, hbk, hlk, hqk, hkk⟩
                  rw [HNX.out] at hbk
                  have HBK := Lib.hid hbk
                  have HWK := Lib.hid (grow_below HWJ.out hlk)
                  have HQK := Lib.hid hqk
                  have HCK : Hid (∀ x (hx : x < g.size), wk.cell? ⟨q, x, none⟩ = some (.int .u8 ((g[x]).toNat : Int))) := Lib.hid (fun x hx => cells_kept (HCJ.out x hx) hkk)
                  clear hbk hlk hqk hkk m1 m2
                  go_wp2_with fail
                  go_roundg (g.size - (j + 1))
                  case measure => exact Nat.sub_lt_sub_left HLT.out (Nat.lt_succ_self _)
                  case rel => exact ⟨j + 1, by first | exact congrArg (Value.int .i64) HJJ.out | (simp; done) | (simp; exact HJJ.out), rfl, HLT.out, HBK, HWK, HQK, HCK⟩
              · have j1 : ¬ (j : Int) < (g.size : Int) := by omega
                have HBX : Hid (BuildB w.heap.size b (X ++ gapAt gs i) wj) := Lib.hid (by
                  have := HBJ.out
                  rw [List.take_of_length_le (by rw [bytes_list]; omega)] at this
                  rw [HGA.out]; exact this)
                have HGX : Hid ((gapAt gs i).length ≤ 9300) := Lib.hid (by
                  have h1 := gapL_len g.data.toList
                  have h2 := HGS.out
                  rw [HGA.out]; rw [bytes_list] at h1; omega)
                clear hj hjl
                go_wp2_with fail
                go_meet
                exact ⟨HBX, HWJ, HGX⟩
          · have g1 : ¬ (i : Int) < (gs.length : Int) := by omega
            have hgn := gap_none (gs := gs) (i := i) (by omega)
            have HBX : Hid (BuildB w.heap.size b (X ++ gapAt gs i) w6) := Lib.hid (by rw [hgn, List.append_nil]; exact HB6B.out)
            have HGX : Hid ((gapAt gs i).length ≤ 9300) := Lib.hid (by rw [hgn]; simp)
            clear hgi hgn
            go_wp2_with fail
            go_meet
            exact ⟨HBX, HB6, HGX⟩
        rename World => w8
        obtain ⟨HB8B, HB8, HGX⟩ := hcut
        have HII : Hid (wrap64 ((i : Int) + 1) = ((i + 1 : Nat) : Int)) := Lib.hid (by have h3 := H400.out; have h4 := HLI.out; unfold wrap64; omega)
        obtain ⟨Z, hZ⟩ : ∃ Z : ByteArray, Z = ⟨#[32]⟩ ++ S := ⟨_, rfl⟩
        have hsp : Z.data.toList = [32] ++ textT ⟨tk, ts, tn, ta⟩ := by rw [hZ]; simp [ByteArray.data_append, HSL.out.1]
        have hsz : Z.size ≤ 2004 := by have := HSL.out.2; rw [hZ, ByteArray.size_append]; show 1 + S.size ≤ 2004; omega
        have HSP := Lib.hid hsp
        have HSZ := Lib.hid hsz
        have HXG : Hid ((X ++ gapAt gs i).length ≤ 12000 * i + 9300) := Lib.hid (by rw [List.length_append]; have h1 := HXL.out; have h2 := HGX.out; omega)
        have hc1 : ∀ W, (Op.stringOp .add ⟨#[32]⟩ S).run Tryd.prog W = .ok (.string Z) W := fun W => by rw [hZ]; exact run_string_add_sum (P := Tryd.prog) W _ _ (by have := HSL.out.2; show 1 + S.size ≤ _; omega)
        clear hsp hsz hZ
        go_wp2_with fail
        clear hc1
        refine (writeString w.heap.size b _ Z w8 HB8B.out (by have h1 := HXG.out; have h2 := HSZ.out; have h3 := HLI.out; have h4 := H400.out; omega) HB8.out.size).mono ?_
        rintro e w9 ⟨rfl, hb9, hl9, -⟩
        rw [HSP.out, ← HSN.out] at hb9
        have HB9B := Lib.hid hb9
        have HB9 := Lib.hid (grow_below HB8.out hl9)
        have HYL : Hid (Y.length ≤ 12000 * (i + 1)) := Lib.hid (by
          rw [HSN.out, ← HSP.out, List.length_append, bytes_list]
          have h1 := HXG.out; have h2 := HSZ.out; omega)
        clear hb9 hl9
        go_wp2_with fail
        go_roundg (l.length - (i + 1))
        case measure => exact Nat.sub_lt_sub_left HLI.out (Nat.lt_succ_self _)
        case rel => exact ⟨i + 1, by first | exact congrArg (Value.int .i64) HII.out | (simp; done) | (simp; exact HII.out), rfl, HLI.out, HB9, by rw [HEY.out]; exact HB9B, Lib.hid (HTI.out HOK.out), by rw [HEY.out]; exact HYL⟩
      · rw [if_neg hok] at he
        obtain rfl : e = .returned (.tuple #[.string ⟨#[]⟩, .int .i64 2]) := he
        clear hok
        go_wp2_with fail
        go_ret
        exact ⟨rfl, HB6.out⟩
    · obtain rfl : i = l.length := by omega
      have i1 : ¬ (l.length : Int) < (l.length : Int) := by omega
      have hall := HALL.out
      have hbb := HBB.out
      rw [List.take_length] at hall hbb
      have HBT := Lib.hid hbb
      have HALT := Lib.hid hall
      have HTOK : Hid ((glue (pairsT gs 0 l)).length ≤ 4096 → ∃ m, toksL (glue (pairsT gs 0 l)) = .inr m ∧ sameL m l) := Lib.hid (blanks_toks gs hall)
      clear hlt hi hall hbb HBB HALL HXL
      generalize glue (pairsT gs 0 l) = X at *
      go_wp2_with fail
      clear i1
      refine (builderLen w.heap.size b X wr HBT.out).mono ?_
      rintro e w4 ⟨rfl, rfl⟩
      by_cases hbig : 4096 < X.length
      · have i1 : (4096 : Int) < (X.length : Int) := by omega
        clear hbig
        go_wp2_with fail
        go_ret
        exact ⟨rfl, HBR.out⟩
      have i1 : ¬ (4096 : Int) < (X.length : Int) := by omega
      obtain ⟨m, hm, hsm⟩ := HTOK.out (by omega)
      have HM := Lib.hid hm
      have HSM := Lib.hid hsm
      have HML : Hid (m.length ≤ 1000000) := Lib.hid (by rw [sameL_len hsm]; have := H400.out; omega)
      have HXS : Hid ((⟨X.toArray⟩ : ByteArray).size ≤ 1000000) := Lib.hid (by show X.length ≤ 1000000; omega)
      clear hbig hm hsm
      go_wp2_with fail
      clear i1
      refine (builderString w.heap.size b X w4 HBT.out HBR.out.size).mono ?_
      rintro e w5 ⟨rfl, hb5⟩
      have HB5 := Lib.hid (grow_below HBR.out hb5)
      clear hb5
      go_wp2_with fail
      refine (HTK.out ⟨X.toArray⟩ w5 (HW.out.later HB5.out) HXS.out).mono ?_
      rintro e w6 ⟨hp, hb6⟩
      rw [show (ByteArray.data ⟨X.toArray⟩).toList = X from rfl, HM.out] at hp
      obtain ⟨v, rfl, hat⟩ := hp
      have hba : Below w6.heap.size w6 (w6.alloc (.cells #[.int .i64 0, .int .i64 0] 43)) := (Below.refl _ _).alloc (Nat.le_refl _) _
      have HB7 := Lib.hid (next (next HB5.out hb6) hba)
      have HA7 := Lib.hid (SlAt.below hat hba)
      clear hb6 hat hba
      go_upto_region 28 with fail
      have z0 : (w6.alloc (.cells #[.int .i64 0, .int .i64 0] 43)).cell? ⟨w6.heap.size, 0, none⟩ = some (.int .i64 0) := by go_simp
      have z1 : (w6.alloc (.cells #[.int .i64 0, .int .i64 0] 43)).cell? ⟨w6.heap.size, 1, none⟩ = some (.int .i64 0) := by go_simp
      generalize w6.alloc (.cells #[.int .i64 0, .int .i64 0] 43) = w7 at *
      generalize w6.heap.size = q at *
      have hq := HQ1.out
      go_wp2_with fail
      refine (sameW _ _ m l w7 HML.out HA7.out (HA.out.below HB7.out) HSM.out).mono ?_
      rintro e w8 ⟨rfl, hb8⟩
      have HB8 := Lib.hid (next HB7.out hb8)
      clear hb8
      go_wp2_with fail
      go_ret
      exact ⟨rfl, HB8.out⟩

theorem own : ownKnob Tryd.prog.godebug = none := by kernel_rfl
theorem laid : laidOutB Tryd.prog = true := by kernel_rfl
def laidD : List (String × DataW Unit) := [("math/bits.deBruijn32tab", Rows.laid_math_bits_deBruijn32tab), ("math/bits.deBruijn64tab", Rows.laid_math_bits_deBruijn64tab), ("internal/strconv.uint64pow10", Rows.laid_internal_strconv_uint64pow10), ("unicode/utf8.acceptRanges", Rows.laid_unicode_utf8_acceptRanges), ("strconv.ErrRange", Rows.laid_strconv_ErrRange), ("strconv.ErrSyntax", Rows.laid_strconv_ErrSyntax), ("unicode.White_Space", Rows.laid_unicode_White_Space), ("strings.asciiSpace", Rows.laid_strings_asciiSpace), ("unicode/utf8.first", Rows.laid_unicode_utf8_first)]
theorem tied {ps qs : Array TypeId} {j : Nat} {t : TypeId} (_ : ps = qs) (hall : (ps.all fun u => !Tryd.prog.wantsStandIn u) = true) (ht : ps[j]? = some t) : Tryd.prog.wantsStandIn t = false := by
  obtain ⟨hj, rfl⟩ := Array.getElem?_eq_some_iff.1 ht
  have := Array.all_eq_true.1 hall j hj
  simpa using this

set_option maxRecDepth 100000 in
theorem opened {H : Type} (enc : TypeId × Value → H) (W : World) (args : Array Value) (ds : List (DataW H)) (p : List MemPlace) (hsh : W.ShapedOpen Tryd.prog) (hL : laidMetH Tryd.prog laidD W) :
    Lift.Owes enc Tryd.prog 9 Tryd.f9.params.toList W args ds p := by
  have HL := Lib.hid hL
  clear hL
  intro hA hval hsz _
  rw [Tryd.params9] at hA hval hsz
  obtain ⟨v0, vs0, d0, ds0, p0, q0, hargs, rfl, rfl, h0, r0⟩ := trodAll_cons hA
  obtain ⟨v1, vs1, d1, ds1, p1, q1, rfl, rfl, rfl, h1, r1⟩ := trodAll_cons r0
  obtain ⟨rfl, rfl, rfl⟩ := trodAll_nil r1
  obtain rfl : args = #[v0, v1] := by cases args; simp_all
  obtain ⟨base0, hv0⟩ := hval 0 _ v0 rfl rfl
  obtain ⟨X0, a0, o0, l0⟩ := arg_Ts tkT (by kernel_rfl) hv0 h0 (lim_arg hsz (j := 0) rfl rfl)
  obtain ⟨base1, hv1⟩ := hval 1 _ v1 rfl rfl
  obtain ⟨X1, a1, o1, l1⟩ := arg_Ss (e := 9) (by kernel_rfl) (by kernel_rfl) (by kernel_rfl) (by kernel_rfl) hv1 h1 (lim_arg hsz (j := 1) rfl rfl)
  exact walk v0 X0 v1 X1 W (lx9 hsh HL.out) a0 o0 (by omega) a1 o1 (by omega)

set_option maxRecDepth 100000 in
theorem lifted (os : Os) (started : os.Started) (H : Type) (enc : TypeId × Value → H) :
    ReturnsInHanded {} Tryd.checked os 9 .any (fun w args => (Rows.lexBlanksSpec.pre enc Tryd.prog Tryd.f9 [] false w args ∧ laidMetH Tryd.prog laidD w) ∧ sizedMet enc Tryd.prog Tryd.f9 (OpenSpec.ofChange Rows.lexBlanksSpec) false w args)
      (Rows.lexBlanksSpec.post enc Tryd.prog Tryd.f9 false true false false) := by
  refine Lift.liftedD (C := Tryd.checked) (X := fun w _ => laidMetH Tryd.prog laidD w) (fun _ _ _ hh h => h.of_heap hh) own started (by kernel_rfl) Tryd.func9
    (ChangeSpec.witness_shaped (enc := enc) (C := Tryd.checked) (os := os) (X := fun w _ => laidMetH Tryd.prog laidD w) false (World.laidAll Tryd.prog os laidD) #[.slice none 0 0, .slice none 0 0] 8 (World.laidAll_os _ _ _)
      (World.shaped_of_ZipB (by kernel_rfl) (by kernel_rfl)) (by kernel_rfl) (by kernel_rfl) (by kernel_rfl)
      (by rw [MakeChecks.laidMetH_plain _ _ _ (by kernel_rfl)]; exact laidMet_laidAll _ (by kernel_rfl) (by kernel_rfl)))
    laid (by rw [Tryd.params9]; intro t ht; simp at ht; rcases ht with rfl | rfl <;> exact ⟨by kernel_rfl, of_decide_eq_true (by kernel_rfl)⟩) rfl 4 rfl Tryd.underlying4
    (fun ds hds => by match ds, hds with | [_, _], _ => rfl) (fun W args ds p hsh hL => opened enc W args ds p hsh hL)

theorem row_said : Rows.LexBlanksSaid :=
  OpenClaim.holds_of_wide 9 Tryd.f9 rfl rfl rfl rfl rfl rfl rfl ⟨rfl, rfl, rfl, rfl, rfl⟩ rfl rfl rfl rfl rfl (by kernel_rfl) Tryd.func9 (by kernel_rfl)
    (of_decide_eq_true (by kernel_rfl)) (by unfold Func.isWrapper; first | (rw [if_pos (by decide +kernel)]; kernel_rfl) | (rw [if_neg (by decide +kernel)]; exact ⟨rfl, rfl⟩))
    (fun os started H enc _ => lifted os started H enc)

theorem said : Rows.LexBlanksCardSaid :=
  Claim7.holds_tied_plain_at .later [] [.data, .data, .data, .data, .sentinel, .sentinel, .listed, .data, .pinned] true (true, "beeeb87dc6d8e7c394a9af8ed07e7d2b6f4d2f56e63b48bb337aad32e36f280c") true
    row_said (fun _ h => by cases h) (by kernel_rfl) (fun _ h => by cases h) lexBlanks_row_tie rfl ⟨rfl, rfl⟩ (by kernel_rfl) rfl
    (fun f fn hf hfn => by
      obtain rfl : f = 9 := Option.some.inj ((show Tryd.prog.funcNamed "counterfoil/counterfoillaw13.LexBlanks" = some 9 by kernel_rfl).symm.trans hf) |>.symm
      obtain rfl : fn = Tryd.f9 := (Option.some.inj (Tryd.func9.symm.trans hfn)).symm
      exact ⟨by kernel_rfl, fun j t ht => by
        rw [Tryd.params9] at ht
        exact tied Tryd.params9.symm (by kernel_rfl) ht⟩)
    (by kernel_rfl)
#print axioms said
end Go.Proofs.YtghfaeapgghhlaaDoor.LexBlanks
