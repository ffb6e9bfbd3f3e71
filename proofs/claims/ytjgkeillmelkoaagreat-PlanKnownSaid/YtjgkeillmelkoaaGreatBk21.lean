import Derived.Deep.DeepCutAuto
import Derived.Test.YtjgkeillmelkoaaGreatBk20
import Derived.Test.YtjgkeillmelkoaaGreatBk09
import Derived.Test.YtjgkeillmelkoaaGreatBk04
namespace Go.Proofs.YtjgkeillmelkoaaGreat.Dt
open Go.RowKit Go.Proofs.YtjgkeillmelkoaaGreat.By

/-- A source: a table with its name. -/
abbrev PSo := ByteArray × PTb
def SoR (w : World) (c : List Value) (x : PSo) : Prop := ∃ tc, c = .string x.1 :: tc ∧ TbR w tc x.2
abbrev SosR (w : World) (v : Value) (l : List PSo) : Prop := SlR 5 SoR w v l
theorem so_at {w : World} {a : Option Addr} {n c k : Nat} {l : List PSo} {x : PSo} (h : SosR w (.slice a n c) l) (hk : l[k]? = some x) : ∃ b o cv kv iv, a = some ⟨b, o, none⟩ ∧ SlR 3 ColR w cv x.2.cols ∧ IntsR w kv x.2.key ∧ SlR 3 IxR w iv x.2.ixs ∧
    w.cell? ⟨b, o + k * 5, none⟩ = some (.string x.1) ∧ w.cell? ⟨b, o + k * 5 + 1, none⟩ = some (.string x.2.name) ∧ w.cell? ⟨b, o + k * 5 + 2, none⟩ = some cv ∧ w.cell? ⟨b, o + k * 5 + 3, none⟩ = some kv ∧ w.cell? ⟨b, o + k * 5 + 4, none⟩ = some iv := by
  obtain ⟨b, o, cs, rfl, _, ⟨tc, rfl, cv, kv, iv, rfl, h1, h2, h3⟩, hc⟩ := h.get hk
  exact ⟨b, o, cv, kv, iv, rfl, h1, h2, h3, hc 0 _ rfl, hc 1 _ rfl, hc 2 _ rfl, hc 3 _ rfl, hc 4 _ rfl⟩
theorem sosR_below {w w' : World} {v : Value} {l : List PSo} (h : SosR w v l) (hb : Below w.heap.size w w') : SosR w' v l :=
  slR_below (fun _ _ _ _ ⟨tc, e, cv, kv, iv, e2, h1, h2, h3⟩ hb => ⟨tc, e, cv, kv, iv, e2, colsR_below h1 hb, intsR_below h2 hb, ixsR_below h3 hb⟩) h hb
/-- The places of all columns that a name means. -/
def meansL (t m : ByteArray) : List PSo → Nat → List Int
  | [], _ => []
  | x :: l, at_ => (if 0 ≤ idxL (fun c : PCol => decide (c.name = m)) x.2.cols 0 ∧ (t = ⟨#[]⟩ ∨ t = x.1) then [(at_ : Int) + idxL (fun c : PCol => decide (c.name = m)) x.2.cols 0] else []) ++ meansL t m l (at_ + x.2.cols.length)
theorem elInt : By.Elem Tryz.prog 49 3 1 8 where
  slice := by kernel_rfl
  info := by
    have h : (Tryz.prog.info? 3).map (fun i => (i.zero, i.size, i.bytes)) = some (some (.int .i64 0), 1, 8) := by kernel_rfl
    obtain ⟨i, hi, h1, h2, h3⟩ := info_parts h
    exact ⟨i, _, hi, h1, h2, h3, rfl⟩
  pos := by decide
theorem idxL_lt {α : Type} (p : α → Bool) : ∀ (l : List α) (i : Nat), idxL p l i < (i : Int) + l.length
  | [], i => by show (-1 : Int) < _; omega
  | x :: l, i => by
    unfold idxL
    have := idxL_lt p l (i + 1)
    split
    · rw [List.length_cons]; omega
    · rw [List.length_cons]; omega
theorem ar_step {a i n : Nat} (h : a ≤ 1000 * i) (hn : n ≤ 1000) : a + n ≤ 1000 * (i + 1) := by omega
theorem ar_s {i : Nat} (h : i ≤ 1000) : wrap64 ((i : Int) + 1) = ((i + 1 : Nat) : Int) := by unfold wrap64; omega
theorem ar_add {a n : Nat} (h : a + n ≤ 1000 * 1000) : wrap64 ((a : Int) + (n : Int)) = ((a + n : Nat) : Int) := by unfold wrap64; omega
/-- What lies there while a name's meanings are gathered. -/
structure MN (w : World) (X : Array Value) (v : Value) (done : List Int) (cs : List (List Value)) (W : World) : Prop where
  hb : Below w.heap.size w W
  row : Row w.heap.size 44 X W
  own : OwnL 3 1 IntR (w.heap.size + 1) W v done cs
theorem MN.later {w W W' : World} {X : Array Value} {v : Value} {done : List Int} {cs : List (List Value)} (h : MN w X v done cs W) (hb : Below W.heap.size W W') : MN w X v done cs W' := ⟨next h.hb hb, h.row.later hb, h.own.later hb⟩
theorem means_cons {t m : ByteArray} {l : List PSo} {i a : Nat} {y : PSo} (h : l[i]? = some y) : meansL t m (l.drop i) a = (if 0 ≤ idxL (fun c : PCol => decide (c.name = m)) y.2.cols 0 ∧ (t = ⟨#[]⟩ ∨ t = y.1) then [(a : Int) + idxL (fun c : PCol => decide (c.name = m)) y.2.cols 0] else []) ++ meansL t m (l.drop (i + 1)) (a + y.2.cols.length) := by
  rw [dropC h, meansL]
set_option maxRecDepth 100000 in
set_option maxHeartbeats 16000000 in
theorem meansW (l : List PSo) (la : Option Addr) (lc : Nat) (x : PE) (ka : Option Addr) (kn kc : Nat) (w : World) (hl : l.length ≤ 1000) (hcl : ∀ y ∈ l, y.2.cols.length ≤ 1000) (h : SosR w (.slice la l.length lc) l) :
    Calls Tryz.prog 95 #[.slice la l.length lc, .agg #[.int .u8 (x.op : Int), .int .u8 (x.v.k : Int), .int .i64 x.v.n, .string x.v.s, .string x.t, .string x.m, .int .i64 x.n, .slice ka kn kc]] w fun e w' => ∃ v, e = .returned v ∧ New w.heap.size w' (fun u => IntsR u v (meansL x.t x.m l 0)) ∧ Below w.heap.size w w' := by
  have H0 := Lib.hid h
  have HL := Lib.hid hl
  have HCL := Lib.hid hcl
  obtain ⟨R, hR⟩ : ∃ R, R = meansL x.t x.m l 0 := ⟨_, rfl⟩
  rw [← hR]
  have HR := Lib.hid hR
  have hb1 : Below w.heap.size w (w.alloc (.cells #[.int .u8 (x.op : Int), .int .u8 (x.v.k : Int), .int .i64 x.v.n, .string x.v.s, .string x.t, .string x.m, .int .i64 x.n, .slice ka kn kc] 44)) := (Below.refl _ _).alloc (Nat.le_refl _) _
  have HM : Hid (MN w #[.int .u8 (x.op : Int), .int .u8 (x.v.k : Int), .int .i64 x.v.n, .string x.v.s, .string x.t, .string x.m, .int .i64 x.n, .slice ka kn kc] (.slice none 0 0) [] [] (w.alloc (.cells #[.int .u8 (x.op : Int), .int .u8 (x.v.k : Int), .int .i64 x.v.n, .string x.v.s, .string x.t, .string x.m, .int .i64 x.n, .slice ka kn kc] 44))) := Lib.hid ⟨hb1, row_alloc _ _ _, OwnL.nil _ _ _ _ _⟩
  clear h hl hcl hR hb1
  go_enter Tryz.func95, Tryz.ntmps95
  go_upto_region 1 with fail
  generalize w.alloc (.cells #[.int .u8 (x.op : Int), .int .u8 (x.v.k : Int), .int .i64 x.v.n, .string x.v.s, .string x.t, .string x.m, .int .i64 x.n, .slice ka kn kc] 44) = w1 at *
  go_wp2_with fail
  go_loopg [5, 6, 7] l.length (fun gk ov av iv wr => ∃ (i a : Nat) (done : List Int) (cs : List (List Value)), av = .int .i64 (a : Int) ∧ iv = .int .i64 (i : Int) ∧ gk = l.length - i ∧ i ≤ l.length ∧ a ≤ 1000 * i ∧ done.length ≤ i ∧ Hid (R = done ++ meansL x.t x.m (l.drop i) a) ∧ Hid (MN w #[.int .u8 (x.op : Int), .int .u8 (x.v.k : Int), .int .i64 x.v.n, .string x.v.s, .string x.t, .string x.m, .int .i64 x.n, .slice ka kn kc] ov done cs wr))
  case atStart => exact ⟨0, 0, [], [], rfl, rfl, rfl, Nat.zero_le _, by decide, by decide, HR, HM⟩
  case round =>
    obtain ⟨i, a, done, cs, rfl, rfl, rfl, hi, hai, hdi, HI, HM⟩ := hrel
    obtain ⟨oa, oc, rfl⟩ := HM.out.own.shape
    by_cases hlt : i < l.length
    · obtain ⟨y, hy⟩ : ∃ y, l[i]? = some y := ⟨l[i], by simp⟩
      have hsw := sosR_below H0.out HM.out.hb
      obtain ⟨b, o, cv, kv, iv, rfl, hcols, hkey, hixs, c0, c1, c2, c3, c4⟩ := so_at hsw hy
      obtain ⟨ca, cc, rfl, _⟩ := hcols.shape
      obtain ⟨ja, jc, rfl, _⟩ := hkey.shape
      obtain ⟨xa, xc, rfl, _⟩ := hixs.shape
      have ilt : (i : Int) < (l.length : Int) := by omega
      have ige : (0 : Int) ≤ (i : Int) := by omega
      have hyc := HCL.out y (List.mem_of_getElem? hy)
      have HYC := Lib.hid hyc
      have HY := Lib.hid hy
      have HLT := Lib.hid hlt
      have HAI := Lib.hid hai
      have HDI := Lib.hid hdi
      obtain ⟨K, hK⟩ : ∃ K, idxL (fun c : PCol => decide (c.name = x.m)) y.2.cols 0 = K := ⟨_, rfl⟩
      have HKL : Hid (K < (y.2.cols.length : Int) ∧ -1 ≤ K) := Lib.hid ⟨by have := idxL_lt (fun c : PCol => decide (c.name = x.m)) y.2.cols 0; omega, by
        rw [← hK]
        by_cases h : idxL (fun c : PCol => decide (c.name = x.m)) y.2.cols 0 = -1
        · omega
        · have := idxL_ge _ _ _ h; omega⟩
      have HN : Hid (meansL x.t x.m (l.drop i) a = (if 0 ≤ K ∧ (x.t = ⟨#[]⟩ ∨ x.t = y.1) then [(a : Int) + K] else []) ++ meansL x.t x.m (l.drop (i + 1)) (a + y.2.cols.length)) := Lib.hid (by rw [means_cons hy, hK])
      have HCW : Hid (∀ W : World, Below wr.heap.size wr W → Calls Tryz.prog 40 #[.agg #[.string y.2.name, .slice ca y.2.cols.length cc, .slice ja y.2.key.length jc, .slice xa y.2.ixs.length xc], .string x.m] W fun e w' => e = .returned (.int .i64 K) ∧ Below W.heap.size W w') := Lib.hid fun W hW => by
        have h := columnW y.2.cols ca ja xa cc y.2.key.length jc y.2.ixs.length xc y.2.name x.m W (by omega) (colsR_below hcols hW)
        rw [hK] at h
        exact h
      have xc5 := HM.out.row.cell (i := 5) (v := .string x.m) rfl
      have C0 := Lib.hid c0
      have C2 := Lib.hid c2
      have l1 := lat_cell c1
      have l2 := lat_cell c2
      have l3 := lat_cell c3
      have l4 := lat_cell c4
      have l5 := lat_cell xc5
      clear hy hsw hcols hkey hixs c0 c1 c2 c3 c4 xc5 hyc hK hlt hi hai hdi
      go_upto_region 6 with fail
      refine wp_region_later (by kernel_rfl) (by kernel_rfl) ?_
      repeat (go_big_quiet_step (exact lat_calls (HCW.out _ (lat_below _ _))))
      refine wpQuiet_nil ?_
      refine later_out (fun w7 hb7 => ?_)
      have HM7 := Lib.hid (HM.out.later hb7)
      have d0 := (hb7.cell (cell_lt C0.out)).trans C0.out
      have d2 := (hb7.cell (cell_lt C2.out)).trans C2.out
      clear l1 l2 l3 l4 l5 hb7 HCW HM C0 C2
      have D0 := Lib.hid d0
      have D2 := Lib.hid d2
      clear d0 d2
      go_upto_region 7 with fail
      obtain ⟨C, hC⟩ : ∃ C, C = decide (0 ≤ K ∧ (x.t = ⟨#[]⟩ ∨ x.t = y.1)) := ⟨_, rfl⟩
      have HC := Lib.hid hC
      go_cut [39] (fun bv wx => bv = .bool C ∧ Below w7.heap.size w7 wx)
      case first =>
        have l0 := lat_cell (HM7.out.row.cell (i := 4) (v := .string x.t) rfl)
        have l1 := lat_cell D0.out
        by_cases hK0 : 0 ≤ K
        · by_cases ht : x.t = ⟨#[]⟩
          · have he : x.t.toList.isEmpty = true := by rw [ht, ByteArray.toList_eq]; rfl
            have eC : C = true := by rw [hC]; exact decide_eq_true ⟨hK0, .inl ht⟩
            clear hC
            refine wp_region_later (by kernel_rfl) (by kernel_rfl) ?_
            repeat (go_big_quiet_step (fail))
            refine wpQuiet_nil ?_
            refine later_out (fun w8 hb8 => ?_)
            go_wp2_with fail
            go_meet
            exact ⟨by rw [eC], hb8⟩
          · have he := ne_of ht
            have es := str_dec x.t y.1
            have eC : C = decide (x.t = y.1) := by rw [hC]; exact decide_eq_decide.2 ⟨fun h => h.2.resolve_left ht, fun h => ⟨hK0, .inr h⟩⟩
            generalize decide (x.t = y.1) = B at *
            clear hC
            refine wp_region_later (by kernel_rfl) (by kernel_rfl) ?_
            repeat (go_big_quiet_step (fail))
            refine wpQuiet_nil ?_
            refine later_out (fun w8 hb8 => ?_)
            go_wp2_with fail
            go_meet
            exact ⟨by rw [eC], hb8⟩
        · have eC : C = false := by rw [hC]; exact decide_eq_false fun h => hK0 h.1
          clear hC
          refine wp_region_later (by kernel_rfl) (by kernel_rfl) ?_
          repeat (go_big_quiet_step (fail))
          refine wpQuiet_nil ?_
          refine later_out (fun w8 hb8 => ?_)
          go_wp2_with fail
          go_meet
          exact ⟨by rw [eC], hb8⟩
      case rest =>
      rename World => w8
      obtain ⟨rfl, hb8⟩ := hcut
      have HM8 := Lib.hid (HM7.out.later hb8)
      clear hb8 D0 D2 HM7 hC
      have hkl := HKL.out
      cases C with
      | true =>
        have hif : (0 ≤ K ∧ (x.t = ⟨#[]⟩ ∨ x.t = y.1)) := of_decide_eq_true HC.out.symm
        have HI2 : Hid (R = (done ++ [(a : Int) + K]) ++ meansL x.t x.m (l.drop (i + 1)) (a + y.2.cols.length)) := Lib.hid (by rw [HI.out, HN.out, if_pos hif, List.append_assoc])
        have hw : IntKind.i64.wrap ((a : Int) + K) = (a : Int) + K := by have h1 := HAI.out; have h2 := HLT.out; have h3 := HL.out; have h4 := HYC.out; rw [IntKind.wrap_i64]; omega
        have hw2 : wrap64 ((a : Int) + K) = (a : Int) + K := by have h1 := HAI.out; have h2 := HLT.out; have h3 := HL.out; have h4 := HYC.out; unfold wrap64; omega
        have hal := (Below.refl w8.heap.size w8).alloc (Nat.le_refl _) (.cells #[.int .i64 ((a : Int) + K)] 3)
        have HMA := Lib.hid (HM8.out.later hal)
        have HNA := Lib.hid (row_alloc w8 3 #[.int .i64 ((a : Int) + K)])
        have HLT8 : Hid (w.heap.size + 1 ≤ w8.heap.size) := Lib.hid HM8.out.row.lt
        have HM9 : Hid (∀ k, (Value.slice oa done.length oc).ownBlock = some k → k < w8.heap.size) := Lib.hid (fun k hk => (World.ownsRow.lt HM8.out.own.own k hk).2)
        have HLO : Hid (∀ k, (Value.slice oa done.length oc).ownBlock = some k → w.heap.size + 1 ≤ k) := Lib.hid (fun k hk => (World.ownsRow.lt HM8.out.own.own k hk).1)
        have HCC : Hid (cs.length ≤ 1000) := Lib.hid (by have h1 := HM8.out.own.len; have h2 := HDI.out; have h3 := HLT.out; have h4 := HL.out; omega)
        have HBS : Hid (w.heap.size + 1 ≤ (w8.alloc (.cells #[.int .i64 ((a : Int) + K)] 3)).heap.size) := Lib.hid (by have h1 := HLT8.out; simp; omega)
        clear hal hkl hif
        go_upto_region 9 with (at_builtin; refine wpList_append_one rfl (.tmp 40) (.tmp 44) 49 rfl (w.heap.size + 1) 3 1 8 elInt (.slice oa done.length oc) cs.length cs.flatten rfl HMA.out.own.own w8.heap.size 1 [.int .i64 ((a : Int) + K)] rfl rfl (fun j u hj => HNA.out.cell (by simpa using hj)) (by simp [Value.oneCell']) (by have := HCC.out; unfold maxLen; omega) (by have := HCC.out; omega) HBS.out ?_; intro v' w9 hown9 hg9 hv9; have HMZ : Hid (MN w _ v' (done ++ [(a : Int) + K]) (cs ++ [[.int .i64 ((a : Int) + K)]]) w9) := Lib.hid ⟨HMA.out.hb.trans ⟨hg9.os, hg9.tape, hg9.output, hg9.size, fun k hk => hg9.block k (by have h1 := HBS.out; omega) (fun e => by have := HLO.out _ e.symm; omega)⟩, (hg9.block _ HMA.out.row.lt (fun e => by have := HLO.out _ e.symm; omega)).trans HMA.out.row, HMA.out.own.snoc hown9 hg9 hv9 rfl (New.const rfl) HLT8.out HM9.out⟩; clear hown9 hg9 hv9; obtain ⟨va', vc', hv'⟩ := HMZ.out.own.shape; rw [List.length_append, List.length_singleton] at hv'; subst hv')
        obtain ⟨b3, o3, cv3, kv3, iv3, e3, hcols3, _, _, _, _, d2, _, _⟩ := so_at (sosR_below H0.out HMZ.out.hb) HY.out
        cases e3
        obtain ⟨ca3, cc3, rfl, _⟩ := hcols3.shape
        have hyc := HYC.out
        have hai := HAI.out
        have hdi := HDI.out
        have hlt := HLT.out
        have hl := HL.out
        have hi1 : i + 1 ≤ 1000 := Nat.le_trans hlt hl
        have ha2 := ar_step hai hyc
        have i3 := ar_s (Nat.le_trans (Nat.le_succ i) hi1)
        have i4 := ar_add (Nat.le_trans ha2 (Nat.mul_le_mul_left 1000 hi1))
        have HA2 := Lib.hid ha2
        have HD2 : Hid (done.length + 1 ≤ i + 1) := Lib.hid (Nat.succ_le_succ hdi)
        clear hi1 ha2
        clear hcols3 hyc hai hdi hlt hl
        go_wp2_with fail
        go_roundg (l.length - (i + 1))
        case measure => exact Nat.sub_lt_sub_left HLT.out (Nat.lt_succ_self _)
        case rel => exact ⟨i + 1, a + y.2.cols.length, done ++ [(a : Int) + K], cs ++ [[.int .i64 ((a : Int) + K)]], by go_num, by go_num, rfl, HLT.out, HA2.out, by rw [List.length_append, List.length_singleton]; exact HD2.out, HI2, HMZ⟩
      | false =>
        have hif : ¬ (0 ≤ K ∧ (x.t = ⟨#[]⟩ ∨ x.t = y.1)) := of_decide_eq_false HC.out.symm
        have HI2 : Hid (R = done ++ meansL x.t x.m (l.drop (i + 1)) (a + y.2.cols.length)) := Lib.hid (by rw [HI.out, HN.out, if_neg hif, List.nil_append])
        clear hkl hif
        go_upto_region 9 with fail
        obtain ⟨b3, o3, cv3, kv3, iv3, e3, hcols3, _, _, _, _, d2, _, _⟩ := so_at (sosR_below H0.out HM8.out.hb) HY.out
        cases e3
        obtain ⟨ca3, cc3, rfl, _⟩ := hcols3.shape
        have hyc := HYC.out
        have hai := HAI.out
        have hdi := HDI.out
        have hlt := HLT.out
        have hl := HL.out
        have hi1 : i + 1 ≤ 1000 := Nat.le_trans hlt hl
        have ha2 := ar_step hai hyc
        have i3 := ar_s (Nat.le_trans (Nat.le_succ i) hi1)
        have i4 := ar_add (Nat.le_trans ha2 (Nat.mul_le_mul_left 1000 hi1))
        have HA2 := Lib.hid ha2
        have HD2 : Hid (done.length + 1 ≤ i + 1) := Lib.hid (Nat.succ_le_succ hdi)
        clear hi1 ha2
        clear hcols3 hyc hai hdi hlt hl
        go_wp2_with fail
        go_roundg (l.length - (i + 1))
        case measure => exact Nat.sub_lt_sub_left HLT.out (Nat.lt_succ_self _)
        case rel => exact ⟨i + 1, a + y.2.cols.length, done, cs, by go_num, by go_num, rfl, HLT.out, HA2.out, Nat.le_of_succ_le HD2.out, HI2, HM8⟩
    · obtain rfl : i = l.length := by omega
      have HF : Hid (R = done) := Lib.hid (by rw [HI.out, List.drop_length]; simp [meansL])
      clear hlt hi
      go_wp2_with fail
      go_ret
      exact ⟨_, rfl, by rw [HF.out]; exact HM.out.own.done.mono (by omega), HM.out.hb⟩
end Go.Proofs.YtjgkeillmelkoaaGreat.Dt
namespace Go.Proofs.YtjgkeillmelkoaaGreat.Dt
open Go.RowKit Go.Proofs.YtjgkeillmelkoaaGreat.By

def fiB (s : ByteArray) (x : PTb) : Bool := decide (x.name = s)
/-- What Find says. -/
def findV (l : List PTb) (s : ByteArray) : Value := if idxL (fiB s) l 0 = -1 then .tuple #[.int .i64 0, .bool false] else .tuple #[.int .i64 (idxL (fiB s) l 0), .bool true]
set_option maxRecDepth 100000 in
set_option maxHeartbeats 4000000 in
theorem findSW (l : List PTb) (a : Option Addr) (c : Nat) (s : ByteArray) (w : World) (hl : l.length ≤ 1000000) (h : CatR w (.slice a l.length c) l) :
    Calls Tryz.prog 27 #[.slice a l.length c, .string s] w fun e w' => e = .returned (findV l s) ∧ Below w.heap.size w w' := by
  have H := Lib.hid h
  obtain ⟨R, hR⟩ : ∃ R, R = idxL (fiB s) l 0 := ⟨_, rfl⟩
  have HFV : Hid (findV l s = if R = -1 then .tuple #[.int .i64 0, .bool false] else .tuple #[.int .i64 R, .bool true]) := Lib.hid (by rw [hR]; rfl)
  have HR := Lib.hid hR
  have HL := Lib.hid hl
  clear h hR hl
  go_enter Tryz.func27, Tryz.ntmps27
  go_wp2_with fail
  go_loopg [10] l.length (fun gk iv wr => ∃ i : Nat, iv = .int .i64 (i : Int) ∧ gk = l.length - i ∧ i ≤ l.length ∧ Hid (R = idxL (fiB s) (l.drop i) i) ∧ Hid (Below w.heap.size w wr))
  case atStart => exact ⟨0, rfl, rfl, Nat.zero_le _, HR, Lib.hid (Below.refl _ _)⟩
  case round =>
    obtain ⟨i, rfl, rfl, hi, HI, HBL⟩ := hrel
    by_cases hlt : i < l.length
    · obtain ⟨x, hx⟩ : ∃ x, l[i]? = some x := ⟨l[i], by simp⟩
      obtain ⟨b, o, cv, kv, iv, rfl, hcv, hkv, hiv, c0, c1, c2, c3⟩ := tb_at (catR_below H.out HBL.out) hx
      obtain ⟨ca, cc, rfl, _⟩ := hcv.shape
      obtain ⟨ja, jc, rfl, _⟩ := hkv.shape
      obtain ⟨xa, xc, rfl, _⟩ := hiv.shape
      have ilt : (i : Int) < (l.length : Int) := by omega
      have ige : (0 : Int) ≤ (i : Int) := by omega
      have HX := Lib.hid hx
      have HLT := Lib.hid hlt
      have i3 : wrap64 ((i : Int) + 1) = ((i + 1 : Nat) : Int) := by have := HL.out; unfold wrap64; omega
      have es : (x.name.toList == s.toList) = fiB s x := str_dec x.name s
      obtain ⟨B, hB⟩ : ∃ B, fiB s x = B := ⟨_, rfl⟩
      rw [hB] at es
      have HB := Lib.hid hB
      have hbx : Below wr.heap.size wr (wr.alloc (.cells #[.string x.name, .slice ca x.cols.length cc, .slice ja x.key.length jc, .slice xa x.ixs.length xc] 59)) := (Below.refl _ _).alloc (Nat.le_refl _) _
      have HBX := Lib.hid (next HBL.out hbx)
      clear hx hlt hB hcv hkv hiv hbx
      cases B with
      | true =>
        have HF : Hid (R = (i : Int)) := Lib.hid (by rw [HI.out, idx_yes HX.out HB.out])
        go_wp2_with fail
        go_ret2
        exact ⟨by rw [HFV.out, HF.out, if_neg (by omega)]; rfl, HBX.out⟩
      | false =>
        have HF : Hid (R = idxL (fiB s) (l.drop (i + 1)) (i + 1)) := Lib.hid (by rw [HI.out, idx_no HX.out HB.out])
        go_wp2_with fail
        go_roundg (l.length - (i + 1))
        case measure => exact Nat.sub_lt_sub_left HLT.out (Nat.lt_succ_self _)
        case rel => exact ⟨i + 1, by go_num, rfl, HLT.out, HF, HBX⟩
    · obtain rfl : i = l.length := by omega
      have HF : Hid (R = -1) := Lib.hid (by rw [HI.out, List.drop_length]; rfl)
      clear hlt hi
      go_wp2_with fail
      go_ret2
      exact ⟨by rw [HFV.out, HF.out, if_pos rfl]; rfl, HBL.out⟩
end Go.Proofs.YtjgkeillmelkoaaGreat.Dt
namespace Go.Proofs.YtjgkeillmelkoaaGreat.Dt
open Go.RowKit Go.Proofs.YtjgkeillmelkoaaGreat.By

/-- The source of a column. -/
def ofL (fs : List Int) (n : Int) : Nat → Nat → Nat
  | 0, i => i
  | k + 1, i => match fs[i + 1]? with
    | some v => if v ≤ n then ofL fs n k (i + 1) else i
    | none => i
def ofV (fs : List Int) (n : Int) : Nat := ofL fs n fs.length 0
theorem ofL_le (fs : List Int) (n : Int) : ∀ (k i : Nat), ofL fs n k i ≤ max i fs.length
  | 0, i => Nat.le_max_left _ _
  | k + 1, i => by
    unfold ofL
    split
    · rename_i v hv
      have hlt := (List.getElem?_eq_some_iff.1 hv).1
      split
      · have := ofL_le fs n k (i + 1); omega
      · exact Nat.le_max_left _ _
    · exact Nat.le_max_left _ _
set_option maxRecDepth 100000 in
set_option maxHeartbeats 16000000 in
theorem ofW (fs : List Int) (ta : Option Addr) (tn tc : Nat) (fa : Option Addr) (fc : Nat) (all n : Int) (w : World) (hl : fs.length ≤ 1000000) (h : IntsR w (.slice fa fs.length fc) fs) :
    Calls Tryz.prog 29 #[.agg #[.slice ta tn tc, .slice fa fs.length fc, .int .i64 all], .int .i64 n] w fun e w' => e = .returned (.int .i64 (ofV fs n : Int)) ∧ Below w.heap.size w w' := by
  have hba : Below w.heap.size w (w.alloc (.cells #[.slice ta tn tc, .slice fa fs.length fc, .int .i64 all] 51)) := (Below.refl _ _).alloc (Nat.le_refl _) _
  have HR := Lib.hid (row_alloc w 51 #[.slice ta tn tc, .slice fa fs.length fc, .int .i64 all])
  have HB := Lib.hid hba
  have HH := Lib.hid (intsR_below h hba)
  have HL := Lib.hid hl
  obtain ⟨R, hR⟩ : ∃ R, R = ofV fs n := ⟨_, rfl⟩
  have HRR : Hid (ofL fs n fs.length 0 = R) := Lib.hid (by rw [hR]; rfl)
  rw [← hR]
  clear h hl hba hR
  go_enter Tryz.func29, Tryz.ntmps29
  go_upto_region 1 with fail
  generalize w.alloc (.cells #[.slice ta tn tc, .slice fa fs.length fc, .int .i64 all] 51) = w1 at *
  go_wp2_with fail
  go_loopg [5] fs.length (fun gk iv wr => ∃ (i : Nat), iv = .int .i64 (i : Int) ∧ gk = fs.length - i ∧ i ≤ fs.length ∧ Hid (ofL fs n (fs.length - i) i = R) ∧ w1 = wr)
  case atStart => exact ⟨0, rfl, rfl, Nat.zero_le _, HRR, rfl⟩
  case round =>
    obtain ⟨i, rfl, rfl, hi, HO, rfl⟩ := hrel
    have l1 := HR.out.cell (i := 1) (v := .slice fa fs.length fc) rfl
    have iw : wrap64 ((i : Int) + 1) = ((i + 1 : Nat) : Int) := by have := HL.out; unfold wrap64; omega
    by_cases hlt : i + 1 < fs.length
    · obtain ⟨v, hv⟩ : ∃ v, fs[i + 1]? = some v := ⟨fs[i + 1], by simp [hlt]⟩
      obtain ⟨b, o, rfl, c0⟩ := int_at HH.out hv
      have ilt : ((i + 1 : Nat) : Int) < (fs.length : Int) := by omega
      have ige : (0 : Int) ≤ ((i + 1 : Nat) : Int) := by omega
      have HST : Hid (ofL fs n (fs.length - i) i = if v ≤ n then ofL fs n (fs.length - (i + 1)) (i + 1) else i) := Lib.hid (by
        obtain ⟨k, hk⟩ : ∃ k, fs.length - i = k + 1 := ⟨fs.length - i - 1, by omega⟩
        rw [hk, show fs.length - (i + 1) = k by omega]
        show (match fs[i + 1]? with | some v => if v ≤ n then ofL fs n k (i + 1) else i | none => i) = _
        rw [hv])
      have HLT := Lib.hid hlt
      clear hv hlt hi
      by_cases hvn : v ≤ n
      · have HO2 : Hid (ofL fs n (fs.length - (i + 1)) (i + 1) = R) := Lib.hid (by rw [← HO.out, HST.out, if_pos hvn])
        go_wp2_with fail
        go_roundg (fs.length - (i + 1))
        case measure => exact Nat.sub_lt_sub_left (Nat.lt_of_succ_lt HLT.out) (Nat.lt_succ_self _)
        case rel => exact ⟨i + 1, congrArg (Value.int .i64) iw, rfl, Nat.le_of_lt HLT.out, HO2, rfl⟩
      · have HR2 : Hid (R = i) := Lib.hid (by rw [← HO.out, HST.out, if_neg hvn])
        go_wp2_with fail
        go_ret
        exact ⟨by rw [HR2.out]; rfl, HB.out⟩
    · have inl : ¬ ((i + 1 : Nat) : Int) < (fs.length : Int) := by omega
      have HR2 : Hid (R = i) := Lib.hid (by
        rw [← HO.out]
        cases hk : fs.length - i with
        | zero => rfl
        | succ k =>
          have hn : fs[i + 1]? = none := List.getElem?_eq_none (by omega)
          show (match fs[i + 1]? with | some v => if v ≤ n then ofL fs n k (i + 1) else i | none => i) = i
          rw [hn])
      clear hlt hi
      go_wp2_with fail
      go_ret
      exact ⟨by rw [HR2.out]; rfl, HB.out⟩
/-- What lies there while known goes over an expression's columns. -/
structure KI (w0 w : World) (lo ga gl : Nat) (src : Array Value) (s : Nat) (W : World) : Prop where
  ra : Row ga 3 #[.int .i64 (s : Int)] W
  rl : Row gl 51 src W
  hb : Below lo w W
  h0 : Below w0.heap.size w0 W
theorem KI.later {w0 w W W' : World} {lo ga gl : Nat} {src : Array Value} {s : Nat} (h : KI w0 w lo ga gl src s W) (hb : Below W.heap.size W W') (hl : lo ≤ W.heap.size) : KI w0 w lo ga gl src s W' :=
  ⟨h.ra.later hb, h.rl.later hb, h.hb.trans (hb.mono hl), h.h0.trans (hb.mono h.h0.size)⟩
set_option maxRecDepth 100000 in
set_option maxHeartbeats 16000000 in
theorem known1W {w0 w : World} {lo ga gl : Nat} {ta fa : Option Addr} {tn tc fc : Nat} {fs : List Int} {all : Int} (hl : fs.length ≤ 1000000) (hf : IntsR w0 (.slice fa fs.length fc) fs) (hga : lo ≤ ga) (hgl : ga ≠ gl) (h0a : w0.heap.size ≤ ga) (s : Nat) (n : Int) (W : World)
    (h : KI w0 w lo ga gl #[.slice ta tn tc, .slice fa fs.length fc, .int .i64 all] s W) :
    Calls Tryz.prog 28 #[.int .i64 n, .pointer (some ⟨ga, 0, none⟩), .pointer (some ⟨gl, 0, none⟩)] W fun e w' => e = .returned (.tuple #[]) ∧ KI w0 w lo ga gl #[.slice ta tn tc, .slice fa fs.length fc, .int .i64 all] (max s (ofV fs n)) w' ∧ ∀ k, ga < k → k < W.heap.size → w'.heap[k]? = W.heap[k]? := by
  have HK := Lib.hid h
  have HOF : Hid (∀ W2, Below W.heap.size W W2 → Calls Tryz.prog 29 #[.agg #[.slice ta tn tc, .slice fa fs.length fc, .int .i64 all], .int .i64 n] W2 fun e w' => e = .returned (.int .i64 (ofV fs n : Int)) ∧ Below W2.heap.size W2 w') :=
    Lib.hid fun W2 hb => ofW fs ta tn tc fa fc all n W2 hl (intsR_below hf (h.h0.trans (hb.mono h.h0.size)))
  have HGA := Lib.hid hga
  have HGL := Lib.hid hgl
  have H0A := Lib.hid h0a
  have l0 := lat_cell (h.rl.cell (i := 0) (v := .slice ta tn tc) rfl)
  have l1 := lat_cell (h.rl.cell (i := 1) (v := .slice fa fs.length fc) rfl)
  have l2 := lat_cell (h.rl.cell (i := 2) (v := .int .i64 all) rfl)
  have l3 := lat_cell (h.ra.cell (i := 0) (v := .int .i64 (s : Int)) rfl)
  obtain ⟨R, hR⟩ : ∃ R, R = ofV fs n := ⟨_, rfl⟩
  rw [← hR] at HOF ⊢
  have hRl : (R : Int) ≤ 1000001 := by
    have := ofL_le fs n fs.length 0
    unfold ofV at hR
    omega
  clear h hl hf hga hgl h0a hR
  go_enter Tryz.func28, Tryz.ntmps28
  refine wp_region_later_tail 5 (by kernel_rfl) (by kernel_rfl) ?_
  simp only [List.take_succ_cons, List.take_zero, List.drop_succ_cons, List.drop_zero]
  repeat (go_big_quiet_step (exact lat_calls (HOF.out _ (lat_below _ _))))
  refine wpQuiet_nil ?_
  refine later_out (fun w2 hb2 => ?_)
  have HK2 := Lib.hid (HK.out.later hb2 (Nat.le_of_lt (Nat.lt_of_le_of_lt HGA.out HK.out.ra.lt)))
  have HB2 := Lib.hid hb2
  obtain ⟨M, hM⟩ : ∃ M : Int, M = if s < R then (R : Int) else (s : Int) := ⟨_, rfl⟩
  rw [← hM]
  have HM : Hid (M = ((max s R : Nat) : Int)) := Lib.hid (by rw [hM]; split <;> omega)
  have c0 := HK2.out.ra.cell (i := 0) (v := .int .i64 (s : Int)) rfl
  have f0 := HK2.out.ra.free 0
  have HLT : Hid (ga < w2.heap.size) := Lib.hid HK2.out.ra.lt
  have HNE : Hid (w2.heap[gl]? = some (.cells #[.slice ta tn tc, .slice fa fs.length fc, .int .i64 all] 51 (0, 0))) := Lib.hid HK2.out.rl
  clear l0 l1 l2 l3 hM hb2 HOF
  go_wp2_with fail
  go_end0
  have hs := setCell_eq_setRow w2 ga 0 _ _ _ (.int .i64 M) HK2.out.ra
  refine ⟨rfl, ⟨?_, ?_, below_set HK2.out.hb HGA.out, below_set HK2.out.h0 H0A.out⟩, fun k hk hlt => ?_⟩
  · rw [hs]
    have := HK2.out.ra.set (#[.int .i64 (s : Int)].setIfInBounds 0 (.int .i64 M))
    rw [HM.out] at this ⊢
    exact this
  · rw [hs]
    exact (setRow_other _ _ _ _ (fun e => HGL.out e.symm)).trans HK2.out.rl
  · rw [hs]
    exact (setRow_other _ _ _ _ (by omega)).trans (HB2.out.block k hlt)
/-- The source with which an expression is. -/
def knownV (fs : List Int) (x : PE) : Nat := (colsE x).foldl (fun s n => max s (ofV fs n)) 0
attribute [local go_sem ↓] veilSt_ex veilLd_ex
attribute [local go_sem] run_exSt run_exNew run_exLd okRow8 Value.oneCell'
set_option maxRecDepth 100000 in
set_option maxHeartbeats 16000000 in
theorem knownW {ta fa : Option Addr} {tn tc fc : Nat} {fs : List Int} {all : Int} {x : PE} {kv : Value} {w : World} (hl : fs.length ≤ 1000000) (hf : IntsR w (.slice fa fs.length fc) fs) (hk : ExsR w kv x.kids) (hc : cntE x ≤ 1000000) :
    Calls Tryz.prog 18 #[.agg #[.slice ta tn tc, .slice fa fs.length fc, .int .i64 all], x.val kv] w fun e w' => e = .returned (.int .i64 (knownV fs x : Int)) ∧ Below w.heap.size w w' := by
  obtain ⟨ka, kc, rfl, _⟩ := hk.shape
  have F : ColF w (w.heap.size + 3) Nat (fun s n => max s (ofV fs n)) (fun s W => KI w w w.heap.size (w.heap.size + 2) w.heap.size #[.slice ta tn tc, .slice fa fs.length fc, .int .i64 all] s W ∧ w.heap.size + 3 ≤ W.heap.size)
      28 (.pointer (some ⟨w.heap.size + 2, 0, none⟩)) (.pointer (some ⟨w.heap.size, 0, none⟩)) :=
    { hf := fun _ _ => by kernel_rfl
      later := fun s W W' h hb => ⟨h.1.later hb (by omega), Nat.le_trans h.2 hb.size⟩
      below := fun s W h => h.1.h0
      up := fun s W h => h.2
      call := fun s n W h => (known1W hl hf (by omega) (by omega) (by omega) s n W h.1).mono fun e w' hh => ⟨hh.1, ⟨hh.2.1, by have := hh.2.1.ra.lt; omega⟩, fun k h1 h2 => hh.2.2 k (by omega) h2⟩ }
  have HF := Lib.hid F
  have HK := Lib.hid hk
  have HC := Lib.hid hc
  have h1 := row_alloc w 51 #[.slice ta tn tc, .slice fa fs.length fc, .int .i64 all]
  have b1 := (Below.refl _ w).alloc (Nat.le_refl _) (.cells #[.slice ta tn tc, .slice fa fs.length fc, .int .i64 all] 51)
  have b2 := (Below.refl _ (w.alloc (.cells #[.slice ta tn tc, .slice fa fs.length fc, .int .i64 all] 51))).alloc (Nat.le_refl _) (.cells #[.int .u8 (x.op : Int), .int .u8 (x.v.k : Int), .int .i64 x.v.n, .string x.v.s, .string x.t, .string x.m, .int .i64 x.n, .slice ka x.kids.length kc] 44)
  have h2 := row_alloc (w.alloc (.cells #[.slice ta tn tc, .slice fa fs.length fc, .int .i64 all] 51)) 44 #[.int .u8 (x.op : Int), .int .u8 (x.v.k : Int), .int .i64 x.v.n, .string x.v.s, .string x.t, .string x.m, .int .i64 x.n, .slice ka x.kids.length kc]
  have z1 : (w.alloc (.cells #[.slice ta tn tc, .slice fa fs.length fc, .int .i64 all] 51)).heap.size = w.heap.size + 1 := by simp
  rw [z1] at h2
  have HR1 := Lib.hid (h1.later b2)
  have HR2 := Lib.hid h2
  have HB := Lib.hid (next b1 b2)
  have HZ : Hid (((w.alloc (.cells #[.slice ta tn tc, .slice fa fs.length fc, .int .i64 all] 51)).alloc (.cells #[.int .u8 (x.op : Int), .int .u8 (x.v.k : Int), .int .i64 x.v.n, .string x.v.s, .string x.t, .string x.m, .int .i64 x.n, .slice ka x.kids.length kc] 44)).heap.size = w.heap.size + 2) := Lib.hid (by simp)
  clear F hf hk hc hl h1 h2 b1 b2 z1
  unfold PE.val
  go_enter Tryz.func18, Tryz.ntmps18
  go_upto_region 1 with fail
  generalize (w.alloc (.cells #[.slice ta tn tc, .slice fa fs.length fc, .int .i64 all] 51)).alloc (.cells #[.int .u8 (x.op : Int), .int .u8 (x.v.k : Int), .int .i64 x.v.n, .string x.v.s, .string x.t, .string x.m, .int .i64 x.n, .slice ka x.kids.length kc] 44) = w2 at *
  have hb3 : Below w2.heap.size w2 (w2.alloc (.cells #[.int .i64 0] 3)) := (Below.refl _ _).alloc (Nat.le_refl _) _
  have h3 := row_alloc w2 3 #[.int .i64 0]
  rw [HZ.out] at h3
  have HI : Hid (KI w w w.heap.size (w.heap.size + 2) w.heap.size #[.slice ta tn tc, .slice fa fs.length fc, .int .i64 all] 0 (w2.alloc (.cells #[.int .i64 0] 3)) ∧ w.heap.size + 3 ≤ (w2.alloc (.cells #[.int .i64 0] 3)).heap.size) :=
    Lib.hid ⟨⟨h3, HR1.out.later hb3, next HB.out hb3, next HB.out hb3⟩, by have := HZ.out; simp; omega⟩
  have HR3 := Lib.hid (HR2.out.later hb3)
  have hcall := colsW HF.out HC.out HK.out HI.out
  unfold PE.val at hcall
  have HCALL := Lib.hid hcall
  clear hcall h3 hb3
  go_upto_region 2 with fail
  rw [HZ.out]
  generalize w2.alloc (.cells #[.int .i64 0] 3) = w3 at *
  have hrb := HR3.out.b (n := 8) rfl
  have hro := HR3.out.of
  go_wp2_with fail
  refine HCALL.out.mono ?_
  rintro e4 w4 ⟨rfl, hi4, _⟩
  have HK4 := Lib.hid hi4
  have c0 := hi4.ra.cell (i := 0) (v := .int .i64 (((colsE x).foldl (fun s n => max s (ofV fs n)) 0 : Nat) : Int)) rfl
  clear hi4 hrb hro HCALL HI
  go_wp2_with fail
  go_ret
  exact ⟨rfl, HK4.out.hb⟩
end Go.Proofs.YtjgkeillmelkoaaGreat.Dt
