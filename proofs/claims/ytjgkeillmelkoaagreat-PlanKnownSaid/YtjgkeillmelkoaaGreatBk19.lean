import Derived.OwnWalk
import Derived.Test.YtjgkeillmelkoaaGreatBk18
namespace Go.Proofs.YtjgkeillmelkoaaGreat.Dt
open Go.RowKit Go.Proofs.YtjgkeillmelkoaaGreat.By

section
attribute [local go_sem ↓] veilSt_tk
attribute [local go_sem] run_tkSt run_tkNew okRow4 Value.oneCell'
set_option maxRecDepth 100000 in
set_option maxHeartbeats 4000000 in
theorem nameW16 (s : ByteArray) (hs : s.size ≤ 100000) (w : World) : Calls Tryz.prog 67 #[.string s] w fun e w' => e = .returned (.bool (isNm s)) ∧ Below w.heap.size w w' := by
  have hR := refWriteN [⟨2, s, 0, 0⟩] #[.int .u8 2, .string s, .int .u64 0, .int .i64 0] rfl (by simp) (by simpa using hs) (by simp) w
  have he : isNm s = decide ((writeL [⟨2, s, 0, 0⟩]).2 = 0) := rfl
  rw [he]
  generalize writeL [⟨2, s, 0, 0⟩] = R at *
  obtain ⟨R1, n⟩ := R
  have e1 : ((n : Int) == 0) = decide (n = 0) := by rw [Bool.eq_iff_iff]; simp
  generalize decide (n = 0) = B at *
  have HR := Lib.hid hR
  clear hR hs he
  go_enter Tryz.func67, Tryz.ntmps67
  go_wp2_with fail
  refine HR.out.mono ?_
  rintro e2 w2 ⟨rfl, hb2⟩
  have HB := Lib.hid hb2
  clear hb2 HR
  go_wp2_with fail
  go_ret
  exact ⟨rfl, HB.out⟩
end
/-- Where an index of that name is. -/
def ixL (s : ByteArray) : List PTb → Nat → Int × Int × Bool
  | [], _ => (0, 0, false)
  | t :: l, i => if idxL (fun x : PIx => decide (x.name = s)) t.ixs 0 = -1 then ixL s l (i + 1) else ((i : Int), idxL (fun x : PIx => decide (x.name = s)) t.ixs 0, true)
theorem idxL_ge {α : Type} (p : α → Bool) : ∀ (l : List α) (i : Nat), idxL p l i ≠ -1 → (i : Int) ≤ idxL p l i
  | [], i, h => absurd rfl h
  | x :: l, i, h => by
    unfold idxL at h ⊢
    split
    · omega
    · rename_i hx
      rw [if_neg hx] at h
      have := idxL_ge p l (i + 1) h
      omega
set_option maxRecDepth 100000 in
set_option maxHeartbeats 8000000 in
theorem indexW (l : List PTb) (a : Option Addr) (c : Nat) (s : ByteArray) (w : World) (hl : l.length ≤ 1000000) (hi2 : ∀ t ∈ l, t.ixs.length ≤ 1000000) (h : CatR w (.slice a l.length c) l) :
    Calls Tryz.prog 70 #[.slice a l.length c, .string s] w fun e w' => e = .returned (.tuple #[.int .i64 (ixL s l 0).1, .int .i64 (ixL s l 0).2.1, .bool (ixL s l 0).2.2]) ∧ w = w' := by
  have H := Lib.hid h
  obtain ⟨R, hR⟩ : ∃ R, R = ixL s l 0 := ⟨_, rfl⟩
  rw [← hR]
  have HR := Lib.hid hR
  have HL := Lib.hid hl
  have HI2 := Lib.hid hi2
  clear h hR hl hi2
  go_enter Tryz.func70, Tryz.ntmps70
  go_wp2_with fail
  go_loopg [7] l.length (fun gk iv wr => ∃ i : Nat, iv = .int .i64 (i : Int) ∧ gk = l.length - i ∧ i ≤ l.length ∧ Hid (R = ixL s (l.drop i) i) ∧ w = wr)
  case atStart => exact ⟨0, rfl, rfl, Nat.zero_le _, HR, rfl⟩
  case round =>
    obtain ⟨i, rfl, rfl, hi, HI, rfl⟩ := hrel
    by_cases hlt : i < l.length
    · obtain ⟨x, hx⟩ : ∃ x, l[i]? = some x := ⟨l[i], by simp⟩
      obtain ⟨b, o, cv, kv, iv, rfl, _, _, hix, c0, c1, c2, c3⟩ := tb_at H.out hx
      obtain ⟨ja, jc, rfl, _⟩ := hix.shape
      have ilt : (i : Int) < (l.length : Int) := by omega
      have ige : (0 : Int) ≤ (i : Int) := by omega
      have HLT := Lib.hid hlt
      have i3 : wrap64 ((i : Int) + 1) = ((i + 1 : Nat) : Int) := by have := HL.out; unfold wrap64; omega
      have HN := Lib.hid (HI2.out x (List.mem_of_getElem? hx))
      have HIX := Lib.hid hix
      obtain ⟨Z, hZ⟩ : ∃ Z, Z = idxL (fun x : PIx => decide (x.name = s)) x.ixs 0 := ⟨_, rfl⟩
      have HI3 : Hid (R = if Z = -1 then ixL s (l.drop (i + 1)) (i + 1) else ((i : Int), Z, true)) := Lib.hid (by rw [HI.out, dropC hx, ixL, ← hZ])
      have HZ := Lib.hid hZ
      clear hx hlt hix c0 c1 c2 HI hZ
      go_wp2_with fail
      go_loopg [8] x.ixs.length (fun gj jv wr => ∃ j : Nat, jv = .int .i64 (j : Int) ∧ gj = x.ixs.length - j ∧ j ≤ x.ixs.length ∧ Hid (Z = idxL (fun x : PIx => decide (x.name = s)) (x.ixs.drop j) j) ∧ w = wr)
      case atStart => exact ⟨0, rfl, rfl, Nat.zero_le _, HZ, rfl⟩
      case round =>
        obtain ⟨j, rfl, rfl, hj, HJ, rfl⟩ := hrel
        by_cases hjt : j < x.ixs.length
        · obtain ⟨y, hy⟩ : ∃ y, x.ixs[j]? = some y := ⟨x.ixs[j], by simp⟩
          obtain ⟨b2, o2, v2, rfl, _, d0, _, _⟩ := ix_at HIX.out hy
          have jlt : (j : Int) < (x.ixs.length : Int) := by omega
          have jge : (0 : Int) ≤ (j : Int) := by omega
          have HY := Lib.hid hy
          have HJT := Lib.hid hjt
          have j3 : wrap64 ((j : Int) + 1) = ((j + 1 : Nat) : Int) := by have := HN.out; unfold wrap64; omega
          have es := str_dec y.name s
          obtain ⟨B, hB⟩ : ∃ B, decide (y.name = s) = B := ⟨_, rfl⟩
          rw [hB] at es
          have HB := Lib.hid hB
          clear hy hjt hB
          cases B with
          | true =>
            have HF : Hid (R = ((i : Int), (j : Int), true)) := Lib.hid (by
              have e : Z = (j : Int) := by rw [HJ.out, idx_yes HY.out HB.out]
              rw [HI3.out, e, if_neg (by omega)])
            go_wp2_with fail
            go_ret3
            exact ⟨by rw [HF.out]; rfl, rfl⟩
          | false =>
            have HF : Hid (Z = idxL (fun x : PIx => decide (x.name = s)) (x.ixs.drop (j + 1)) (j + 1)) := Lib.hid (by rw [HJ.out, idx_no HY.out HB.out])
            go_wp2_with fail
            go_roundg (x.ixs.length - (j + 1))
            case measure => exact Nat.sub_lt_sub_left HJT.out (Nat.lt_succ_self _)
            case rel => exact ⟨j + 1, by go_num, rfl, HJT.out, HF, rfl⟩
        · obtain rfl : j = x.ixs.length := by omega
          have HF : Hid (R = ixL s (l.drop (i + 1)) (i + 1)) := Lib.hid (by
            have e : Z = -1 := by rw [HJ.out, List.drop_length]; rfl
            rw [HI3.out, if_pos e])
          clear hjt hj
          go_wp2_with fail
          go_roundg (l.length - (i + 1))
          case measure => exact Nat.sub_lt_sub_left HLT.out (Nat.lt_succ_self _)
          case rel => exact ⟨i + 1, by go_num, rfl, HLT.out, HF, rfl⟩
    · obtain rfl : i = l.length := by omega
      have HF : Hid (R = (0, 0, false)) := Lib.hid (by rw [HI.out, List.drop_length]; rfl)
      clear hlt hi
      go_wp2_with fail
      go_ret3
      exact ⟨by rw [HF.out]; rfl, rfl⟩
end Go.Proofs.YtjgkeillmelkoaaGreat.Dt
namespace Go.Proofs.YtjgkeillmelkoaaGreat.Dt
open Go.RowKit Go.Proofs.YtjgkeillmelkoaaGreat.By

theorem slR_take {α : Type} {size : Nat} {R : World → List Value → α → Prop} {w : World} {a : Option Addr} {n c i : Nat} {l : List α} (h : SlR size R w (.slice a n c) l) (hi : i ≤ l.length) : SlR size R w (.slice a i c) (l.take i) := by
  obtain ⟨cs, ⟨a', c', e, hc, h1⟩, hl, h2⟩ := h
  simp only [Value.slice.injEq] at e
  obtain ⟨rfl, _, rfl⟩ := e
  have e1 : (cs.take i).length = i := by rw [List.length_take]; omega
  refine ⟨cs.take i, ⟨a, c, by rw [e1], by rw [e1]; omega, fun j x hj => ?_⟩, by rw [e1, List.length_take]; omega, fun j c' x hj hx => ?_⟩
  · rw [List.getElem?_take] at hj
    split at hj
    · exact h1 j x hj
    · cases hj
  · rw [List.getElem?_take] at hj hx
    split at hj
    · rename_i hlt
      rw [if_pos hlt] at hx
      exact h2 j c' x hj hx
    · cases hj
set_option maxRecDepth 100000 in
set_option maxHeartbeats 8000000 in
theorem placesT (l : List Int) (n : Nat) (a ca ka ia : Option Addr) (c cc kn kc inn ic : Nat) (nm : ByteArray) (w : World) (h1 : 1 ≤ l.length) (h2 : l.length ≤ 16) (h3 : ∀ (i : Nat) (x : Int), l[i]? = some x → 0 ≤ x ∧ x < (n : Int) ∧ ((l.take i).any fun y => y == x) = false)
    (h : IntsR w (.slice a l.length c) l) :
    Calls Tryz.prog 68 #[.agg #[.string nm, .slice ca n cc, .slice ka kn kc, .slice ia inn ic], .slice a l.length c] w fun e w' => e = .returned (.bool true) ∧ Below w.heap.size w w' := by
  have HBB : Hid (Below w.heap.size w (w.alloc (.cells #[.string nm, .slice ca n cc, .slice ka kn kc, .slice ia inn ic] 59))) := Lib.hid ((Below.refl _ _).alloc (Nat.le_refl _) _)
  have HX := Lib.hid (row_alloc w 59 #[.string nm, .slice ca n cc, .slice ka kn kc, .slice ia inn ic])
  have H := Lib.hid (intsR_below h HBB.out)
  have H3 := Lib.hid h3
  have HC : Hid (l.length ≤ c) := Lib.hid (by obtain ⟨_, _, e, hc⟩ := h.shape; cases e; exact hc)
  have i1 : (1 : Int) ≤ (l.length : Int) := by omega
  have i16 : (l.length : Int) ≤ 16 := by omega
  have H2 := Lib.hid h2
  clear h h3 h1 h2
  go_enter Tryz.func68, Tryz.ntmps68
  go_upto_region 1 with fail
  generalize w.alloc (.cells #[.string nm, .slice ca n cc, .slice ka kn kc, .slice ia inn ic] 59) = w1 at *
  go_wp2_with fail
  go_loopg [5, 6] l.length (fun gk ov iv wr => ∃ i : Nat, ov = .bool true ∧ iv = .int .i64 (i : Int) ∧ gk = l.length - i ∧ i ≤ l.length ∧ Hid (Below w.heap.size w wr) ∧ Hid (Row w.heap.size 59 #[.string nm, .slice ca n cc, .slice ka kn kc, .slice ia inn ic] wr) ∧ Hid (IntsR wr (.slice a l.length c) l))
  case atStart => exact ⟨0, rfl, rfl, rfl, Nat.zero_le _, HBB, HX, H⟩
  case round =>
    obtain ⟨i, rfl, rfl, rfl, hi, HB, HR, HI⟩ := hrel
    by_cases hlt : i < l.length
    · obtain ⟨x, hx⟩ : ∃ x, l[i]? = some x := ⟨l[i], by simp⟩
      have htk := slR_take HI.out hi
      obtain ⟨b, o, rfl, c0⟩ := int_at HI.out hx
      obtain ⟨hx0, hxn, hxa⟩ := H3.out i x hx
      have ilt : (i : Int) < (l.length : Int) := by omega
      have ige : (0 : Int) ≤ (i : Int) := by omega
      have icc : (i : Int) ≤ (c : Int) := by have := HC.out; omega
      have HLT := Lib.hid hlt
      have i3 : wrap64 ((i : Int) + 1) = ((i + 1 : Nat) : Int) := by have := H2.out; unfold wrap64; omega
      have etk : (l.take i).length = i := by rw [List.length_take]; omega
      have HHAS : Hid (∀ W : World, Below wr.heap.size wr W → Calls Tryz.prog 69 #[.slice (some ⟨b, o, none⟩) i c, .int .i64 x] W fun e w' => e = .returned (.bool false) ∧ Below W.heap.size W w') := Lib.hid fun W hW => by
        have hh := hasW (l.take i) (some ⟨b, o, none⟩) c x W (by rw [etk]; have := H2.out; omega) (by rw [etk]; exact intsR_below htk hW)
        rw [etk, hxa] at hh
        exact hh.mono fun e w' ⟨h1, h2⟩ => ⟨h1, h2 ▸ Below.refl _ _⟩
      have c1 := HR.out.cell (i := 1) (v := .slice ca n cc) rfl
      have l0 := lat_cell c0
      have l1 := lat_cell c1
      clear hx hlt c0 c1 htk hxa etk
      go_upto_region 5 with fail
      refine wp_region_later (by kernel_rfl) (by kernel_rfl) ?_
      repeat (go_big_quiet_step (exact lat_calls (HHAS.out _ (lat_below _ _))))
      refine wpQuiet_nil ?_
      refine later_out (fun w4 hb4 => ?_)
      have HB4 := Lib.hid (next HB.out hb4)
      have HR4 := Lib.hid (HR.out.later hb4)
      have HI4 := Lib.hid (intsR_below HI.out hb4)
      clear l0 l1 hb4 HHAS
      go_wp2_with fail
      go_roundg (l.length - (i + 1))
      case measure => exact Nat.sub_lt_sub_left HLT.out (Nat.lt_succ_self _)
      case rel => exact ⟨i + 1, rfl, by go_num, rfl, HLT.out, HB4, HR4, HI4⟩
    · obtain rfl : i = l.length := by omega
      clear hlt hi
      go_wp2_with fail
      go_ret
      exact ⟨rfl, HB.out⟩
end Go.Proofs.YtjgkeillmelkoaaGreat.Dt
namespace Go.Proofs.YtjgkeillmelkoaaGreat.Dt
open Go.RowKit Go.Proofs.YtjgkeillmelkoaaGreat.By

theorem flat_at {size : Nat} : ∀ (l : List (List Value)) (i : Nat) (x : List Value) (j : Nat) (v : Value), (∀ c ∈ l, c.length = size) → l[i]? = some x → x[j]? = some v → l.flatten[i * size + j]? = some v
  | [], i, x, j, v, _, h, _ => by simp at h
  | c :: l, i, x, j, v, h8, hx, hj => by
    have hc8 : c.length = size := h8 c (by simp)
    rcases i with _ | i
    · simp at hx; subst hx
      have : j < size := by rw [← hc8]; exact (List.getElem?_eq_some_iff.1 hj).1
      simp only [List.flatten_cons]
      rw [List.getElem?_append_left (by omega), Nat.zero_mul, Nat.zero_add]
      exact hj
    · simp only [List.flatten_cons]
      have e : (i + 1) * size = i * size + size := Nat.succ_mul i size
      rw [List.getElem?_append_right (by omega), show (i + 1) * size + j - c.length = i * size + j by omega]
      exact flat_at l i x j v (fun c hc => h8 c (by simp [hc])) (by simpa using hx) hj
/-- A row that a block of its own holds. -/
theorem slR_mk {α : Type} {size : Nat} {R : World → List Value → α → Prop} {S : Nat → Prop} {g : Nat} {w : World} {t : TypeId} (css : List (List Value)) (xs : List α) (hr : Row g t css.flatten.toArray w) (hg : S g) (hl : css.length = xs.length) (hsz : ∀ c ∈ css, c.length = size)
    (hx : ∀ (i : Nat) (c : List Value) (x : α), css[i]? = some c → xs[i]? = some x → Dep S w fun u => R u c x) : Dep S w fun u => SlR size R u (.slice (some ⟨g, 0, none⟩) xs.length xs.length) xs := by
  intro u hu
  have hru : Row g t css.flatten.toArray u := (hu g hg hr.lt).trans hr
  refine ⟨css, ⟨_, _, by rw [hl], by rw [hl]; exact Nat.le_refl _, fun i x hi => ⟨g, 0, rfl, fun j v hj => hru.cell ?_⟩⟩, hl, fun i c x hc hxi => ⟨hsz c (List.mem_of_getElem? hc), hx i c x hc hxi u hu⟩⟩
  rw [Nat.zero_add]
  simpa using flat_at css i x j v hsz hi hj
/-- The catalog of the document's examples. -/
def smallT : PTb := { name := ⟨#[116]⟩, cols := [{ name := ⟨#[97]⟩, ty := 1, nn := true }, { name := ⟨#[98]⟩, ty := 1, nn := true }, { name := ⟨#[99]⟩, ty := 1, nn := false }], key := [0, 1], ixs := [{ name := ⟨#[105]⟩, cols := [2], uniq := false }] }
abbrev smC0 : Array Value := #[.string ⟨#[97]⟩, .int .u8 1, .bool true, .string ⟨#[98]⟩, .int .u8 1, .bool true, .string ⟨#[99]⟩, .int .u8 1, .bool false]
abbrev smC4 (n : Nat) : Array Value := #[.string ⟨#[116]⟩, .slice (some ⟨n, 0, none⟩) 3 3, .slice (some ⟨n + 1, 0, none⟩) 2 2, .slice (some ⟨n + 1 + 1 + 1, 0, none⟩) 1 1]
theorem small_rows (w W : World) (h : W = ((((w.alloc (.cells smC0 76)).alloc (.cells #[.int .i64 0, .int .i64 1] 3)).alloc (.cells #[.int .i64 2] 3)).alloc (.cells #[.string ⟨#[105]⟩, .slice (some ⟨w.heap.size + 1 + 1, 0, none⟩) 1 1, .bool false] 67)).alloc (.cells (smC4 w.heap.size) 59)) :
    New w.heap.size W fun u => CatR u (.slice (some ⟨w.heap.size + 1 + 1 + 1 + 1, 0, none⟩) 1 1) [smallT] := by
  have a1 : ∀ (w : World) (o : Obj), Below w.heap.size w (w.alloc o) := fun w o => (Below.refl _ w).alloc (Nat.le_refl _) o
  have r0 : Row (w.heap.size) 76 smC0 W := by
    rw [h]
    have e := (((((row_alloc w 76 smC0).later (a1 (w.alloc (.cells smC0 76)) (.cells #[.int .i64 0, .int .i64 1] 3))).later (a1 ((w.alloc (.cells smC0 76)).alloc (.cells #[.int .i64 0, .int .i64 1] 3)) (.cells #[.int .i64 2] 3))).later (a1 (((w.alloc (.cells smC0 76)).alloc (.cells #[.int .i64 0, .int .i64 1] 3)).alloc (.cells #[.int .i64 2] 3)) (.cells #[.string ⟨#[105]⟩, .slice (some ⟨w.heap.size + 1 + 1, 0, none⟩) 1 1, .bool false] 67))).later (a1 ((((w.alloc (.cells smC0 76)).alloc (.cells #[.int .i64 0, .int .i64 1] 3)).alloc (.cells #[.int .i64 2] 3)).alloc (.cells #[.string ⟨#[105]⟩, .slice (some ⟨w.heap.size + 1 + 1, 0, none⟩) 1 1, .bool false] 67)) (.cells (smC4 w.heap.size) 59)))
    exact e
  have r1 : Row (w.heap.size + 1) 3 #[.int .i64 0, .int .i64 1] W := by
    rw [h]
    have e := ((((row_alloc (w.alloc (.cells smC0 76)) 3 #[.int .i64 0, .int .i64 1]).later (a1 ((w.alloc (.cells smC0 76)).alloc (.cells #[.int .i64 0, .int .i64 1] 3)) (.cells #[.int .i64 2] 3))).later (a1 (((w.alloc (.cells smC0 76)).alloc (.cells #[.int .i64 0, .int .i64 1] 3)).alloc (.cells #[.int .i64 2] 3)) (.cells #[.string ⟨#[105]⟩, .slice (some ⟨w.heap.size + 1 + 1, 0, none⟩) 1 1, .bool false] 67))).later (a1 ((((w.alloc (.cells smC0 76)).alloc (.cells #[.int .i64 0, .int .i64 1] 3)).alloc (.cells #[.int .i64 2] 3)).alloc (.cells #[.string ⟨#[105]⟩, .slice (some ⟨w.heap.size + 1 + 1, 0, none⟩) 1 1, .bool false] 67)) (.cells (smC4 w.heap.size) 59)))
    rw [show (w.alloc (.cells smC0 76)).heap.size = w.heap.size + 1 by simp] at e
    exact e
  have r2 : Row (w.heap.size + 1 + 1) 3 #[.int .i64 2] W := by
    rw [h]
    have e := (((row_alloc ((w.alloc (.cells smC0 76)).alloc (.cells #[.int .i64 0, .int .i64 1] 3)) 3 #[.int .i64 2]).later (a1 (((w.alloc (.cells smC0 76)).alloc (.cells #[.int .i64 0, .int .i64 1] 3)).alloc (.cells #[.int .i64 2] 3)) (.cells #[.string ⟨#[105]⟩, .slice (some ⟨w.heap.size + 1 + 1, 0, none⟩) 1 1, .bool false] 67))).later (a1 ((((w.alloc (.cells smC0 76)).alloc (.cells #[.int .i64 0, .int .i64 1] 3)).alloc (.cells #[.int .i64 2] 3)).alloc (.cells #[.string ⟨#[105]⟩, .slice (some ⟨w.heap.size + 1 + 1, 0, none⟩) 1 1, .bool false] 67)) (.cells (smC4 w.heap.size) 59)))
    rw [show ((w.alloc (.cells smC0 76)).alloc (.cells #[.int .i64 0, .int .i64 1] 3)).heap.size = w.heap.size + 1 + 1 by simp] at e
    exact e
  have r3 : Row (w.heap.size + 1 + 1 + 1) 67 #[.string ⟨#[105]⟩, .slice (some ⟨w.heap.size + 1 + 1, 0, none⟩) 1 1, .bool false] W := by
    rw [h]
    have e := ((row_alloc (((w.alloc (.cells smC0 76)).alloc (.cells #[.int .i64 0, .int .i64 1] 3)).alloc (.cells #[.int .i64 2] 3)) 67 #[.string ⟨#[105]⟩, .slice (some ⟨w.heap.size + 1 + 1, 0, none⟩) 1 1, .bool false]).later (a1 ((((w.alloc (.cells smC0 76)).alloc (.cells #[.int .i64 0, .int .i64 1] 3)).alloc (.cells #[.int .i64 2] 3)).alloc (.cells #[.string ⟨#[105]⟩, .slice (some ⟨w.heap.size + 1 + 1, 0, none⟩) 1 1, .bool false] 67)) (.cells (smC4 w.heap.size) 59)))
    rw [show (((w.alloc (.cells smC0 76)).alloc (.cells #[.int .i64 0, .int .i64 1] 3)).alloc (.cells #[.int .i64 2] 3)).heap.size = w.heap.size + 1 + 1 + 1 by simp] at e
    exact e
  have r4 : Row (w.heap.size + 1 + 1 + 1 + 1) 59 (smC4 w.heap.size) W := by
    rw [h]
    have e := (row_alloc ((((w.alloc (.cells smC0 76)).alloc (.cells #[.int .i64 0, .int .i64 1] 3)).alloc (.cells #[.int .i64 2] 3)).alloc (.cells #[.string ⟨#[105]⟩, .slice (some ⟨w.heap.size + 1 + 1, 0, none⟩) 1 1, .bool false] 67)) 59 (smC4 w.heap.size))
    rw [show ((((w.alloc (.cells smC0 76)).alloc (.cells #[.int .i64 0, .int .i64 1] 3)).alloc (.cells #[.int .i64 2] 3)).alloc (.cells #[.string ⟨#[105]⟩, .slice (some ⟨w.heap.size + 1 + 1, 0, none⟩) 1 1, .bool false] 67)).heap.size = w.heap.size + 1 + 1 + 1 + 1 by simp] at e
    exact e
  clear h
  have d0 := slR_mk (S := fun b => w.heap.size ≤ b) (R := ColR) (size := 3) [[.string ⟨#[97]⟩, .int .u8 1, .bool true], [.string ⟨#[98]⟩, .int .u8 1, .bool true], [.string ⟨#[99]⟩, .int .u8 1, .bool false]] smallT.cols r0 (Nat.le_refl _) rfl (by simp) (fun i c x hc hx => by
    match i, hc, hx with
    | 0, hc, hx => cases hc; cases hx; exact Dep.const rfl
    | 1, hc, hx => cases hc; cases hx; exact Dep.const rfl
    | 2, hc, hx => cases hc; cases hx; exact Dep.const rfl
    | n + 3, hc, _ => cases hc)
  have d1 := slR_mk (S := fun b => w.heap.size ≤ b) (R := IntR) (size := 1) [[.int .i64 0], [.int .i64 1]] smallT.key r1 (by omega) rfl (by simp) (fun i c x hc hx => by
    match i, hc, hx with
    | 0, hc, hx => cases hc; cases hx; exact Dep.const rfl
    | 1, hc, hx => cases hc; cases hx; exact Dep.const rfl
    | n + 2, hc, _ => cases hc)
  have d2 := slR_mk (S := fun b => w.heap.size ≤ b) (R := IntR) (size := 1) [[.int .i64 2]] [(2 : Int)] r2 (by omega) rfl (by simp) (fun i c x hc hx => by
    match i, hc, hx with
    | 0, hc, hx => cases hc; cases hx; exact Dep.const rfl
    | n + 1, hc, _ => cases hc)
  have d3 := slR_mk (S := fun b => w.heap.size ≤ b) (R := IxR) (size := 3) [[.string ⟨#[105]⟩, .slice (some ⟨w.heap.size + 1 + 1, 0, none⟩) 1 1, .bool false]] smallT.ixs r3 (by omega) rfl (by simp) (fun i c x hc hx => by
    match i, hc, hx with
    | 0, hc, hx => cases hc; cases hx; exact d2.imp fun u h => ⟨_, rfl, h⟩
    | n + 1, hc, _ => cases hc)
  exact slR_mk (S := fun b => w.heap.size ≤ b) (R := TbR) (size := 4) [(smC4 w.heap.size).toList] [smallT] r4 (by omega) rfl (by simp) (fun i c x hc hx => by
    match i, hc, hx with
    | 0, hc, hx => cases hc; cases hx; exact fun u hu => ⟨_, _, _, rfl, d0 u hu, d1 u hu, d3 u hu⟩
    | n + 1, hc, _ => cases hc)
set_option maxRecDepth 100000 in
set_option maxHeartbeats 8000000 in
theorem smallL (w : World) : Calls Tryz.prog 7 #[] w fun e w' => ∃ v, e = .returned v ∧ New w.heap.size w' (fun u => CatR u v [smallT]) ∧ Below w.heap.size w w' := by
  go_enter Tryz.func7, Tryz.ntmps7
  go_wp2_with fail
  go_ret
  refine ⟨_, rfl, ?_, ?_⟩
  · refine small_rows w _ rfl
  · refine ((((Below.refl _ w).alloc (Nat.le_refl _) _).alloc (by simp) _).alloc (by simp; omega) _).alloc (by simp; omega) _ |>.alloc (by simp; omega) _
end Go.Proofs.YtjgkeillmelkoaaGreat.Dt
