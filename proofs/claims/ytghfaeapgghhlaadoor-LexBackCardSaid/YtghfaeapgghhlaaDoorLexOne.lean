/-
  The walk of lex.one: a token as it is written.
-/
import Derived.Test.YtghfaeapgghhlaaDoorLexFmt
import Derived.Test.YtghfaeapgghhlaaDoorLexPlain
import Derived.Test.YtghfaeapgghhlaaDoorKipT
import Derived.Test.YtghfaeapgghhlaaDoorKNumE
import Derived.Test.YtghfaeapgghhlaaDoorOwnX
import Derived.Deep.DeepCutAuto
import Derived.Laws.Bits64
import Derived.Laws.Concat
namespace Go.Proofs.YtghfaeapgghhlaaDoor.Dt
open Go.RowKit Go.Proofs.YtghfaeapgghhlaaDoor.By

def OneKn (ao : Option Addr) (L : List UInt8) (co : Nat) (c : UInt8) : Nat → Value → World → Prop
  | 0, v, _ => v = .slice ao L.length co
  | 1, v, _ => v = .int .u8 (c.toNat : Int)
  | 2, v, _ => v = .int .u8 ((c.toNat / 16 : Nat) : Int)
  | 3, v, _ => v = byte (hexC (c.toNat / 16))
  | 4, v, _ => v = .int .u8 (c.toNat : Int)
  | 5, v, _ => v = .int .u8 ((c.toNat % 16 : Nat) : Int)
  | 6, v, _ => v = byte (hexC (c.toNat % 16))
  | 7, v, w => ∃ b, v = .slice (some ⟨b, 0, none⟩) 2 2 ∧ w.cell? ⟨b, 0, none⟩ = some (byte (hexC (c.toNat / 16))) ∧ w.cell? ⟨b, 1, none⟩ = some (byte (hexC (c.toNat % 16)))
  | _, _, _ => True
theorem OneKn.later {ao : Option Addr} {L : List UInt8} {co : Nat} {c : UInt8} : ∀ (j : Nat) (v : Value) (w1 w2 : World), OneKn ao L co c j v w1 → Below w1.heap.size w1 w2 → OneKn ao L co c j v w2
  | 0, _, _, _, h, _ => h
  | 1, _, _, _, h, _ => h
  | 2, _, _, _, h, _ => h
  | 3, _, _, _, h, _ => h
  | 4, _, _, _, h, _ => h
  | 5, _, _, _, h, _ => h
  | 6, _, _, _, h, _ => h
  | 7, _, _, _, ⟨b, h0, c0, c1⟩, hb => ⟨b, h0, (hb.cell (cell_lt c0)).trans c0, (hb.cell (cell_lt c1)).trans c1⟩
  | _ + 8, _, _, _, h, _ => h
theorem hexL_app1 : ∀ l m, hexL (l ++ m) = hexL l ++ hexL m
  | [], _ => rfl
  | c :: l, m => by simp only [List.cons_append, hexL, hexL_app1 l m]
theorem hexL_snoc1 (s : ByteArray) {k : Nat} (h : k < s.size) : hexL (s.data.toList.take (k + 1)) = hexL (s.data.toList.take k) ++ [hexC (s[k].toNat / 16), hexC (s[k].toNat % 16)] := by
  rw [List.take_succ_eq_append_getElem (by simpa using h), hexL_app1]; rfl
theorem and15b (c : UInt8) : bits BinOp.and IntKind.u8 (c.toNat : Int) 15 = (c.toNat : Int) % 16 := by
  have h : ∀ k : Fin 256, bits BinOp.and IntKind.u8 ((k.val : Nat) : Int) 15 = ((k.val : Nat) : Int) % 16 := by decide +kernel
  exact h ⟨c.toNat, c.toNat_lt⟩
theorem hex_digit1 : ∀ k : Fin 16, (⟨#[48, 49, 50, 51, 52, 53, 54, 55, 56, 57, 97, 98, 99, 100, 101, 102]⟩ : ByteArray)[k.val]'(k.isLt) = hexC k.val := by decide +kernel
theorem hex_at1 (x : Int) (n : Nat) (e : x = (n : Int)) (h : n < 16) (hx : x.toNat < 16) (W : World) :
    ((Result.ok (Value.int .u8 (((⟨#[48, 49, 50, 51, 52, 53, 54, 55, 56, 57, 97, 98, 99, 100, 101, 102]⟩ : ByteArray)[x.toNat]'hx).toNat : Int)) W).andThen fun a w' => Result.ok (Next.value a) w') = Result.ok (Next.value (byte (hexC n))) W := by
  subst e
  have := hex_digit1 ⟨n, h⟩
  simp only [Result.andThen, Int.toNat_natCast] at this ⊢
  rw [this]
set_option maxRecDepth 100000 in
set_option maxHeartbeats 16000000 in
theorem lexOneW (k n : Nat) (s : ByteArray) (a : Int) (w : World) (hw : LW w) (hn : n < 18446744073709551616) (hs : s.size ≤ 1000) :
    Calls Tryd.prog 55 #[.agg #[.int .u8 (k : Int), .string s, .int .u64 (n : Int), .int .i64 a]] w fun e w' => e = .returned (str (textT ⟨k, s, n, a⟩)) ∧ Below w.heap.size w w' := by
  have HW := Lib.hid hw
  have HS := Lib.hid hs
  clear hw hs
  by_cases hk : k = 1
  · subst hk
    go_enter Tryd.func55, Tryd.ntmps55
    go_upto_region 1 with fail
    have y0 : (w.alloc (.cells #[.int .u8 (1), .string s, .int .u64 (n : Int), .int .i64 a] 48)).cell? ⟨w.heap.size, 0, none⟩ = some (.int .u8 (1)) := by go_simp
    have y1 : (w.alloc (.cells #[.int .u8 (1), .string s, .int .u64 (n : Int), .int .i64 a] 48)).cell? ⟨w.heap.size, 1, none⟩ = some (.string s) := by go_simp
    have y2 : (w.alloc (.cells #[.int .u8 (1), .string s, .int .u64 (n : Int), .int .i64 a] 48)).cell? ⟨w.heap.size, 2, none⟩ = some (.int .u64 (n : Int)) := by go_simp
    have HB : Hid (Below w.heap.size w (w.alloc (.cells #[.int .u8 (1), .string s, .int .u64 (n : Int), .int .i64 a] 48))) := Lib.hid ((Below.refl _ _).alloc (Nat.le_refl _) _)
    have HW1 := Lib.hid (HW.out.later HB.out)
    generalize (w.alloc (.cells #[.int .u8 (1), .string s, .int .u64 (n : Int), .int .i64 a] 48)) = w1 at *
    go_wp2_with fail
    go_ret
    exact ⟨by rw [textT_w (.inl rfl)]; rfl, HB.out⟩
  by_cases hk2 : k = 2
  · have hk := hk2
    subst hk
    go_enter Tryd.func55, Tryd.ntmps55
    go_upto_region 1 with fail
    have y0 : (w.alloc (.cells #[.int .u8 (2), .string s, .int .u64 (n : Int), .int .i64 a] 48)).cell? ⟨w.heap.size, 0, none⟩ = some (.int .u8 (2)) := by go_simp
    have y1 : (w.alloc (.cells #[.int .u8 (2), .string s, .int .u64 (n : Int), .int .i64 a] 48)).cell? ⟨w.heap.size, 1, none⟩ = some (.string s) := by go_simp
    have y2 : (w.alloc (.cells #[.int .u8 (2), .string s, .int .u64 (n : Int), .int .i64 a] 48)).cell? ⟨w.heap.size, 2, none⟩ = some (.int .u64 (n : Int)) := by go_simp
    have HB : Hid (Below w.heap.size w (w.alloc (.cells #[.int .u8 (2), .string s, .int .u64 (n : Int), .int .i64 a] 48))) := Lib.hid ((Below.refl _ _).alloc (Nat.le_refl _) _)
    have HW1 := Lib.hid (HW.out.later HB.out)
    generalize (w.alloc (.cells #[.int .u8 (2), .string s, .int .u64 (n : Int), .int .i64 a] 48)) = w1 at *
    go_wp2_with fail
    go_ret
    exact ⟨by rw [textT_w (.inr (.inl rfl))]; rfl, HB.out⟩
  by_cases hk6 : k = 6
  · have hk := hk6
    subst hk
    go_enter Tryd.func55, Tryd.ntmps55
    go_upto_region 1 with fail
    have y0 : (w.alloc (.cells #[.int .u8 (6), .string s, .int .u64 (n : Int), .int .i64 a] 48)).cell? ⟨w.heap.size, 0, none⟩ = some (.int .u8 (6)) := by go_simp
    have y1 : (w.alloc (.cells #[.int .u8 (6), .string s, .int .u64 (n : Int), .int .i64 a] 48)).cell? ⟨w.heap.size, 1, none⟩ = some (.string s) := by go_simp
    have y2 : (w.alloc (.cells #[.int .u8 (6), .string s, .int .u64 (n : Int), .int .i64 a] 48)).cell? ⟨w.heap.size, 2, none⟩ = some (.int .u64 (n : Int)) := by go_simp
    have HB : Hid (Below w.heap.size w (w.alloc (.cells #[.int .u8 (6), .string s, .int .u64 (n : Int), .int .i64 a] 48))) := Lib.hid ((Below.refl _ _).alloc (Nat.le_refl _) _)
    have HW1 := Lib.hid (HW.out.later HB.out)
    generalize (w.alloc (.cells #[.int .u8 (6), .string s, .int .u64 (n : Int), .int .i64 a] 48)) = w1 at *
    go_wp2_with fail
    go_ret
    exact ⟨by rw [textT_w (.inr (.inr rfl))]; rfl, HB.out⟩
  by_cases hk3 : k = 3
  · have hk := hk3
    subst hk
    go_enter Tryd.func55, Tryd.ntmps55
    go_upto_region 1 with fail
    have y0 : (w.alloc (.cells #[.int .u8 (3), .string s, .int .u64 (n : Int), .int .i64 a] 48)).cell? ⟨w.heap.size, 0, none⟩ = some (.int .u8 (3)) := by go_simp
    have y1 : (w.alloc (.cells #[.int .u8 (3), .string s, .int .u64 (n : Int), .int .i64 a] 48)).cell? ⟨w.heap.size, 1, none⟩ = some (.string s) := by go_simp
    have y2 : (w.alloc (.cells #[.int .u8 (3), .string s, .int .u64 (n : Int), .int .i64 a] 48)).cell? ⟨w.heap.size, 2, none⟩ = some (.int .u64 (n : Int)) := by go_simp
    have HB : Hid (Below w.heap.size w (w.alloc (.cells #[.int .u8 (3), .string s, .int .u64 (n : Int), .int .i64 a] 48))) := Lib.hid ((Below.refl _ _).alloc (Nat.le_refl _) _)
    have HW1 := Lib.hid (HW.out.later HB.out)
    generalize (w.alloc (.cells #[.int .u8 (3), .string s, .int .u64 (n : Int), .int .i64 a] 48)) = w1 at *
    go_wp2_with fail
    refine (fmtUW n w1 HW1.out hn).mono ?_
    rintro e w2 ⟨rfl, hb2⟩
    go_wp2_with fail
    go_ret
    exact ⟨by rw [textT_3 rfl]; rfl, next HB.out hb2⟩
  by_cases hk4 : k = 4
  · have hk := hk4
    subst hk
    obtain ⟨q, hq⟩ : ∃ q, q = quoteL s.data.toList := ⟨_, rfl⟩
    have HQL : Hid (q.length ≤ 2000) := Lib.hid (by
      have h1 := quoteL_len s.data.toList
      have h2 := HS.out
      rw [bytes_list] at h1
      rw [hq]; omega)
    have HT : Hid (textT ⟨4, s, n, a⟩ = 39 :: (q ++ [39])) := Lib.hid (by rw [hq]; exact textT_4 rfl)
    have HQW : Hid (∀ W, MaxAt W → Calls Tryd.prog 44 #[.string s, .string ⟨#[39]⟩, .string ⟨#[39, 39]⟩] W fun e w' => e = .returned (.string ⟨q.toArray⟩) ∧ Below W.heap.size W w') := Lib.hid (fun W h => by rw [hq]; exact quoteW s W h (by have := HS.out; omega))
    have hc1 : ∀ W, (Op.stringOp .add ⟨#[39]⟩ ⟨q.toArray⟩).run Tryd.prog W = .ok (.string (⟨#[39]⟩ ++ ⟨q.toArray⟩)) W := fun W => run_string_add_sum (P := Tryd.prog) W _ _ (by have := HQL.out; show 1 + q.toArray.size ≤ _; simp; omega)
    have hc2 : ∀ W, (Op.stringOp .add (⟨#[39]⟩ ++ ⟨q.toArray⟩) ⟨#[39]⟩).run Tryd.prog W = .ok (.string ((⟨#[39]⟩ ++ ⟨q.toArray⟩) ++ ⟨#[39]⟩)) W := fun W => run_string_add_sum (P := Tryd.prog) W _ _ (by have := HQL.out; rw [ByteArray.size_append]; show 1 + q.toArray.size + 1 ≤ _; simp; omega)
    clear hq
    go_enter Tryd.func55, Tryd.ntmps55
    go_upto_region 1 with fail
    have y0 : (w.alloc (.cells #[.int .u8 (4), .string s, .int .u64 (n : Int), .int .i64 a] 48)).cell? ⟨w.heap.size, 0, none⟩ = some (.int .u8 (4)) := by go_simp
    have y1 : (w.alloc (.cells #[.int .u8 (4), .string s, .int .u64 (n : Int), .int .i64 a] 48)).cell? ⟨w.heap.size, 1, none⟩ = some (.string s) := by go_simp
    have y2 : (w.alloc (.cells #[.int .u8 (4), .string s, .int .u64 (n : Int), .int .i64 a] 48)).cell? ⟨w.heap.size, 2, none⟩ = some (.int .u64 (n : Int)) := by go_simp
    have HB : Hid (Below w.heap.size w (w.alloc (.cells #[.int .u8 (4), .string s, .int .u64 (n : Int), .int .i64 a] 48))) := Lib.hid ((Below.refl _ _).alloc (Nat.le_refl _) _)
    have HW1 := Lib.hid (HW.out.later HB.out)
    generalize (w.alloc (.cells #[.int .u8 (4), .string s, .int .u64 (n : Int), .int .i64 a] 48)) = w1 at *
    go_wp2_with fail
    refine (HQW.out w1 HW1.out.mx).mono ?_
    rintro e w2 ⟨rfl, hb2⟩
    go_wp2_with fail
    go_ret
    exact ⟨by rw [HT.out]; refine congrArg (fun x => Ending.returned (Value.string x)) (ByteArray.ext ?_); apply Array.toList_inj.1; simp [ByteArray.data_append], next HB.out hb2⟩
  by_cases hk5 : k = 5
  · have hk := hk5
    subst hk
    have HR : Hid (textT ⟨5, s, n, a⟩ = 120 :: 39 :: (hexL s.data.toList ++ [39])) := Lib.hid (textT_5 rfl)
    have hcv : ∀ W : World, (convert 9 55 (.string s)).run Tryd.prog W = .ok (.slice (some ⟨W.heap.size, 0, none⟩) s.size (grownCap W s.size 0 5)) (Lib.bytesWorld W 5 s) := fun W => Lib.run_convert_string_bytes W 9 55 5 s Tryd.underlying9 Tryd.underlying55 Tryd.underlying5
    go_enter Tryd.func55, Tryd.ntmps55
    go_upto_region 1 with fail
    have y0 : (w.alloc (.cells #[.int .u8 (5), .string s, .int .u64 (n : Int), .int .i64 a] 48)).cell? ⟨w.heap.size, 0, none⟩ = some (.int .u8 (5)) := by go_simp
    have y1 : (w.alloc (.cells #[.int .u8 (5), .string s, .int .u64 (n : Int), .int .i64 a] 48)).cell? ⟨w.heap.size, 1, none⟩ = some (.string s) := by go_simp
    have y2 : (w.alloc (.cells #[.int .u8 (5), .string s, .int .u64 (n : Int), .int .i64 a] 48)).cell? ⟨w.heap.size, 2, none⟩ = some (.int .u64 (n : Int)) := by go_simp
    have HB : Hid (Below w.heap.size w (w.alloc (.cells #[.int .u8 (5), .string s, .int .u64 (n : Int), .int .i64 a] 48))) := Lib.hid ((Below.refl _ _).alloc (Nat.le_refl _) _)
    have HW1 := Lib.hid (HW.out.later HB.out)
    generalize (w.alloc (.cells #[.int .u8 (5), .string s, .int .u64 (n : Int), .int .i64 a] 48)) = w1 at *
    have HB1 := HB
    have c2' := Lib.cell?_alloc_marked (.cells #[.int .u8 120, .int .u8 39] 5 (2, 3)) y1
    have kc := Lib.run_convert_bytes_const (P := Tryd.prog) w1 55 5 #[.int .u8 120, .int .u8 39] 2 2 Tryd.underlying55 Tryd.underlying5
    go_wp2_with fail
    have hb2 : Below w1.heap.size w1 (w1.alloc (.cells #[.int .u8 120, .int .u8 39] 5 (2, 3))) := (Below.refl _ _).alloc (Nat.le_refl _) _
    have hx0 : OwnX (w1.alloc (.cells #[.int .u8 120, .int .u8 39] 5 (2, 3))) (Lib.bytesWorld (w1.alloc (.cells #[.int .u8 120, .int .u8 39] 5 (2, 3))) 5 s).heap.size 5 (.slice (some ⟨w1.heap.size, 0, none⟩) 2 2) [120, 39] := .inr ⟨w1.heap.size, rfl, fun i hi => by
      rcases i with _ | _ | i
      · rw [World.cell?_alloc_mark]; rfl
      · rw [World.cell?_alloc_mark]; rfl
      · simp at hi; omega⟩
    have hb3 := Lib.bytesWorld_below (w1.alloc (.cells #[.int .u8 120, .int .u8 39] 5 (2, 3))) 5 s
    have hcl : ∀ i (hi : i < s.size), (Lib.bytesWorld (w1.alloc (.cells #[.int .u8 120, .int .u8 39] 5 (2, 3))) 5 s).cell? ⟨w1.heap.size + 1, i, none⟩ = some (.int .u8 ((s[i]).toNat : Int)) := fun i hi => by
      rw [show w1.heap.size + 1 = (w1.alloc (.cells #[.int .u8 120, .int .u8 39] 5 (2, 3))).heap.size by simp, Lib.bytesWorld_cell _ _ _ _ hi, List.getD_eq_getElem?_getD, List.getElem?_eq_getElem (by rw [bytes_list]; exact hi)]; rfl
    have HX := Lib.hid (hx0.below hb3)
    have HB3 := Lib.hid (next HB1.out (next hb2 hb3))
    have HCL := Lib.hid hcl
    clear hb2 hx0 hb3 hcl kc HB1
    clear y0 y1 y2 c2' hcv HB HW1
    generalize grownCap (w1.alloc (.cells #[.int .u8 120, .int .u8 39] 5 (2, 3))) s.size 0 5 = G
    generalize Lib.bytesWorld (w1.alloc (.cells #[.int .u8 120, .int .u8 39] 5 (2, 3))) 5 s = W3 at *
    generalize w1.heap.size + 1 = q at *
    go_loopg [3, 34] s.size (fun gk ov iv wr => ∃ (k : Nat) (L : List UInt8), iv = .int .i64 (k : Int) ∧ gk = s.size - k ∧ k ≤ s.size ∧ Hid (L = 120 :: 39 :: hexL (s.data.toList.take k)) ∧ Hid (OwnX wr W3.heap.size 5 ov L) ∧ Hid (Below w.heap.size w wr) ∧ Hid (Below W3.heap.size W3 wr))
    case atStart => exact ⟨0, [120, 39], rfl, rfl, Nat.zero_le _, Lib.hid rfl, HX, HB3, Lib.hid (Below.refl _ _)⟩
    case round =>
      obtain ⟨k, L, rfl, rfl, hk, HL, HOWN, HBW, HBQ⟩ := hrel
      obtain ⟨ao, co, rfl⟩ := HOWN.out.shape
      have HLEN : Hid (L.length = 2 * k + 2) := Lib.hid (by rw [HL.out, List.length_cons, List.length_cons, hexL_length, List.length_take, bytes_list]; omega)
      by_cases hlt : k < s.size
      · have ilt : (k : Int) < (s.size : Int) := by omega
        have HKK : Hid (wrap64 ((k : Int) + 1) = ((k + 1 : Nat) : Int)) := Lib.hid (by have := HS.out; unfold wrap64; omega)
        obtain ⟨c, hc⟩ : ∃ c, c = s[k] := ⟨_, rfl⟩
        have hcell : wr.cell? ⟨q, k, none⟩ = some (.int .u8 (c.toNat : Int)) := by rw [hc]; exact (HBQ.out.cell (cell_lt (HCL.out k hlt))).trans (HCL.out k hlt)
        have HNX : Hid (L ++ [hexC (c.toNat / 16), hexC (c.toNat % 16)] = 120 :: 39 :: hexL (s.data.toList.take (k + 1))) := Lib.hid (by
          rw [HL.out, hc, hexL_snoc1 s hlt]; rfl)
        have HLT := Lib.hid hlt
        clear hlt hc hk
        go_upto_region 15 with fail
        refine wp_region_kipt 8 (OneKn ao L co c) 52 (by simp) (by kernel_rfl) (by kernel_rfl) OneKn.later ?_ ?_
        · intro i hi A W hother hbW hd
          match i, hi with
            | 0, hi =>
              have h3 := tmps_at (show A.eval (.tmp 3) = .slice ao L.length co from hother 3 (by kernel_rfl))
              clear hother hd hi
              exact kip_same rfl (wanted_none rfl) (.slice ao L.length co) (by simp only [execOp]; go_simp) rfl
            | 1, hi =>
              have h5 := tmps_at (show A.eval (.tmp 5) = .int .u8 (c.toNat : Int) from hother 5 (by kernel_rfl))
              clear hother hd hi
              exact kip_same rfl (wanted_none rfl) (.int .u8 (c.toNat : Int)) (by simp only [execOp]; go_simp) rfl
            | 2, hi =>
              have h39 := tmps_at ((hd _ rfl ⟨1, .data⟩ (by simp) rfl).eq (.int .u8 (c.toNat : Int)) (fun _ h => h) 39 (by kernel_rfl) (by decide))
              clear hother hd hi
              exact kip_same rfl (wanted_none rfl) (.int .u8 ((c.toNat / 16 : Nat) : Int)) (by simp only [execOp]; go_simp) rfl
            | 3, hi =>
              have h40 := tmps_at ((hd _ rfl ⟨2, .data⟩ (by simp) rfl).eq (.int .u8 ((c.toNat / 16 : Nat) : Int)) (fun _ h => h) 40 (by kernel_rfl) (by decide))
              have hl := c.toNat_lt
              clear hother hd hi
              exact kip_same rfl (wanted_none rfl) (byte (hexC (c.toNat / 16))) (by simp only [execOp]; go_simp; rw [dif_pos (show 0 ≤ (c.toNat : Int) / 16 ∧ (c.toNat : Int) / 16 < 16 by omega)]; exact hex_at1 _ _ (by omega) (by omega) (by omega) _) rfl
            | 4, hi =>
              have h5 := tmps_at (show A.eval (.tmp 5) = .int .u8 (c.toNat : Int) from hother 5 (by kernel_rfl))
              clear hother hd hi
              exact kip_same rfl (wanted_none rfl) (.int .u8 (c.toNat : Int)) (by simp only [execOp]; go_simp) rfl
            | 5, hi =>
              have h42 := tmps_at ((hd _ rfl ⟨4, .data⟩ (by simp) rfl).eq (.int .u8 (c.toNat : Int)) (fun _ h => h) 42 (by kernel_rfl) (by decide))
              have h16 := and15b c
              clear hother hd hi
              exact kip_same rfl (wanted_none rfl) (.int .u8 ((c.toNat % 16 : Nat) : Int)) (by simp only [execOp]; go_simp) rfl
            | 6, hi =>
              have h43 := tmps_at ((hd _ rfl ⟨5, .data⟩ (by simp) rfl).eq (.int .u8 ((c.toNat % 16 : Nat) : Int)) (fun _ h => h) 43 (by kernel_rfl) (by decide))
              clear hother hd hi
              exact kip_same rfl (wanted_none rfl) (byte (hexC (c.toNat % 16))) (by simp only [execOp]; go_simp; rw [dif_pos (show 0 ≤ (c.toNat : Int) % 16 ∧ (c.toNat : Int) % 16 < 16 by omega)]; exact hex_at1 _ _ (by omega) (by omega) (by omega) _) rfl
            | 7, hi =>
              have h41 := tmps_at ((hd _ rfl ⟨3, .data⟩ (by simp) rfl).eq (byte (hexC (c.toNat / 16))) (fun _ h => h) 41 (by kernel_rfl) (by decide))
              have h44 := tmps_at ((hd _ rfl ⟨6, .data⟩ (by simp) rfl).eq (byte (hexC (c.toNat % 16))) (fun _ h => h) 44 (by kernel_rfl) (by decide))
              clear hother hd hi
              exact kip_val rfl (wanted_none rfl) (.slice (some ⟨W.heap.size, 0, none⟩) 2 2) (W.alloc (.cells #[byte (hexC (c.toNat / 16)), byte (hexC (c.toNat % 16))] 5)) (by simp only [execOp]; go_simp) ((Below.refl _ _).alloc (Nat.le_refl _) _) ⟨_, rfl, by go_simp, by go_simp⟩
            | n + 8, hi => omega

        · intro us W hbW hk
          have h0 : us 0 = .slice ao L.length co := hk 0 (by decide)
          obtain ⟨b, h7, c0, c1⟩ : ∃ b, us 7 = .slice (some ⟨b, 0, none⟩) 2 2 ∧ W.cell? ⟨b, 0, none⟩ = some (byte (hexC (c.toNat / 16))) ∧ W.cell? ⟨b, 1, none⟩ = some (byte (hexC (c.toNat % 16))) := hk 7 (by decide)
          have HO2 := Lib.hid (HOWN.out.below hbW)
          have HBW2 := Lib.hid (next HBW.out hbW)
          have HBQ2 := Lib.hid (next HBQ.out hbW)
          clear hk hbW HOWN HBW HBQ
          simp only [putAll, dstOf, List.getElem?_toArray, List.getElem?_cons_zero, List.getElem?_cons_succ, Option.bind_some, Act.put, h0, h7, List.drop_succ_cons, List.drop_zero]
          simp only [List.setIfInBounds_toArray, List.set_cons_zero, List.set_cons_succ]
          refine wpList_append_x rfl (.tmp 38) (.tmp 45) 55 rfl W3.heap.size 5 Num.elem_u8 _ L rfl HO2.out _ [hexC (c.toNat / 16), hexC (c.toNat % 16)] rfl (reads_cells b [hexC (c.toNat / 16), hexC (c.toNat % 16)] (fun i hi => by
            rcases i with _ | _ | i
            · exact c0
            · exact c1
            · simp at hi; omega)) (by simp) (by have := HLEN.out; have := HS.out; have := HLT.out; simp; omega) HBQ2.out.size ?_
          intro v' w4 hown hbel
          have HO4 : Hid (OwnX w4 W3.heap.size 5 v' (L ++ [hexC (c.toNat / 16), hexC (c.toNat % 16)])) := Lib.hid (.inl hown)
          have HBW4 := Lib.hid (HBW2.out.trans (hbel.mono HB3.out.size))
          have HBQ4 := Lib.hid (HBQ2.out.trans hbel)
          clear hown hbel c0 c1 h0 h7 HO2 HBW2 HBQ2
          go_wp2_with fail
          go_roundg (s.size - (k + 1))
          case measure => exact Nat.sub_lt_sub_left HLT.out (Nat.lt_succ_self _)
          case rel => exact ⟨k + 1, _, by first | exact congrArg (Value.int .i64) HKK.out | (simp; exact HKK.out), rfl, HLT.out, HNX, HO4, HBW4, HBQ4⟩
      · have ilt : ¬ (k : Int) < (s.size : Int) := by omega
        have hfull : L ++ [39] = 120 :: 39 :: (hexL s.data.toList ++ [39]) := by
          rw [HL.out, List.take_of_length_le (by rw [bytes_list]; omega)]; rfl
        have HF := Lib.hid hfull
        have hl2 : L.length ≤ 2000002 := by have := HLEN.out; have := HS.out; omega
        clear hlt hk hfull
        have hA : Below wr.heap.size wr (wr.alloc (.cells #[.int .u8 39] 5)) := (Below.refl _ _).alloc (Nat.le_refl _) _
        have HA := Lib.hid hA
        have HOA := Lib.hid (HOWN.out.below hA)
        have HL2 := Lib.hid hl2
        clear hA hl2
        go_wp2_with (at_builtin; refine wpList_append_x rfl (.tmp 48) (.tmp 49) 55 rfl W3.heap.size 5 Num.elem_u8 _ L rfl HOA.out _ [39] rfl (reads_cells wr.heap.size [39] (fun i hi => by
            rcases i with _ | i
            · go_simp
            · simp at hi)) (by simp) (by have := HL2.out; simp; omega) (by have := HBQ.out.size; simp; omega) ?_; intro v' w4 hown hbel; have hcv2 := convX 55 5 9 Tryd.underlying55 Tryd.underlying5 Tryd.underlying9 (.inl hown); have HBEL := Lib.hid hbel; clear hown hbel)
        have HB9 := Lib.hid ((HBW.out.trans (HA.out.mono HBW.out.size)).trans (HBEL.out.mono HB3.out.size))
        refine bodyPost_ret (v := str (L ++ [39])) (by simp [results, Tryd.results55, go_sem]) rfl ⟨by rw [HR.out, HF.out], HB9.out⟩
  have f1 : ((k : Int) == 1) = false := by first | (simp; done) | (simp; omega)
  have f2 : ((k : Int) == 2) = false := by first | (simp; done) | (simp; omega)
  have f3 : ((k : Int) == 3) = false := by first | (simp; done) | (simp; omega)
  have f4 : ((k : Int) == 4) = false := by first | (simp; done) | (simp; omega)
  have f5 : ((k : Int) == 5) = false := by first | (simp; done) | (simp; omega)
  have f6 : ((k : Int) == 6) = false := by first | (simp; done) | (simp; omega)
  have H0 : Hid (textT ⟨k, s, n, a⟩ = []) := Lib.hid (textT_0 (by show k = 0 ∨ 6 < k; omega))
  clear hk hk2 hk3 hk4 hk5 hk6
  go_enter Tryd.func55, Tryd.ntmps55
  go_upto_region 1 with fail
  have y0 : (w.alloc (.cells #[.int .u8 ((k : Int)), .string s, .int .u64 (n : Int), .int .i64 a] 48)).cell? ⟨w.heap.size, 0, none⟩ = some (.int .u8 ((k : Int))) := by go_simp
  have y1 : (w.alloc (.cells #[.int .u8 ((k : Int)), .string s, .int .u64 (n : Int), .int .i64 a] 48)).cell? ⟨w.heap.size, 1, none⟩ = some (.string s) := by go_simp
  have y2 : (w.alloc (.cells #[.int .u8 ((k : Int)), .string s, .int .u64 (n : Int), .int .i64 a] 48)).cell? ⟨w.heap.size, 2, none⟩ = some (.int .u64 (n : Int)) := by go_simp
  have HB : Hid (Below w.heap.size w (w.alloc (.cells #[.int .u8 ((k : Int)), .string s, .int .u64 (n : Int), .int .i64 a] 48))) := Lib.hid ((Below.refl _ _).alloc (Nat.le_refl _) _)
  have HW1 := Lib.hid (HW.out.later HB.out)
  generalize (w.alloc (.cells #[.int .u8 ((k : Int)), .string s, .int .u64 (n : Int), .int .i64 a] 48)) = w1 at *
  go_wp2_with fail
  go_ret
  exact ⟨by rw [H0.out]; rfl, HB.out⟩
end Go.Proofs.YtghfaeapgghhlaaDoor.Dt
