/-
  The walk of value.Literal.
-/
import Derived.Test.YtghfaeapgghhlaaDoorValW
import Derived.Test.YtghfaeapgghhlaaDoorValueB
import Derived.Test.YtghfaeapgghhlaaDoorKipT
import Derived.Test.YtghfaeapgghhlaaDoorOrd0
import Derived.Test.YtghfaeapgghhlaaDoorKNumE
import Derived.Test.YtghfaeapgghhlaaDoorOwnX
import Derived.Deep.DeepCutAuto
import Derived.Laws.Bits64
import Derived.Laws.Concat
namespace Go.Proofs.YtghfaeapgghhlaaDoor.Dt
open Go.RowKit Go.Proofs.YtghfaeapgghhlaaDoor.By

def LitKn (ao : Option Addr) (L : List UInt8) (co : Nat) (c : UInt8) : Nat → Value → World → Prop
  | 0, v, _ => v = .slice ao L.length co
  | 1, v, _ => v = .int .u8 (c.toNat : Int)
  | 2, v, _ => v = .int .u8 ((c.toNat / 16 : Nat) : Int)
  | 3, v, _ => v = byte (hexC (c.toNat / 16))
  | 4, v, _ => v = .int .u8 (c.toNat : Int)
  | 5, v, _ => v = .int .u8 ((c.toNat % 16 : Nat) : Int)
  | 6, v, _ => v = byte (hexC (c.toNat % 16))
  | 7, v, w => ∃ b, v = .slice (some ⟨b, 0, none⟩) 2 2 ∧ w.cell? ⟨b, 0, none⟩ = some (byte (hexC (c.toNat / 16))) ∧ w.cell? ⟨b, 1, none⟩ = some (byte (hexC (c.toNat % 16)))
  | _, _, _ => True
theorem LitKn.later {ao : Option Addr} {L : List UInt8} {co : Nat} {c : UInt8} : ∀ (j : Nat) (v : Value) (w1 w2 : World), LitKn ao L co c j v w1 → Below w1.heap.size w1 w2 → LitKn ao L co c j v w2
  | 0, _, _, _, h, _ => h
  | 1, _, _, _, h, _ => h
  | 2, _, _, _, h, _ => h
  | 3, _, _, _, h, _ => h
  | 4, _, _, _, h, _ => h
  | 5, _, _, _, h, _ => h
  | 6, _, _, _, h, _ => h
  | 7, _, _, _, ⟨b, h0, c0, c1⟩, hb => ⟨b, h0, (hb.cell (cell_lt c0)).trans c0, (hb.cell (cell_lt c1)).trans c1⟩
  | _ + 8, _, _, _, h, _ => h
theorem hexL_app : ∀ l m, hexL (l ++ m) = hexL l ++ hexL m
  | [], _ => rfl
  | c :: l, m => by simp only [List.cons_append, hexL, hexL_app l m]
theorem hexL_snoc (s : ByteArray) {k : Nat} (h : k < s.size) : hexL (s.data.toList.take (k + 1)) = hexL (s.data.toList.take k) ++ [hexC (s[k].toNat / 16), hexC (s[k].toNat % 16)] := by
  rw [List.take_succ_eq_append_getElem (by simpa using h), hexL_app]; rfl
theorem and15 (c : UInt8) : bits BinOp.and IntKind.u8 (c.toNat : Int) 15 = (c.toNat : Int) % 16 := by
  have h : ∀ k : Fin 256, bits BinOp.and IntKind.u8 ((k.val : Nat) : Int) 15 = ((k.val : Nat) : Int) % 16 := by decide +kernel
  exact h ⟨c.toNat, c.toNat_lt⟩
theorem hex_digit : ∀ k : Fin 16, (⟨#[48, 49, 50, 51, 52, 53, 54, 55, 56, 57, 97, 98, 99, 100, 101, 102]⟩ : ByteArray)[k.val]'(k.isLt) = hexC k.val := by decide +kernel
theorem hex_at (x : Int) (n : Nat) (e : x = (n : Int)) (h : n < 16) (hx : x.toNat < 16) (W : World) :
    ((Result.ok (Value.int .u8 (((⟨#[48, 49, 50, 51, 52, 53, 54, 55, 56, 57, 97, 98, 99, 100, 101, 102]⟩ : ByteArray)[x.toNat]'hx).toNat : Int)) W).andThen fun a w' => Result.ok (Next.value a) w') = Result.ok (Next.value (byte (hexC n))) W := by
  subst e
  have := hex_digit ⟨n, h⟩
  simp only [Result.andThen, Int.toNat_natCast] at this ⊢
  rw [this]
set_option maxRecDepth 100000 in
set_option maxHeartbeats 8000000 in
theorem literalW (v : V) (w : World) (hw : LW w) (ho : v.ok) (hs : v.s.size ≤ 1000000) :
    Calls Tryd.prog 17 #[v.val] w fun e w' => e = .returned (str (litV v)) ∧ Below w.heap.size w w' := by
  have HW := Lib.hid hw
  have HCK : Hid (∀ W, Calls Tryd.prog 14 #[v.val] W fun e w' => e = .returned (.int .i64 (checkV v : Int)) ∧ Below W.heap.size W w') := Lib.hid (fun W => check v W ho.1 (by have := ho.2.2; omega))
  have HO := Lib.hid ho
  have HS := Lib.hid hs
  have hbel : Below w.heap.size w (w.alloc (.cells #[.int .u8 (v.k : Int), .int .i64 v.n, .string v.s] 27)) := (Below.refl _ _).alloc (Nat.le_refl _) _
  have HB0 := Lib.hid hbel
  clear hw ho hs hbel
  by_cases hc : checkV v = 0
  · have hk := kind_of hc
    rcases hk with ⟨h0, hn, hse⟩ | ⟨h1, hse⟩ | ⟨h23, hn, hse⟩
    · have HR : Hid (litV v = [78, 85, 76, 76]) := Lib.hid (by unfold litV; rw [if_neg (by simp [hc]), if_neg (by omega), if_neg (by omega), if_neg (by omega)])
      have e1 : ((v.k : Int) == 1) = false := by simp; omega
      have e2 : ((v.k : Int) == 2) = false := by simp; omega
      have e3 : ((v.k : Int) == 3) = false := by simp; omega
      rw [hc] at HCK
      clear hc h0 hn hse
      go_enter Tryd.func17, Tryd.ntmps17
      go_wp2_with fail
      refine (HCK.out _).mono ?_
      rintro e w1 ⟨rfl, hb1⟩
      obtain ⟨c0, c1, c2⟩ := cells_V w w1 v _ hb1
      have HB1 := Lib.hid (next HB0.out hb1)
      clear hb1
      go_wp2_with fail
      refine bodyPost_ret (v := str [78, 85, 76, 76]) (by simp [results, Tryd.results17, go_sem]) rfl ⟨by rw [HR.out], HB1.out⟩
    · have HR : Hid (litV v = Lib.itoa v.n) := Lib.hid (by unfold litV; rw [if_neg (by simp [hc]), if_pos h1])
      have e1 : ((v.k : Int) == 1) = true := by simp; omega
      rw [hc] at HCK
      clear hc h1 hse
      go_enter Tryd.func17, Tryd.ntmps17
      go_wp2_with fail
      refine (HCK.out _).mono ?_
      rintro e w1 ⟨rfl, hb1⟩
      obtain ⟨c0, c1, c2⟩ := cells_V w w1 v _ hb1
      have HB1 := Lib.hid (next HB0.out hb1)
      clear hb1
      go_wp2_with fail
      refine (formatW v.n w1 (HW.out.later HB1.out) HO.out.2.1.1 HO.out.2.1.2).mono ?_
      rintro e w2 ⟨rfl, hb2⟩
      have HB2 := Lib.hid (next HB1.out hb2)
      clear hb2
      go_wp2_with fail
      refine bodyPost_ret (v := str (Lib.itoa v.n)) (by simp [results, Tryd.results17, go_sem]) rfl ⟨by rw [HR.out], HB2.out⟩
    · rcases h23 with h2 | h3
      · have HR : Hid (litV v = 39 :: (quoteL v.s.data.toList ++ [39])) := Lib.hid (by unfold litV; rw [if_neg (by simp [hc]), if_neg (by omega), if_pos h2])
        have e1 : ((v.k : Int) == 1) = false := by simp; omega
        have e2 : ((v.k : Int) == 2) = true := by simp; omega
        rw [hc] at HCK
        clear hc h2 hse hn
        have hc1 : ∀ W : World, (Op.stringOp .add ⟨#[39]⟩ ⟨(quoteL v.s.data.toList).toArray⟩).run Tryd.prog W = .ok (str (39 :: quoteL v.s.data.toList)) W := fun W => (run_string_add_sum W _ _ (by have h1 : (ByteArray.mk #[39]).size = 1 := rfl; have h2 := str_size (quoteL v.s.data.toList); have h3 := quoteL_len v.s.data.toList; have h4 := bytes_list v.s; have := HS.out; omega)).trans (by rw [show (ByteArray.mk #[39]) = ByteArray.mk [39].toArray from rfl, ByteArray.mk_append_mk]; rfl)
        have hc2 : ∀ W : World, (Op.stringOp .add ⟨(39 :: quoteL v.s.data.toList).toArray⟩ ⟨#[39]⟩).run Tryd.prog W = .ok (str (39 :: (quoteL v.s.data.toList ++ [39]))) W := fun W => (run_string_add_sum W _ _ (by have h1 : (ByteArray.mk #[39]).size = 1 := rfl; have h2 := str_size (39 :: quoteL v.s.data.toList); have h3 := quoteL_len v.s.data.toList; have h4 := bytes_list v.s; have := HS.out; rw [List.length_cons] at h2; omega)).trans (by rw [show (ByteArray.mk #[39]) = ByteArray.mk [39].toArray from rfl, ByteArray.mk_append_mk]; rfl)
        go_enter Tryd.func17, Tryd.ntmps17
        go_wp2_with fail
        refine (HCK.out _).mono ?_
        rintro e w1 ⟨rfl, hb1⟩
        obtain ⟨c0, c1, c2⟩ := cells_V w w1 v _ hb1
        have HB1 := Lib.hid (next HB0.out hb1)
        clear hb1
        go_wp2_with fail
        refine (quoteW v.s w1 (HW.out.later HB1.out).mx HS.out).mono ?_
        rintro e w2 ⟨rfl, hb2⟩
        have HB2 := Lib.hid (next HB1.out hb2)
        clear hb2
        go_wp2_with fail
        refine bodyPost_ret (v := str (39 :: (quoteL v.s.data.toList ++ [39]))) (by simp [results, Tryd.results17, go_sem]) rfl ⟨by rw [HR.out], HB2.out⟩
      · have HR : Hid (litV v = 120 :: 39 :: (hexL v.s.data.toList ++ [39])) := Lib.hid (by unfold litV; rw [if_neg (by simp [hc]), if_neg (by omega), if_neg (by omega), if_pos h3])
        have e1 : ((v.k : Int) == 1) = false := by simp; omega
        have e2 : ((v.k : Int) == 2) = false := by simp; omega
        have e3 : ((v.k : Int) == 3) = true := by simp; omega
        rw [hc] at HCK
        clear hc h3 hse hn
        have hcv : ∀ W : World, (convert 9 55 (.string v.s)).run Tryd.prog W = .ok (.slice (some ⟨W.heap.size, 0, none⟩) v.s.size (grownCap W v.s.size 0 5)) (Lib.bytesWorld W 5 v.s) := fun W => Lib.run_convert_string_bytes W 9 55 5 v.s Tryd.underlying9 Tryd.underlying55 Tryd.underlying5
        go_enter Tryd.func17, Tryd.ntmps17
        go_wp2_with fail
        refine (HCK.out _).mono ?_
        rintro e w1 ⟨rfl, hb1⟩
        obtain ⟨c0, c1, c2⟩ := cells_V w w1 v _ hb1
        have HB1 := Lib.hid (next HB0.out hb1)
        clear hb1
        have c2' := Lib.cell?_alloc_marked (.cells #[.int .u8 120, .int .u8 39] 5 (2, 3)) c2
        have kc := Lib.run_convert_bytes_const (P := Tryd.prog) w1 55 5 #[.int .u8 120, .int .u8 39] 2 2 Tryd.underlying55 Tryd.underlying5
        go_wp2_with fail
        have hb2 : Below w1.heap.size w1 (w1.alloc (.cells #[.int .u8 120, .int .u8 39] 5 (2, 3))) := (Below.refl _ _).alloc (Nat.le_refl _) _
        have hx0 : OwnX (w1.alloc (.cells #[.int .u8 120, .int .u8 39] 5 (2, 3))) (Lib.bytesWorld (w1.alloc (.cells #[.int .u8 120, .int .u8 39] 5 (2, 3))) 5 v.s).heap.size 5 (.slice (some ⟨w1.heap.size, 0, none⟩) 2 2) [120, 39] := .inr ⟨w1.heap.size, rfl, fun i hi => by
          rcases i with _ | _ | i
          · rw [World.cell?_alloc_mark]; rfl
          · rw [World.cell?_alloc_mark]; rfl
          · simp at hi; omega⟩
        have hb3 := Lib.bytesWorld_below (w1.alloc (.cells #[.int .u8 120, .int .u8 39] 5 (2, 3))) 5 v.s
        have hcl : ∀ i (hi : i < v.s.size), (Lib.bytesWorld (w1.alloc (.cells #[.int .u8 120, .int .u8 39] 5 (2, 3))) 5 v.s).cell? ⟨w1.heap.size + 1, i, none⟩ = some (.int .u8 ((v.s[i]).toNat : Int)) := fun i hi => by
          rw [show w1.heap.size + 1 = (w1.alloc (.cells #[.int .u8 120, .int .u8 39] 5 (2, 3))).heap.size by simp, Lib.bytesWorld_cell _ _ _ _ hi, List.getD_eq_getElem?_getD, List.getElem?_eq_getElem (by rw [bytes_list]; exact hi)]; rfl
        have HX := Lib.hid (hx0.below hb3)
        have HB3 := Lib.hid (next HB1.out (next hb2 hb3))
        have HCL := Lib.hid hcl
        clear hb2 hx0 hb3 hcl kc HB1
        clear c0 c1 c2 c2' e1 e2 e3 hcv HCK HB0 HO
        generalize grownCap (w1.alloc (.cells #[.int .u8 120, .int .u8 39] 5 (2, 3))) v.s.size 0 5 = G
        generalize Lib.bytesWorld (w1.alloc (.cells #[.int .u8 120, .int .u8 39] 5 (2, 3))) 5 v.s = W3 at *
        generalize w1.heap.size + 1 = q at *
        go_loopg [3, 31] v.s.size (fun gk ov iv wr => ∃ (k : Nat) (L : List UInt8), iv = .int .i64 (k : Int) ∧ gk = v.s.size - k ∧ k ≤ v.s.size ∧ Hid (L = 120 :: 39 :: hexL (v.s.data.toList.take k)) ∧ Hid (OwnX wr W3.heap.size 5 ov L) ∧ Hid (Below w.heap.size w wr) ∧ Hid (Below W3.heap.size W3 wr))
        case atStart => exact ⟨0, [120, 39], rfl, rfl, Nat.zero_le _, Lib.hid rfl, HX, HB3, Lib.hid (Below.refl _ _)⟩
        case round =>
          obtain ⟨k, L, rfl, rfl, hk, HL, HOWN, HBW, HBQ⟩ := hrel
          obtain ⟨ao, co, rfl⟩ := HOWN.out.shape
          have HLEN : Hid (L.length = 2 * k + 2) := Lib.hid (by rw [HL.out, List.length_cons, List.length_cons, hexL_length, List.length_take, bytes_list]; omega)
          by_cases hlt : k < v.s.size
          · have ilt : (k : Int) < (v.s.size : Int) := by omega
            have HKK : Hid (wrap64 ((k : Int) + 1) = ((k + 1 : Nat) : Int)) := Lib.hid (by have := HS.out; unfold wrap64; omega)
            obtain ⟨c, hc⟩ : ∃ c, c = v.s[k] := ⟨_, rfl⟩
            have hcell : wr.cell? ⟨q, k, none⟩ = some (.int .u8 (c.toNat : Int)) := by rw [hc]; exact (HBQ.out.cell (cell_lt (HCL.out k hlt))).trans (HCL.out k hlt)
            have HNX : Hid (L ++ [hexC (c.toNat / 16), hexC (c.toNat % 16)] = 120 :: 39 :: hexL (v.s.data.toList.take (k + 1))) := Lib.hid (by
              rw [HL.out, hc, hexL_snoc v.s hlt]; rfl)
            have HLT := Lib.hid hlt
            clear hlt hc hk
            go_upto_region 13 with fail
            refine wp_region_kipt 8 (LitKn ao L co c) 49 (by simp) (by kernel_rfl) (by kernel_rfl) LitKn.later ?_ ?_
            · intro i hi A W hother hbW hd
              match i, hi with
                | 0, hi =>
                  have h3 := tmps_at (show A.eval (.tmp 3) = .slice ao L.length co from hother 3 (by kernel_rfl))
                  clear hother hd hi
                  exact kip_same rfl (wanted_none rfl) (.slice ao L.length co) (by simp only [execOp]; go_simp) rfl
                | 1, hi =>
                  have h5 := tmps_at (show A.eval (.tmp 5) = .int .u8 (c.toNat : Int) from hother 5 (by kernel_rfl))
                  clear hother hd hi
                  exact kip_same rfl (wanted_none rfl) (.int .u8 (c.toNat : Int)) (by simp only [execOp]; go_simp) rfl
                | 2, hi =>
                  have h36 := tmps_at ((hd _ rfl ⟨1, .data⟩ (by simp) rfl).eq (.int .u8 (c.toNat : Int)) (fun _ h => h) 36 (by kernel_rfl) (by decide))
                  clear hother hd hi
                  exact kip_same rfl (wanted_none rfl) (.int .u8 ((c.toNat / 16 : Nat) : Int)) (by simp only [execOp]; go_simp) rfl
                | 3, hi =>
                  have h37 := tmps_at ((hd _ rfl ⟨2, .data⟩ (by simp) rfl).eq (.int .u8 ((c.toNat / 16 : Nat) : Int)) (fun _ h => h) 37 (by kernel_rfl) (by decide))
                  have hl := c.toNat_lt
                  clear hother hd hi
                  exact kip_same rfl (wanted_none rfl) (byte (hexC (c.toNat / 16))) (by simp only [execOp]; go_simp; rw [dif_pos (show 0 ≤ (c.toNat : Int) / 16 ∧ (c.toNat : Int) / 16 < 16 by omega)]; exact hex_at _ _ (by omega) (by omega) (by omega) _) rfl
                | 4, hi =>
                  have h5 := tmps_at (show A.eval (.tmp 5) = .int .u8 (c.toNat : Int) from hother 5 (by kernel_rfl))
                  clear hother hd hi
                  exact kip_same rfl (wanted_none rfl) (.int .u8 (c.toNat : Int)) (by simp only [execOp]; go_simp) rfl
                | 5, hi =>
                  have h39 := tmps_at ((hd _ rfl ⟨4, .data⟩ (by simp) rfl).eq (.int .u8 (c.toNat : Int)) (fun _ h => h) 39 (by kernel_rfl) (by decide))
                  have h16 := and15 c
                  clear hother hd hi
                  exact kip_same rfl (wanted_none rfl) (.int .u8 ((c.toNat % 16 : Nat) : Int)) (by simp only [execOp]; go_simp) rfl
                | 6, hi =>
                  have h40 := tmps_at ((hd _ rfl ⟨5, .data⟩ (by simp) rfl).eq (.int .u8 ((c.toNat % 16 : Nat) : Int)) (fun _ h => h) 40 (by kernel_rfl) (by decide))
                  clear hother hd hi
                  exact kip_same rfl (wanted_none rfl) (byte (hexC (c.toNat % 16))) (by simp only [execOp]; go_simp; rw [dif_pos (show 0 ≤ (c.toNat : Int) % 16 ∧ (c.toNat : Int) % 16 < 16 by omega)]; exact hex_at _ _ (by omega) (by omega) (by omega) _) rfl
                | 7, hi =>
                  have h38 := tmps_at ((hd _ rfl ⟨3, .data⟩ (by simp) rfl).eq (byte (hexC (c.toNat / 16))) (fun _ h => h) 38 (by kernel_rfl) (by decide))
                  have h41 := tmps_at ((hd _ rfl ⟨6, .data⟩ (by simp) rfl).eq (byte (hexC (c.toNat % 16))) (fun _ h => h) 41 (by kernel_rfl) (by decide))
                  clear hother hd hi
                  exact kip_val rfl (wanted_none rfl) (.slice (some ⟨W.heap.size, 0, none⟩) 2 2) (W.alloc (.cells #[byte (hexC (c.toNat / 16)), byte (hexC (c.toNat % 16))] 5)) (by simp only [execOp]; go_simp) ((Below.refl _ _).alloc (Nat.le_refl _) _) ⟨_, rfl, by go_simp, by go_simp⟩
                | n + 8, hi => omega
            · intro us W hbW hk
              have h0 : us 0 = .slice ao L.length co := hk 0 (by decide)
              obtain ⟨b, h7, c0, c1⟩ : ∃ b, us 7 = .slice (some ⟨b, 0, none⟩) 2 2 ∧ W.cell? ⟨b, 0, none⟩ = some (byte (hexC (c.toNat / 16))) ∧ W.cell? ⟨b, 1, none⟩ = some (byte (hexC (c.toNat % 16))) := hk 7 (by decide)
              have HO2 := Lib.hid (HOWN.out.below hbW)
              have HBW2 := Lib.hid (next HBW.out hbW)
              have HBQ2 := Lib.hid (next HBQ.out hbW)
              clear hk hbW HOWN HBW HBQ
              simp only [putAll, dstOf, List.getElem?_toArray, List.getElem?_cons_zero, List.getElem?_cons_succ, Option.bind_some, Act.put, h0, h7, List.drop_succ_cons, List.drop_zero]
              simp only [List.setIfInBounds_toArray, List.set_cons_zero, List.set_cons_succ]
              refine wpList_append_x rfl (.tmp 35) (.tmp 42) 55 rfl W3.heap.size 5 Num.elem_u8 _ L rfl HO2.out _ [hexC (c.toNat / 16), hexC (c.toNat % 16)] rfl (reads_cells b [hexC (c.toNat / 16), hexC (c.toNat % 16)] (fun i hi => by
                rcases i with _ | _ | i
                · exact c0
                · exact c1
                · simp at hi; omega)) (by simp) (by have := HLEN.out; have := HS.out; have := HLT.out; simp; omega) HBQ2.out.size ?_
              intro v' w4 hown hbel
              have HO4 : Hid (OwnX w4 W3.heap.size 5 v' (L ++ [hexC (c.toNat / 16), hexC (c.toNat % 16)])) := Lib.hid (.inl hown)
              have HBW4 := Lib.hid (HBW2.out.trans (hbel.mono HB3.out.size))
              have HBQ4 := Lib.hid (HBQ2.out.trans hbel)
              clear hown hbel c0 c1 h0 h7 HO2 HBW2 HBQ2
              go_wp2_with fail
              go_roundg (v.s.size - (k + 1))
              case measure => exact Nat.sub_lt_sub_left HLT.out (Nat.lt_succ_self _)
              case rel => exact ⟨k + 1, _, by first | exact congrArg (Value.int .i64) HKK.out | (simp; exact HKK.out), rfl, HLT.out, HNX, HO4, HBW4, HBQ4⟩
          · have ilt : ¬ (k : Int) < (v.s.size : Int) := by omega
            have hfull : L ++ [39] = 120 :: 39 :: (hexL v.s.data.toList ++ [39]) := by
              rw [HL.out, List.take_of_length_le (by rw [bytes_list]; omega)]; rfl
            have HF := Lib.hid hfull
            have hl2 : L.length ≤ 2000002 := by have := HLEN.out; have := HS.out; omega
            clear hlt hk hfull
            have hA : Below wr.heap.size wr (wr.alloc (.cells #[.int .u8 39] 5)) := (Below.refl _ _).alloc (Nat.le_refl _) _
            have HA := Lib.hid hA
            have HOA := Lib.hid (HOWN.out.below hA)
            have HL2 := Lib.hid hl2
            clear hA hl2
            go_wp2_with (at_builtin; refine wpList_append_x rfl (.tmp 45) (.tmp 46) 55 rfl W3.heap.size 5 Num.elem_u8 _ L rfl HOA.out _ [39] rfl (reads_cells wr.heap.size [39] (fun i hi => by
                rcases i with _ | i
                · go_simp
                · simp at hi)) (by simp) (by have := HL2.out; simp; omega) (by have := HBQ.out.size; simp; omega) ?_; intro v' w4 hown hbel; have hcv2 := convX 55 5 9 Tryd.underlying55 Tryd.underlying5 Tryd.underlying9 (.inl hown); have HBEL := Lib.hid hbel; clear hown hbel)
            have HB9 := Lib.hid ((HBW.out.trans (HA.out.mono HBW.out.size)).trans (HBEL.out.mono HB3.out.size))
            refine bodyPost_ret (v := str (L ++ [39])) (by simp [results, Tryd.results17, go_sem]) rfl ⟨by rw [HR.out, HF.out], HB9.out⟩
  · have HR : Hid (litV v = []) := Lib.hid (by unfold litV; rw [if_pos hc])
    have hne : ((checkV v : Int) != 0) = true := by simp; omega
    clear hc
    generalize checkV v = C at *
    go_enter Tryd.func17, Tryd.ntmps17
    go_wp2_with fail
    refine (HCK.out _).mono ?_
    rintro e w1 ⟨rfl, hb1⟩
    have HB1 := Lib.hid (next HB0.out hb1)
    clear hb1
    go_wp2_with fail
    refine bodyPost_ret (v := str []) (by simp [results, Tryd.results17, go_sem]) rfl ⟨by rw [HR.out], HB1.out⟩
end Go.Proofs.YtghfaeapgghhlaaDoor.Dt
