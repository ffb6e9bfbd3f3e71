/-
  The walk of key.Next.
-/
import Derived.Test.YtcimipebpfajgaaDoorKeySpec5
import Derived.Test.YtcimipebpfajgaaDoorKeyWorks
import Derived.Test.YtcimipebpfajgaaDoorKip
namespace Go.Proofs.YtcimipebpfajgaaDoor.Dt
open Go.RowKit Go.Proofs.YtcimipebpfajgaaDoor.By

/-- What the region's operations hand back. -/
def NextKn (s1 p : ByteArray) (k : Nat) (c d : UInt8) (R : List UInt8) : Nat → Value → World → Prop
  | 0, v, _ => v = .string s1
  | 1, v, _ => v = .string s1
  | 2, v, _ => v = .int .i64 (s1.size : Int)
  | 3, v, _ => v = .int .i64 (k : Int)
  | 4, v, _ => v = .string p
  | 5, v, _ => v = .int .u8 (c.toNat : Int)
  | 6, v, _ => v = .int .u8 (d.toNat : Int)
  | 7, v, w => ∃ b, v = .slice (some ⟨b, 0, none⟩) 1 1 ∧ w.cell? ⟨b, 0, none⟩ = some (.int .u8 (d.toNat : Int))
  | 8, v, _ => v = .string ⟨#[d]⟩
  | 9, v, _ => v = str R
  | 10, v, _ => v = str R
  | _, v, _ => v = .bool true
theorem NextKn.later {s1 p : ByteArray} {k : Nat} {c d : UInt8} {R : List UInt8} : ∀ (j : Nat) (v : Value) (w1 w2 : World), NextKn s1 p k c d R j v w1 → Below w1.heap.size w1 w2 → NextKn s1 p k c d R j v w2
  | 0, _, _, _, h, _ => h
  | 1, _, _, _, h, _ => h
  | 2, _, _, _, h, _ => h
  | 3, _, _, _, h, _ => h
  | 4, _, _, _, h, _ => h
  | 5, _, _, _, h, _ => h
  | 6, _, _, _, h, _ => h
  | 7, _, _, _, ⟨b, h1, h2⟩, hb => ⟨b, h1, (hb.cell (cell_lt h2)).trans h2⟩
  | 8, _, _, _, h, _ => h
  | 9, _, _, _, h, _ => h
  | 10, _, _, _, h, _ => h
  | _ + 11, _, _, _, h, _ => h
set_option maxRecDepth 100000 in
set_option maxHeartbeats 8000000 in
theorem nextW (s : ByteArray) (w : World) (hs : s.size ≤ 1000000) :
    Calls Tryd.prog 8 #[.string s] w fun e w' => ((nextK s.data.toList = none ∧ e = .returned (.tuple #[.string ⟨#[]⟩, .bool false])) ∨ (∃ n, nextK s.data.toList = some n ∧ e = .returned (.tuple #[str n, .bool true]))) ∧ Below w.heap.size w w' := by
  have HS := Lib.hid hs
  obtain ⟨T, hT⟩ : ∃ T, T = nextK s.data.toList := ⟨_, rfl⟩
  rw [← hT]
  have HT := Lib.hid hT
  clear hs hT
  go_enter Tryd.func8, Tryd.ntmps8
  go_wp2_with fail
  go_loopg [0] s.size (fun gk sv wr => ∃ (s1 : ByteArray), sv = .string s1 ∧ gk = s1.size ∧ Hid (T = nextK s1.data.toList) ∧ Hid (Below w.heap.size w wr) ∧ Hid (s1.size ≤ s.size))
  case atStart => exact ⟨s, rfl, rfl, HT, Lib.hid (Below.refl _ _), Lib.hid (Nat.le_refl _)⟩
  case round =>
    obtain ⟨s1, rfl, rfl, HTK, HBW, HLN⟩ := hrel
    by_cases he : s1.data.toList = []
    · have hE : s1.toList.isEmpty = true := by rw [ByteArray.toList_eq, he]; rfl
      have hres : T = none := by rw [HTK.out, he]; rfl
      have HRES := Lib.hid hres
      clear he hres
      go_wp2_with fail
      refine bodyPost_ret (v := .tuple #[.string ⟨#[]⟩, .bool false]) (by simp [results, Tryd.results8, go_sem]) rfl ⟨.inl ⟨HRES.out, rfl⟩, HBW.out⟩
    · have hE : s1.toList.isEmpty = false := by rw [ByteArray.toList_eq]; simpa using he
      obtain ⟨l1, c, hl⟩ : ∃ l1 c, s1.data.toList = l1 ++ [c] := ⟨_, _, (List.dropLast_concat_getLast he).symm⟩
      have hsz1 : s1.data.toList.length = s1.size := Array.length_toList
      have hsz : s1.size = l1.length + 1 := by rw [← hsz1, hl]; simp
      have HSZ := Lib.hid hsz
      have HL := Lib.hid hl
      have HE := Lib.hid he
      have hw1 : wrap64 ((s1.size : Int) - 1) = (l1.length : Int) := by have h1 := HS.out; have h2 := HLN.out; unfold wrap64; omega
      have HW2 : Hid (IntKind.i64.wrap ((s1.size : Int) - 1) = (l1.length : Int)) := Lib.hid (by have h1 := HS.out; have h2 := HLN.out; rw [IntKind.wrap_i64]; omega)
      have hlt : l1.length < s1.size := by omega
      have ilt : (l1.length : Int) < (s1.size : Int) := by omega
      have hx : ∀ h : l1.length < s1.size, (s1[l1.length]'h).toNat = c.toNat := fun h => by
        have h2 : s1.data.toList[l1.length]? = some c := by rw [hl]; simp
        rw [Array.getElem?_toList, Array.getElem?_eq_getElem h] at h2
        exact congrArg UInt8.toNat (Option.some.inj h2)
      have hex : (s1.extract 0 l1.length).data.toList = l1 := by rw [Lib.extract_data, hl]; simp
      have HEX := Lib.hid hex
      have HSZ0 : Hid (l1.length = (s1.extract 0 l1.length).size) := Lib.hid (by
        have h1 : (s1.extract 0 l1.length).data.toList.length = (s1.extract 0 l1.length).size := Array.length_toList
        rw [← h1, hex])
      clear he hl hsz1 hsz hex
      by_cases hc : c = 255
      · subst hc
        have h255 : (255 : UInt8).toNat = 255 := rfl
        go_wp2_with fail
        go_roundg l1.length
        case measure => exact hlt
        case rel => exact ⟨s1.extract 0 l1.length, rfl, HSZ0.out, Lib.hid (by rw [HTK.out, HL.out, nextK_255, HEX.out]), HBW, Lib.hid (by rw [← HSZ0.out]; have := HLN.out; omega)⟩
      · have hcn : ((c.toNat : Int) == 255) = false := by
          have : c.toNat ≠ 255 := fun e => hc (UInt8.toNat_inj.1 e)
          simp; omega
        have HC := Lib.hid hc
        have hadd : (((c.toNat : Int) + 1) % 256) = ((c + 1).toNat : Int) := by
          have h1 : c.toNat ≠ 255 := fun e => hc (UInt8.toNat_inj.1 e)
          have h2 := c.toNat_lt
          have e : (c + 1).toNat = c.toNat + 1 := by rw [UInt8.toNat_add]; simp; omega
          rw [e]; omega
        clear hc
        go_wp2_with fail
        obtain ⟨p, hp⟩ : ∃ p, p = s1.extract 0 l1.length := ⟨_, rfl⟩
        obtain ⟨d, hd⟩ : ∃ d, d = c + 1 := ⟨_, rfl⟩
        rw [← hd] at hadd
        have HP := Lib.hid hp
        have HD := Lib.hid hd
        have hR : p ++ (ByteArray.mk #[d]) = ⟨(l1 ++ [d]).toArray⟩ := by
          have h1 : p = ⟨l1.toArray⟩ := by
            rw [hp]
            have := HEX.out
            exact ByteArray.ext (Array.toList_inj.1 (by simpa using this))
          rw [h1]
          exact (ByteArray.mk_append_mk _ _).trans (by simp)
        have hat := add_told p ⟨#[d]⟩ (by rw [hp]; show _ + 1 ≤ _; rw [← HSZ0.out]; have h1 := HSZ.out; have h2 := HLN.out; have h3 := HS.out; omega) _ hR.symm
        clear hp hd hR
        refine wp_region_kip (NextKn s1 p l1.length c d (l1 ++ [d])) 37 (by simp) (by kernel_rfl) (by kernel_rfl) NextKn.later ?_ ?_
        · intro i hi A W hother hbW hd
          match i, hi with
          | 0, hi =>
            have h0 := tmps_at (show A.eval (.tmp 0) = .string s1 from hother 0 (by kernel_rfl))
            clear hother hd hi
            exact kip_same rfl (wanted_none rfl) (.string s1) (by simp only [execOp]; go_simp) rfl
          | 1, hi =>
            have h0 := tmps_at (show A.eval (.tmp 0) = .string s1 from hother 0 (by kernel_rfl))
            clear hother hd hi
            exact kip_same rfl (wanted_none rfl) (.string s1) (by simp only [execOp]; go_simp) rfl
          | 2, hi =>
            have h1 := tmps_at ((hd _ rfl ⟨1, .data⟩ (by simp) rfl).eq (.string s1) (fun _ h => h) 28 (by kernel_rfl) (by decide))
            clear hother hd hi
            exact kip_same rfl (wanted_none rfl) (.int .i64 (s1.size : Int)) (by simp only [execOp]; go_simp) rfl
          | 3, hi =>
            have h1 := tmps_at ((hd _ rfl ⟨2, .data⟩ (by simp) rfl).eq (.int .i64 (s1.size : Int)) (fun _ h => h) 29 (by kernel_rfl) (by decide))
            clear hother hd hi
            exact kip_same rfl (wanted_none rfl) (.int .i64 (l1.length : Int)) (by simp only [execOp]; go_simp; exact HW2.out) rfl
          | 4, hi =>
            have h0 := tmps_at ((hd _ rfl ⟨0, .data⟩ (by simp) rfl).eq (.string s1) (fun _ h => h) 27 (by kernel_rfl) (by decide))
            have h1 := tmps_at ((hd _ rfl ⟨3, .data⟩ (by simp) rfl).eq (.int .i64 (l1.length : Int)) (fun _ h => h) 30 (by kernel_rfl) (by decide))
            have hle : (l1.length : Int) ≤ (s1.size : Int) := by omega
            clear hother hd hi
            exact kip_same rfl (wanted_none rfl) (.string p) (by rw [HP.out]; simp only [execOp]; go_simp) rfl
          | 5, hi =>
            have h0 := tmps_at (show A.eval (.tmp 4) = .int .u8 (c.toNat : Int) from hother 4 (by kernel_rfl))
            clear hother hd hi
            exact kip_same rfl (wanted_none rfl) (.int .u8 (c.toNat : Int)) (by simp only [execOp]; go_simp) rfl
          | 6, hi =>
            have h1 := tmps_at ((hd _ rfl ⟨5, .data⟩ (by simp) rfl).eq (.int .u8 (c.toNat : Int)) (fun _ h => h) 32 (by kernel_rfl) (by decide))
            clear hother hd hi
            exact kip_same rfl (wanted_none rfl) (.int .u8 (d.toNat : Int)) (by simp only [execOp]; go_simp; rw [IntKind.wrap_u8]; exact hadd) rfl
          | 7, hi =>
            have h1 := tmps_at ((hd _ rfl ⟨6, .data⟩ (by simp) rfl).eq (.int .u8 (d.toNat : Int)) (fun _ h => h) 33 (by kernel_rfl) (by decide))
            clear hother hd hi
            exact kip_val rfl (wanted_none rfl) (.slice (some ⟨W.heap.size, 0, none⟩) 1 1) (W.alloc (.cells #[.int .u8 (d.toNat : Int)] 5)) (by simp only [execOp]; go_simp) ((Below.refl _ _).alloc (Nat.le_refl _) _) ⟨_, rfl, by go_simp⟩
          | 8, hi =>
            obtain ⟨v7, ⟨b, e7, c7⟩, h7⟩ := (hd _ rfl ⟨7, .data⟩ (by simp) rfl).get 34 (by kernel_rfl) (by decide)
            rw [e7] at h7
            have h1 := tmps_at h7
            have hcv : (convert 37 9 (.slice (some ⟨b, 0, none⟩) 1 1)).run Tryd.prog W = .ok (str [d]) W := conv_at W 37 5 9 Tryd.underlying37 Tryd.underlying5 Tryd.underlying9 b 0 1 1 [d] rfl (fun i hi => by
              obtain rfl : i = 0 := by simpa using hi
              exact c7)
            clear hother hd hi
            exact kip_same rfl (wanted_none rfl) (.string ⟨#[d]⟩) (by simp only [execOp]; go_simp) rfl
          | 9, hi =>
            have h0 := tmps_at ((hd _ rfl ⟨4, .data⟩ (by simp) rfl).eq (.string p) (fun _ h => h) 31 (by kernel_rfl) (by decide))
            have h1 := tmps_at ((hd _ rfl ⟨8, .data⟩ (by simp) rfl).eq (.string ⟨#[d]⟩) (fun _ h => h) 35 (by kernel_rfl) (by decide))
            clear hother hd hi
            exact kip_same rfl (wanted_none rfl) (str (l1 ++ [d])) (by simp only [execOp]; go_simp) rfl
          | 10, hi =>
            have h1 := tmps_at ((hd _ rfl ⟨9, .data⟩ (by simp) rfl).eq (str (l1 ++ [d])) (fun _ h => h) 36 (by kernel_rfl) (by decide))
            clear hother hd hi
            exact kip_same rfl (wanted_none rfl) (str (l1 ++ [d])) (by simp only [execOp]; go_simp) rfl
          | 11, hi =>
            clear hother hd hi
            exact kip_same rfl (wanted_none rfl) (.bool true) (by simp only [execOp]; go_simp) rfl
          | n + 12, hi => simp at hi; omega
        · intro us w2 hb2 hk
          have h10 : us 10 = str (l1 ++ [d]) := hk 10 (by simp)
          have h11 : us 11 = .bool true := hk 11 (by simp)
          have HB2 := Lib.hid (next HBW.out hb2)
          clear hk hb2
          have HRES : Hid (T = some (l1 ++ [d])) := Lib.hid (by rw [HTK.out, HL.out, HD.out]; exact nextK_other HC.out l1)
          simp only [List.length_cons, List.length_nil, Nat.zero_add, Nat.reduceAdd, putAll, dstOf, List.getElem?_toArray, List.getElem?_cons_zero, List.getElem?_cons_succ, Option.bind_some, Act.put, h10, h11]
          clear h10 h11
          simp only [List.setIfInBounds_toArray, List.set_cons_zero, List.set_cons_succ]
          go_wp2_with fail
          refine bodyPost_ret (v := .tuple #[str (l1 ++ [d]), .bool true]) (by simp [results, Tryd.results8, go_sem]) rfl ⟨.inr ⟨_, HRES.out, rfl⟩, HB2.out⟩
end Go.Proofs.YtcimipebpfajgaaDoor.Dt
