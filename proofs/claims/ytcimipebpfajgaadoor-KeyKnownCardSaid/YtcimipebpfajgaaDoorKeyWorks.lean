/-
  The walks of key.Take and of the laws' own 'works'.
-/
import Derived.Test.YtcimipebpfajgaaDoorKeyEach
namespace Go.Proofs.YtcimipebpfajgaaDoor.Dt
open Go.RowKit Go.Proofs.YtcimipebpfajgaaDoor.By

theorem takeW (s : ByteArray) (w : World) (hs : s.size ≤ 1000000) :
    Calls Tryd.prog 6 #[.string s] w fun e w' =>
      (∃ v, (∃ vs, takeK s.data.toList = some vs ∧ e = .returned (.tuple #[v, .int .i64 0]) ∧ VsAt w' v vs ∧ vs.length ≤ s.size) ∨ (takeK s.data.toList = none ∧ e = .returned (.tuple #[.slice none 0 0, .int .i64 7]))) ∧ Below w.heap.size w w' := by
  have HE := Lib.hid (eachW s w hs)
  clear hs
  go_enter Tryd.func6, Tryd.ntmps6
  go_wp2_with fail
  refine HE.out.mono ?_
  rintro e w1 ⟨⟨v, hv⟩, hb1⟩
  have HB1 := Lib.hid hb1
  clear hb1 HE
  rcases hv with ⟨vs, htk, rfl, hat, hln⟩ | ⟨htk, rfl⟩
  · obtain ⟨a, c, rfl⟩ := hat.shape
    have HAT := Lib.hid hat
    have HTK := Lib.hid htk
    have HLN := Lib.hid hln
    clear hat htk hln
    go_wp2_with fail
    refine bodyPost_ret (v := .tuple #[.slice a vs.length c, .int .i64 0]) (by simp [results, Tryd.results6, go_sem]) rfl ⟨⟨.slice a vs.length c, .inl ⟨vs, HTK.out, rfl, HAT.out, HLN.out⟩⟩, HB1.out⟩
  · have HTK := Lib.hid htk
    clear htk
    go_wp2_with fail
    refine bodyPost_ret (v := .tuple #[.slice none 0 0, .int .i64 7]) (by simp [results, Tryd.results6, go_sem]) rfl ⟨⟨.slice none 0 0, .inr ⟨HTK.out, rfl⟩⟩, HB1.out⟩

instance okDec (v : V) : Decidable v.ok := by unfold V.ok; exact inferInstance
def wrow : List V := [⟨2, 0, ⟨#[97]⟩⟩, ⟨1, 1, ByteArray.empty⟩]
def wkey : List UInt8 := [3, 97, 0, 0, 2, 128, 0, 0, 0, 0, 0, 0, 1]
theorem wrow_err : errK wrow = 0 := by kernel_rfl
theorem wrow_key : allK wrow = wkey := by kernel_rfl
theorem wkey_row : takeK wkey = some wrow := by kernel_rfl
theorem pair_at (W : World) (a b : V) : VsAt (W.alloc (.cells #[.int .u8 (a.k : Int), .int .i64 a.n, .string a.s, .int .u8 (b.k : Int), .int .i64 b.n, .string b.s] 26)) (.slice (some ⟨W.heap.size, 0, none⟩) 2 2) [a, b] := by
  refine ⟨_, _, rfl, Nat.le_refl _, fun i x hx => ⟨W.heap.size, 0, rfl, fun j u hu => ?_⟩⟩
  rcases i with _ | _ | i <;> simp at hx <;> subst hx <;> (rcases j with _ | _ | _ | j <;> simp [V.cells] at hu <;> subst hu <;> go_simp)
set_option maxRecDepth 100000 in
set_option maxHeartbeats 8000000 in
theorem works (w : World) (hm : MaxAt w) : Calls Tryd.prog 5 #[] w fun e w' => e = .returned (.bool true) ∧ Below w.heap.size w w' := by
  have hb0 : Below w.heap.size w (w.alloc (.cells #[.int .u8 2, .int .i64 0, .string ⟨#[97]⟩, .int .u8 1, .int .i64 1, .string ⟨#[]⟩] 26)) := by go_grown
  have hat : VsAt (w.alloc (.cells #[.int .u8 2, .int .i64 0, .string ⟨#[97]⟩, .int .u8 1, .int .i64 1, .string ⟨#[]⟩] 26)) (.slice (some ⟨w.heap.size, 0, none⟩) 2 2) wrow := pair_at w ⟨2, 0, ⟨#[97]⟩⟩ ⟨1, 1, ByteArray.empty⟩
  have hput := putW (.slice (some ⟨w.heap.size, 0, none⟩) 2 2) wrow _ (hm.later hb0) hat (fun v hv => by
    simp only [wrow, List.mem_cons, List.not_mem_nil, or_false] at hv
    rcases hv with rfl | rfl
    · exact of_decide_eq_true (by kernel_rfl)
    · exact of_decide_eq_true (by kernel_rfl)) (by decide)
  rw [wrow_err, if_pos rfl, wrow_key] at hput
  have HP := Lib.hid hput
  have HB0 := Lib.hid hb0
  clear hput hb0 hat hm
  go_enter Tryd.func5, Tryd.ntmps5
  go_wp2_with fail
  refine HP.out.mono ?_
  rintro e w1 ⟨rfl, hb1⟩
  have HB1 := Lib.hid (next HB0.out hb1)
  clear hb1 HP HB0
  have ht := takeW ⟨wkey.toArray⟩ w1 (by decide)
  rw [show (ByteArray.mk wkey.toArray).data.toList = wkey from rfl, wkey_row] at ht
  have HTW := Lib.hid ht
  clear ht
  go_wp2_with fail
  refine HTW.out.mono ?_
  clear HTW
  rintro e w2 ⟨⟨v, hv⟩, hb2⟩
  have HB2 := Lib.hid (next HB1.out hb2)
  clear hb2
  rcases hv with ⟨vs, htk, rfl, hat, -⟩ | ⟨htk, _⟩
  · cases htk
    obtain ⟨a, c, rfl⟩ := hat.shape
    obtain ⟨b, o, rfl, hbz, d0, d1, d2⟩ := at3 hat (k := 1) rfl
    have hlen : wrow.length = 2 := rfl
    have hcap : (2 : Nat) ≤ c := by
      obtain ⟨a', c', e, hc, _⟩ := hat
      simp only [Value.slice.injEq] at e
      obtain ⟨_, _, rfl⟩ := e
      exact hc
    have HCAP := Lib.hid hcap
    rw [hlen]
    clear hat hlen hcap
    have hk : wkey = [3, 97, 0, 0, 2, 128, 0, 0, 0, 0, 0, 0, 1] := rfl
    go_wp2_with fail
    go_ret
    exact ⟨rfl, HB2.out⟩
  · cases htk
end Go.Proofs.YtcimipebpfajgaaDoor.Dt
