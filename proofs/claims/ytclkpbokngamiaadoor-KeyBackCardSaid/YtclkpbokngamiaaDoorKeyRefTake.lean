/-
  The walks of the reference's Take, and of key.First.
-/
import Derived.Test.YtclkpbokngamiaaDoorKeyRef
import Derived.Test.YtclkpbokngamiaaDoorKeyWorks
namespace Go.Proofs.YtclkpbokngamiaaDoor.Dt
open Go.RowKit Go.Proofs.YtclkpbokngamiaaDoor.By

set_option maxRecDepth 100000 in
set_option maxHeartbeats 16000000 in
theorem keyFirstW (s : ByteArray) (w : World) (hs : s.size ≤ 1000000) :
    Calls Tryd.prog 21 #[.string s] w fun e w' =>
      ((∃ v n, firstK s.data.toList = some (v, n) ∧ e = .returned (.tuple #[.int .i64 (n : Int), .int .i64 0])) ∨ (firstK s.data.toList = none ∧ e = .returned (.tuple #[.int .i64 0, .int .i64 7]))) ∧ Below w.heap.size w w' := by
  have HE := Lib.hid (firstW s w (by omega))
  clear hs
  go_enter Tryd.func21, Tryd.ntmps21
  go_wp2_with fail
  refine HE.out.mono ?_
  rintro e w1 ⟨⟨v, n, ok, rfl, hf⟩, hb1⟩
  have HB1 := Lib.hid hb1
  clear hb1 HE
  cases hk : firstK s.data.toList with
  | none =>
    rw [hk] at hf
    obtain rfl : ok = false := hf
    have HK := Lib.hid hk
    clear hk
    go_wp2_with fail
    refine bodyPost_ret (v := .tuple #[.int .i64 0, .int .i64 7]) (by simp [results, Tryd.results21, go_sem]) rfl ⟨by first | exact .inr ⟨HK.out, rfl⟩ | simpa using HK.out, ?_⟩
    have := HB1.out
    exact this.alloc this.size _
  | some p =>
    obtain ⟨v0, n0⟩ := p
    rw [hk] at hf
    obtain ⟨rfl, rfl, rfl⟩ := hf
    have HK := Lib.hid hk
    clear hk
    go_wp2_with fail
    refine bodyPost_ret (v := .tuple #[.int .i64 (n0 : Int), .int .i64 0]) (by simp [results, Tryd.results21, go_sem]) rfl ⟨by first | exact .inl ⟨_, _, HK.out, rfl⟩ | exact ⟨_, _, HK.out, rfl⟩, ?_⟩
    have := HB1.out
    exact this.alloc this.size _

set_option maxRecDepth 100000 in
set_option maxHeartbeats 16000000 in
theorem refTakeW (s : ByteArray) (w : World) (hs : s.size ≤ 1000000) :
    Calls Tryd.prog 20 #[.string s] w fun e w' =>
      (∃ v, (∃ vs, takeK s.data.toList = some vs ∧ e = .returned (.tuple #[v, .int .i64 0]) ∧ VsAt w' v vs ∧ vs.length ≤ s.size) ∨ (takeK s.data.toList = none ∧ e = .returned (.tuple #[.slice none 0 0, .int .i64 7]))) ∧ Below w.heap.size w w' := by
  have HS := Lib.hid hs
  obtain ⟨T, hT⟩ : ∃ T, T = takeK s.data.toList := ⟨_, rfl⟩
  rw [← hT]
  have HT := Lib.hid hT
  clear hs hT
  go_enter Tryd.func20, Tryd.ntmps20
  go_wp2_with fail
  go_loopg [0, 4] s.size (fun gk sv ov wr => ∃ (s1 : ByteArray) (vs : List V), sv = .string s1 ∧ gk = s1.size ∧ Hid (T = (takeK s1.data.toList).map (vs ++ ·)) ∧ Hid (OwnV wr w.heap.size ov vs) ∧ Hid (Below w.heap.size w wr) ∧ Hid (s1.size + vs.length ≤ s.size))
  case atStart => exact ⟨s, [], rfl, rfl, Lib.hid (by rw [HT.out]; cases takeK s.data.toList <;> simp), Lib.hid (OwnV.nil _ _), Lib.hid (Below.refl _ _), Lib.hid (by simp)⟩
  case round =>
    obtain ⟨s1, vs, rfl, rfl, HTK, HOWN, HBW, HLN⟩ := hrel
    obtain ⟨ao, co, rfl⟩ := HOWN.out.shape
    have hsz1 : s1.data.toList.length = s1.size := Array.length_toList
    by_cases he : s1.data.toList = []
    · have hE : ¬ (0 : Int) < (s1.size : Int) := by rw [← hsz1, he]; simp
      have hres : T = some vs := by rw [HTK.out, he, takeK_nil]; simp
      have HRES := Lib.hid hres
      clear he hres hsz1
      go_wp2_with fail
      refine bodyPost_ret (v := .tuple #[.slice ao vs.length co, .int .i64 0]) (by simp [results, Tryd.results20, go_sem]) rfl ⟨⟨.slice ao vs.length co, .inl ⟨vs, HRES.out, rfl, HOWN.out.at_, by have := HLN.out; omega⟩⟩, HBW.out⟩
    · have hE : (0 : Int) < (s1.size : Int) := by have : 0 < s1.data.toList.length := List.length_pos_iff.2 he; omega
      have HE := Lib.hid he
      clear he
      go_wp2_with fail
      refine (refFirstW s1 wr (by have := HLN.out; have := HS.out; omega)).mono ?_
      rintro e w2 ⟨⟨v, n, ok, rfl, hf⟩, hb2⟩
      have HBW2 := Lib.hid (next HBW.out hb2)
      have HOWN2 := Lib.hid (HOWN.out.below hb2)
      clear hb2
      rcases hf with ⟨hfk, hn0, rfl⟩ | ⟨hfk, rfl, rfl⟩
      · obtain ⟨n0, rfl⟩ : ∃ n0 : Nat, n = (n0 : Int) := ⟨n.toNat, by omega⟩
        rw [Int.toNat_natCast] at hfk
        have hn := firstK_len hfk
        have HFK := Lib.hid hfk
        clear hfk hn0
        obtain ⟨s2, hs2⟩ : ∃ s2, s2 = s1.extract n0 s1.size := ⟨_, rfl⟩
        have hs2l : s2.data.toList = s1.data.toList.drop n0 := by rw [hs2]; exact Lib.extract_to_end s1 n0
        have hsz2 : s2.size = s1.size - n0 := by
          have h1 : s2.data.toList.length = s2.size := Array.length_toList
          rw [← h1, hs2l, List.length_drop, hsz1]
        have HN : Hid (1 ≤ n0 ∧ n0 ≤ s1.size) := Lib.hid (by rw [hsz1] at hn; exact hn)
        have HS2 := Lib.hid hs2
        have HSZ := Lib.hid hsz2
        have HTK2 : Hid (T = (takeK s2.data.toList).map ((vs ++ [v]) ++ ·)) := Lib.hid (by
          rw [HTK.out, takeK_cons HE.out, HFK.out, hs2l]
          simp only [Option.bind_some, Option.map_map]
          congr 1
          funext x
          simp)
        have HLN2 : Hid (s2.size + (vs ++ [v]).length ≤ s.size) := Lib.hid (by have h1 := HSZ.out; have h2 := HN.out; have h3 := HLN.out; rw [List.length_append]; simp only [List.length_cons, List.length_nil]; omega)
        have HM : Hid (s2.size < s1.size) := Lib.hid (by have h1 := HSZ.out; have h2 := HN.out; omega)
        have hle : (n0 : Int) ≤ (s1.size : Int) := by have := HN.out.2; omega
        have hB : w.heap.size ≤ w2.heap.size := HBW2.out.size
        have hsrc := reads_V (w2.alloc (.cells #[.int .u8 (v.k : Int), .int .i64 v.n, .string v.s] 39)) w.heap.size v (by simp; omega) (w2.heap.size + 1) (by simp)
        clear hn hs2 hs2l hsz1 hsz2
        go_wp2_with (at_builtin; refine wpList_append_reads rfl (.tmp 19) (.tmp 21) 22 rfl w.heap.size 39 3 32 elV _ vs.length (vCells vs) rfl (World.ownsRow.alloc (World.ownsRow.alloc HOWN2.out _) _) _ 1 _ rfl hsrc (by simp [Value.oneCell']) (by have := HLN.out; have := HS.out; unfold maxLen; omega) (by have := HLN.out; have := HS.out; omega) (by simp; omega) ?_; intro v' w3 hown3 hgrow3 hbel3; have HO3 := Lib.hid (OwnV.snoc hown3); have HB3 := Lib.hid hbel3; clear hown3 hgrow3 hbel3)
        have HB4 := Lib.hid ((HBW2.out.alloc hB _).alloc (by simp; omega) _ |>.trans HB3.out)
        have hext : s1.extract n0 s1.size = s2 := HS2.out.symm
        clear hsrc HB3 hB
        go_wp2_with fail
        go_roundg s2.size
        case measure => exact HM.out
        case rel => exact ⟨s2, vs ++ [v], by first | rfl | exact congrArg Value.string hext, rfl, HTK2, HO3, HB4, HLN2⟩
      · have HRES : Hid (T = none) := Lib.hid (by rw [HTK.out, takeK_cons HE.out, hfk]; rfl)
        clear hfk
        go_wp2_with fail
        refine bodyPost_ret (v := .tuple #[.slice none 0 0, .int .i64 7]) (by simp [results, Tryd.results20, go_sem]) rfl ⟨⟨.slice none 0 0, .inr ⟨HRES.out, rfl⟩⟩, ?_⟩
        have := HBW2.out
        exact this.alloc this.size _
end Go.Proofs.YtclkpbokngamiaaDoor.Dt
