/-
  The walks of key.each and key.Take: any bytes, the row whose key they are.
-/
import Derived.Test.YtcimipebpfajgaaDoorKeyFirst
import Derived.Test.YtcimipebpfajgaaDoorAll2
import Derived.Lib.IndexBytes
namespace Go.Proofs.YtcimipebpfajgaaDoor.Dt
open Go.RowKit Go.Proofs.YtcimipebpfajgaaDoor.By

/-- The row whose key these bytes are. -/
def takeF : Nat → List UInt8 → Option (List V)
  | 0, l => if l = [] then some [] else none
  | m + 1, l => if l = [] then some [] else (firstK l).bind fun p => (takeF m (l.drop p.2)).map (p.1 :: ·)
def takeK (l : List UInt8) : Option (List V) := takeF l.length l
theorem takeF_enough : ∀ (m : Nat) (l : List UInt8), l.length ≤ m → takeF m l = takeK l := by
  have main : ∀ (q : Nat) (l : List UInt8), l.length ≤ q → ∀ m, l.length ≤ m → takeF m l = takeF l.length l := by
    intro q
    induction q with
    | zero =>
      intro l hl m hm
      obtain rfl : l = [] := List.eq_nil_of_length_eq_zero (by omega)
      cases m <;> rfl
    | succ q ih =>
      intro l hl m hm
      by_cases h0 : l = []
      · subst h0; cases m <;> rfl
      · obtain ⟨k, hk⟩ : ∃ k, l.length = k + 1 := ⟨l.length - 1, by have : 0 < l.length := List.length_pos_iff.2 h0; omega⟩
        obtain ⟨m', rfl⟩ : ∃ m', m = m' + 1 := ⟨m - 1, by omega⟩
        rw [hk, takeF, takeF, if_neg h0, if_neg h0]
        cases hf : firstK l with
        | none => rfl
        | some p =>
          have hp := firstK_len (v := p.1) (n := p.2) hf
          have hd : (l.drop p.2).length ≤ q := by rw [List.length_drop]; omega
          simp only [Option.bind_some]
          rw [ih _ hd m' (by rw [List.length_drop]; omega), ih _ hd k (by rw [List.length_drop]; omega)]
  intro m l h
  exact main l.length l (Nat.le_refl _) m h
theorem takeK_nil : takeK [] = some [] := rfl
theorem takeK_cons {l : List UInt8} (h : l ≠ []) : takeK l = (firstK l).bind fun p => (takeK (l.drop p.2)).map (p.1 :: ·) := by
  obtain ⟨k, hk⟩ : ∃ k, l.length = k + 1 := ⟨l.length - 1, by have : 0 < l.length := List.length_pos_iff.2 h; omega⟩
  unfold takeK
  rw [hk, takeF, if_neg h]
  cases hf : firstK l with
  | none => rfl
  | some p =>
    have hp := firstK_len (v := p.1) (n := p.2) hf
    simp only [Option.bind_some]
    rw [takeF_enough k _ (by rw [List.length_drop]; omega)]
    rfl
/-- What there is between the operations that take one value more. -/
structure EachJ (B : Nat) (ov : Value) (vs : List V) (v : V) (s s2 : ByteArray) (n : Int) (q : Nat) (w0 : World) (dn : Nat → Bool) (us : Nat → Value) (w : World) : Prop where
  bel : Below B w0 w
  box : BoxV q v w
  own : dn 3 = false → OwnV w B ov vs
  h0 : dn 0 = true → us 0 = ov
  h7o : dn 7 = false → us 7 = ov
  h1 : dn 1 = true → us 1 = v.val
  h2 : dn 2 = true → dn 3 = false → ∃ k, us 2 = .slice (some ⟨k, 0, none⟩) 1 1 ∧ B ≤ k ∧ BoxV k v w
  h3 : dn 3 = true → OwnV w B (us 3) (vs ++ [v])
  h4 : dn 4 = true → us 4 = .string s
  h8o : dn 8 = false → us 8 = .string s
  h5 : dn 5 = true → us 5 = .int .i64 n
  h6 : dn 6 = true → us 6 = .string s2
  h7 : dn 7 = true → us 7 = us 3 ∧ dn 3 = true
  h8 : dn 8 = true → us 8 = .string s2
section
variable {B : Nat} {ov : Value} {vs : List V} {v : V} {s s2 : ByteArray} {n : Int} {q : Nat} {w0 w w' : World} {dn : Nat → Bool} {us : Nat → Value}
theorem dn_ne {i j : Nat} (h : j ≠ i) : upd dn i j = dn j := by unfold upd; simp [h]
theorem dn_eq (i : Nat) : upd dn i i = true := by unfold upd; simp
/-- An operation that makes at most new memory. -/
theorem EachJ.step (h : EachJ B ov vs v s s2 n q w0 dn us w) (i : Nat) (u : Value) (hb : Below w.heap.size w w') (hBw : B ≤ w.heap.size) (hd : dn i = false) (n3 : i ≠ 3)
    (i0 : i = 0 → u = ov) (i1 : i = 1 → u = v.val) (i2 : i = 2 → ∃ k, u = .slice (some ⟨k, 0, none⟩) 1 1 ∧ B ≤ k ∧ BoxV k v w') (i4 : i = 4 → u = .string s) (i5 : i = 5 → u = .int .i64 n) (i6 : i = 6 → u = .string s2) (i7 : i = 7 → u = us 3 ∧ dn 3 = true) (i8 : i = 8 → u = .string s2) :
    EachJ B ov vs v s s2 n q w0 (upd dn i) (fun j => if j = i then u else us j) w' := by
  have one : ∀ {p : Prop} {j : Nat}, (i = j → p) → (i ≠ j → dn j = true → p) → upd dn i j = true → p := by
    intro p j ha hb' hu
    by_cases e : i = j
    · exact ha e
    · exact hb' e (by rwa [dn_ne (Ne.symm e)] at hu)
  refine ⟨h.bel.trans (hb.mono hBw), h.box.later hb, ?_, ?_, ?_, ?_, ?_, ?_, ?_, ?_, ?_, ?_, ?_, ?_⟩
  · intro hu; rw [dn_ne (Ne.symm n3)] at hu; exact (h.own hu).below hb
  · refine one (fun e => by subst e; exact i0 rfl) (fun e hd => by rw [if_neg (Ne.symm e)]; exact h.h0 hd)
  · intro hu
    by_cases e : i = 7
    · subst e; rw [dn_eq] at hu; cases hu
    · rw [dn_ne (Ne.symm e)] at hu; rw [if_neg (Ne.symm e)]; exact h.h7o hu
  · refine one (fun e => by subst e; exact i1 rfl) (fun e hd => by rw [if_neg (Ne.symm e)]; exact h.h1 hd)
  · refine one (fun e => by subst e; intro _; exact i2 rfl) (fun e hd h30 => by
      rw [if_neg (Ne.symm e)]
      rw [dn_ne (Ne.symm n3)] at h30
      obtain ⟨k, h1, h2, h3⟩ := h.h2 hd h30
      exact ⟨k, h1, h2, h3.later hb⟩)
  · intro hu; rw [dn_ne (Ne.symm n3)] at hu; rw [if_neg (Ne.symm n3)]; exact (h.h3 hu).below hb
  · refine one (fun e => by subst e; exact i4 rfl) (fun e hd => by rw [if_neg (Ne.symm e)]; exact h.h4 hd)
  · intro hu
    by_cases e : i = 8
    · subst e; rw [dn_eq] at hu; cases hu
    · rw [dn_ne (Ne.symm e)] at hu; rw [if_neg (Ne.symm e)]; exact h.h8o hu
  · refine one (fun e => by subst e; exact i5 rfl) (fun e hd => by rw [if_neg (Ne.symm e)]; exact h.h5 hd)
  · refine one (fun e => by subst e; exact i6 rfl) (fun e hd => by rw [if_neg (Ne.symm e)]; exact h.h6 hd)
  · refine one (fun e => by subst e; have := i7 rfl; rw [dn_ne (by omega)]; exact this) (fun e hd => by rw [if_neg (Ne.symm e), if_neg (Ne.symm n3), dn_ne (Ne.symm n3)]; exact h.h7 hd)
  · refine one (fun e => by subst e; exact i8 rfl) (fun e hd => by rw [if_neg (Ne.symm e)]; exact h.h8 hd)
/-- The value is laid behind the others. -/
theorem EachJ.app (h : EachJ B ov vs v s s2 n q w0 dn us w) (hd : dn 3 = false) (u : Value) (hown : OwnV w' B u (vs ++ [v])) (hg : w.grownBy w' ov.ownBlock) (hbel : Below B w w') (hq : ov.ownBlock ≠ some q) :
    EachJ B ov vs v s s2 n q w0 (upd dn 3) (fun j => if j = 3 then u else us j) w' := by
  have hne : ∀ {j}, j ≠ 3 → upd dn 3 j = true → dn j = true := fun e hu => by rwa [dn_ne e] at hu
  refine ⟨h.bel.trans hbel, ?_, ?_, ?_, ?_, ?_, ?_, ?_, ?_, ?_, ?_, ?_, ?_, ?_⟩
  · have hb := h.box
    unfold BoxV at *
    have hlt := (Array.getElem?_eq_some_iff.1 hb).1
    rw [hg.block q hlt (fun e => hq e.symm)]
    exact hb
  · intro hu; rw [dn_eq] at hu; cases hu
  · intro hu; exact h.h0 (hne (by omega) hu)
  · intro hu; rw [dn_ne (by omega)] at hu; exact h.h7o hu
  · intro hu; exact h.h1 (hne (by omega) hu)
  · intro _ hu; rw [dn_eq] at hu; cases hu
  · intro _; exact hown
  · intro hu; exact h.h4 (hne (by omega) hu)
  · intro hu; rw [dn_ne (by omega)] at hu; exact h.h8o hu
  · intro hu; exact h.h5 (hne (by omega) hu)
  · intro hu; exact h.h6 (hne (by omega) hu)
  · intro hu
    have := h.h7 (hne (by omega) hu)
    rw [hd] at this
    cases this.2
  · intro hu; exact h.h8 (hne (by omega) hu)
end
theorem tmps_of {A : Act} {t : Nat} {v : Value} (h : A.eval (.tmp t) = v) : A.tmps[t]?.getD undef = v := by rwa [eval_tmp, Array.getD_eq_getD_getElem?] at h
theorem boxV_reads {k : Nat} {v : V} {w : World} (h : BoxV k v w) : Reads w 3 (.slice (some ⟨k, 0, none⟩) 1 1) 1 [.int .u8 (v.k : Int), .int .i64 v.n, .string v.s] := by
  refine ⟨rfl, .inr ⟨_, _, rfl, fun j u hu => ?_⟩⟩
  obtain ⟨c0, c1, c2⟩ := h.cells
  rcases j with _ | _ | _ | j <;> simp at hu <;> subst hu <;> simp only [Addr.add_lit, Nat.zero_add]
  · exact c0
  · exact c1
  · exact c2
set_option maxRecDepth 100000 in
set_option maxHeartbeats 16000000 in
theorem eachW (s : ByteArray) (w : World) (hs : s.size ≤ 1000000) :
    Calls Tryd.prog 15 #[.string s, .func (.func 16) #[] #[]] w fun e w' =>
      (∃ v, (∃ vs, takeK s.data.toList = some vs ∧ e = .returned (.tuple #[v, .bool true]) ∧ VsAt w' v vs ∧ vs.length ≤ s.size) ∨ (takeK s.data.toList = none ∧ e = .returned (.tuple #[.slice none 0 0, .bool false]))) ∧ Below w.heap.size w w' := by
  have HS := Lib.hid hs
  obtain ⟨T, hT⟩ : ∃ T, T = takeK s.data.toList := ⟨_, rfl⟩
  rw [← hT]
  have HT := Lib.hid hT
  clear hs hT
  go_enter Tryd.func15, Tryd.ntmps15
  go_wp2_with fail
  go_loopg [0, 6] s.size (fun gk sv ov wr => ∃ (s1 : ByteArray) (vs : List V), sv = .string s1 ∧ gk = s1.size ∧ Hid (T = (takeK s1.data.toList).map (vs ++ ·)) ∧ Hid (OwnV wr w.heap.size ov vs) ∧ Hid (Below w.heap.size w wr) ∧ Hid (s1.size + vs.length ≤ s.size))
  case atStart => exact ⟨s, [], rfl, rfl, Lib.hid (by rw [HT.out]; cases takeK s.data.toList <;> simp), Lib.hid (OwnV.nil _ _), Lib.hid (Below.refl _ _), Lib.hid (by simp)⟩
  case round =>
    obtain ⟨s1, vs, rfl, rfl, HTK, HOWN, HBW, HLN⟩ := hrel
    obtain ⟨ao, co, rfl⟩ := HOWN.out.shape
    by_cases he : s1.data.toList = []
    · have hE : s1.toList.isEmpty = true := by rw [ByteArray.toList_eq, he]; rfl
      have hres : T = some vs := by rw [HTK.out, he, takeK_nil]; simp
      have HRES := Lib.hid hres
      clear he hres
      go_wp2_with fail
      refine bodyPost_ret (v := .tuple #[.slice ao vs.length co, .bool true]) (by simp [results, Tryd.results15, go_sem]) rfl ⟨⟨.slice ao vs.length co, .inl ⟨vs, HRES.out, rfl, HOWN.out.at_, by have := HLN.out; omega⟩⟩, HBW.out⟩
    · have hE : s1.toList.isEmpty = false := by rw [ByteArray.toList_eq]; simpa using he
      have HE := Lib.hid he
      clear he
      go_wp2_with fail
      refine (firstW s1 wr (by have := HLN.out; have := HS.out; omega)).mono ?_
      rintro e w2 ⟨⟨v, n, ok, rfl, hf⟩, hb2⟩
      have HBW2 := Lib.hid (next HBW.out hb2)
      have HOWN2 := Lib.hid (HOWN.out.below hb2)
      clear hb2
      cases hfk : firstK s1.data.toList with
      | none =>
        rw [hfk] at hf
        obtain rfl : ok = false := hf
        have HRES : Hid (T = none) := Lib.hid (by rw [HTK.out, takeK_cons HE.out, hfk]; rfl)
        clear hfk
        go_wp2_with fail
        refine bodyPost_ret (v := .tuple #[.slice none 0 0, .bool false]) (by simp [results, Tryd.results15, go_sem]) rfl ⟨⟨.slice none 0 0, .inr ⟨HRES.out, rfl⟩⟩, ?_⟩
        have := HBW2.out
        exact this.alloc this.size _
      | some p =>
        obtain ⟨v0, n0⟩ := p
        rw [hfk] at hf
        obtain ⟨rfl, rfl, rfl⟩ := hf
        have HFK := Lib.hid hfk
        have hn := firstK_len hfk
        clear hfk
        go_wp2_with fail
        obtain ⟨s2, hs2⟩ : ∃ s2, s2 = s1.extract n0 s1.size := ⟨_, rfl⟩
        have hs2l : s2.data.toList = s1.data.toList.drop n0 := by rw [hs2]; exact Lib.extract_to_end s1 n0
        have hsz1 : s1.data.toList.length = s1.size := Array.length_toList
        have hsz2 : s2.size = s1.size - n0 := by
          have h1 : s2.data.toList.length = s2.size := Array.length_toList
          rw [← h1, hs2l, List.length_drop, hsz1]
        have HN : Hid (1 ≤ n0 ∧ n0 ≤ s1.size) := Lib.hid (by rw [hsz1] at hn; exact hn)
        have HS2 := Lib.hid hs2
        have HSZ := Lib.hid hsz2
        have HTK2 : Hid (T = (takeK s2.data.toList).map ((vs ++ [v]) ++ ·)) := Lib.hid (by
          rw [HTK.out, takeK_cons HE.out, HFK.out, hs2l]
          simp only [Option.bind_some, Option.map_map]
          congr 1
          funext x
          simp)
        have hbx := boxV_new v w2
        have hown3 := HOWN2.out.below (w' := w2.alloc (.cells #[.int .u8 (v.k : Int), .int .i64 v.n, .string v.s] 26)) ((Below.refl _ _).alloc (Nat.le_refl _) _)
        have HQ : Hid ((Value.slice ao vs.length co).ownBlock ≠ some w2.heap.size) := Lib.hid (HOWN2.out.notBlock (Nat.le_refl _))
        have HBW3 : Hid (Below w.heap.size w (w2.alloc (.cells #[.int .u8 (v.k : Int), .int .i64 v.n, .string v.s] 26))) := Lib.hid (HBW2.out.alloc HBW2.out.size _)
        clear hn hs2 hs2l hsz1 hsz2 HBW2 HOWN2 HFK
        have HBX := Lib.hid hbx
        have HOWN3 := Lib.hid hown3
        clear hbx hown3
        generalize hW3 : w2.alloc (.cells #[.int .u8 (v.k : Int), .int .i64 v.n, .string v.s] 26) = w3 at *
        clear hW3
        generalize w2.heap.size = q at *
        refine wp_region_all' (EachJ w.heap.size (.slice ao vs.length co) vs v s1 s2 (n0 : Int) q w3) 29 (by simp) (by kernel_rfl) (by kernel_rfl) (fun us hus => ⟨(Below.refl _ _).drew, HBX.out, fun _ => HOWN3.out, fun h => (by cases h), fun _ => hus 7 6 (by simp) (by kernel_rfl), fun h => (by cases h), fun h => (by cases h), fun h => (by cases h), fun h => (by cases h), fun _ => hus 8 0 (by simp) (by kernel_rfl), fun h => (by cases h), fun h => (by cases h), fun h => (by cases h), fun h => (by cases h)⟩) ?_ ?_
        · intro i hi dn us F W hother hat hJ hdi hcl hd
          have hBW : w.heap.size ≤ W.heap.size := by have h1 := HBW3.out.size; have h2 := hJ.bel.size; omega
          match i, hi, hdi with
          | 0, _, hdi =>
            have no7 : dn 7 = false := by
              cases h7 : dn 7 with
              | false => rfl
              | true => have := hcl 7 _ rfl h7 ⟨0, .phase⟩ (by simp) rfl; rw [hdi] at this; cases this
            have h6 := tmps_of ((hat 7 6 (by simp) (by kernel_rfl) (by decide)).trans (hJ.h7o no7))
            exact op_val rfl rfl (.slice ao vs.length co) W (by simp only [execOp]; go_simp) ⟨_, rfl, hJ.step 0 _ (Below.refl _ _) hBW hdi (by omega) (fun _ => rfl) (fun h => (by cases h)) (fun h => (by cases h)) (fun h => (by cases h)) (fun h => (by cases h)) (fun h => (by cases h)) (fun h => (by cases h)) (fun h => (by cases h))⟩
          | 1, _, hdi =>
            have h6 := tmps_of (show F.eval (.tmp 7) = .pointer (some ⟨q, 0, none⟩) from hother 7 (by kernel_rfl))
            obtain ⟨c0, c1, c2⟩ := hJ.box.cells
            exact op_val rfl rfl v.val W (by simp only [execOp]; go_simp) ⟨_, rfl, hJ.step 1 _ (Below.refl _ _) hBW hdi (by omega) (fun h => (by cases h)) (fun _ => rfl) (fun h => (by cases h)) (fun h => (by cases h)) (fun h => (by cases h)) (fun h => (by cases h)) (fun h => (by cases h)) (fun h => (by cases h))⟩
          | 2, _, hdi =>
            have d1 := hd _ rfl ⟨1, .data⟩ (by simp) rfl
            have h6 := tmps_of ((hat 1 22 (by simp) (by kernel_rfl) (by decide)).trans (hJ.h1 d1))
            exact op_val rfl rfl (.slice (some ⟨W.heap.size, 0, none⟩) 1 1) (W.alloc (.cells #[.int .u8 (v.k : Int), .int .i64 v.n, .string v.s] 26)) (by simp only [execOp]; go_simp) ⟨_, rfl, hJ.step 2 _ ((Below.refl _ _).alloc (Nat.le_refl _) _) hBW hdi (by omega) (fun h => (by cases h)) (fun h => (by cases h)) (fun _ => ⟨_, rfl, hBW, boxV_new v W⟩) (fun h => (by cases h)) (fun h => (by cases h)) (fun h => (by cases h)) (fun h => (by cases h)) (fun h => (by cases h))⟩
          | 3, _, hdi =>
            have d0 := hd _ rfl ⟨0, .data⟩ (by simp) rfl
            have d2 := hd _ rfl ⟨2, .data⟩ (by simp) rfl
            obtain ⟨k, hk1, hk2, hk3⟩ := hJ.h2 d2 hdi
            exact op_append rfl rfl (.tmp 21) (.tmp 23) 28 rfl w.heap.size 26 3 32 elV _ vs.length (vCells vs) ((hat 0 21 (by simp) (by kernel_rfl) (by decide)).trans (hJ.h0 d0)) (hJ.own hdi) _ 1 [.int .u8 (v.k : Int), .int .i64 v.n, .string v.s] ((hat 2 23 (by simp) (by kernel_rfl) (by decide)).trans hk1) (boxV_reads hk3) (by simp [Value.oneCell'])
              (by have := HLN.out; have := HS.out; unfold maxLen; omega) (by have := HLN.out; have := HS.out; omega) hBW (fun v' w' h1 h2 h3 => ⟨v', rfl, hJ.app hdi v' (OwnV.snoc h1) h2 h3 HQ.out⟩)
          | 4, _, hdi =>
            have no8 : dn 8 = false := by
              cases h7 : dn 8 with
              | false => rfl
              | true => have := hcl 8 _ rfl h7 ⟨4, .phase⟩ (by simp) rfl; rw [hdi] at this; cases this
            have h6 := tmps_of ((hat 8 0 (by simp) (by kernel_rfl) (by decide)).trans (hJ.h8o no8))
            exact op_val rfl rfl (.string s1) W (by simp only [execOp]; go_simp) ⟨_, rfl, hJ.step 4 _ (Below.refl _ _) hBW hdi (by omega) (fun h => (by cases h)) (fun h => (by cases h)) (fun h => (by cases h)) (fun _ => rfl) (fun h => (by cases h)) (fun h => (by cases h)) (fun h => (by cases h)) (fun h => (by cases h))⟩
          | 5, _, hdi =>
            have h6 := tmps_of (show F.eval (.tmp 8) = .int .i64 (n0 : Int) from hother 8 (by kernel_rfl))
            exact op_val rfl rfl (.int .i64 (n0 : Int)) W (by simp only [execOp]; go_simp) ⟨_, rfl, hJ.step 5 _ (Below.refl _ _) hBW hdi (by omega) (fun h => (by cases h)) (fun h => (by cases h)) (fun h => (by cases h)) (fun h => (by cases h)) (fun _ => rfl) (fun h => (by cases h)) (fun h => (by cases h)) (fun h => (by cases h))⟩
          | 6, _, hdi =>
            have d4 := hd _ rfl ⟨4, .data⟩ (by simp) rfl
            have d5 := hd _ rfl ⟨5, .data⟩ (by simp) rfl
            have h6 := tmps_of ((hat 4 25 (by simp) (by kernel_rfl) (by decide)).trans (hJ.h4 d4))
            have h7 := tmps_of ((hat 5 26 (by simp) (by kernel_rfl) (by decide)).trans (hJ.h5 d5))
            have hle : (n0 : Int) ≤ (s1.size : Int) := by have := HN.out.2; omega
            exact op_val rfl rfl (.string s2) W (by rw [HS2.out]; simp only [execOp]; go_simp) ⟨_, rfl, hJ.step 6 _ (Below.refl _ _) hBW hdi (by omega) (fun h => (by cases h)) (fun h => (by cases h)) (fun h => (by cases h)) (fun h => (by cases h)) (fun h => (by cases h)) (fun _ => rfl) (fun h => (by cases h)) (fun h => (by cases h))⟩
          | 7, _, hdi =>
            have d3 := hd _ rfl ⟨3, .data⟩ (by simp) rfl
            obtain ⟨a3, c3, e3⟩ := (hJ.h3 d3).shape
            have h6 := tmps_of ((hat 3 24 (by simp) (by kernel_rfl) (by decide)).trans e3)
            exact op_val rfl rfl (us 3) W (by rw [e3]; simp only [execOp]; go_simp) ⟨_, rfl, hJ.step 7 _ (Below.refl _ _) hBW hdi (by omega) (fun h => (by cases h)) (fun h => (by cases h)) (fun h => (by cases h)) (fun h => (by cases h)) (fun h => (by cases h)) (fun h => (by cases h)) (fun _ => ⟨rfl, d3⟩) (fun h => (by cases h))⟩
          | 8, _, hdi =>
            have d6 := hd _ rfl ⟨6, .data⟩ (by simp) rfl
            have h6 := tmps_of ((hat 6 27 (by simp) (by kernel_rfl) (by decide)).trans (hJ.h6 d6))
            exact op_val rfl rfl (.string s2) W (by simp only [execOp]; go_simp) ⟨_, rfl, hJ.step 8 _ (Below.refl _ _) hBW hdi (by omega) (fun h => (by cases h)) (fun h => (by cases h)) (fun h => (by cases h)) (fun h => (by cases h)) (fun h => (by cases h)) (fun h => (by cases h)) (fun h => (by cases h)) (fun _ => rfl)⟩
          | n + 9, hi, _ => simp at hi; omega
        intro dn us w4 hall hJ
        have hu7 := (hJ.h7 (hall 7 (by simp))).1
        have hu8 := hJ.h8 (hall 8 (by simp))
        have hown4 := hJ.h3 (hall 3 (by simp))
        rw [← hu7] at hown4
        obtain ⟨a4, c4, e4⟩ := hown4.shape
        rw [e4] at hown4
        have HOWN4 := Lib.hid hown4
        have HBW4 := Lib.hid (HBW3.out.trans hJ.bel)
        have HLN2 : Hid (s2.size + (vs ++ [v]).length ≤ s.size) := Lib.hid (by have h1 := HSZ.out; have h2 := HN.out; have h3 := HLN.out; rw [List.length_append]; simp only [List.length_cons, List.length_nil]; omega)
        have HM : Hid (s2.size < s1.size) := Lib.hid (by have h1 := HSZ.out; have h2 := HN.out; omega)
        clear hall hJ hown4 hu7
        simp only [List.length_cons, List.length_nil, Nat.zero_add, Nat.reduceAdd, putAll, dstOf, List.getElem?_toArray, List.getElem?_cons_zero, List.getElem?_cons_succ, Option.bind_some, Act.put, e4, hu8]
        clear e4 hu8
        simp only [List.setIfInBounds_toArray, List.set_cons_zero, List.set_cons_succ]
        go_wp2_with fail
        go_roundg s2.size
        case measure => exact HM.out
        case rel => exact ⟨s2, vs ++ [v], rfl, rfl, HTK2, HOWN4, HBW4, HLN2⟩
end Go.Proofs.YtcimipebpfajgaaDoor.Dt
