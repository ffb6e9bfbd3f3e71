/- KeyBack: the law returns true at every input. -/
import Derived.Test.YtclkpbokngamiaaDoorLiftD
import Derived.Test.YtclkpbokngamiaaDoorTie
import Derived.Test.YtclkpbokngamiaaDoorCards
import Derived.SevenTiedAt
import Derived.Stop.Joined
import Derived.Test.YtclkpbokngamiaaDoorKeyRefTake
import Derived.Test.YtclkpbokngamiaaDoorKeySame
import Derived.Test.YtclkpbokngamiaaDoorKeyLong
import Derived.Test.YtclkpbokngamiaaDoorKeyTwo
import Derived.Test.YtclkpbokngamiaaDoorKeySpec4
import Derived.Test.YtclkpbokngamiaaDoorKeyMax
import Derived.Deep.CutBlock
namespace Go.Proofs.YtclkpbokngamiaaDoor.KeyBack
open Go.ChangeShapes Go.WideShapes Go.ChangeAt Go.RowKit Go.Proofs.YtclkpbokngamiaaDoor.By
set_option linter.unusedVariables false
-- witness .slice none 0 0
-- witness .slice none 0 0
-- witness .string ByteArray.empty
/- KeyBack: a row is told back by its key; keys stand one behind the other as the rows do; what is taken of bytes is put as these bytes. No conditions beyond what the row lists. -/
open Go.Proofs.YtclkpbokngamiaaDoor.Dt
theorem one_at (W : World) (a : V) : VsAt (W.alloc (.cells #[.int .u8 (a.k : Int), .int .i64 a.n, .string a.s] 39)) (.slice (some ⟨W.heap.size, 0, none⟩) 1 1) [a] := by
  refine ⟨_, _, rfl, Nat.le_refl _, fun i x hx => ⟨W.heap.size, 0, rfl, fun j u hu => ?_⟩⟩
  rcases i with _ | i <;> simp at hx <;> subst hx <;> (rcases j with _ | _ | _ | j <;> simp [V.cells] at hu <;> subst hu <;> go_simp)
set_option maxRecDepth 100000 in
set_option maxHeartbeats 16000000 in
theorem walk (rv tv : Value) (a b : List V) (s : ByteArray) (w : World) (hm : MaxAt w) (ha : VsAt w rv a) (hb : VsAt w tv b) (na : PlainV rv) (nb : PlainV tv) (oa : ∀ v ∈ a, v.ok) (ob : ∀ v ∈ b, v.ok) (la : a.length ≤ 140737488351232) (lb : b.length ≤ 140737488351232) :
    Calls Tryd.prog 7 #[rv, tv, .string s] w fun e w' => e = .returned (.bool true) ∧ Below w.heap.size w w' := by
  obtain ⟨ar, cr, rfl⟩ := ha.shape
  obtain ⟨at', ct, rfl⟩ := hb.shape
  have HA := Lib.hid ha
  have HB := Lib.hid hb
  have NA := Lib.hid na
  have NB := Lib.hid nb
  have OA := Lib.hid oa
  have OB := Lib.hid ob
  have LA := Lib.hid la
  have LB := Lib.hid lb
  have HM := Lib.hid hm
  clear ha hb oa ob la lb hm na nb
  go_enter Tryd.func7, Tryd.ntmps7
  go_wp2_with fail
  refine (works w HM.out).mono ?_
  rintro e w1 ⟨rfl, hb1⟩
  have HB1 := Lib.hid hb1
  clear hb1
  go_wp2_with fail
  refine (greatK _ a w1 (HA.out.below HB1.out) LA.out).mono ?_
  rintro e w2 ⟨hr, hb2⟩
  have HB2 := Lib.hid (next HB1.out hb2)
  clear hb2
  rcases hr with rfl | ⟨rfl, h60⟩
  · go_wp2_with fail
    go_ret
    exact ⟨rfl, HB2.out⟩
  have H60 := Lib.hid h60
  clear h60
  go_wp2_with fail
  refine (greatK _ b w2 (HB.out.below HB2.out) LB.out).mono ?_
  rintro e w3 ⟨hr, hb3⟩
  have HB3 := Lib.hid (next HB2.out hb3)
  clear hb3
  rcases hr with rfl | ⟨rfl, h61⟩
  · go_wp2_with fail
    go_ret
    exact ⟨rfl, HB3.out⟩
  have H61 := Lib.hid h61
  clear h61
  go_wp2_with fail
  refine (longK s w3).mono ?_
  rintro e w3b ⟨hr, hb3⟩
  have HB3b := Lib.hid (next HB3.out hb3)
  clear hb3 HB3
  rcases hr with rfl | ⟨rfl, h62⟩
  · go_wp2_with fail
    go_ret
    exact ⟨rfl, HB3b.out⟩
  have H62 := Lib.hid h62
  clear h62
  obtain ⟨R, hR⟩ : ∃ R : List UInt8, R = (if errK a = 0 then allK a else []) := ⟨_, rfl⟩
  obtain ⟨S, hS⟩ : ∃ S : List UInt8, S = (if errK b = 0 then allK b else []) := ⟨_, rfl⟩
  obtain ⟨E, hE⟩ : ∃ E : Nat, E = errK a := ⟨_, rfl⟩
  obtain ⟨F, hF⟩ : ∃ F : Nat, F = errK b := ⟨_, rfl⟩
  have hput := putW _ a w3b (HM.out.later HB3b.out) (HA.out.below HB3b.out) OA.out (by have := H60.out; omega)
  rw [← hR, ← hE] at hput
  have HPUT := Lib.hid hput
  have HR := Lib.hid hR
  have HS := Lib.hid hS
  have HE := Lib.hid hE
  have HF := Lib.hid hF
  clear hput hR hS hE hF
  go_wp2_with fail
  refine HPUT.out.mono ?_
  clear HPUT
  rintro e w4 ⟨rfl, hb4⟩
  have HB4 := Lib.hid (next HB3b.out hb4)
  clear hb4 HB3b
  have hput := putW _ b w4 (HM.out.later HB4.out) (HB.out.below HB4.out) OB.out (by have := H61.out; omega)
  rw [← HS.out, ← HF.out] at hput
  have HPUT := Lib.hid hput
  clear hput
  go_wp2_with fail
  refine HPUT.out.mono ?_
  clear HPUT
  rintro e w5 ⟨rfl, hb5⟩
  have HB5 := Lib.hid (next HB4.out hb5)
  clear hb5 HB4 HB2 HB1
  obtain ⟨X, hX⟩ : ∃ X : Bool, X = (decide (E = 0) && decide (F = 0)) := ⟨_, rfl⟩
  have HX := Lib.hid hX
  clear hX
  go_upto_region 7 with fail
  go_cut [48] (fun c wx => c = .bool X ∧ w5 = wx)
  case first =>
    by_cases e0 : E = 0
    · subst e0
      by_cases f0 : F = 0
      · subst f0
        have hx : X = true := HX.out
        subst hx
        go_wp2_with fail
        go_meet
        exact ⟨rfl, rfl⟩
      · have hx : X = false := by rw [HX.out]; simp [f0]
        subst hx
        have c2 : ((F : Int) == 0) = false := by simp; omega
        clear f0
        go_wp2_with fail
        go_meet
        exact ⟨rfl, rfl⟩
    · have hx : X = false := by rw [HX.out]; simp [e0]
      subst hx
      have c2 : ((E : Int) == 0) = false := by simp; omega
      clear e0
      go_wp2_with fail
      go_meet
      exact ⟨rfl, rfl⟩
  obtain ⟨rfl, rfl⟩ := hcut
  go_upto_if 48 with fail
  go_cut [] (fun wx => Hid (Below w.heap.size w wx))
  case first =>
    cases X
    · clear HX
      go_wp2_with fail
      go_meet
      exact HB5
    · have hx := HX.out
      simp only [Bool.true_eq, Bool.and_eq_true, decide_eq_true_eq] at hx
      obtain ⟨e0, f0⟩ := hx
      have HEA : Hid (errK a = 0) := Lib.hid (by rw [← HE.out]; exact e0)
      have HEB : Hid (errK b = 0) := Lib.hid (by rw [← HF.out]; exact f0)
      have hR := HR.out
      rw [if_pos HEA.out] at hR
      have hS := HS.out
      rw [if_pos HEB.out] at hS
      have hR' := Lib.hid hR
      have hS' := Lib.hid hS
      clear HR HS HE HF HX e0 f0 hR hS
      have RA := Lib.hid (reads_Vs (HA.out.below HB5.out) NA.out)
      have RB := Lib.hid (reads_Vs (HB.out.below HB5.out) NB.out)
      have HO0 := Lib.hid (World.ownsRow_lit (base := w5.heap.size) (e := 39) (size := 3) w5 #[] 0 (Nat.le_refl _) (by decide) rfl)
      go_wp2_with (first
        | (at_builtin; refine wpList_append_reads rfl (.tmp 50) (.tmp 51) 22 rfl w5.heap.size 39 3 32 elV _ 0 [] rfl HO0.out _ a.length (vCells a) rfl (Reads.later' RA.out ((Below.refl _ w5).alloc (Nat.le_refl _) _)) (vCells_one a) (by have := H60.out; unfold maxLen; omega) (by have := H60.out; omega) (by simp) ?_; intro v1 w6 hown1 hgrow1 hbel1; have HO1 := Lib.hid hown1; have HB6 := Lib.hid (((Below.refl _ w5).alloc (Nat.le_refl _) _).trans hbel1); clear hown1 hgrow1 hbel1)
        | (at_builtin; refine wpList_append_reads rfl (.tmp 52) (.tmp 53) 22 rfl w5.heap.size 39 3 32 elV _ (0 + a.length) ([] ++ vCells a) rfl HO1.out _ b.length (vCells b) rfl (Reads.later' RB.out HB6.out) (vCells_one b) (by have := H60.out; have := H61.out; unfold maxLen; omega) (by have := H60.out; have := H61.out; omega) HB6.out.size ?_; intro v2 w7 hown2 hgrow2 hbel2; have HO2 := Lib.hid hown2; have HB7 := Lib.hid (HB6.out.trans hbel2); clear hown2 hgrow2 hbel2))
      obtain ⟨c, hc⟩ : ∃ c, c = a ++ b := ⟨_, rfl⟩
      have HLC : Hid (c.length = a.length + b.length) := Lib.hid (by rw [hc, List.length_append])
      have HAT : Hid (VsAt w7 v2 c) := Lib.hid (by
        have h2 := HO2.out
        refine OwnV.at_ (base := w5.heap.size) ?_
        unfold OwnV
        rw [hc, vCells_append, List.length_append]
        simpa using h2)
      have HTA : Hid (c.take a.length = a) := Lib.hid (by rw [hc]; simp)
      have HTB : Hid (c.drop a.length = b) := Lib.hid (by rw [hc]; simp)
      have HOC : Hid (∀ v ∈ c, v.ok) := Lib.hid (fun v hv => by
        rw [hc] at hv
        rcases List.mem_append.1 hv with h | h
        · exact OA.out v h
        · exact OB.out v h)
      have HEC : Hid (errK c = 0) := Lib.hid (by rw [hc, errK_append HEA.out]; exact HEB.out)
      obtain ⟨Q, hQ⟩ : ∃ Q, Q = allK c := ⟨_, rfl⟩
      have HQ := Lib.hid hQ
      have HQL : Hid (Q.length ≤ 240360) := Lib.hid (by
        have h1 := allK_len (errK_zero.1 HEC.out)
        have h2 := HLC.out
        have h3 := H60.out
        have h4 := H61.out
        rw [hQ]
        omega)
      have HQS : Hid (Q = R ++ S) := Lib.hid (by rw [hQ, hc, allK_append, hR'.out, hS'.out])
      have HB7' := Lib.hid (next HB5.out HB7.out)
      have HTK : Hid (takeK Q = some c) := Lib.hid (by rw [hQ]; exact takeK_all (errK_zero.1 HEC.out) HOC.out)
      have hput := putW v2 c w7 (HM.out.later HB7'.out) HAT.out HOC.out (by have h2 := HLC.out; have h3 := H60.out; have h4 := H61.out; omega)
      rw [HEC.out, if_pos rfl, ← hQ] at hput
      have HPUT := Lib.hid hput
      clear hput hQ hc HO2 HO1 HO0 HB6 HB7 RA RB
      refine HPUT.out.mono ?_
      clear HPUT HAT
      rintro e w8 ⟨rfl, hb8⟩
      have HB8 := Lib.hid (next HB7'.out hb8)
      clear hb8 HB7'
      go_wp2_with fail
      refine (takeW ⟨Q.toArray⟩ w8 (by rw [str_size]; have := HQL.out; omega)).mono ?_
      rintro e w9 ⟨⟨v, hv⟩, hb9⟩
      have HB9 := Lib.hid (next HB8.out hb9)
      have hq : (ByteArray.mk Q.toArray).data.toList = Q := rfl
      rw [hq, HTK.out] at hv
      clear hb9 HB8 hq
      rcases hv with ⟨vs, h1, rfl, hat, -⟩ | ⟨h1, -⟩
      case inr => cases h1
      cases h1
      obtain ⟨av, cv, rfl⟩ := hat.shape
      have hcap := hat.cap
      have HAT := Lib.hid hat
      have hadd := add_told ⟨R.toArray⟩ ⟨S.toArray⟩ (by rw [str_size, str_size]; have h1 := HQL.out; rw [HQS.out, List.length_append] at h1; omega) ⟨Q.toArray⟩ (by rw [HQS.out]; exact (ByteArray.mk_append_mk _ _).symm)
      have hmin : min (a.length : Int) (c.length : Int) = (a.length : Int) := by have := HLC.out; omega
      have hle : (a.length : Int) ≤ (c.length : Int) := by have := HLC.out; omega
      have hle2 : (a.length : Int) ≤ (cv : Int) := by omega
      have hsame := sameW _ _ (c.take a.length) a w9 (VsAt.cut HAT.out (k := a.length) (by have := HLC.out; omega)) (HA.out.below HB9.out) (by have h3 := H60.out; rw [List.length_take]; omega) LA.out
      rw [HTA.out, decide_eq_true rfl] at hsame
      have HSM := Lib.hid hsame
      clear hat hsame
      go_wp2_with fail
      refine HSM.out.mono ?_
      clear HSM
      rintro e w10 ⟨rfl, hb10⟩
      have HB10 := Lib.hid (next HB9.out hb10)
      have HAT2 := Lib.hid (HAT.out.below hb10)
      clear hb10 HAT
      by_cases hcv : cv = a.length
      · have HRST : Hid (VsAt w10 (.slice av (c.length - a.length) 0) b) := Lib.hid (by
          have h1 := VsAt.rest HAT2.out (k := a.length) (a' := av) (by have := HLC.out; omega) (fun b o he hlt => by omega)
          rw [HTB.out, hcv, Nat.sub_self] at h1
          exact h1)
        have hsm2 := sameW _ _ b b w10 HRST.out (HB.out.below HB10.out) LB.out LB.out
        rw [decide_eq_true rfl] at hsm2
        have HSM2 := Lib.hid hsm2
        clear hsm2 HAT2
        go_wp2_with fail
        refine HSM2.out.mono ?_
        clear HSM2 HRST
        rintro e w11 ⟨rfl, hb11⟩
        have HB11 := Lib.hid (next HB10.out hb11)
        clear hb11 HB10 HB9
        by_cases hla : a.length = 0
        · have i0 : ¬ (0 : Int) < (a.length : Int) := by omega
          clear hla
          go_wp2_with fail
          go_meet
          exact HB11
        · have i0 : (0 : Int) < (a.length : Int) := by omega
          obtain ⟨v, hv⟩ : ∃ v, a[0]? = some v := ⟨a[0]'(by omega), by simp⟩
          obtain ⟨b0, o0, rfl, hbz, d0, d1, d2⟩ := at3 (HA.out.below HB11.out) (k := 0) hv
          simp only [Nat.zero_mul, Nat.add_zero] at d0 d1 d2
          have hc0 : checkV v = 0 := errK_zero.1 HEA.out v (List.mem_of_getElem? hv)
          have hov := OA.out v (List.mem_of_getElem? hv)
          have hba : Below w.heap.size w (w11.alloc (.cells #[.int .u8 (v.k : Int), .int .i64 v.n, .string v.s] 39)) := HB11.out.alloc HB11.out.size _
          have hput := putW (.slice (some ⟨w11.heap.size, 0, none⟩) 1 1) [v] (w11.alloc (.cells #[.int .u8 (v.k : Int), .int .i64 v.n, .string v.s] 39)) (HM.out.later hba) (one_at w11 v) (fun u hu => by rw [List.mem_singleton.1 hu]; exact hov) (by simp)
          rw [show errK [v] = 0 by unfold errK; rw [if_pos hc0]; rfl, if_pos rfl, show allK [v] = oneK v by unfold allK; simp] at hput
          have hfk : firstK Q = some (v, (oneK v).length) := by
            have e1 : c = v :: c.drop 1 := by
              have h1 : c[0]? = some v := by
                have h2 : (c.take a.length)[0]? = some v := by rw [HTA.out]; exact hv
                rw [List.getElem?_take] at h2
                split at h2
                · exact h2
                · cases h2
              match c, h1 with
              | x :: l, h1 => simp at h1; subst h1; rfl
            have e2 : Q = oneK v ++ allK (c.drop 1) := (HQ.out.trans (congrArg allK e1)).trans (by unfold allK; rw [List.flatMap_cons])
            rw [e2]
            exact firstK_one hc0 hov _
          obtain ⟨K, hK⟩ : ∃ K, K = oneK v := ⟨_, rfl⟩
          rw [← hK] at hput hfk
          have hks := str_size K
          have HPUT := Lib.hid hput
          have HFK := Lib.hid hfk
          have HBA := Lib.hid hba
          clear hput hfk hba hK hc0 hov hv hla
          go_wp2_with fail
          refine HPUT.out.mono ?_
          clear HPUT d0 d1 d2
          rintro e w12 ⟨rfl, hb12⟩
          have HB12 := Lib.hid (next HBA.out hb12)
          clear hb12 HBA HB11
          go_wp2_with fail
          refine (keyFirstW ⟨Q.toArray⟩ w12 (by rw [str_size]; have := HQL.out; omega)).mono ?_
          rintro e w13 ⟨hf, hb13⟩
          have HB13 := Lib.hid (next HB12.out hb13)
          clear hb13 HB12
          rw [show (ByteArray.mk Q.toArray).data.toList = Q from rfl, HFK.out] at hf
          rcases hf with ⟨v', n', h1, rfl⟩ | ⟨h1, -⟩
          case inr => cases h1
          cases h1
          go_wp2_with fail
          go_meet
          exact HB13
      · have HRST : Hid (VsAt w10 (.slice (Option.map (fun x => x.add (a.length * 3)) av) (c.length - a.length) (cv - a.length)) b) := Lib.hid (by
          have h1 := VsAt.rest HAT2.out (k := a.length) (a' := Option.map (fun x => x.add (a.length * 3)) av) (by have := HLC.out; omega) (fun b o he hlt => by rw [he]; show some (Addr.add _ _) = _; rw [Addr.add_lit])
          rw [HTB.out] at h1
          exact h1)
        have hsm2 := sameW _ _ b b w10 HRST.out (HB.out.below HB10.out) LB.out LB.out
        rw [decide_eq_true rfl] at hsm2
        have HSM2 := Lib.hid hsm2
        clear hsm2 HAT2
        go_wp2_with fail
        refine HSM2.out.mono ?_
        clear HSM2 HRST
        rintro e w11 ⟨rfl, hb11⟩
        have HB11 := Lib.hid (next HB10.out hb11)
        clear hb11 HB10 HB9
        by_cases hla : a.length = 0
        · have i0 : ¬ (0 : Int) < (a.length : Int) := by omega
          clear hla
          go_wp2_with fail
          go_meet
          exact HB11
        · have i0 : (0 : Int) < (a.length : Int) := by omega
          obtain ⟨v, hv⟩ : ∃ v, a[0]? = some v := ⟨a[0]'(by omega), by simp⟩
          obtain ⟨b0, o0, rfl, hbz, d0, d1, d2⟩ := at3 (HA.out.below HB11.out) (k := 0) hv
          simp only [Nat.zero_mul, Nat.add_zero] at d0 d1 d2
          have hc0 : checkV v = 0 := errK_zero.1 HEA.out v (List.mem_of_getElem? hv)
          have hov := OA.out v (List.mem_of_getElem? hv)
          have hba : Below w.heap.size w (w11.alloc (.cells #[.int .u8 (v.k : Int), .int .i64 v.n, .string v.s] 39)) := HB11.out.alloc HB11.out.size _
          have hput := putW (.slice (some ⟨w11.heap.size, 0, none⟩) 1 1) [v] (w11.alloc (.cells #[.int .u8 (v.k : Int), .int .i64 v.n, .string v.s] 39)) (HM.out.later hba) (one_at w11 v) (fun u hu => by rw [List.mem_singleton.1 hu]; exact hov) (by simp)
          rw [show errK [v] = 0 by unfold errK; rw [if_pos hc0]; rfl, if_pos rfl, show allK [v] = oneK v by unfold allK; simp] at hput
          have hfk : firstK Q = some (v, (oneK v).length) := by
            have e1 : c = v :: c.drop 1 := by
              have h1 : c[0]? = some v := by
                have h2 : (c.take a.length)[0]? = some v := by rw [HTA.out]; exact hv
                rw [List.getElem?_take] at h2
                split at h2
                · exact h2
                · cases h2
              match c, h1 with
              | x :: l, h1 => simp at h1; subst h1; rfl
            have e2 : Q = oneK v ++ allK (c.drop 1) := (HQ.out.trans (congrArg allK e1)).trans (by unfold allK; rw [List.flatMap_cons])
            rw [e2]
            exact firstK_one hc0 hov _
          obtain ⟨K, hK⟩ : ∃ K, K = oneK v := ⟨_, rfl⟩
          rw [← hK] at hput hfk
          have hks := str_size K
          have HPUT := Lib.hid hput
          have HFK := Lib.hid hfk
          have HBA := Lib.hid hba
          clear hput hfk hba hK hc0 hov hv hla
          go_wp2_with fail
          refine HPUT.out.mono ?_
          clear HPUT d0 d1 d2
          rintro e w12 ⟨rfl, hb12⟩
          have HB12 := Lib.hid (next HBA.out hb12)
          clear hb12 HBA HB11
          go_wp2_with fail
          refine (keyFirstW ⟨Q.toArray⟩ w12 (by rw [str_size]; have := HQL.out; omega)).mono ?_
          rintro e w13 ⟨hf, hb13⟩
          have HB13 := Lib.hid (next HB12.out hb13)
          clear hb13 HB12
          rw [show (ByteArray.mk Q.toArray).data.toList = Q from rfl, HFK.out] at hf
          rcases hf with ⟨v', n', h1, rfl⟩ | ⟨h1, -⟩
          case inr => cases h1
          cases h1
          go_wp2_with fail
          go_meet
          exact HB13
  clear HX HR HS HE HF
  have HB6 := hcut
  rename World => w6
  clear hcut
  go_wp2_with fail
  refine (takeW s w6 (by have := H62.out; omega)).mono ?_
  rintro e w7 ⟨⟨v, hv⟩, hb7⟩
  have HB7 := Lib.hid (next HB6.out hb7)
  clear hb7
  rcases hv with ⟨vs, h1, rfl, hat, hln⟩ | ⟨h1, rfl⟩
  · obtain ⟨g1, g2, g3⟩ := takeK_back _ _ _ (Nat.le_refl _) h1
    obtain ⟨av, cv, rfl⟩ := hat.shape
    have hput := putW _ vs w7 (HM.out.later HB7.out) hat g3 (by have := H62.out; omega)
    have hss : (ByteArray.mk (allK vs).toArray) = s := by rw [g1]
    rw [errK_zero.2 g2, if_pos rfl] at hput
    have HPUT := Lib.hid hput
    have HSS : Hid (str (allK vs) = .string s) := Lib.hid (congrArg Value.string hss)
    rw [HSS.out] at HPUT
    clear hput hat hln g1 g2 g3 hss h1
    go_wp2_with fail
    refine HPUT.out.mono ?_
    clear HPUT
    rintro e w8 ⟨rfl, hb8⟩
    have HB8 := Lib.hid (next HB7.out hb8)
    clear hb8
    go_wp2_with fail
    go_ret
    exact ⟨rfl, HB8.out⟩
  · have hput := putW (.slice none 0 0) [] w7 (HM.out.later HB7.out) (SlAt.nil _ _ _) (fun v hv => by simp at hv) (by simp)
    have HPUT := Lib.hid hput
    clear hput h1
    go_wp2_with fail
    refine HPUT.out.mono ?_
    clear HPUT
    rintro e w8 ⟨rfl, hb8⟩
    have HB8 := Lib.hid (next HB7.out hb8)
    clear hb8
    go_wp2_with fail
    go_ret
    exact ⟨rfl, HB8.out⟩
theorem opened {H : Type} (enc : TypeId × Value → H) (W : World) (args : Array Value) (ds : List (DataW H)) (p : List MemPlace) (hsh : W.ShapedOpen Tryd.prog) :
    Lift.Owes enc Tryd.prog 7 Tryd.f7.params.toList W args ds p := by
  intro hA hval hsz _
  rw [Tryd.params7] at hA hval hsz
  obtain ⟨v0, vs0, d0, ds0, p0, q0, hargs, rfl, rfl, h0, r0⟩ := trodAll_cons hA
  obtain ⟨v1, vs1, d1, ds1, p1, q1, rfl, rfl, rfl, h1, r1⟩ := trodAll_cons r0
  obtain ⟨v2, vs2, d2, ds2, p2, q2, rfl, rfl, rfl, h2, r2⟩ := trodAll_cons r1
  obtain ⟨rfl, rfl, rfl⟩ := trodAll_nil r2
  obtain rfl : args = #[v0, v1, v2] := by cases args; simp_all
  obtain ⟨base0, hv0⟩ := hval 0 _ v0 rfl rfl
  obtain ⟨base1, hv1⟩ := hval 1 _ v1 rfl rfl
  obtain ⟨base2, hv2⟩ := hval 2 _ v2 rfl rfl
  obtain ⟨A, hrA, hoA, hlA⟩ := arg_Vs vT (by kernel_rfl) hv0 h0 (lim_arg hsz (j := 0) rfl rfl)
  have nA := arg_plainV (t := 22) (e := 39) (by kernel_rfl) hv0 h0
  obtain ⟨B, hrB, hoB, hlB⟩ := arg_Vs vT (by kernel_rfl) hv1 h1 (lim_arg hsz (j := 1) rfl rfl)
  have nB := arg_plainV (t := 22) (e := 39) (by kernel_rfl) hv1 h1
  obtain ⟨s2, rfl, rfl, rfl, ws2⟩ := ChangeMaps.open_string Tryd.underlying9 hv2 h2
  exact walk v0 v1 A B s2 W (maxAt hsh) hrA hrB nA nB hoA hoB (by omega) (by omega)

theorem own : ownKnob Tryd.prog.godebug = none := by kernel_rfl
theorem laid : laidOutB Tryd.prog = true := by kernel_rfl
def laidD : List (String × DataW Unit) := [("unicode/utf8.acceptRanges", Rows.laid_unicode_utf8_acceptRanges), ("unicode/utf8.first", Rows.laid_unicode_utf8_first)]
theorem tied {ps qs : Array TypeId} {j : Nat} {t : TypeId} (_ : ps = qs) (hall : (ps.all fun u => !Tryd.prog.wantsStandIn u) = true) (ht : ps[j]? = some t) : Tryd.prog.wantsStandIn t = false := by
  obtain ⟨hj, rfl⟩ := Array.getElem?_eq_some_iff.1 ht
  have := Array.all_eq_true.1 hall j hj
  simpa using this

set_option maxRecDepth 100000 in
theorem lifted (os : Os) (started : os.Started) (H : Type) (enc : TypeId × Value → H) :
    ReturnsInHanded {} Tryd.checked os 7 .any (fun w args => (Rows.keyBackSpec.pre enc Tryd.prog Tryd.f7 [] false w args ∧ laidMetH Tryd.prog laidD w) ∧ sizedMet enc Tryd.prog Tryd.f7 (OpenSpec.ofChange Rows.keyBackSpec) false w args)
      (Rows.keyBackSpec.post enc Tryd.prog Tryd.f7 false true false false) := by
  refine Lift.liftedD (C := Tryd.checked) (X := fun w _ => laidMetH Tryd.prog laidD w) (fun _ _ _ hh h => h.of_heap hh) own started (by kernel_rfl) Tryd.func7
    (ChangeSpec.witness_shaped (enc := enc) (C := Tryd.checked) (os := os) (X := fun w _ => laidMetH Tryd.prog laidD w) false (World.laidAll Tryd.prog os laidD) #[.slice none 0 0, .slice none 0 0, .string ByteArray.empty] 8 (World.laidAll_os _ _ _)
      (World.shaped_of_ZipB (by kernel_rfl) (by kernel_rfl)) (by kernel_rfl) (by kernel_rfl) (by kernel_rfl)
      (by rw [MakeChecks.laidMetH_plain _ _ _ (by kernel_rfl)]; exact laidMet_laidAll _ (by kernel_rfl) (by kernel_rfl)))
    laid (by rw [Tryd.params7]; intro t ht; simp at ht; rcases ht with rfl | rfl | rfl <;> exact ⟨by kernel_rfl, of_decide_eq_true (by kernel_rfl)⟩) rfl 4 rfl Tryd.underlying4
    (fun ds hds => by match ds, hds with | [_, _, _], _ => rfl) (fun W args ds p hsh hL => opened enc W args ds p hsh)

theorem row_said : Rows.KeyBackSaid :=
  OpenClaim.holds_of_wide 7 Tryd.f7 rfl rfl rfl rfl rfl rfl rfl ⟨rfl, rfl, rfl, rfl, rfl⟩ rfl rfl rfl rfl rfl (by kernel_rfl) Tryd.func7 (by kernel_rfl)
    (of_decide_eq_true (by kernel_rfl)) (by unfold Func.isWrapper; first | (rw [if_pos (by decide +kernel)]; kernel_rfl) | (rw [if_neg (by decide +kernel)]; exact ⟨rfl, rfl⟩))
    (fun os started H enc _ => lifted os started H enc)

theorem said : Rows.KeyBackCardSaid :=
  Claim7.holds_tied_plain_at .later [] [.data, .pinned] true (true, "87c978da54aa7d62b9f7dbc4ff716a48af2b5ba8b3bc861d8d5581fb88b01145") false
    row_said (fun _ h => by cases h) (by kernel_rfl) (fun _ h => by cases h) keyBack_row_tie rfl ⟨rfl, rfl⟩ (by kernel_rfl) rfl
    (fun f fn hf hfn => by
      obtain rfl : f = 7 := Option.some.inj ((show Tryd.prog.funcNamed "counterfoil/counterfoillaw08.KeyBack" = some 7 by kernel_rfl).symm.trans hf) |>.symm
      obtain rfl : fn = Tryd.f7 := (Option.some.inj (Tryd.func7.symm.trans hfn)).symm
      exact ⟨by kernel_rfl, fun j t ht => by
        rw [Tryd.params7] at ht
        exact tied Tryd.params7.symm (by kernel_rfl) ht⟩)
    (by kernel_rfl)
#print axioms said
end Go.Proofs.YtclkpbokngamiaaDoor.KeyBack
