import Derived.Handy
import Derived.Test.YtmdogmpcmkfjpaaGreatDoorBj16
import Derived.Test.YtmdogmpcmkfjpaaGreatDoorBj17
import Derived.Test.YtmdogmpcmkfjpaaGreatDoorBj18
import Derived.Test.YtmdogmpcmkfjpaaGreatDoorBj14
/- Part of the proof (merged). -/
namespace Go.Proofs.YtmdogmpcmkfjpaaGreatDoor.Dt
open Go.RowKit Go.Proofs.YtmdogmpcmkfjpaaGreatDoor.By
def outT:One→Tk × Nat
 | .tok k s n _=>(⟨k,⟨s.toArray⟩,n,0⟩,0)
 | .bad e _=>(T0,e)
theorem outV_eq (o:One):outV o = .tuple #[.agg #[.int .u8 ((outT o).1.k:Int),.string (outT o).1.s,.int .u64 ((outT o).1.n:Int),.int .i64 (outT o).1.a],.int .i64 ((outT o).2:Int)]:=by cases o <;> rfl
set_option maxRecDepth 100000 in
set_option maxHeartbeats 16000000 in
theorem tokenW (w0:World) (r:Nat) (s:ByteArray) (k:Nat) (w:World) (hx:Env w0 r w) (h:RD r s k w) (hs:s.size ≤ 1000000) (hk:k < s.size) :
 Calls Tryz.prog 72 #[.pointer (some ⟨r,0,none⟩)] w fun e w'=>e = .returned (outV (oneL (s.data.toList.drop k)))∧RD r s (k + lenO (oneL (s.data.toList.drop k))) w'∧w.grownBy w' (some r):=by
 obtain ⟨l,hl⟩:∃ l,l=s.data.toList.drop k:=⟨_,rfl⟩
 obtain ⟨p,hp⟩:∃ p,p=k + lenO (oneL l):=⟨_,rfl⟩
 rw [← hl,← hp,outV_eq]
 obtain ⟨V,hV⟩:∃ V,V=outT (oneL l):=⟨_,rfl⟩
 have hv2:=outV_eq (oneL l)
 rw [← hV] at hv2 ⊢
 obtain ⟨⟨tk,ts,tn,ta⟩,te⟩:=V
 have HV:=Lib.hid hv2
 have HPP:=Lib.hid hp
 have HL:=Lib.hid hl
 have HS:=Lib.hid hs
 have HK:=Lib.hid hk
 have HX:=Lib.hid hx
 have hne:w.heap.size ≠ r:=by have:=h.lt;omega
 have HNE:=Lib.hid hne
 have HP0:Hid (∀ W,RD r s k W→Calls Tryz.prog 111 #[.pointer (some ⟨r,0,none⟩),.int .i64 0] W fun e w'=>e = .returned (byte (topB l))∧Below W.heap.size W w'):=Lib.hid (fun W h=>by rw [hl];exact peek0 r s k W h hs (by omega))
 have HP1:Hid (∀ W,RD r s k W→Calls Tryz.prog 111 #[.pointer (some ⟨r,0,none⟩),.int .i64 1] W fun e w'=>e = .returned (byte (topB (l.drop 1)))∧Below W.heap.size W w'):=Lib.hid (fun W h=>by rw [hl,List.drop_drop];exact peek1 r s k W h hs (by omega))
 have H1G:Hid (w.grownBy (w.alloc (.cells #[.int .u8 0,.string ⟨#[]⟩,.int .u64 0,.int .i64 0] 128)) (some r)):=Lib.hid (below_grown ((Below.refl _ _).alloc (Nat.le_refl _) _))
 have H1R:Hid (RD r s k (w.alloc (.cells #[.int .u8 0,.string ⟨#[]⟩,.int .u64 0,.int .i64 0] 128))):=Lib.hid (h.later ((Below.refl _ _).alloc (Nat.le_refl _) _))
 have H1B:Hid (TBox w.heap.size (w.alloc (.cells #[.int .u8 0,.string ⟨#[]⟩,.int .u64 0,.int .i64 0] 128))):=Lib.hid (tBox_new _ _)
 clear hl hp hv2 hV hx h hs hk hne
 simp only
 go_enter Tryz.func72,Tryz.ntmps72
 go_upto_region 2 with fail
 generalize (w.alloc (.cells #[.int .u8 0,.string ⟨#[]⟩,.int .u64 0,.int .i64 0] 128))=w1 at *
 obtain ⟨b,hb⟩:∃ b,b=w.heap.size:=⟨_,rfl⟩
 rw [← hb] at H1B HNE ⊢
 have HBE:=Lib.hid (Nat.le_of_eq hb.symm)
 clear hb
 obtain ⟨c,hc⟩:∃ c,c=topB l:=⟨_,rfl⟩
 obtain ⟨d,hd⟩:∃ d,d=topB (l.drop 1):=⟨_,rfl⟩
 rw [← hc] at HP0
 rw [← hd] at HP1
 have HC:=Lib.hid hc.symm
 have HD:=Lib.hid hd.symm
 clear hc hd
 go_wp2_with fail
 refine (HP0.out _ H1R.out).mono ?_
 rintro e w2 ⟨rfl,hb2⟩
 have H2R:=Lib.hid (H1R.out.later hb2)
 have H2B:=Lib.hid (H1B.out.later hb2)
 have H2G:=Lib.hid (grown_trans H1G.out (below_grown hb2))
 clear hb2 H1R H1B H1G HP0
 by_cases h39:c=39
 ·subst h39
  have HQT:Hid (∀ W,RD r s k W→w.grownBy W (some r)→Calls Tryz.prog 114 #[.pointer (some ⟨r,0,none⟩),.int .u8 4] W fun e w'=>e = .returned (.tuple #[.agg #[.int .u8 (tk:Int),.string ts,.int .u64 (tn:Int),.int .i64 ta],.int .i64 (te:Int)])∧RD r s p w'∧W.grownBy w' (some r)):=Lib.hid (fun W h g=>by
   have h1:oneL l=textOne l:=by
    unfold oneL
    rw [if_pos HC.out]
   have h2:=HV.out
   have h3:=HPP.out
   rw [h1] at h2 h3
   rw [h3,← h2,HL.out]
   exact textLexW r s k W h HS.out HK.out)
  go_wp2_with fail
  refine (HQT.out _ H2R.out H2G.out).mono ?_
  rintro e w9 ⟨rfl,hr9,hg9⟩
  have HR9:=Lib.hid hr9
  have HB9:=Lib.hid (H2B.out.grown hg9 HNE.out)
  have HG9:=Lib.hid (grown_trans H2G.out hg9)
  clear hr9 hg9
  obtain ⟨c0,c1,c2,c3,f0,f1,f2,f3⟩:=HB9.out
  go_wp2_with fail
  obtain ⟨q0,q1,q2,q3⟩:=filled4 w9 b (.int .u8 (tk:Int)) (.string ts) (.int .u64 (tn:Int)) (.int .i64 ta) HB9.out _ rfl
  refine bodyPost_ret (v:=.tuple #[.agg #[.int .u8 (tk:Int),.string ts,.int .u64 (tn:Int),.int .i64 ta],.int .i64 (te:Int)]) (by simp [results,Tryz.results72,go_sem,q0,q1,q2,q3]) rfl ⟨rfl,HR9.out.box _ _ _ _ HNE.out,grown_box HG9.out _ _ _ _ HBE.out⟩
 ·have e39:((c.toNat:Int) == 39)=false:=by
   have:c.toNat ≠ 39:=fun e=>h39 (UInt8.toNat_inj.1 e)
   first | (simp;done) | (simp;omega)
  have H39:Hid (¬ topB l=39):=Lib.hid (by rw [HC.out];exact h39)
  clear h39
  go_upto_region 5 with fail
  obtain ⟨B,hB⟩:∃ B,B=decide (c=120∧d=39):=⟨_,rfl⟩
  have HBB:=Lib.hid hB
  clear hB e39
  go_cut [17] (fun v wx=>v = .bool B∧Hid (RD r s k wx)∧Hid (TBox b wx)∧Hid (w.grownBy wx (some r)))
  case first=>
   by_cases h120:c=120
   ·subst h120
    by_cases hd:d=39
    ·subst hd
     obtain rfl:B=true:=by rw [HBB.out];rfl
     go_wp2_with fail
     refine (HP1.out _ H2R.out).mono ?_
     rintro e w3 ⟨rfl,hb3⟩
     have H3R:=Lib.hid (H2R.out.later hb3)
     have H3B:=Lib.hid (H2B.out.later hb3)
     have H3G:=Lib.hid (grown_trans H2G.out (below_grown hb3))
     clear hb3
     go_wp2_with fail
     go_meet
     exact ⟨rfl,H3R,H3B,H3G⟩
    ·obtain rfl:B=false:=by rw [HBB.out];exact decide_eq_false (fun e=>hd e.2)
     have e1:((d.toNat:Int) == 39)=false:=by
      have:d.toNat ≠ 39:=fun e=>hd (UInt8.toNat_inj.1 e)
      first | (simp;done) | (simp;omega)
     clear hd
     go_wp2_with fail
     refine (HP1.out _ H2R.out).mono ?_
     rintro e w3 ⟨rfl,hb3⟩
     have H3R:=Lib.hid (H2R.out.later hb3)
     have H3B:=Lib.hid (H2B.out.later hb3)
     have H3G:=Lib.hid (grown_trans H2G.out (below_grown hb3))
     clear hb3
     go_wp2_with fail
     go_meet
     exact ⟨rfl,H3R,H3B,H3G⟩
   ·obtain rfl:B=false:=by rw [HBB.out];exact decide_eq_false (fun e=>h120 e.1)
    have e1:((c.toNat:Int) == 120)=false:=by
     have:c.toNat ≠ 120:=fun e=>h120 (UInt8.toNat_inj.1 e)
     first | (simp;done) | (simp;omega)
    clear h120
    go_wp2_with fail
    go_meet
    exact ⟨rfl,H2R,H2B,H2G⟩
  case rest=>
   rename World=>w4
   obtain ⟨rfl,H4R,H4B,H4G⟩:=hcut
   clear H2R H2B H2G HP1
   have HBT:Hid ((topB l=120∧topB (l.drop 1)=39) ↔ B=true):=Lib.hid (by rw [HC.out,HD.out,HBB.out];exact decide_eq_true_iff.symm)
   clear HBB
   cases B with
   | true=>
    have HQB:Hid (∀ W,RD r s k W→w.grownBy W (some r)→Calls Tryz.prog 114 #[.pointer (some ⟨r,0,none⟩),.int .u8 5] W fun e w'=>e = .returned (.tuple #[.agg #[.int .u8 (tk:Int),.string ts,.int .u64 (tn:Int),.int .i64 ta],.int .i64 (te:Int)])∧RD r s p w'∧W.grownBy w' (some r)):=Lib.hid (fun W h g=>by
     have h1:oneL l=blobOne l:=by
      unfold oneL
      rw [if_neg H39.out,if_pos (HBT.out.2 rfl)]
     have h2:=HV.out
     have h3:=HPP.out
     rw [h1] at h2 h3
     rw [h3,← h2,HL.out]
     exact blobLexW r s k W h HS.out (by
      have h5:=(HBT.out.2 rfl).2
      rw [HL.out,List.drop_drop] at h5
      rcases Nat.lt_or_ge (k + 1) s.size with h6 | h6
      ·exact h6
      ·rw [bytes_end s (k + 1) h6] at h5;exact absurd h5 (by decide)))
    go_wp2_with fail
    refine (HQB.out _ H4R.out H4G.out).mono ?_
    rintro e w9 ⟨rfl,hr9,hg9⟩
    have HR9:=Lib.hid hr9
    have HB9:=Lib.hid (H4B.out.grown hg9 HNE.out)
    have HG9:=Lib.hid (grown_trans H4G.out hg9)
    clear hr9 hg9
    obtain ⟨c0,c1,c2,c3,f0,f1,f2,f3⟩:=HB9.out
    go_wp2_with fail
    obtain ⟨q0,q1,q2,q3⟩:=filled4 w9 b (.int .u8 (tk:Int)) (.string ts) (.int .u64 (tn:Int)) (.int .i64 ta) HB9.out _ rfl
    refine bodyPost_ret (v:=.tuple #[.agg #[.int .u8 (tk:Int),.string ts,.int .u64 (tn:Int),.int .i64 ta],.int .i64 (te:Int)]) (by simp [results,Tryz.results72,go_sem,q0,q1,q2,q3]) rfl ⟨rfl,HR9.out.box _ _ _ _ HNE.out,grown_box HG9.out _ _ _ _ HBE.out⟩
   | false=>
    have H120:Hid (¬ (topB l=120∧topB (l.drop 1)=39)):=Lib.hid (fun e=>absurd (HBT.out.1 e) (by decide))
    clear HBT
    go_upto_region 7 with fail
    obtain ⟨S,hS⟩:∃ S,S=smallB c:=⟨_,rfl⟩
    obtain ⟨P,hP⟩:∃ P,P=capB c:=⟨_,rfl⟩
    have HSM:Hid (∀ W,Calls Tryz.prog 115 #[byte c] W fun e w'=>e = .returned (.bool S)∧W=w'):=Lib.hid (fun W=>by rw [hS];exact smallW c W)
    have HCP:Hid (∀ W,Calls Tryz.prog 116 #[byte c] W fun e w'=>e = .returned (.bool P)∧W=w'):=Lib.hid (fun W=>by rw [hP];exact capW c W)
    have HSP:Hid ((smallB (topB l) || capB (topB l))=(S || P)):=Lib.hid (by rw [HC.out,hS,hP])
    clear hS hP
    go_cut [29] (fun v wx=>v = .bool (S || P)∧w4=wx)
    case first=>
     cases S with
     | true=>
      go_wp2_with fail
      refine (HSM.out _).mono ?_
      rintro e w5 ⟨rfl,rfl⟩
      go_wp2_with fail
      go_meet
      exact ⟨rfl,rfl⟩
     | false=>
      cases P with
      | true=>
       go_wp2_with fail
       refine (HSM.out _).mono ?_
       rintro e w5 ⟨rfl,rfl⟩
       go_wp2_with fail
       refine (HCP.out _).mono ?_
       rintro e w5 ⟨rfl,rfl⟩
       go_wp2_with fail
       go_meet
       exact ⟨rfl,rfl⟩
      | false=>
       go_wp2_with fail
       refine (HSM.out _).mono ?_
       rintro e w5 ⟨rfl,rfl⟩
       go_wp2_with fail
       refine (HCP.out _).mono ?_
       rintro e w5 ⟨rfl,rfl⟩
       go_wp2_with fail
       go_meet
       exact ⟨rfl,rfl⟩
    case rest=>
     obtain ⟨rfl,rfl⟩:=hcut
     obtain ⟨X,hX⟩:∃ X,X=(S || P):=⟨_,rfl⟩
     rw [← hX] at HSP ⊢
     clear hX HSM HCP
     cases X with
     | true=>
      have HWD:Hid (∀ W,RD r s k W→w.grownBy W (some r)→Calls Tryz.prog 117 #[.pointer (some ⟨r,0,none⟩)] W fun e w'=>e = .returned (.tuple #[.agg #[.int .u8 (tk:Int),.string ts,.int .u64 (tn:Int),.int .i64 ta],.int .i64 (te:Int)])∧RD r s p w'∧W.grownBy w' (some r)):=Lib.hid (fun W h g=>by
       have h1:oneL l=wordOne l:=by
        unfold oneL
        rw [if_neg H39.out,if_neg H120.out,if_pos HSP.out]
       have h2:=HV.out
       have h3:=HPP.out
       rw [h1] at h2 h3
       rw [h3,← h2,HL.out]
       exact wordW w0 r s k W (HX.out.grown g) h HS.out (Nat.le_of_lt HK.out))
      go_wp2_with fail
      refine (HWD.out _ H4R.out H4G.out).mono ?_
      rintro e w9 ⟨rfl,hr9,hg9⟩
      have HR9:=Lib.hid hr9
      have HB9:=Lib.hid (H4B.out.grown hg9 HNE.out)
      have HG9:=Lib.hid (grown_trans H4G.out hg9)
      clear hr9 hg9
      obtain ⟨c0,c1,c2,c3,f0,f1,f2,f3⟩:=HB9.out
      go_wp2_with fail
      obtain ⟨q0,q1,q2,q3⟩:=filled4 w9 b (.int .u8 (tk:Int)) (.string ts) (.int .u64 (tn:Int)) (.int .i64 ta) HB9.out _ rfl
      refine bodyPost_ret (v:=.tuple #[.agg #[.int .u8 (tk:Int),.string ts,.int .u64 (tn:Int),.int .i64 ta],.int .i64 (te:Int)]) (by simp [results,Tryz.results72,go_sem,q0,q1,q2,q3]) rfl ⟨rfl,HR9.out.box _ _ _ _ HNE.out,grown_box HG9.out _ _ _ _ HBE.out⟩
     | false=>
      obtain ⟨D,hD⟩:∃ D,D=digB c:=⟨_,rfl⟩
      have HDG:Hid (∀ W,Calls Tryz.prog 118 #[byte c] W fun e w'=>e = .returned (.bool D)∧W=w'):=Lib.hid (fun W=>by rw [hD];exact digW c W)
      have HDD:Hid (digB (topB l)=D):=Lib.hid (by rw [HC.out,hD])
      clear hD
      go_wp2_with fail
      refine (HDG.out _).mono ?_
      rintro e w5 ⟨rfl,rfl⟩
      cases D with
      | true=>
       have HNU:Hid (∀ W,RD r s k W→w.grownBy W (some r)→Calls Tryz.prog 119 #[.pointer (some ⟨r,0,none⟩)] W fun e w'=>e = .returned (.tuple #[.agg #[.int .u8 (tk:Int),.string ts,.int .u64 (tn:Int),.int .i64 ta],.int .i64 (te:Int)])∧RD r s p w'∧W.grownBy w' (some r)):=Lib.hid (fun W h g=>by
        have h1:oneL l=numOne l:=by
         unfold oneL
         rw [if_neg H39.out,if_neg H120.out,if_neg (by rw [HSP.out];decide),if_pos HDD.out]
        have h2:=HV.out
        have h3:=HPP.out
        rw [h1] at h2 h3
        rw [h3,← h2,HL.out]
        exact numberW w0 r s k W (HX.out.grown g) h HS.out (Nat.le_of_lt HK.out) (by rw [← HL.out];exact HDD.out))
       go_wp2_with fail
       refine (HNU.out _ H4R.out H4G.out).mono ?_
       rintro e w9 ⟨rfl,hr9,hg9⟩
       have HR9:=Lib.hid hr9
       have HB9:=Lib.hid (H4B.out.grown hg9 HNE.out)
       have HG9:=Lib.hid (grown_trans H4G.out hg9)
       clear hr9 hg9
       obtain ⟨c0,c1,c2,c3,f0,f1,f2,f3⟩:=HB9.out
       go_wp2_with fail
       obtain ⟨q0,q1,q2,q3⟩:=filled4 w9 b (.int .u8 (tk:Int)) (.string ts) (.int .u64 (tn:Int)) (.int .i64 ta) HB9.out _ rfl
       refine bodyPost_ret (v:=.tuple #[.agg #[.int .u8 (tk:Int),.string ts,.int .u64 (tn:Int),.int .i64 ta],.int .i64 (te:Int)]) (by simp [results,Tryz.results72,go_sem,q0,q1,q2,q3]) rfl ⟨rfl,HR9.out.box _ _ _ _ HNE.out,grown_box HG9.out _ _ _ _ HBE.out⟩
      | false=>
       have HSG:Hid (∀ W,RD r s k W→w.grownBy W (some r)→Calls Tryz.prog 113 #[.pointer (some ⟨r,0,none⟩)] W fun e w'=>e = .returned (.tuple #[.agg #[.int .u8 (tk:Int),.string ts,.int .u64 (tn:Int),.int .i64 ta],.int .i64 (te:Int)])∧RD r s p w'∧W.grownBy w' (some r)):=Lib.hid (fun W h g=>by
        have h1:oneL l=signOne l:=by
         unfold oneL
         rw [if_neg H39.out,if_neg H120.out,if_neg (by rw [HSP.out];decide),if_neg (by rw [HDD.out];decide)]
        have h2:=HV.out
        have h3:=HPP.out
        rw [h1] at h2 h3
        rw [h3,← h2,HL.out]
        exact signW r s k W h HS.out HK.out)
       go_wp2_with fail
       refine (HSG.out _ H4R.out H4G.out).mono ?_
       rintro e w9 ⟨rfl,hr9,hg9⟩
       have HR9:=Lib.hid hr9
       have HB9:=Lib.hid (H4B.out.grown hg9 HNE.out)
       have HG9:=Lib.hid (grown_trans H4G.out hg9)
       clear hr9 hg9
       obtain ⟨c0,c1,c2,c3,f0,f1,f2,f3⟩:=HB9.out
       go_wp2_with fail
       obtain ⟨q0,q1,q2,q3⟩:=filled4 w9 b (.int .u8 (tk:Int)) (.string ts) (.int .u64 (tn:Int)) (.int .i64 ta) HB9.out _ rfl
       refine bodyPost_ret (v:=.tuple #[.agg #[.int .u8 (tk:Int),.string ts,.int .u64 (tn:Int),.int .i64 ta],.int .i64 (te:Int)]) (by simp [results,Tryz.results72,go_sem,q0,q1,q2,q3]) rfl ⟨rfl,HR9.out.box _ _ _ _ HNE.out,grown_box HG9.out _ _ _ _ HBE.out⟩
theorem equal_T (a b:Int) (s t:ByteArray) (c d e f:Int) (w:World) (n:Nat):(Op.equalIn (n + 3) 128 (.agg #[.int .u8 a,.string s,.int .u64 c,.int .i64 e]) (.agg #[.int .u8 b,.string t,.int .u64 d,.int .i64 f])).run Tryz.prog w = .ok (a == b && (s.toList == t.toList && (c == d && e == f))) w:=by
 rw [show n + 3=(n + 2) + 1 from rfl,run_equalIn_agg w (n + 2) 128 _ _ (by kernel_rfl) (by kernel_rfl)]
 go_simp
 by_cases h1:a=b <;> by_cases h2:c=d <;> by_cases h3:(s.toList == t.toList)=true <;> by_cases h4:e=f <;> simp_all
theorem same_T (x y:Tk):((x.k:Int) == (y.k:Int) && (x.s.toList == y.s.toList && ((x.n:Int) == (y.n:Int) && x.a == y.a)))=decide (x=y):=by
 rw [str_eq,Bool.eq_iff_iff]
 simp only [Bool.and_eq_true,beq_iff_eq,decide_eq_true_eq]
 constructor
 ·rintro ⟨h1,h2,h3,h4⟩;exact Tk.ext' (by omega) h2 (by omega) h4
 ·rintro rfl;exact ⟨rfl,rfl,rfl,rfl⟩
theorem neq_toldT (x y:Tk) (t:Bool) (h:(x=y) = ¬ (t=true)) (w:World):(binOp .neq 128 (.agg #[.int .u8 (x.k:Int),.string x.s,.int .u64 (x.n:Int),.int .i64 x.a]) (.agg #[.int .u8 (y.k:Int),.string y.s,.int .u64 (y.n:Int),.int .i64 y.a])).run Tryz.prog w = .ok (.bool t) w:=by
 rw [run_neq_struct,equal_T _ _ _ _ _ _ _ _ w 9997,same_T]
 show Result.ok (Value.bool _) w=_
 congr 2;rw [Bool.eq_iff_iff];simp [h]
theorem equal_S (a b c d:Int) (w:World) (n:Nat):(Op.equalIn (n + 3) 39 (.agg #[.int .i64 a,.int .i64 c]) (.agg #[.int .i64 b,.int .i64 d])).run Tryz.prog w = .ok (a == b && c == d) w:=by
 rw [show n + 3=(n + 2) + 1 from rfl,run_equalIn_agg w (n + 2) 39 _ _ (by kernel_rfl) (by kernel_rfl)]
 go_simp
 by_cases h1:a=b <;> by_cases h2:c=d <;> simp_all
theorem neq_toldS (a b c d:Int) (t:Bool) (h:(a=b∧c=d) = ¬ (t=true)) (w:World):(binOp .neq 39 (.agg #[.int .i64 a,.int .i64 c]) (.agg #[.int .i64 b,.int .i64 d])).run Tryz.prog w = .ok (.bool t) w:=by
 rw [run_neq_struct,equal_S a b c d w 9997]
 show Result.ok (Value.bool _) w=_
 congr 2
 by_cases h1:a=b <;> by_cases h2:c=d <;> cases t <;> simp_all
end Go.Proofs.YtmdogmpcmkfjpaaGreatDoor.Dt
