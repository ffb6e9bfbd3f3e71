/-
  Ends and beginnings of proofs that many share, and a short name.
-/
import Derived.WalkKit
import Derived.ProofKit
import Derived.Deep.QuietTactic
import Derived.BigQuiet
import Derived.Lib.Hide
import Derived.Deep.DeepCutAuto
import Derived.Deep.CutBlock
import Derived.Deep.LoopGhost
import Derived.StillTailTactics
import Derived.ChangeArms
set_option maxRecDepth 100000
set_option maxHeartbeats 64000000
namespace Go.Proofs
open Go Go.RowKit
theorem Lh {p:Prop} (h:p):Hid p:=Lib.hid h
theorem kC {α:Type} {a b:α} (h:a=b:=by kernel_rfl):some a=some b:=congrArg some h
abbrev nS:Value:=.slice none 0 0
abbrev eS:Value:=.string ⟨#[]⟩
abbrev pV (b:Nat):Value:=.pointer (some ⟨b,0,none⟩)
abbrev iZ:Value:=.int .i64 0
theorem kQ {p:Prop} (h:p:=by simp;omega):p:=h
theorem bF:¬ (false=true):=Bool.false_ne_true
theorem bA {w:World} {o:Obj}:Below w.heap.size w (w.alloc o):=(Below.refl _ _).alloc (Nat.le_refl _) _
theorem kW {p:Prop} (h:p:=by omega):p:=h
theorem kR {p:Prop} (h:p:=by kernel_rfl):p:=h
theorem kY {p:Prop} (h:p:=by simp):p:=h
theorem kD {p:Prop} (h:p:=by decide):p:=h
theorem kb0 {p:Prop} (h:p:=by simp only [execOp];go_simp):p:=h
theorem kb1 {p:Prop} (h:p:=by have h1:=HT.out;have h2:=HLEN.out;rw [List.take_length,h2,List.take_length] at h1;exact h1):p:=h
theorem kb2 {p:Prop} (h:p:=by rw [hkids];simp):p:=h
theorem kb3 {p:Prop} (h:p:=by rw [hkids];rfl):p:=h
theorem kb4 {p:Prop} (h:p:=by have h1:=HX.out;have h2:=HY.out;rw [e,h2] at h1;cases h1;rfl):p:=h
theorem kb5 {p:Prop} (h:p:=by have h1:=HS.out;rw [List.take_length] at h1;exact h1):p:=h
theorem kb6 {p:Prop} (h:p:=by simp [results,Tryz.results114,go_sem,q0,q1,q2,q3,Tk.val,T0];try rfl):p:=h
theorem kb7 {p:Prop} (h:p:=by unfold Zb3;rw [hk];rfl):p:=h
theorem kb8 {p:Prop} (h:p:=by assumption):p:=h
theorem kb9 {p:Prop} (h:p:=by rw [HSN.out];exact hs3):p:=h
theorem kb10 {p:Prop} (h:p:=by have:=HSZ.out;have:=HR.out;omega):p:=h
theorem kb11 {p:Prop} (h:p:=by simp [results,Tryz.results113,go_sem,q0,q1,q2,q3,Tk.val]):p:=h
theorem kb12 {p:Prop} (h:p:=by have:=HM.out sj;rw [hx] at this;exact this):p:=h
theorem Zs5 {p:Prop} (h:p:=by have:=HR.out;omega):p:=h
theorem kb14 {p:Prop} (h:p:=by unfold fS;simp only [List.length_append,List.length_map];omega):p:=h
theorem kb15 {p:Prop} (h:p:=by simp [results,Tryz.results72,go_sem,q0,q1,q2,q3]):p:=h
theorem Zvd {p:Prop} (h:p:=by unfold maxLen;omega):p:=h
theorem kb17 {p:Prop} (h:p:=by rw [HR.out,cL_end HX.out H0.out HB.out]):p:=h
theorem kb18 {p:Prop} (h:p:=by have h2:=HLT.out;have h3:=HLC.out;omega):p:=h
theorem kb19 {p:Prop} (h:p:=by simp only [List.mem_cons,List.not_mem_nil,or_false] at hp;rcases hp with rfl | rfl;exact hus 10 6 kY kR;exact hus 11 5 kY kR):p:=h
theorem kb20 {p:Prop} (h:p:=by have:=HLEN.out;omega):p:=h
theorem kb21 {p:Prop} (h:p:=by rw [← HS1.out,← HS0.out];exact Nat.le_trans (by unfold fS;simp only [List.length_append,List.length_map];omega) HS.out):p:=h
theorem kb22 {p:Prop} (h:p:=by simp only [List.length_drop] at h3 ⊢;omega):p:=h
theorem kb23 {p:Prop} (h:p:=by unfold fE Zs1 Zm4;simp only [List.length_append,List.length_map];omega):p:=h
theorem kb24 {p:Prop} (h:p:=by have:=HLN.out;rw [← hT.2,Zid] at this;exact this):p:=h
theorem kb25 {p:Prop} (h:p:=by have:=h.hl;show _ < 100000;omega):p:=h
theorem kb26 {p:Prop} (h:p:=by simp [results,Tryz.results117,go_sem,q0,q1,q2,q3,Tk.val,T0];try rfl):p:=h
theorem kb27 {p:Prop} (h:p:=by simp [results,Tryz.results119,go_sem,q0,q1,q2,q3,Tk.val,T0];try rfl):p:=h
theorem Zod {p:Prop} (h:p:=by cases h):p:=h
theorem Zs4 {p:Prop} (h:p:=by rw [hy];simp):p:=h
theorem kb30 {p:Prop} (h:p:=by rw [HR.out,cL_bad HX.out h0]):p:=h
theorem Zrd {p:Prop} (h:p:=by simp [hy]):p:=h
theorem kb32 {p:Prop} (h:p:=by have h1:=HCB.out.own.len;have h2:=HCL.out H0.out;have h3:=HCB.out.pb.hk;have h4:=HL.out;omega):p:=h
theorem kb33 {p:Prop} (h:p:=by unfold Zd7;simpa [show i < done.size by rw [hs,List.size_toArray];exact hlt] using hfalse):p:=h
theorem kb34 {p:Prop} (h:p:=by simpa using hu):p:=h
theorem kb35 {p:Prop} (h:p:=by rw [heq];exact PB.other HP5.out (Zi _ _ _) (by have:=HSZ.out;have:=HR.out;omega)):p:=h
theorem kb36 {p:Prop} (h:p:=by simp [results,Tryz.results27,go_sem,q0,q1]):p:=h
theorem kb37 {p:Prop} (h:p:=by rw [Array.toList_replicate,List.take_replicate,List.count_replicate_self];simp;omega):p:=h
theorem kb38 {p:Prop} (h:p:=by have:=HQL.out;rw [ByteArray.size_append];show 1 + q.toArray.size + 1 ≤ _;simp;omega):p:=h
theorem kb39 {p:Prop} (h:p:=by have:=HSZ.out;omega):p:=h
theorem kb40 {p:Prop} (h:p:=by rw [heq];exact (setRow_other w5 g _ _ (by have:=HSZ.out;omega)).trans HRS5.out):p:=h
theorem kb41 {p:Prop} (h:p:=by simp [results,Tryz.results71,go_sem]):p:=h
theorem kb42 {p:Prop} (h:p:=by rw [HZ5.out,isY HBB.out,if_pos rfl,Za1 (x:=()) (s1:=s6) (by rw [← h6])];rfl):p:=h
theorem kb43 {p:Prop} (h:p:=by rw [HSN.out,if_pos h0]):p:=h
theorem kb44 {p:Prop} (h:p:=by rw [HSN.out,if_neg h0]):p:=h
theorem kb45 {p:Prop} (h:p:=by show (0:Nat) ≤ _;omega):p:=h
theorem kb46 {p:Prop} (h:p:=by rw [List.length_drop];omega):p:=h
theorem kb47 {p:Prop} (h:p:=by cases e;rfl):p:=h
theorem kb48 {p:Prop} (h:p:=by simpa using hc8):p:=h
theorem kb49 {p:Prop} (h:p:=by have:=must1 (L:=L) (en:=en) (t:=Zy) (s:=s4);rw [h5] at this;exact this):p:=h
theorem kb50 {p:Prop} (h:p:=by cases v.ownBlock <;> simp):p:=h
theorem kb51 {p:Prop} (h:p:=by simp only [List.length_drop] at this ⊢;omega):p:=h
theorem kb52 {p:Prop} (h:p:=by have:=HN7.out.gr.size;have:=HN7.out.row.lt;have:=HN7.out.rs.lt;omega):p:=h
theorem kb53 {p:Prop} (h:p:=by unfold fE Zm4;simp only [List.length_append,List.length_map];omega):p:=h
theorem kb54 {p:Prop} (h:p:=by simp only;omega):p:=h
theorem kb55 {p:Prop} (h:p:=by have:=HS.out;omega):p:=h
theorem kb56 {p:Prop} (h:p:=by rw [← hs3];exact (Zc3 [Zp] _).1):p:=h
theorem kb57 {p:Prop} (h:p:=by rw [List.take_add_one,hs];rfl):p:=h
theorem kb58 {p:Prop} (h:p:=by simp;omega):p:=h
theorem kb59 {p:Prop} (h:p:=by rw [getD_replicate_false] at hl;cases hl):p:=h
theorem Zvc {p:Prop} (h:p:=by rw [e]):p:=h
theorem kb61 {p:Prop} (h:p:=by have:=HZ8.out;have:=HJ7.out.pb.lt;omega):p:=h
theorem kb62 {p:Prop} (h:p:=by have h1:=HLN.out;have h2:=HLT.out;omega):p:=h
theorem kb63 {p:Prop} (h:p:=by rw [heq];exact Zn HG5.out (by have:=HSZ.out;omega) _):p:=h
theorem kb64 {p:Prop} (h:p:=by have:=col_mono (L:=L) (en:=en) sj;rw [hc] at this;exact this):p:=h
theorem kb65 {p:Prop} (h:p:=by simpa using h):p:=h
theorem kb66 {p:Prop} (h:p:=by simp [hx]):p:=h
theorem kb67 {p:Prop} (h:p:=by rw [HST.out,Za1 hc,Za1 (x:=()) (s1:=s5) (by rw [← h5])]):p:=h
theorem kb68 {p:Prop} (h:p:=by rw [HZF.out,Za1 HE9.out,Za1 HE10.out,Za1 HE11.out];rfl):p:=h
theorem kb69 {p:Prop} (h:p:=by simp [results,Tryz.results117,go_sem,q0,q1,q2,q3,Tk.val]):p:=h
theorem kb70 {p:Prop} (h:p:=by simp [results,Tryz.results114,go_sem,q0,q1,q2,q3,Tk.val]):p:=h
theorem kb71 {p:Prop} (h:p:=by have h2:=HLT.out;have h3:=HN.out.2.1;unfold wrap64;omega):p:=h
theorem kb72 {p:Prop} (h:p:=by simp only [List.length_drop];omega):p:=h
theorem kb73 {p:Prop} (h:p:=by rw [hZ,cL_nil]):p:=h
theorem kb74 {p:Prop} (h:p:=by have:=HSZ1.out.2;simp [hdi];omega):p:=h
theorem kb75 {p:Prop} (h:p:=by rw [HONE.out,if_pos kD]):p:=h
theorem kb76 {p:Prop} (h:p:=by simp [d6]):p:=h
theorem kb77 {p:Prop} (h:p:=by rw [HZF.out];exact HT15.out.fin):p:=h
theorem kb78 {p:Prop} (h:p:=by rw [hsize];omega):p:=h
theorem kb79 {p:Prop} (h:p:=by simpa using ht):p:=h
theorem kb80 {p:Prop} (h:p:=by simp [upd,hdi]):p:=h
theorem kp1 {p:Prop} (h:p:=by
 obtain ⟨Z,hZ⟩:∃ Z,Z=listM L en one FU s:=⟨_,rfl⟩
 have HZ:Hid (Z=cL [] (listM L en one FU s)):=Lh kb73
 rw [← hZ]
 have HLT:Hid (r < w.heap.size):=Lh h.lt
 have HL:Hid (L.length ≤ 4096):=Lh h.hl
 have H:=Lh h
 have HONE:=Lh hone
 have HM:=Lh hmono
 have HK:=Lh hk0
 have HFU:Hid (L.length - s.k < FU):=Lh kb25
 subst hfv
 clear h hone hmono hk0 hZ
 exact qR0):p:=h
theorem kp2 {p:Prop} (h:p:=by
 have HR:=Lh hr
 have HX:=Lh hx
 have HS:=Lh hS
 have HLN:=Lh hlen
 have HPP:=Lh hpp
 obtain ⟨c4,c5,c6,c7,c8,c9,c10,c11,c12,c13,c14,rfl,h4,h5,h6,h7,h8,h9,h10,h11,h12,h13,h14⟩:=hr
 obtain ⟨a4,n4,rfl,_⟩:=h4.shape
 obtain ⟨a5,n5,rfl,_⟩:=h5.shape
 obtain ⟨a6,n6,rfl,_⟩:=h6.shape
 obtain ⟨a7,n7,rfl,_⟩:=h7.shape
 obtain ⟨a8,n8,rfl,_⟩:=h8.shape
 obtain ⟨a9,n9,rfl,_⟩:=h9.shape
 obtain ⟨a10,n10,rfl,_⟩:=h10.shape
 obtain ⟨a11,n11,rfl,_⟩:=h11.shape
 obtain ⟨a12,n12,rfl,_⟩:=h12.shape
 obtain ⟨a13,n13,rfl,_⟩:=h13.shape
 obtain ⟨a14,n14,rfl,_⟩:=h14.shape
 clear hx hS hlen hpp h4 h5 h6 h7 h8 h9 h10 h11 h12 h13 h14
 have HBA:Hid (Below w.heap.size w (w.alloc (.cells (sA x a4 n4 a5 n5 a6 n6 a7 n7 a8 n8 a9 n9 a10 n10 a11 n11 a12 n12 a13 n13 a14 n14) 31))):=Lh (bA)
 have HX0:=Lh (Zc w 31 (sA x a4 n4 a5 n5 a6 n6 a7 n7 a8 n8 a9 n9 a10 n10 a11 n11 a12 n12 a13 n13 a14 n14))
 go_enter Tryz.func10,Tryz.ntmps10
 go_upto_region 2 with fail
 generalize hwa:w.alloc (.cells (sA x a4 n4 a5 n5 a6 n6 a7 n7 a8 n8 a9 n9 a10 n10 a11 n11 a12 n12 a13 n13 a14 n14) 31)=wa at *
 have hzA:wa.heap.size=w.heap.size + 1:=by rw [← hwa];simp
 have HBD:=Lh (Zss wa.heap.size wa (Nat.le_refl _))
 have HLW:Hid (Below wa.heap.size wa (wa.alloc (.cells #[.pointer none,nS] 67))):=Lh (bA)
 rw [hzA] at HBD
 have HW:Hid (WS wa (w.heap.size + 1) [] (wa.alloc (.cells #[.pointer none,nS] 67))):=Lh ⟨by rw [hzA];exact HBD.out,HLW.out⟩
 have HXB:=Lh (HX0.out.later HLW.out)
 have HRA:=Lh (Zah HR.out HBA.out)
 have HST:=Lh (HS.out wa (w.heap.size + 1) HBA.out _ [] _ HW.out HRA.out (Nat.le_trans HLN.out kD))
 have HQ:Hid (w.heap.size < w.heap.size + 1):=Lh (Nat.lt_succ_self _)
 clear hwa hzA
 generalize wa.alloc (.cells #[.pointer none,nS] 67)=wb at *
 obtain ⟨p0,p1,p2,p3,p4,p5,p6,p7,p8,p9,p10,p11,p12,p13,p14,p15⟩:=sC HXB.out
 go_wp2_with fail
 refine HST.out.mono ?_
 rintro e2 w2 ⟨rfl,hs2,hk2⟩
 have hs2low:=Lh hs2.low
 have HB2:Hid (Below w.heap.size w w2):=Lh (HBA.out.trans (hs2.low.mono HBA.out.size))
 have HT2:=Lh (Zm9 _ _ _ w2 hs2.bld)
 clear hs2 hk2 HST p0 p1 p2 p3 p4 p5 p6 p7 p8 p9 p10 p11 p12 p13 p14 p15
 go_wp2_with fail
 refine HT2.out.mono ?_
 rintro e3 w3 ⟨rfl,hb3⟩
 obtain ⟨T,hT⟩:∃ z:ByteArray,str (Zb3 x []) = .string z∧z.data.toList=Zb3 x []:=⟨⟨(Zb3 x []).toArray⟩,rfl,by simp⟩
 rw [hT.1]
 have HB3:Hid (Below w.heap.size w w3):=Lh (HB2.out.trans (hb3.mono HBA.out.size))
 have HPL:=Lh (plainW T w3 (HX.out.later HB3.out) kb24)
 rw [hT.2,HPP.out] at HPL
 have HX3:Hid (Row w.heap.size 31 (sA x a4 n4 a5 n5 a6 n6 a7 n7 a8 n8 a9 n9 a10 n10 a11 n11 a12 n12 a13 n13 a14 n14) w3):=Lh (HX0.out.later (hs2low.out.trans hb3))
 clear hb3 HT2 hT
 go_wp2_with fail
 refine HPL.out.mono ?_
 rintro e4 w4 ⟨t,rfl,ht1,ht2,hb4⟩
 have HB4:=Lh (next HB3.out hb4)
 have HX4:=Lh (HX3.out.later hb4)
 have HSC:=Lh (Zt5 t w4 (HX.out.later HB4.out) ht2)
 have HT1:=Lh ht1
 clear hb4 ht1 ht2 HPL
 exact qR0):p:=h
theorem kp3 {p:Prop} (h:p:=by
 intro l w kv h hk hlen
 obtain ⟨ka,kc,rfl,hkc⟩:=hk.shape
 have HK:=Lh hk
 have HLN:=Lh hlen
 have HV:=Lh hv
 have HLX:=Lh hx
 have HKID:=Lh hkid
 unfold PE.val
 have hok:=ex_ok x ka x.kids.length kc
 have HX:=Lh (h.box 48 (eA x ka kc))
 have HW:=Lh (h.alloc (.cells (eA x ka kc) 48))
 have HK0:=Lh (h.keepAlloc (.cells (eA x ka kc) 48))
 clear h hk hlen hv hx hkid hkc
 go_enter Tryz.func34,Tryz.ntmps34
 go_upto_region 1 with fail
 clear hok
 generalize w.alloc (.cells (eA x ka kc) 48)=wa at *
 generalize w.heap.size=q at *
 have HL:=Lh (Zs9 w1.heap.size b l wa HW.out.bld)
 go_wp2_with fail
 refine HL.out.mono ?_
 rintro e2 w2 ⟨rfl,rfl⟩
 clear HL
 by_cases hlong:32768 < l.length
 ·have i1:(32768:Int) < (l.length:Int):=kW
  have HT:Hid (wrE x l=l):=Lh (Zpd hlong)
  clear hlong
  go_wp2_with fail
  go_end0
  exact ⟨rfl,by rw [HT.out];exact HW.out,HK0.out⟩
 have i1:¬ (32768:Int) < (l.length:Int):=kW
 have HNL:=Lh hlong
 obtain ⟨c0,c1,c2,c3,c4,c5,-,c7⟩:=eC HX.out.row
 clear hlong
 go_upto_region 4 with fail
 exact qR0):p:=h
theorem kp4 {p:Prop} (h:p:=by
 have HLN:=Lh hlen
 have HQ:=Lh ((h.box 61 #[pV b]).keep ((h.alloc (.cells #[pV b] 61)).keepAlloc (.cells (sA x a4 n4 a5 n5 a6 n6 a7 n7 a8 n8 a9 n9 a10 n10 a11 n11 a12 n12 a13 n13 a14 n14) 31)))
 have hx0:=(h.alloc (.cells #[pV b] 61)).box 31 (sA x a4 n4 a5 n5 a6 n6 a7 n7 a8 n8 a9 n9 a10 n10 a11 n11 a12 n12 a13 n13 a14 n14)
 have hz:(w.alloc (.cells #[pV b] 61)).heap.size=w.heap.size + 1:=kY
 rw [hz] at hx0
 have HX:=Lh hx0
 have HW:=Lh ((h.alloc (.cells #[pV b] 61)).alloc (.cells (sA x a4 n4 a5 n5 a6 n6 a7 n7 a8 n8 a9 n9 a10 n10 a11 n11 a12 n12 a13 n13 a14 n14) 31))
 have HK0:=Lh ((h.keepAlloc (.cells #[pV b] 61)).trans ((h.alloc (.cells #[pV b] 61)).keepAlloc (.cells (sA x a4 n4 a5 n5 a6 n6 a7 n7 a8 n8 a9 n9 a10 n10 a11 n11 a12 n12 a13 n13 a14 n14) 31)))
 clear h hlen hx0 hz
 go_enter Tryz.func24,Tryz.ntmps24
 go_upto_region 1 with fail
 generalize (w.alloc (.cells #[pV b] 61)).alloc (.cells (sA x a4 n4 a5 n5 a6 n6 a7 n7 a8 n8 a9 n9 a10 n10 a11 n11 a12 n12 a13 n13 a14 n14) 31)=wa at *
 generalize w.heap.size=q at *
 have hk:=H_k.out
 have c:=HQ.out.row.cell (i:=0) (v:=pV b) rfl
 have p0:=HX.out.row.cell (i:=0) (v:=.int .u8 (x.kind:Int)) rfl
 exact qR0):p:=h
theorem ks1 {p:Prop} (h:p:=by
 obtain ⟨B,hB⟩:∃ B,isB L en Zy s1=B:=⟨_,rfl⟩
 have HB:=Lh hB
 rw [Z2,hB] at HP6
 rw [hB]
 clear hB
 cases B
 ·have HZ2:Hid (Z=(O ++ [x],s1)):=Lh kb17
  have HP7:Hid (PB w0 r tv L en s1 w6):=HP6
  go_wp2_with fail
  go_ret
  exact ⟨_,rfl,by rw [HZ2.out];exact HO6.out.done,by rw [HZ2.out];exact HP7.out,HG6.out⟩
 have HP7:Hid (PB w0 r tv L en s1.next w6):=HP6
 have HLT1:=Lh (Zh5 (L:=L) (en:=en) (t:=Zy) (s:=s1) HB.out).2
 go_wp2_with fail
 go_roundg (L.length + 1 - s1.next.k)
 case measure=>have h1:=HSK.out;have h2:=HLT1.out;show L.length + 1 - (s1.k + 1) < _;omega
 refine ⟨O ++ [x],cs ++ [c],s1.next,f',rfl,HP7,HO6,HG6,Lh ?_,Lh ?_,Lh ?_,Lh ?_⟩
 ·rw [HR.out,cL_more HX.out H0.out HB.out]
 ·have h1:=HF.out;have h2:=HSK.out;have h3:=HLT1.out;show L.length - (s1.k + 1) < f';omega
 ·have h1:=HC.out;have h2:=HSK.out;rw [List.length_append];show cs.length + 1 ≤ s1.k + 1;omega
 have h1:=HKJ.out;have h2:=HSK.out;show k0 ≤ s1.k + 1;omega):p:=h
theorem ks2 {p:Prop} (h:p:=by
 obtain ⟨⟨c,s4⟩,hc⟩:∃ z,colM L en sj=z:=⟨_,rfl⟩
 obtain ⟨s5,h5⟩:∃ z,(mustM L en [Zy] s4).2=z:=⟨_,rfl⟩
 have HCM:=Lh hc
 have HMK:Hid (sj.k ≤ s4.k):=Lh kb64
 have HST2:Hid (ZC=colsM L en f' (cols ++ [c]) s5):=Lh kb67
 have HM1:Hid ((s5.e=0∧s4.e=0∧s5.k=s4.k + 1) ∨ s5.e ≠ 0):=Lh kb49
 have H5:=Lh h5
 clear hc h5
 have hgw:=HCB.out.gr
 refine Zcr 5 r (Zo7 r g w.heap.size (.slice va (cols).length vc) c) (fun dn W=>PB w0 r tv L en (if dn 3 then s4 else sj) W) 69 rfl kR kR (Zo7.later HR.out _) ?_ ?_ ?_ ?_
 ·intro dn dn' W hdd hst
  rw [← hdd 3 kD]
  exact hst
 ·exact HCB.out.pb.later (Below.drew (Below.refl _ _))
 ·intro j hj dn A W hother hgW hst hdj hd
  match j,hj with
  | 0,hj=>
   have h0:=Zt (show A.eval (.tmp 3) = pV g from hother 3 kR)
   clear hother hd hj
   exact Zam rfl rfl (.pointer (some ⟨g,4,none⟩)) kb0 rfl hst
  | 1,hj=>
   have h0:=(hd _ rfl ⟨0,.data⟩ kY rfl).2.t (.pointer (some ⟨g,4,none⟩)) 26
   have hcl:=(HCB.out.row.grown hgW (by have:=HCB.out.hg;have:=HR.out;omega)).cell (i:=4) (v:=.slice va (cols).length vc) rfl
   clear hother hd hj
   exact Zam rfl rfl (.slice va (cols).length vc) kb0 rfl hst
  | 2,hj=>
   have h0:=Zt (show A.eval (.tmp 0) = pV r from hother 0 kR)
   clear hother hd hj
   exact Zam rfl rfl (pV r) kb0 rfl hst
  | 3,hj=>
   have h0:=(hd _ rfl ⟨2,.data⟩ kY rfl).2.t (pV r) 28
   have hst5:PB w0 r tv L en sj W:=by have h:=hst;simp only [hdj] at h;exact h
   have hcall:=columnW W hst5
   rw [HCM.out] at hcall
   clear hother hd hj
   refine Zew rfl rfl 120 #[pV r] kb0 (hcall.mono ?_)
   rintro e8 w8 ⟨rfl,hp8,hg8⟩
   exact ⟨_,rfl,hg8,rfl,hp8⟩
  | 4,hj=>
   have h0:=(hd _ rfl ⟨3,.data⟩ kY rfl).2.t (.agg (coC c.name c.ty c.nn)) 29
   have hbw:=(Below.refl _ W).alloc (Nat.le_refl _) (.cells (coC c.name c.ty c.nn) 89)
   have hst8:=hst.later hbw
   clear hother hd hj
   exact Zvb rfl rfl (.slice (some ⟨W.heap.size,0,none⟩) 1 1) (W.alloc (.cells (coC c.name c.ty c.nn) 89)) kb0 (below_grown hbw) ⟨_,rfl,Zc _ _ _,(Za hgw hgW).size⟩ hst8
  | k + 5,hj=>omega
 intro us W hgW hst hk
 have u0:us 0 = .pointer (some ⟨g,4,none⟩):=hk 0 kD
 have u1:us 1 = .slice va (cols).length vc:=hk 1 kD
 have u2:us 2 = pV r:=hk 2 kD
 have u3:us 3 = .agg (coC c.name c.ty c.nn):=hk 3 kD
 obtain ⟨b4,u4,hrow4,_⟩:=hk 4 kD
 have HCW:Hid (CT w0 r tv L en w g s4 t (.slice va (cols).length vc) (cols) ccs W):=Lh (HCB.out.grown hgW hst)
 have HR4:=Lh hrow4
 have HLEN:Hid (ccs.length ≤ 4096):=Lh kb32
 clear hk hst hgW hgw hrow4
 simp only [List.drop_succ_cons,List.drop_zero,Z1,Z7,Act.put,List.getElem?_toArray,List.getElem?_cons_zero,List.getElem?_cons_succ,Option.bind_some]
 simp only [List.setIfInBounds_toArray,List.set_cons_zero,List.set_cons_succ]
 rw [u0,u1,u2,u3,u4]
 clear u0 u1 u2 u3 u4
 go_wp2_with (at_builtin;refine Zae rfl (.tmp 27) (.tmp 30) 22 rfl (g + 1) 89 3 24 elCol (.slice va (cols).length vc) ccs.length ccs.flatten rfl HCW.out.own.own b4 1 (coC c.name c.ty c.nn).toList rfl rfl (fun j u hj=>HR4.out.cell (by simpa using hj)) (by simp [Value.oneCell']) (by have:=HLEN.out;unfold maxLen;omega) (by have:=HLEN.out;omega) HCW.out.row.lt ?_;intro v' w5 hown5 hg5 hv5;have HCX:=Lh (HCW.out.app c hown5 hg5 hv5);clear hown5 hv5 hg5;obtain ⟨va',vc',hv'⟩:=HCX.out.own.shape;rw [List.length_append,List.length_singleton] at hv';subst hv';have c4:=HCX.out.row.cell (i:=4) (v:=.slice va (cols).length vc) rfl;have f4:=HCX.out.row.free 4)
 have HCY:=Lh (HCX.out.put)
 have hm:=Zaw Zy _ HCY.out.pb
 have hz:(w5.setCell ⟨g,4,none⟩ (.slice va' (cols.length + 1) vc')).heap.size=w5.heap.size:=kY
 rw [H5.out,hz] at hm
 have HM:=Lh hm
 clear hm hz
 go_wp2_with fail
 clear c4 f4
 refine HM.out.mono ?_
 rintro e7 w7 ⟨rfl,hp7,hg7⟩
 have HC7:=Lh (HCY.out.grown hg7 hp7)
 clear hp7 hg7 HM
 go_wp2_with fail
 go_roundg (Zen L s5)
 case measure=>have h1:=HM1.out;have h2:=HMK.out;have h3:=HCB.out.pb.hk;have h4:=H0.out;unfold Zen;rw [if_pos h4];split <;> omega
 refine ⟨cols ++ [c],_,_,s5,f',rfl,HC7,HST2,Lh ?_,Lh ?_⟩
 ·have h1:=HM1.out;have h2:=HMK.out;have h3:=HCB.out.pb.hk;have h4:=H0.out;have h5:=HF.out;unfold Zen at h5 ⊢;rw [if_pos h4] at h5;split <;> omega
 intro he;have h1:=HM1.out;have h2:=HMK.out;have h3:=HCL.out H0.out;rw [List.length_append];show List.length (cols) + 1 ≤ _;omega):p:=h
theorem ks3 {p:Prop} (h:p:=by
 by_cases hxy:x=y
 ·have e2:eqB x y=true:=Za3.2 hxy
  have HT2:Hid (xs.take (i + 1)=ys.take (i + 1)):=Lh (by
   rw [List.take_add_one,List.take_add_one,HT.out,HX.out,HY.out,hxy])
  rw [e2]
  clear e2 hxy
  go_wp2_with fail
  go_roundg (xs.length - (i + 1))
  case measure=>exact Nat.sub_lt_sub_left HLT.out (Nat.lt_succ_self _)
  case rel=>exact ⟨i + 1,by go_num,rfl,HLT.out,HB2,HT2⟩
 have e2:eqB x y=false:=Zw hxy
 have HE:Hid (eqB xs ys=false):=Lh (Zw fun e=>hxy kb4)
 rw [e2]
 clear e2 hxy
 go_wp2_with fail
 go_ret
 exact ⟨by rw [HE.out];rfl,HB2.out⟩):p:=h
theorem ks4 {p:Prop} (h:p:=by
 go_wp2_with fail
 go_roundg (xs.length - (i + 1))
 case measure=>exact Nat.sub_lt_sub_left HLT.out (Nat.lt_succ_self _)
 case rel=>exact ⟨i + 1,by have h2:=HLT.out;go_num,rfl,HLT.out,HS3,HK3⟩):p:=h
theorem ks5 {p:Prop} (h:p:=by
 clear h9 hc9
 go_wp2_with fail
 refine HC9.out.mono ?_
 rintro e9 w9 ⟨rfl,hp9,hg9⟩
 have HT9:=Lh (HT.out.grown hg9 hp9)
 clear hp9 hg9 HC9
 obtain ⟨⟨l10,s10⟩,h10⟩:∃ z,namesM L en (s9)=z:=⟨_,rfl⟩
 have hc10:=Zuw w9 HT9.out.pb
 rw [h10] at hc10
 have HC10:=Lh hc10
 have HE10:=Lh h10
 clear h10 hc10
 go_wp2_with fail
 refine HC10.out.mono ?_
 rintro e10 v10 ⟨u10,rfl,hn10,hp10,hg10⟩
 obtain ⟨a10,b10,rfl,_⟩:=hn10.here.shape
 have hS10:=HT9.out.grown hg10 hp10
 have hd10:=HT9.out.dep hn10 HT9.out.lt
 clear hn10
 obtain ⟨o10,c10⟩:=hS10.sg.cell 5 kD
 have f10:=hS10.sg.row.free 5
 have hT10:=hS10.lay (hS10.sg.put_key _ l10 hd10)
 clear hd10 hp10 hg10 HC10 hS10
 have HT10:=Lh hT10
 clear hT10
 go_upto_region 9 with fail
 clear c10 f10
 generalize v10.setCell ⟨g,5,none⟩ (.slice a10 l10.length b10)=w10 at *
 generalize cs8.setIfInBounds 5 (.slice a10 l10.length b10)=cs10 at *
 obtain ⟨s11,h11⟩:∃ z,(mustM L en [Zp] (s10)).2=z:=⟨_,rfl⟩
 have hc11:=Zaw Zp w10 HT10.out.pb
 rw [h11] at hc11
 have HC11:=Lh hc11
 have HE11:Hid (mustM L en [Zp] (s10)=((),s11)):=Lh (by rw [← h11])
 clear h11 hc11
 go_wp2_with fail
 refine HC11.out.mono ?_
 rintro e11 w11 ⟨rfl,hp11,hg11⟩
 have HT11:=Lh (HT10.out.grown hg11 hp11)
 clear hp11 hg11 HC11
 have HZE:Hid (Z=(_,s11)):=Lh kb68
 have hb:=HT11.out.sg.rb
 have ho:=HT11.out.sg.row.of
 have hr:=HT11.out.rb
 have hok:=HT11.out.sg.ok
 go_wp2_with fail
 exact bodyPost_ret (v:=.agg cs10) (Zq Tryz.results75 Zar Zbh _ _ (w.heap.size) _ _ rfl (HT11.out.rs.set _) HT11.out.sg.size) rfl ⟨_,rfl,by rw [HZE.out];exact HT11.out.fin⟩):p:=h
theorem ks6 {p:Prop} (h:p:=by
 rintro e w9 ⟨rfl,hr9,hg9⟩
 have HR9:=Lh hr9
 have HB9:=Lh (H4B.out.grown hg9 HNE.out)
 have HG9:=Lh (Za H4G.out hg9)
 clear hr9 hg9
 obtain ⟨c0,c1,c2,c3,f0,f1,f2,f3⟩:=HB9.out
 go_wp2_with fail
 obtain ⟨q0,q1,q2,q3⟩:=Zbb w9 b (.int .u8 (tk:Int)) (.string ts) (.int .u64 (tn:Int)) (.int .i64 ta) HB9.out _ rfl
 refine bodyPost_ret (v:=.tuple #[.agg #[.int .u8 (tk:Int),.string ts,.int .u64 (tn:Int),.int .i64 ta],.int .i64 (te:Int)]) kb15 rfl ⟨rfl,HR9.out.box _ _ _ _ HNE.out,Zab HG9.out _ _ _ _ HBE.out⟩):p:=h
theorem ks7 {p:Prop} (h:p:=by
 clear h0 hd
 go_wp2_with fail
 refine HP.out.mono ?_
 rintro e5 w5 ⟨rfl,hs,hk⟩
 have HS5:=Lh hs
 have HK5:=Lh (HKA.out.trans hk)
 have HB5:=Lh (HB.out.keep hk)
 have HQ6:=Lh (HQ5.out.keep hk)
 clear hs hk HP c m0 hz
 have c:=HQ6.out.row.cell (i:=0) (v:=pV b) rfl
 have m1:=HB5.out.row.cell (i:=1) (v:=.string s.as) rfl
 have HC:=Lh (asW w1 b s.as _ w5 HS5.out (Nat.le_trans (Zbn _ _ _) HLE.out))
 go_wp2_with fail
 refine HC.out.mono ?_
 rintro e6 w6 ⟨rfl,hs,hk⟩
 have HS6:=Lh hs
 have HK6:=Lh (HK5.out.trans hk)
 have HB6:=Lh (HB5.out.keep hk)
 have HQ7:=Lh (HQ6.out.keep hk)
 clear hs hk HC c m1
 have c:=HQ7.out.row.cell (i:=0) (v:=pV b) rfl
 have m2:=HB6.out.row.cell (i:=2) (v:=.slice ja s.on.length jc) rfl
 have HC:=Lh (Zko w1 b WON s.on HM.out.1 _ w6 _ HS6.out HKV.out HLE.out HM.out.2)
 go_wp2_with fail
 refine HC.out.mono ?_
 rintro e7 w7 ⟨rfl,hs,hk⟩
 have HS7:Hid (WS w1 b (Ziz true (x.src.take (i + 1)) A2) w7):=Lh (by rw [HSN.out];exact hs)
 have HK7:=Lh (HK6.out.trans hk)
 clear hs hk HC c m2
 go_wp2_with fail
 go_roundg (x.src.length - (i + 1))
 case measure=>exact Nat.sub_lt_sub_left HLT.out (Nat.lt_succ_self _)
 case rel=>exact ⟨i + 1,congrArg (Value.int .i64) kb71,rfl,HLT.out,HS7,HK7⟩):p:=h
theorem ks8 {p:Prop} (h:p:=by
 rw [List.take_add_one,hx]
 refine (Zkj one x _ true l).trans ?_
 congr 1
 by_cases h0:i=0
 ·subst h0;rfl
 ·rw [if_neg h0,if_neg]
  have:(xs.take i).isEmpty=false:=by
   cases hxs:xs with
   | nil=>rw [hxs] at hlt;simp at hlt
   | cons y m=>
    cases i with
    | zero=>exact absurd rfl h0
    | succ j=>rfl
  simp [this]):p:=h
theorem ks9 {p:Prop} (h:p:=by
 have least:∀ m,m < n→done.getD m true=false→∃ i,i < n∧done.getD i true=false∧∀ j,j < i→done.getD j true ≠ false:=by
  intro m
  induction m using Nat.strongRecOn with
  | _ m ihm=>
   intro hm hu
   by_cases hx:∃ j,j < m∧done.getD j true=false
   ·obtain ⟨j,hj,hj2⟩:=hx
    exact ihm j hj kW hj2
   ·exact ⟨m,hm,hu,fun j hj h=>hx ⟨j,hj,h⟩⟩
 obtain ⟨i,hin,hui,hlow⟩:=least i0 hi0 hun
 have hi:i ∈ Region.ready .any l.toArray done:=by
  obtain ⟨o,ho⟩:∃ o,l.toArray[i]? = some o:=⟨l.toArray[i]'kW,by simp⟩
  refine mem_ready.2 ⟨hui,o,ho,fun e he hb=>?_⟩
  have h1:=List.all_eq_true.1 hback i (List.mem_range.2 hin)
  rw [ho] at h1
  simp only [Option.map_some,Option.getD_some,Array.all_eq_true_iff_forall_mem] at h1
  have h2:=h1 e he
  rw [hb] at h2
  have h3:e.on < i:=by simpa using h2
  have h4:=hlow e.on h3
  have h5:e.on < done.size:=by rw [inv.size];omega
  simp [h5] at h4 ⊢
  exact h4
 rw [hr] at hi
 cases hi):p:=h
theorem ks10 {p:Prop} (h:p:=by
 rw [HT.out] at HLN
 have HP:=Lh (Zas [Z9] w1 b l wa HW.out (Nat.le_trans (Nat.le_trans (Zdg _ _) (Zk _ _)) HLN.out) kD)
 go_wp2_with fail
 refine HP.out.mono ?_
 rintro e2 w2 ⟨rfl,hs2,hk2⟩
 have HX2:=Lh (HX.out.keep hk2)
 have HK2:=Lh (HK0.out.trans hk2)
 have HC:=Lh (HE.out _ w2 _ hs2 HK.out (Nat.le_trans (Zk _ _) HLN.out))
 unfold PE.val at HC
 clear hs2 hk2 c0 hb ho HP
 have hb:=HX2.out.row.b (n:=8) rfl
 have ho:=HX2.out.row.of
 go_wp2_with fail
 refine HC.out.mono ?_
 rintro e3 w3 ⟨rfl,hs3,hk3⟩
 have HK3:=Lh (HK2.out.trans hk3)
 have HP3:=Lh (Zas [Zp] w1 b _ w3 hs3 HLN.out kD)
 clear hs3 hk3 hb ho HC
 go_wp2_with fail
 refine HP3.out.mono ?_
 rintro e4 w4 ⟨rfl,hs4,hk4⟩
 have HS4:=Lh hs4
 have HK4:=Lh (HK3.out.trans hk4)
 clear hs4 hk4 HP3
 go_wp2_with fail
 go_end0
 exact ⟨rfl,by rw [HT.out];exact HS4.out,HK4.out⟩):p:=h
theorem ks11 {p:Prop} (h:p:=by
 obtain rfl:i=xs.length:=kW
 have HE:Hid (eqB xs ys=true):=Lh (Za3.2 kb1)
 clear hlt hi
 go_wp2_with fail
 go_ret
 exact ⟨by rw [HE.out];rfl,HBL.out⟩):p:=h
theorem ks12 {p:Prop} (h:p:=by
 have z0:=(hbW.cell (Zd y0)).trans y0
 have z1:=(hbW.cell (Zd y1)).trans y1
 have z2:=(hbW.cell (Zd y2)).trans y2
 have z3:=(hbW.cell (Zd y3)).trans y3
 have z4:=(hbW.cell (Zd y4)).trans y4
 have z5:=(hbW.cell (Zd y5)).trans y5
 have z6:=(hbW.cell (Zd y6)).trans y6
 have z7:=(hbW.cell (Zd y7)).trans y7
 have z8:=(hbW.cell (Zd y8)).trans y8
 have z9:=(hbW.cell (Zd y9)).trans y9
 have z10:=(hbW.cell (Zd y10)).trans y10
 have z11:=(hbW.cell (Zd y11)).trans y11
 have z12:=(hbW.cell (Zd y12)).trans y12
 have z13:=(hbW.cell (Zd y13)).trans y13
 have z14:=(hbW.cell (Zd y14)).trans y14
 have z15:=(hbW.cell (Zd y15)).trans y15
 clear hother hd hi
 exact Zh rfl (Zl rfl kR hgd) (.agg #[.int .u8 7,.string ⟨#[116]⟩,eS,.bool false,d4,d5,d6,d7,d8,d9,d10,d11,d12,d13,d14,iZ]) kb0 rfl):p:=h
theorem ks13 {p:Prop} (h:p:=by
 have hgd:=(hd _ rfl ⟨3,.guard⟩ kY rfl).e (.bool false) 87
 clear hother hd hi
 exact Zmp rfl (Zl3 rfl kR hgd) rfl):p:=h
theorem ks14 {p:Prop} (h:p:=by
 have e1:((d.toNat:Int) != 45)=true:=by
  have:d.toNat ≠ 45:=fun e=>h46 (UInt8.toNat_inj.1 e)
  first | (simp;done) | (simp;omega)
 have HT:Hid (k1=k + Zr (s.data.toList.drop k)):=Lh (by
  have h1:=HSK.out
  rw [if_neg (fun e=>h46 (HDA.out.1 e).2)] at h1
  have h2:=HSUM.out;omega)
 clear h46
 go_wp2_with fail
 refine (HP0.out _ HR1.out).mono ?_
 rintro e w2 ⟨rfl,hb2⟩
 have HR2:=Lh (HR1.out.later hb2)
 have HG2:=Lh (Za HG1.out (below_grown hb2))
 clear hb2
 go_wp2_with fail
 refine (HP1.out _ HR2.out).mono ?_
 rintro e w3 ⟨rfl,hb3⟩
 have HR3:=Lh (HR2.out.later hb3)
 have HG3:=Lh (Za HG2.out (below_grown hb3))
 clear hb3
 go_wp2_with fail
 simp only [Exit.jump]
 refine bodyPost_ret (v:=.tuple #[]) kb41 rfl ⟨rfl,by rw [← HT.out];exact HR3.out,HG3.out⟩):p:=h
theorem ks15 {p:Prop} (h:p:=by
 obtain ⟨d0,d1,g1⟩:=HR9.out
 have hz:(⟨t.toArray⟩:ByteArray).size=m:=HTL.out
 have hbk:wrap64 (k:Int)=(k:Int):=by have h1:=HS.out;have h2:=HK.out;unfold wrap64;omega
 go_upto_region 8 with fail
 have HR6:=Lh (HR9.out.set k)
 have HB6:=Lh (HB9.out.else (r:=r) (i:=1) (u:=.int .i64 (k:Int)) HNE.out)
 have HG6:=Lh (Za HG9.out (Z3 w9 r 1 (.int .i64 (k:Int))))
 clear d0 d1 g1 hz hbk
 generalize w9.setCell ⟨r,1,none⟩ (.int .i64 (k:Int))=w6 at *
 obtain ⟨c0,c1,c2,c3,f0,f1,f2,f3⟩:=HB6.out
 go_wp2_with fail
 obtain ⟨q0,q1,q2,q3⟩:=Zbb w6 b (.int .u8 0) (eS) (.int .u64 0) (iZ) HB6.out _ rfl
 rw [HONE.out]
 refine bodyPost_ret (v:=.tuple #[T0.val,.int .i64 5]) kb27 rfl ⟨rfl,HR6.out.box _ _ _ _ HNE.out,Zab HG6.out _ _ _ _ HBE.out⟩):p:=h
theorem ks16 {p:Prop} (h:p:=by
 go_wp2_with fail
 refine HF.out.mono ?_
 rintro e15 w15 ⟨rfl,hp15,hg15⟩
 have HT15:=Lh (HT14.out.grown hg15 hp15)
 clear hp15 hg15 hq t0 t2 HF
 have hb:=HT15.out.sg.rb
 have ho:=HT15.out.sg.row.of
 have hr:=HT15.out.rb
 have hok:=HT15.out.sg.ok
 have HFIN:Hid (New w.heap.size (w15.setRow (w.heap.size + 1) cs11) (fun u=>AgV StR u (.agg cs11) Z.1)∧PB w0 r tv L en Z.2 (w15.setRow (w.heap.size + 1) cs11)∧w.grownBy (w15.setRow (w.heap.size + 1) cs11) (some r)):=Lh kb77
 have HSZ:Hid (cs11.size=16):=Lh HT15.out.sg.size
 have HRW:=Lh (HT15.out.rs.set cs11)
 clear HT15 HZF
 go_wp2_with (refine bodyPost_ret (v:=.agg cs11) (Zq Tryz.results84 Zar Zbh _ _ (w.heap.size + 1) _ _ rfl HRW.out HSZ.out) rfl ?_;exact ⟨_,rfl,HFIN.out⟩)):p:=h
theorem ks17 {p:Prop} (h:p:=by
 intro m
 induction m using Nat.strongRecOn with
 | _ m ih=>
  intro hm'
  cases h:Zd7 done m with
  | true=>rfl
  | false=>
   exfalso
   have hlt:m < done.size:=by rw [hs,List.size_toArray];exact hm'
   have hi:m ∈ Region.ready .any l.toArray done:=by
    obtain ⟨o,ho⟩:∃ o,l.toArray[m]? = some o:=⟨l.toArray[m]'(by simpa using hm'),by simp⟩
    refine mem_ready.2 ⟨getD_in hlt h,o,ho,fun e he hb=>?_⟩
    have h1:=List.all_eq_true.1 hback m (List.mem_range.2 hm')
    rw [ho] at h1
    simp only [Option.map_some,Option.getD_some,Array.all_eq_true_iff_forall_mem] at h1
    have h2:=h1 e he
    rw [hb] at h2
    have h3:e.on < m:=by simpa using h2
    exact ih e.on h3 kW
   rw [hr] at hi
   cases hi):p:=h
theorem ks18 {p:Prop} (h:p:=by
 have hgd:=(hd _ rfl ⟨12,.guard⟩ kY rfl).e (undef) 96
 clear hother hd hi
 exact Zmp rfl (Zgp rfl kR hgd) rfl):p:=h
theorem ks19 {p:Prop} (h:p:=by
 have e:xs=xs.take (i + 1) ++ xs.drop (i + 1):=(List.take_append_drop _ _).symm
 have h1:=HLN.out
 rw [e,Zls] at h1
 exact Nat.le_trans (Za8 hmono _ _ _) h1):p:=h
theorem ks20 {p:Prop} (h:p:=by
 have hr:=HC8.out.row
 have hb:=hr.b (n:=8) HC8.out.ex.size
 have ho:=hr.of
 have hbr:=HC8.out.rs.b (n:=8) rfl
 have hok:=HC8.out.ex.ok
 clear hr
 go_wp2_with fail
 rw [Exit.noGoto_ret]
 refine bodyPost_ret (v:=.agg c) (Zq Tryz.results85 Zz Zaq _ _ (w.heap.size + 1) _ c rfl (HC8.out.rs.set c) HC8.out.ex.size) rfl ⟨_,rfl,?_,?_,?_⟩
 ·rw [HZE.out]
  exact (HC8.out.ex.step (S':=fun b=>w.heap.size ≤ b) kY fun b hb _=>⟨by omega,setRow_other _ _ b c (by have:=HC8.out.hg;omega)⟩).v
 ·rw [HZE.out]
  exact HC8.out.pb.other (Zi _ _ c) (by have:=HC8.out.hr;omega)
 exact Zn HC8.out.gr kW c):p:=h
theorem ks21 {p:Prop} (h:p:=by
 have e1:((c.toNat:Int) != 45)=true:=by
  have:c.toNat ≠ 45:=fun e=>h45 (UInt8.toNat_inj.1 e)
  first | (simp;done) | (simp;omega)
 have HT:Hid (k1=k + Zr (s.data.toList.drop k)):=Lh (by
  have h1:=HSK.out
  rw [if_neg (fun e=>h45 (HDA.out.1 e).1)] at h1
  have h2:=HSUM.out;omega)
 clear h45
 go_wp2_with fail
 refine (HP0.out _ HR1.out).mono ?_
 rintro e w2 ⟨rfl,hb2⟩
 have HR2:=Lh (HR1.out.later hb2)
 have HG2:=Lh (Za HG1.out (below_grown hb2))
 clear hb2
 go_wp2_with fail
 simp only [Exit.jump]
 refine bodyPost_ret (v:=.tuple #[]) kb41 rfl ⟨rfl,by rw [← HT.out];exact HR2.out,HG2.out⟩):p:=h
theorem ks22 {p:Prop} (h:p:=by
 have hb:=HT26.out.sg.rb
 have ho:=HT26.out.sg.row.of
 have hr:=HT26.out.rb
 have hok:=HT26.out.sg.ok
 go_wp2_with fail
 exact bodyPost_ret (v:=.agg cs26) (Zq Tryz.results29 Zar Zbh _ _ (w.heap.size + 1) _ _ rfl (HT26.out.rs.set _) HT26.out.sg.size) rfl ⟨_,rfl,by rw [HZZ.out];exact HT26.out.fin⟩):p:=h
theorem ks23 {p:Prop} (h:p:=by
 intro us w15 hb15 hh
 have h20:us 20 = .bool false:=hh 20 kY
 have HB15:=Lh (next HBG.out (next HB14.out hb15))
 clear hh hb15
 simp only [List.length_cons,List.length_nil,Nat.zero_add,Nat.reduceAdd,Z1,Z7,List.getElem?_toArray,List.getElem?_cons_zero,List.getElem?_cons_succ,Option.bind_some,Act.put,h20]
 clear h20
 simp only [List.setIfInBounds_toArray,List.set_cons_zero,List.set_cons_succ]
 go_wp2_with fail
 go_roundg (A.length - (i + 1))
 case measure=>exact Nat.sub_lt_sub_left HLT.out (Nat.lt_succ_self _)
 case rel=>exact ⟨i + 1,Zca kb62,rfl,HLT.out,HB15⟩):p:=h
theorem ks24 {p:Prop} (h:p:=by
 clear hdd
 go_wp2_with fail
 refine (HP0.out _ HR0.out).mono ?_
 rintro e w2 ⟨rfl,hb2⟩
 have HR2:=Lh (HR0.out.later hb2)
 have HB2:=Lh (HB0.out.later hb2)
 have HG2:=Lh (Za HG0.out (below_grown hb2))
 clear hb2
 go_wp2_with fail
 refine (HP1.out _ HR2.out).mono ?_
 rintro e w3 ⟨rfl,hb3⟩
 have HR3:=Lh (HR2.out.later hb3)
 have HB3:=Lh (HB2.out.later hb3)
 have HG3:=Lh (Za HG2.out (below_grown hb3))
 clear hb3
 go_wp2_with fail
 refine (HDW.out _).mono ?_
 rintro e w4 ⟨rfl,rfl⟩
 go_wp2_with fail
 go_meet
 exact ⟨rfl,HR3,HB3,HG3⟩):p:=h
theorem ks25 {p:Prop} (h:p:=by
 clear d0 hgo h0
 go_upto_region 6 with fail
 have l0:=Zb c0
 have l1:=Zb c1
 refine Zj kR kR ?_
 repeat (go_big_quiet_step (exact Zcn (HOKW.out _ (Zdr _ _))))
 refine wpQuiet_nil ?_
 refine Zu (fun w6 hb6=>?_)
 have HP6:=Lh (PB.later HP.out hb6)
 have HO6:=Lh (HOW.out.later hb6)
 have HG6:=Lh (Za HG.out (below_grown (r:=r) hb6))
 clear l0 l1 hb6 c0 c1 HOKW
 obtain ⟨rfl,rfl⟩:l=done∧s1=sj:=by have e:=HE.out;cases e;exact ⟨rfl,rfl⟩
 go_wp2_with fail
 go_meet
 exact ⟨_,HP6.out,HO6.out,HG6.out⟩):p:=h
theorem ks26 {p:Prop} (h:p:=by
 clear hs2 hk2 HP c0
 have c0:=HQ2.out.row.cell (i:=0) (v:=pV b) rfl
 go_wp2_with fail
 refine HC.out.mono ?_
 rintro e3 w3 ⟨rfl,hs3,hk3⟩
 have HQ3:=Lh (HQ2.out.keep hk3)
 have HK3:=Lh (HK2.out.trans hk3)
 have HP3:=Lh (Zas [Zp] w1 b _ w3 hs3 HLN.out kY)
 clear hs3 hk3 HC c0
 have c0:=HQ3.out.row.cell (i:=0) (v:=pV b) rfl
 go_wp2_with fail
 refine HP3.out.mono ?_
 rintro e4 w4 ⟨rfl,hs4,hk4⟩
 have HS4:=Lh hs4
 have HK4:=Lh (HK3.out.trans hk4)
 clear hs4 hk4 HP3 c0
 go_wp2_with fail
 go_end0
 exact ⟨rfl,HS4.out,HK4.out⟩):p:=h
theorem ks27 {p:Prop} (h:p:=by
 go_enter Tryz.func73,Tryz.ntmps73
 go_wp2_with fail
 refine (HS.out _).mono ?_
 rintro e w1 ⟨rfl,rfl⟩
 go_wp2_with fail
 refine (HC.out _).mono ?_
 rintro e w1 ⟨rfl,rfl⟩
 go_wp2_with fail
 refine (HD.out _).mono ?_
 rintro e w1 ⟨rfl,rfl⟩
 go_wp2_with fail
 go_ret
 exact ⟨rfl,rfl⟩):p:=h
theorem ks28 {p:Prop} (h:p:=by
 clear hlong
 obtain ⟨⟨d0,d1,g1⟩,-,-,-,-⟩:=HQ6.out
 go_upto_region 20 with fail
 have HQ7:=Lh (HQ6.out.set HRB.out (k) ((k:Int)) (rfl))
 clear d0 d1 g1
 generalize w6.setCell ⟨r,1,none⟩ (.int .i64 ((k:Int)))=w7 at *
 obtain ⟨c0,c1,c2,c3,f0,f1,f2,f3⟩:=HQ7.out.bx
 go_wp2_with fail
 obtain ⟨q0,q1,q2,q3⟩:=Zbb w7 b (.int .u8 0) (eS) (.int .u64 0) (iZ) HQ7.out.bx _ rfl
 rw [HONE.out]
 refine bodyPost_ret (v:=.tuple #[T0.val,.int .i64 3]) kb6 rfl ⟨rfl,HQ7.out.rd.box _ _ _ _ HNE.out,Zab HQ7.out.gr _ _ _ _ HBE.out⟩):p:=h
theorem ks29 {p:Prop} (h:p:=by
 go_wp2_with fail
 refine (HH.out _ HBA.out).mono ?_
 intro e w3 hr
 obtain ⟨rfl,hb3⟩:=hr
 have HB3:=Lh (next HBA.out hb3)
 clear hb3 l0 m0 l1 m1 l2 m2 l3 m3 l4 m4 l5 m5 l6 m6 l7 m7 l8 m8
 go_wp2_with fail
 go_ret
 exact ⟨by rw [HE.out];rfl,HB3.out⟩):p:=h
theorem ks30 {p:Prop} (h:p:=by
 have hgd:=(hd _ rfl ⟨3,.guard⟩ kY rfl).e (.bool true) 87
 clear hother hd hi
 exact Zh rfl (Zl rfl kR hgd) (.bool false) kb0 rfl):p:=h
theorem ks31 {p:Prop} (h:p:=by
 obtain rfl:i=xs.length:=kW
 have HSF:Hid (WS w1 b (Zm one true xs l) wr):=Lh kb5
 clear hlt hi
 go_wp2_with fail
 go_end0
 exact ⟨rfl,HSF.out,HKE.out⟩):p:=h
theorem ks32 {p:Prop} (h:p:=by
 refine wpQuiet_nil ?_
 refine Zu (fun w2 hb2=>?_)
 have hr2:=HR.out.later hb2
 have HR2:=Lh hr2
 have HG2:=Lh (Za HG.out (below_grown (r:=r) hb2))
 obtain ⟨d0,d1,g1⟩:=hr2
 clear l0 l1 c0 c1 f1 hb2
 go_wp2_with fail
 go_quiet (fail)
 go_wp2_with fail
 go_ret
 exact ⟨congrArg Ending.returned (Zmw s k j),HR2.out.later (Zdb (Below.refl _ _) _),Za HG2.out (below_grown (Zdb (Below.refl _ _) _))⟩):p:=h
theorem ks33 {p:Prop} (h:p:=by
 have p5:=HX4.out.row.cell (i:=5) (v:=.slice a5 x.key.length n5) rfl
 have HC5:=Lh (Zpi w1 b x.key _ w4 _ HW4.out hwk HLN.out HN.out)
 go_wp2_with fail
 refine HC5.out.mono ?_
 rintro e5 w5 ⟨rfl,hs5,hk5⟩
 have HW5:=Lh hs5
 have HK5:=Lh (HK4.out.trans hk5)
 have HQ5:=Lh (HQ4.out.keep hk5)
 have HX5:=Lh (HX4.out.keep hk5)
 clear hs5 hk5 HC5 p5
 go_wp2_with fail
 go_end0
 exact ⟨rfl,by rw [HT.out];exact HW5.out,HK5.out⟩):p:=h
theorem ks34 {p:Prop} (h:p:=by
 go_wp2_with fail
 refine HN12.out.mono ?_
 rintro ez wz ⟨d,rfl,hokd,hxz,hbz⟩
 have HPZ:=Lh (HP12.out.later hbz)
 have HXZ:=Lh hxz
 clear hxz hbz hq hrb hb12 ho12 hk12
 have hrb:=HPZ.out.rb
 go_wp2_with fail
 exact bodyPost_ret (v:=.agg d) (Zq Tryz.results160 Zz Zaq _ _ (w.heap.size + 1) _ _ rfl (HPZ.out.rs.set _) (Zo.1 hokd).1) rfl ⟨_,rfl,by rw [HZ12.out];exact HPZ.out.fin (HXZ.out) (fun b h=>⟨h.1,h.2.1⟩)⟩):p:=h
theorem ks35 {p:Prop} (h:p:=by
 obtain ⟨b,o,cs,rfl,_,hx,hc⟩:=h.get hk
 obtain ⟨ec,rfl,hx⟩:=hx
 obtain ⟨kv,rfl,hkids⟩:=Zby.1 hx
 exact ⟨b,o,kv,rfl,hkids,hc 0 _ rfl,hc 1 _ rfl,hc 2 _ rfl,hc 3 _ rfl,hc 4 _ rfl,hc 5 _ rfl,hc 6 _ rfl,hc 7 _ rfl,hc 8 _ rfl⟩):p:=h
theorem ks36 {p:Prop} (h:p:=by
 clear hother hd hi
 exact Zct rfl (Zl rfl kR hgd) 17 #[.int .i64 1] kb0 ((Zpy 1 W).mono fun e w2 hh=>⟨⟨_,hh.1,rfl⟩,hh.2⟩)):p:=h
theorem ks37 {p:Prop} (h:p:=by
 intro j hj
 cases h:done.getD j false with
 | true=>rfl
 | false=>
  exfalso
  have hjs:j < done.size:=by rw [inv.size];omega
  have h2:done[j]=false:=by simpa [hjs] using h
  have:0 < (done.toList.take n).count false:=List.count_pos_iff.2 (by
   rw [← h2]
   refine List.mem_iff_getElem.2 ⟨j,by simp;omega,by simp⟩)
  omega):p:=h
theorem ks38 {p:Prop} (h:p:=by
 go_wp2_with fail
 refine HO.out.mono ?_
 rintro e4 w4 ⟨rfl,rfl⟩
 go_wp2_with fail
 go_ret
 exact ⟨rfl,H3.out,HG.out⟩):p:=h
theorem ks39 {p:Prop} (h:p:=by
 clear hother hd hj
 refine Zew rfl rfl 128 #[.int .u8 (o:Int),.slice (some ⟨g2,0,none⟩) 2 2] kb0 ((nodeW o _ (some ⟨g2,0,none⟩) 2 2 rfl W).mono ?_)
 rintro e9 w9 ⟨rfl,hb9⟩
 exact ⟨_,rfl,below_grown hb9,⟨_,rfl,Zrn (hx8.step hb9.size fun b h1 h2=>⟨h1,hb9.block b h2⟩)⟩,hst.later hb9⟩):p:=h
theorem ks40 {p:Prop} (h:p:=by
 clear hother hd hi
 exact Zh rfl (Zl rfl kR hgd) (.slice (some ⟨yb,yo,none⟩) 1 vc) kb0 rfl):p:=h
theorem ks41 {p:Prop} (h:p:=by
 apply Array.ext
 ·rw [inv.size];simp;omega
 ·intro j h1 h2
  by_cases hj:j < n
  ·have:=hall j hj
   rw [Array.getElem_append_left (by simpa using hj)]
   simpa [h1] using this
  ·have:=inv.tail j kW (by rw [← inv.size];exact h1)
   rw [Array.getElem_append_right kb58]
   simpa [h1] using this):p:=h
theorem ks42 {p:Prop} (h:p:=by
 have no:dn 11=false:=by
  cases h7:dn 11 with
  | false=>rfl
  | true=>have:=hcl 11 _ rfl h7 ⟨5,.phase⟩ kY rfl;rw [hdi] at this;cases this
 have h6:=Z5 ((hat 11 5 kY kR kD).trans (hJ.old (11,u5) kY no))
 exact Zai rfl rfl u5 W kb0 ⟨_,rfl,hJ.val 5 _ hdi rfl rfl rfl rfl kY kY kY⟩):p:=h
theorem ks43 {p:Prop} (h:p:=by
 have no:dn 10=false:=by
  cases h7:dn 10 with
  | false=>rfl
  | true=>have:=hcl 10 _ rfl h7 ⟨0,.phase⟩ kY rfl;rw [hdi] at this;cases this
 have h6:=Z5 ((hat 10 6 kY kR kD).trans (hJ.old (10,u6) kY no))
 exact Zai rfl rfl u6 W kb0 ⟨_,rfl,hJ.val 0 _ hdi rfl rfl rfl rfl kY kY kY⟩):p:=h
theorem ks44 {p:Prop} (h:p:=by
 have hgd:=(hd _ rfl ⟨7,.guard⟩ kY rfl).e (undef) 91
 clear hother hd hi
 exact Zmp rfl (Zgp rfl kR hgd) rfl):p:=h
theorem ks45 {p:Prop} (h:p:=by
 go_wp2_with fail
 refine (HP1.out _ H2R.out).mono ?_
 rintro e w3 ⟨rfl,hb3⟩
 have H3R:=Lh (H2R.out.later hb3)
 have H3B:=Lh (H2B.out.later hb3)
 have H3G:=Lh (Za H2G.out (below_grown hb3))
 clear hb3
 go_wp2_with fail
 go_meet
 exact ⟨rfl,H3R,H3B,H3G⟩):p:=h
theorem ks46 {p:Prop} (h:p:=by
 rw [Zx] at this
 simp only [List.length_cons,List.length_append,List.length_nil];omega):p:=h
theorem ks47 {p:Prop} (h:p:=by
 have hup:∀ x,Zd7 done x=true→upd (Zd7 done) i x=true:=fun x h=>by unfold upd;simp [h]
 by_cases hji:j=i
 ·subst hji
  rw [hoi] at ho
  cases ho
  exact hup _ (hafter e he hb)
 exact hup _ (hcl j o ho (by unfold upd at hd;simpa [hji] using hd) e he hb)):p:=h
theorem ks48 {p:Prop} (h:p:=by
 apply Nat.lt_of_not_le
 intro hle
 rcases Nat.lt_or_ge e.on l.toArray.size with h | h
 ·have:=inv.tail e.on hle h
  rw [getD_both this] at hd
  cases hd
 ·rw [Array.getD_eq_getD_getElem?,Array.getElem?_eq_none (by rw [inv.size];exact h)] at hd
  cases hd):p:=h
theorem ks49 {p:Prop} (h:p:=by
 clear hop h2
 go_wp2_with fail
 refine HC.out.mono ?_
 rintro e2 w2 ⟨rfl,hs2,hk2⟩
 have HS2:=Lh hs2
 have HK2:=Lh (HK0.out.trans hk2)
 clear hs2 hk2 c0 hb ho
 go_wp2_with fail
 go_end0
 exact ⟨rfl,by rw [HT.out];exact HS2.out,HK2.out⟩):p:=h
theorem ks50 {p:Prop} (h:p:=by
 have hl:(n.toList == m.toList)=false:=(str_eq n m).trans (decide_eq_false hnm)
 have hl2:¬ n.toList=m.toList:=fun e=>hnm (Zd8 e)
 go_wp2_with fail
 all_goals first
  | (go_ret
     exact ⟨by rw [HE.out];rfl,HBA.out⟩)
  | contradiction):p:=h
theorem ks51 {p:Prop} (h:p:=by
 rw [hb]
 clear hb hs hk
 go_enter Tryz.func111,Tryz.ntmps111
 go_upto_region 1 with fail
 go_quiet (fail)
 go_wp2_with fail
 go_quiet (fail)
 go_wp2_with fail
 go_ret
 exact ⟨rfl,Zdb (Zdb (Below.refl _ _) _) _⟩):p:=h
theorem ks52 {p:Prop} (h:p:=by
 go_wp2_with fail
 go_roundg (x.order.length - (i + 1))
 case measure=>exact Nat.sub_lt_sub_left HLT.out (Nat.lt_succ_self _)
 case rel=>exact ⟨i + 1,Zca (by have h2:=HLT.out;have h3:=HSE.out;omega),rfl,HLT.out,HFR⟩):p:=h
theorem ks53 {p:Prop} (h:p:=by
 rw [hxx]
 simp only [DataW.weights,ht]
 refine DataW.weights_mem_each (j:=i) (t:=f.type) ?_ ?_ m hm
 ·rw [List.getElem?_map,Array.getElem?_toList,hi];rfl
 ·rw [List.getElem?_map,List.getElem?_eq_getElem kW];rfl):p:=h
theorem ks54 {p:Prop} (h:p:=by
 obtain ⟨j,hj,he⟩:=List.mem_iff_getElem.1 (List.count_pos_iff.1 (show 0 < (done.toList.take n).count false by omega))
 simp at hj he
 exact ⟨j,by omega,by simp [show j < done.size by omega,he]⟩):p:=h
theorem ks55 {p:Prop} (h:p:=by
 go_wp2_with fail
 refine HO.out.mono ?_
 rintro e4 w4 ⟨rfl,rfl⟩
 go_wp2_with fail
 refine HF.out.mono ?_
 rintro e5 w5 ⟨rfl,hp5,hg5⟩
 go_wp2_with fail
 go_ret
 exact ⟨rfl,hp5,Za HG.out hg5⟩):p:=h
theorem ks56 {p:Prop} (h:p:=by
 clear hother hd hi
 exact Zh rfl (Zl rfl kR hgd) (.pointer (some ⟨yb,yo,none⟩)) kb0 rfl):p:=h
theorem ks57 {p:Prop} (h:p:=by
 unfold Oper.wp execOp
 simp only [ho,resolve,invoke,builtin,Sem.run_bind,Sem.run_pure,Result.andThen_ok,List.map_toArray,List.map_cons,List.map_nil,hs,hx,hr]
 exact hK _ _ (h v' w' h2 h3 hw)):p:=h
theorem ks58 {p:Prop} (h:p:=by
 exact ⟨v',w',r1,h.putB i v' hdi bx h1 h3 ⟨bx,fun _ hb=>hb,by rw [ho,hn,hE,hS];exact r2,fun l hl' e=>absurd e (hl l hl')⟩ (fun p hp e=>absurd e (hv p hp)) (fun p hp e=>absurd e (hf p hp))⟩):p:=h
theorem ks59 {p:Prop} (h:p:=by
 have hst8:=hst.later hbw
 clear hother hd hj hx7
 exact Zvb rfl rfl (.slice (some ⟨W.heap.size,0,none⟩) 2 2) (W.alloc (.cells (c ++ d) 48)) kb0 (below_grown hbw) ⟨_,rfl,hkids⟩ hst8):p:=h
theorem ks60 {p:Prop} (h:p:=by
 have h3:=hN t ht
 simp only [nT,nSt,Zaf,List.length_nil]
 have e:ByteArray.size ⟨#[]⟩=0:=rfl
 omega):p:=h
theorem ks61 {p:Prop} (h:p:=by
 obtain ⟨op,v,t,m,n,kids⟩:=x
 simp only [PE.op,PE.kids] at h1 hk
 subst h1 hk
 rw [wrE,if_neg h];rfl):p:=h
theorem ks62 {p:Prop} (h:p:=by
 go_wp2_with fail
 go_roundg (x.cols.length - (i + 1))
 case measure=>exact Nat.sub_lt_sub_left HLT.out (Nat.lt_succ_self _)
 case rel=>exact ⟨i + 1,Zca kb18,rfl,HLT.out,HFR⟩):p:=h
theorem ks63 {p:Prop} (h:p:=by
 have h84:=(hd _ rfl ⟨0,.data⟩ kY rfl).t (.string t2) 84
 clear hother hd hi
 exact Zh rfl (Zf rfl) (.int .i64 (t2.size:Int)) kb0 rfl):p:=h
theorem ks64 {p:Prop} (h:p:=by
 rw [hb]
 clear hb hlt hs hk
 go_enter Tryz.func111,Tryz.ntmps111
 go_upto_region 1 with fail
 go_quiet (fail)
 go_wp2_with fail
 go_ret
 exact ⟨rfl,Zdb (Below.refl _ _) _⟩):p:=h
theorem ks65 {p:Prop} (h:p:=by
 go_wp2_with fail
 refine (HSM.out _).mono ?_
 rintro e w5 ⟨rfl,rfl⟩
 go_wp2_with fail
 refine (HCP.out _).mono ?_
 rintro e w5 ⟨rfl,rfl⟩
 go_wp2_with fail
 go_meet
 exact ⟨rfl,rfl⟩):p:=h
theorem ks66 {p:Prop} (h:p:=by
 have h5:=Zt (show A.eval (.tmp 5) = .int .u8 (c.toNat:Int) from hother 5 kR)
 clear hother hd hi
 exact Zh rfl (Zf rfl) (.int .u8 (c.toNat:Int)) kb0 rfl):p:=h
theorem ks67 {p:Prop} (h:p:=by
 go_wp2_with fail
 refine HC.out.mono ?_
 rintro e9 u9 ⟨rfl,hs,hk⟩
 clear HC
 go_wp2_with fail
 go_meet
 exact ⟨Lh (by rw [EE.out];exact hs),Lh (HK8.out.trans hk)⟩):p:=h
theorem ks68 {p:Prop} (h:p:=by
 have h:(Tryz.prog.info? 9).map (fun i=>(i.zero,i.size,i.bytes))=some (some (eS),1,16):=kR
 obtain ⟨i,hi,h1,h2,h3⟩:=info_parts h
 exact ⟨i,_,hi,h1,h2,h3,rfl⟩):p:=h
theorem ks69 {p:Prop} (h:p:=by
 clear h1 h2
 go_enter Tryz.func139,Tryz.ntmps139
 go_wp2_with fail
 refine (HD.out _).mono ?_
 rintro e w1 ⟨rfl,rfl⟩
 go_wp2_with fail
 go_ret
 exact ⟨rfl,rfl⟩):p:=h
theorem ks70 {p:Prop} (h:p:=by
 have h1:=HSE.out;have h2:=HSS.out;have h3:=HLT.out;have h4:=HTL.out
 rw [List.length_append,List.length_append,List.length_map,List.length_map,h4];omega):p:=h
theorem ks71 {p:Prop} (h:p:=by
 rw [Zfv,Array.getD_eq_getD_getElem?] at he
 cases h3:a.tmps[t]? with
 | none=>rw [h3] at he;cases he
 | some v=>rw [h3] at he;exact congrArg some he):p:=h
theorem ks72 {p:Prop} (h:p:=by
 have h13:=Zt (show A0.eval (.tmp 13) = .string t2 from hother 13 kR)
 clear hother hd hi
 exact Zh rfl (Zf rfl) (.string t2) kb0 rfl):p:=h
theorem ks73 {p:Prop} (h:p:=by
 rw [hus0 n (Nat.le_refl _)] at this
 refine wp_region_any hm ?_
 have hsz:n + (l.toArray.size - n)=l.toArray.size:=kQ
 rw [hsz] at this
 exact this):p:=h
theorem ks74 {p:Prop} (h:p:=by
 clear hother hd hi
 exact Zct rfl (Zl rfl kR hgd) 17 #[.int .i64 2] kb0 ((Zpy 2 W).mono fun e w2 hh=>⟨⟨_,hh.1,rfl⟩,hh.2⟩)):p:=h
theorem ks75 {p:Prop} (h:p:=by
 clear h0 d0 h1
 go_wp2_with fail
 refine HO.out.mono ?_
 rintro e4 w4 ⟨rfl,rfl⟩
 go_wp2_with fail
 go_ret
 exact ⟨rfl,HN3.out,HG3.out⟩):p:=h
theorem ks76 {p:Prop} (h:p:=by
 rintro e w1 ⟨rfl,rfl⟩
 go_wp2_with fail
 refine (HC.out _).mono ?_
 rintro e w1 ⟨rfl,rfl⟩
 go_wp2_with fail
 go_ret
 exact ⟨rfl,rfl⟩):p:=h
theorem ks77 {p:Prop} (h:p:=by
 have hz:z ∈ [x,y]:=hz
 simp only [List.mem_cons,List.not_mem_nil,or_false] at hz
 rcases hz with rfl | rfl
 ·exact ih1
 ·exact ih2):p:=h
theorem ks78 {p:Prop} (h:p:=by
 have HX:=Lh hx
 have HY:=Lh hy
 have ilt:(i:Int) < (xs.length:Int):=kW
 have ilt2:(i:Int) < (ys.length:Int):=by have:=HLEN.out;omega
 have ige:(0:Int) ≤ (i:Int):=kW
 have HLT:=Lh hlt
 clear hx hy hwa hwb hk1 hk2 hlt
 go_upto_region 6 with fail
 have l0:=Zb p0;have l1:=Zb p1;have l2:=Zb p2;have l3:=Zb p3;have l4:=Zb p4;have l5:=Zb p5;have l6:=Zb p6;have l7:=Zb p7;have l8:=Zb p8
 have m0:=Zb q0;have m1:=Zb q1;have m2:=Zb q2;have m3:=Zb q3;have m4:=Zb q4;have m5:=Zb q5;have m6:=Zb q6;have m7:=Zb q7;have m8:=Zb q8
 refine Zj kR kR ?_
 repeat (go_big_quiet_step (exact Zcn (HC.out _ (Zdr _ _))))
 refine wpQuiet_nil ?_
 refine Zu (fun w2 hb2=>?_)
 have HB2:=Lh (next HBL.out hb2)
 clear l0 l1 l2 l3 l4 l5 l6 l7 l8 m0 m1 m2 m3 m4 m5 m6 m7 m8 p0 p1 p2 p3 p4 p5 p6 p7 p8 q0 q1 q2 q3 q4 q5 q6 q7 q8 hb2
 exact ks3):p:=h
theorem ks79 {p:Prop} (h:p:=by
 refine (isW Zy w5 HP5.out).mono ?_
 rintro e6 w6 ⟨rfl,hp6,hg6⟩
 have HO6:=Lh (HO5.out.grown hg6 HLT.out)
 have HG6:=Lh (Za HG5.out hg6)
 have HP6:=Lh hp6
 clear hp6 hg6 hbs hrb hro
 exact ks1):p:=h
theorem ks80 {p:Prop} (h:p:=by
 clear h0
 go_wp2_with fail
 refine HC.out.mono ?_
 rintro e3 w3 ⟨rfl,hs3,hk3⟩
 have HS3:Hid (WS w1 b (Zm one true (xs.take (i + 1)) l) w3):=Lh kb9
 have HK3:=Lh (HK1.out.trans hk3)
 clear hs3 hk3 HC b0 b1 b2 b3 b4 b5 b6 b7 b8
 exact ks4):p:=h
theorem ks81 {p:Prop} (h:p:=by
 go_wp2_with fail
 refine HC.out.mono ?_
 rintro e3 w3 ⟨rfl,hs3,hk3⟩
 have HS3:Hid (WS w1 b (Zm one true (xs.take (i + 1)) l) w3):=Lh kb9
 have HK3:=Lh (HK2.out.trans hk3)
 clear hs3 hk3 HC b0 b1 b2 b3 b4 b5 b6 b7 b8
 exact ks4):p:=h
theorem ks82 {p:Prop} (h:p:=by
 clear hs2 hk2 HP p0
 go_wp2_with fail
 refine HC.out.mono ?_
 rintro e3 w3 ⟨rfl,hs3,hk3⟩
 have HS3:Hid (WS w1 b (Zm one true (xs.take (i + 1)) l) w3):=Lh kb9
 have HK3:=Lh (HK2.out.trans hk3)
 clear hs3 hk3 HC
 exact ks4):p:=h
theorem ks83 {p:Prop} (h:p:=by
 clear h0
 go_wp2_with fail
 refine HC.out.mono ?_
 rintro e3 w3 ⟨rfl,hs3,hk3⟩
 have HS3:Hid (WS w1 b (Zm one true (xs.take (i + 1)) l) w3):=Lh kb9
 have HK3:=Lh (HKE.out.trans hk3)
 clear hs3 hk3 HC p0
 exact ks4):p:=h
theorem ks84 {p:Prop} (h:p:=by
 refine (isW Zy w5 HP5.out).mono ?_
 rintro e6 w6 ⟨rfl,hp6,hg6⟩
 have HO6:=Lh (HO5.out.grown hg6 HLT.out)
 have HG6:=Lh (Za HG5.out hg6)
 have HP6:=Lh hp6
 clear hp6 hg6 hbs
 exact ks1):p:=h
theorem ks85 {p:Prop} (h:p:=by
 have HE:Hid (eqB (x,n) (y,n)=eqB x y):=Lh (by
  by_cases h:x=y
  ·rw [h,Zch,Zch]
  ·rw [Zw h];exact Zw fun e=>h kb47)
 exact ks29):p:=h
theorem ks86 {p:Prop} (h:p:=by
 refine wpQuiet_nil ?_
 refine Zu (fun w2 hb2=>?_)
 have HB2:=Lh (next HBL.out hb2)
 clear l0 l1 l2 m0 m1 m2 p0 p1 p2 q0 q1 q2 hb2
 exact ks3):p:=h
end Go.Proofs
