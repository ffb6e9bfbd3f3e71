import Derived.Test.YtmdogmpcmkfjpaaGreatDoorBq10
import Derived.Test.YtmdogmpcmkfjpaaGreatDoorBq09
set_option maxRecDepth 100000
set_option maxHeartbeats 64000000
/- Part. -/
namespace Go.Proofs.YtmdogmpcmkfjpaaGreatDoor.Dt
open Go.RowKit Go.Proofs.YtmdogmpcmkfjpaaGreatDoor.By
theorem Zly (x:Int) (h0:0 ≤ x) (h1:x ≤ 2000000):wrap64 x=x:=by unfold wrap64;omega
theorem wrapK (x:Int) (h0:0 ≤ x) (h1:x ≤ 2000000):IntKind.i64.wrap x=x:=by rw [IntKind.wrap_i64];omega
structure QS (w:World) (r b:Nat) (s:ByteArray) (p:Nat) (v:Value) (O:List UInt8) (W:World):Prop where
 rd:RD r s p W
 bx:Zlw b W
 own:Zo6 W (b + 1) 5 v O
 gr:w.grownBy W (some r)
 sz:b + 1 ≤ W.heap.size
theorem QS.later {w:World} {r b:Nat} {s:ByteArray} {p:Nat} {v:Value} {O:List UInt8} {W W':World} (h:QS w r b s p v O W) (hb:Below W.heap.size W W'):QS w r b s p v O W':=
 ⟨h.rd.later hb,h.bx.later hb,h.own.below hb,Za h.gr (below_grown hb),Nat.le_trans h.sz hb.size⟩
theorem QS.set {w:World} {r b:Nat} {s:ByteArray} {p:Nat} {v:Value} {O:List UInt8} {W:World} (h:QS w r b s p v O W) (hr:r < b) (q:Nat) (x:Int) (hx:x=(q:Int)):QS w r b s q v O (W.setCell ⟨r,1,none⟩ (.int .i64 x)):=by
 subst hx
 exact ⟨h.rd.set q,h.bx.else kW,ownsRow_setCell_below h.own (by show r < b + 1;omega) _,Za h.gr (Z3 _ _ _ _),by rw [World.size_setCell];exact h.sz⟩
theorem QS.app {w:World} {r b:Nat} {s:ByteArray} {p:Nat} {v v':Value} {O O':List UInt8} {W W':World} (h:QS w r b s p v O W) (hr:r < b) (hb:Below (b + 1) W W') (ho:Zo6 W' (b + 1) 5 v' O') (hz:W.heap.size ≤ W'.heap.size) (hwb:w.heap.size ≤ b):QS w r b s p v' O' W':=by
 have hc:∀ j i,j < b + 1→W'.cell? ⟨j,i,none⟩=W.cell? ⟨j,i,none⟩:=fun j i hj=>hb.cell (p:=⟨j,i,none⟩) hj
 have hf:∀ j i,j < b + 1→W'.frozen? ⟨j,i,none⟩=W.frozen? ⟨j,i,none⟩:=fun j i hj=>hb.frozen (p:=⟨j,i,none⟩) hj
 have hr1:r < b + 1:=kW
 have hb1:b < b + 1:=kW
 refine ⟨⟨(hc _ _ hr1).trans h.rd.c0,(hc _ _ hr1).trans h.rd.c1,(hf _ _ hr1).trans h.rd.f1⟩,
  ⟨(hc _ _ hb1).trans h.bx.c0,(hc _ _ hb1).trans h.bx.c1,(hc _ _ hb1).trans h.bx.c2,(hc _ _ hb1).trans h.bx.c3,(hf _ _ hb1).trans h.bx.f0,(hf _ _ hb1).trans h.bx.f1,(hf _ _ hb1).trans h.bx.f2,(hf _ _ hb1).trans h.bx.f3⟩,ho,?_,Nat.le_trans h.sz hz⟩
 exact ⟨hb.os.trans h.gr.os,hb.tape.trans h.gr.tape,hb.output.trans h.gr.output,Nat.le_trans h.gr.size hz,fun k hk hn=>(hb.block k kW).trans (h.gr.block k hk hn)⟩
theorem QS.new {w:World} {r:Nat} {s:ByteArray} {k:Nat} (h:RD r s k w) (t:TypeId):QS w r w.heap.size s k (nS) [] (w.alloc (.cells #[.int .u8 0,eS,.int .u64 0,iZ] t)):=
 ⟨h.later (bA),Zhn _ _,Zo6.nil _ _ _,below_grown (bA),by simp⟩
theorem Zh9 (s:ByteArray) {p:Nat} (h:p < s.size):s.data.toList.drop p=s[p] :: s.data.toList.drop (p + 1):=by
 rw [List.drop_eq_getElem_cons kb65];rfl
theorem Zh8 (s:ByteArray) {p:Nat} (h:s.size ≤ p):s.data.toList.drop p = []:=List.drop_eq_nil_iff.2 (by rw [Zx];exact h)
theorem Zps {c:UInt8} (h:c ≠ 39) (l:List UInt8):Zb6 (c :: l)=(Zb6 l).map fun x=>(c :: x.1,x.2 + 1):=by
 cases l with
 | nil=>simp [Zb6,h]
 | cons d l=>rw [Zb6,if_neg h]
theorem Zug (l:List UInt8):Zb6 (39 :: 39 :: l)=(Zb6 l).map fun x=>(39 :: x.1,x.2 + 2):=by rw [Zb6,if_pos rfl,if_pos rfl]
theorem Zsd {l:List UInt8} (h:Zal l ≠ 39):Zb6 (39 :: l)=some ([],1):=by
 cases l with
 | nil=>simp [Zb6]
 | cons d l=>rw [Zb6,if_pos rfl,if_neg (show ¬ d=39 from h)]
def textR (n:Nat):Option (List UInt8 × Nat)→One
 | none=>.bad 6 n
 | some (t,m)=>if 1000 < t.length then .bad 3 0 else .tok 4 t 0 (m + 1)
theorem Zr1 (l:List UInt8):Zcm l=textR l.length (Zb6 (l.drop 1)):=by
 unfold Zcm
 cases Zb6 (l.drop 1) with
 | none=>rfl
 | some x=>rfl
theorem Zr0 {n m:Nat} {t:List UInt8} (h:1000 < t.length):textR n (some (t,m)) = .bad 3 0:=by show (if _ then _ else _)=_;rw [if_pos h]
theorem textR_ok {n m:Nat} {t:List UInt8} (h:¬ 1000 < t.length):textR n (some (t,m)) = .tok 4 t 0 (m + 1):=by show (if _ then _ else _)=_;rw [if_neg h]
def blobR:Nat ⊕ (List UInt8 × Nat)→One
 | .inl e=>.bad 6 (e + 2)
 | .inr (t,m)=>if 1000 < t.length then .bad 3 0 else .tok 5 t 0 (m + 2)
theorem Zsx (l:List UInt8):Zb8 l=blobR (Zb7 (l.drop 2)):=by
 unfold Zb8
 cases Zb7 (l.drop 2) with
 | inl e=>rfl
 | inr x=>rfl
theorem Zsw {m:Nat} {t:List UInt8} (h:1000 < t.length):blobR (.inr (t,m)) = .bad 3 0:=by show (if _ then _ else _)=_;rw [if_pos h]
theorem blobR_ok {m:Nat} {t:List UInt8} (h:¬ 1000 < t.length):blobR (.inr (t,m)) = .tok 5 t 0 (m + 2):=by show (if _ then _ else _)=_;rw [if_neg h]
theorem wrap_k (k:Nat) (h:k ≤ 1000000):wrap64 (k:Int)=(k:Int):=by unfold wrap64;omega
theorem wordW (w0:World) (r:Nat) (s:ByteArray) (k:Nat) (w:World) (hx:Env w0 r w) (h:RD r s k w) (hs:s.size ≤ 1000000) (hk:k ≤ s.size) :
 Calls Tryz.prog 117 #[pV r] w fun e w'=>e = .returned (outV (Zbu (s.data.toList.drop k)))∧RD r s (k + Zs3 (Zbu (s.data.toList.drop k))) w'∧w.grownBy w' (some r):=by
 obtain ⟨l,hl⟩:∃ l,l=s.data.toList.drop k:=⟨_,rfl⟩
 have hll:l.length=s.size - k:=by rw [hl,List.length_drop,Zx]
 have hne:w.heap.size ≠ r:=by have:=h.lt;omega
 have HP0:Hid (∀ W,RD r s k W→Calls Tryz.prog 111 #[pV r,iZ] W fun e w'=>e = .returned (byte (Zal l))∧Below W.heap.size W w'):=Lh (fun W h=>by rw [hl];exact Zpv r s k W h hs hk)
 have HWW:Hid (∀ W,RD r s k W→Calls Tryz.prog 109 #[pV r,.func (.func 73) #[] #[]] W fun e w'=>e = .returned (str (l.take (Zap Zbf l)))∧RD r s (k + Zap Zbf l) w'∧W.grownBy w' (some r)):=Lh (fun W h=>by rw [hl];exact Zjf Zbf 73 (fun _ _=>by kernel_rfl) Zp3 r s k W h hs hk)
 have HWN:Hid (∀ W,RD r s k W→Calls Tryz.prog 109 #[pV r,.func (.func 142) #[] #[]] W fun e w'=>e = .returned (str (l.take (Zap Zb0 l)))∧RD r s (k + Zap Zb0 l) w'∧W.grownBy w' (some r)):=Lh (fun W h=>by rw [hl];exact Zjf Zb0 142 (fun _ _=>by kernel_rfl) nameW r s k W h hs hk)
 have HPN:Hid (∀ W,RD r s (k + Zap Zb0 l) W→Calls Tryz.prog 111 #[pV r,iZ] W fun e w'=>e = .returned (byte (Zal (l.drop (Zap Zb0 l))))∧Below W.heap.size W w'):=Lh (fun W h=>by
  have h1:=Zat Zb0 l
  have h2:=Zpv r s (k + Zap Zb0 l) W h hs kW
  rw [← List.drop_drop,← hl] at h2
  exact h2)
 rw [← hl]
 have HL:=Lh hll
 have HNE:=Lh hne
 have HX:=Lh hx
 have HS:=Lh hs
 have HK:=Lh hk
 have HG0:Hid (w.grownBy (w.alloc (.cells #[.int .u8 0,eS,.int .u64 0,iZ] 128)) (some r)):=Lh (below_grown (bA))
 have HR0:Hid (RD r s k (w.alloc (.cells #[.int .u8 0,eS,.int .u64 0,iZ] 128))):=Lh (h.later (bA))
 have HB0:Hid (Zlw w.heap.size (w.alloc (.cells #[.int .u8 0,eS,.int .u64 0,iZ] 128))):=Lh (Zhn _ _)
 clear hl hll hne hx h hs hk
 go_enter Tryz.func117,Tryz.ntmps117
 go_wp2_with fail
 generalize w.alloc (.cells #[.int .u8 0,eS,.int .u64 0,iZ] 128)=w1 at *
 refine (HP0.out _ HR0.out).mono ?_
 rintro e w2 ⟨rfl,hb2⟩
 have HR2:=Lh (HR0.out.later hb2)
 have HB2:=Lh (HB0.out.later hb2)
 have HG2:=Lh (Za HG0.out (below_grown hb2))
 clear hb2
 obtain ⟨b,hb⟩:∃ b,b=w.heap.size:=⟨_,rfl⟩
 rw [← hb] at HB2 HNE ⊢
 have HBE:=Lh (Nat.le_of_eq hb.symm)
 clear hb HB0 HR0 HG0
 by_cases hc:Zf3 (Zal l)=true
 ·have HC1:Hid (∀ W,Calls Tryz.prog 116 #[byte (Zal l)] W fun e w'=>e = .returned (.bool true)∧W=w'):=Lh (fun W=>by have:=capW (Zal l) W;rwa [hc] at this)
  obtain ⟨m,hm⟩:∃ m,m=Zap Zbf l:=⟨_,rfl⟩
  obtain ⟨t,ht⟩:∃ t,t=l.take m:=⟨_,rfl⟩
  rw [← hm,← ht] at HWW
  have HONE:Hid (Zbu l=if t ∈ Zb2 then .tok 1 t 0 m else .bad 6 0):=Lh (by unfold Zbu;rw [if_pos hc,← hm,← ht])
  have htl:t.length=m:=by rw [ht,hm];exact Zd2 (Zat Zbf l)
  have hmb:k + m ≤ 1000000:=by
   have h1:=Zat Zbf l
   have h2:=HL.out
   have h3:=HS.out
   have h4:=HK.out
   rw [hm];omega
  have HTL:=Lh htl
  have HMB:=Lh hmb
  clear hm ht htl hmb hc
  go_wp2_with fail
  refine (HC1.out _).mono ?_
  rintro e w3 ⟨rfl,rfl⟩
  go_wp2_with fail
  refine (HWW.out _ HR2.out).mono ?_
  rintro e w3 ⟨rfl,hr3,hg3⟩
  have HR3:=Lh hr3
  have HB3:=Lh (HB2.out.grown hg3 HNE.out)
  have HG3:=Lh (Za HG2.out hg3)
  clear hr3 hg3
  go_wp2_with fail
  refine (wordsW w3 (HX.out.grown HG3.out).lx).mono ?_
  rintro e w4 ⟨A,rfl,ha,hb4⟩
  have HA:=Lh ha
  have HR4:=Lh (HR3.out.later hb4)
  have HB4:=Lh (HB3.out.later hb4)
  have HG4:=Lh (Za HG3.out (below_grown hb4))
  clear ha hb4
  by_cases hmem:t ∈ Zb2
  ·have HF:Hid (∀ W,Zo1 A Zb2 W→Calls Tryz.prog 140 #[.slice (some ⟨A,0,none⟩) 43 43,.string ⟨t.toArray⟩] W fun e w'=>∃ I:Int,e = .returned (.tuple #[.int .i64 I,.bool true])∧Below W.heap.size W w'):=Lh (fun W h=>by
    have:=findW A ⟨t.toArray⟩ W h
    rwa [show decide ((⟨t.toArray⟩:ByteArray).data.toList ∈ Zb2)=true from decide_eq_true hmem] at this)
   have HONE:Hid (Zbu l = .tok 1 t 0 m):=Lh (by rw [HONE.out,if_pos hmem])
   clear hmem
   go_wp2_with fail
   refine (HF.out _ HA.out).mono ?_
   rintro e w5 ⟨I,rfl,hb5⟩
   have HR5:=Lh (HR4.out.later hb5)
   have HB5:=Lh (HB4.out.later hb5)
   have HG5:=Lh (Za HG4.out (below_grown hb5))
   clear hb5
   obtain ⟨c0,c1,c2,c3,f0,f1,f2,f3⟩:=HB5.out
   go_wp2_with fail
   obtain ⟨q0,q1,q2,q3⟩:=Zbb w5 b (.int .u8 1) (.string ⟨t.toArray⟩) (.int .u64 0) (iZ) HB5.out _ rfl
   rw [HONE.out]
   refine bodyPost_ret (v:=.tuple #[Tk.val ⟨1,⟨t.toArray⟩,0,0⟩,iZ]) kb69 rfl ⟨rfl,HR5.out.box _ _ _ _ HNE.out,Zab HG5.out _ _ _ _ HBE.out⟩
  have HF:Hid (∀ W,Zo1 A Zb2 W→Calls Tryz.prog 140 #[.slice (some ⟨A,0,none⟩) 43 43,.string ⟨t.toArray⟩] W fun e w'=>∃ I:Int,e = .returned (.tuple #[.int .i64 I,.bool false])∧Below W.heap.size W w'):=Lh (fun W h=>by
   have:=findW A ⟨t.toArray⟩ W h
   rwa [show decide ((⟨t.toArray⟩:ByteArray).data.toList ∈ Zb2)=false from decide_eq_false hmem] at this)
  have HONE:Hid (Zbu l = .bad 6 0):=Lh (by rw [HONE.out,if_neg hmem])
  clear hmem
  go_wp2_with fail
  refine (HF.out _ HA.out).mono ?_
  rintro e w5 ⟨I,rfl,hb5⟩
  have HR5:=Lh (HR4.out.later hb5)
  have HB5:=Lh (HB4.out.later hb5)
  have HG5:=Lh (Za HG4.out (below_grown hb5))
  clear hb5
  obtain ⟨c0,c1,c2,c3,f0,f1,f2,f3⟩:=HB5.out
  obtain ⟨d0,d1,g1⟩:=HR5.out
  have hz:(⟨t.toArray⟩:ByteArray).size=m:=HTL.out
  have hbk:=wrap_k k (by have:=HMB.out;omega)
  go_upto_region 6 with fail
  have HR6:=Lh (HR5.out.set k)
  have HB6:=Lh (HB5.out.else (r:=r) (i:=1) (u:=.int .i64 (k:Int)) HNE.out)
  have HG6:=Lh (Za HG5.out (Z3 w5 r 1 (.int .i64 (k:Int))))
  clear c0 c1 c2 c3 f0 f1 f2 f3 d0 d1 g1 hz hbk
  generalize w5.setCell ⟨r,1,none⟩ (.int .i64 (k:Int))=w6 at *
  obtain ⟨c0,c1,c2,c3,f0,f1,f2,f3⟩:=HB6.out
  go_wp2_with fail
  obtain ⟨q0,q1,q2,q3⟩:=Zbb w6 b (.int .u8 0) (eS) (.int .u64 0) (iZ) HB6.out _ rfl
  rw [HONE.out]
  refine bodyPost_ret (v:=.tuple #[T0.val,.int .i64 6]) kb26 rfl ⟨rfl,HR6.out.box _ _ _ _ HNE.out,Zab HG6.out _ _ _ _ HBE.out⟩
 have HC1:Hid (∀ W,Calls Tryz.prog 116 #[byte (Zal l)] W fun e w'=>e = .returned (.bool false)∧W=w'):=Lh (fun W=>by have:=capW (Zal l) W;rwa [show Zf3 (Zal l)=false by simpa using hc] at this)
 obtain ⟨m,hm⟩:∃ m,m=Zap Zb0 l:=⟨_,rfl⟩
 obtain ⟨t,ht⟩:∃ t,t=l.take m:=⟨_,rfl⟩
 obtain ⟨c,hcc⟩:∃ c,c=Zal (l.drop m):=⟨_,rfl⟩
 rw [← hm,← ht] at HWN
 rw [← hm,← hcc] at HPN
 have HONE:Hid (Zbu l=if Zf3 c then .bad 6 m else if 32 < m then .bad 3 0 else .tok 2 t 0 m):=Lh (by unfold Zbu;rw [if_neg hc,← hm,← ht,← hcc])
 have htl:t.length=m:=by rw [ht,hm];exact Zd2 (Zat Zb0 l)
 have hmb:k + m ≤ 1000000:=by
  have h1:=Zat Zb0 l
  have h2:=HL.out
  have h3:=HS.out
  have h4:=HK.out
  rw [hm];omega
 have HTL:=Lh htl
 have HMB:=Lh hmb
 clear hm ht htl hmb hc hcc
 go_wp2_with fail
 refine (HC1.out _).mono ?_
 rintro e w3 ⟨rfl,rfl⟩
 go_wp2_with fail
 refine (HWN.out _ HR2.out).mono ?_
 rintro e w3 ⟨rfl,hr3,hg3⟩
 have HR3:=Lh hr3
 have HB3:=Lh (HB2.out.grown hg3 HNE.out)
 have HG3:=Lh (Za HG2.out hg3)
 clear hr3 hg3
 go_wp2_with fail
 refine (HPN.out _ HR3.out).mono ?_
 rintro e w4 ⟨rfl,hb4⟩
 have HR4:=Lh (HR3.out.later hb4)
 have HB4:=Lh (HB3.out.later hb4)
 have HG4:=Lh (Za HG3.out (below_grown hb4))
 clear hb4
 have HC2:=Lh (capW c)
 obtain ⟨c0,c1,c2,c3,f0,f1,f2,f3⟩:=HB4.out
 cases hcp:Zf3 c with
 | true=>
  rw [hcp] at HC2 HONE
  have HONE:Hid (Zbu l = .bad 6 m):=Lh (by rw [HONE.out,if_pos rfl])
  clear hcp
  go_wp2_with fail
  refine (HC2.out _).mono ?_
  rintro e w5 ⟨rfl,rfl⟩
  go_wp2_with fail
  obtain ⟨q0,q1,q2,q3⟩:=Zbb w4 b (.int .u8 0) (eS) (.int .u64 0) (iZ) HB4.out _ rfl
  rw [HONE.out]
  refine bodyPost_ret (v:=.tuple #[T0.val,.int .i64 6]) kb26 rfl ⟨rfl,HR4.out.box _ _ _ _ HNE.out,Zab HG4.out _ _ _ _ HBE.out⟩
 | false=>
  rw [hcp] at HC2 HONE
  have hz:(⟨t.toArray⟩:ByteArray).size=m:=HTL.out
  clear hcp
  by_cases h32:32 < m
  ·have HONE:Hid (Zbu l = .bad 3 0):=Lh (by rw [HONE.out,if_neg kD,if_pos h32])
   have i1:(32:Int) < (m:Int):=kW
   have HR5:=HR4
   have HB5:=HB4
   have HG5:=HG4
   clear c0 c1 c2 c3 f0 f1 f2 f3 h32
   go_wp2_with fail
   refine (HC2.out _).mono ?_
   rintro e w5 ⟨rfl,rfl⟩
   obtain ⟨d0,d1,g1⟩:=HR5.out
   have c0:True:=trivial
   have c1:True:=trivial
   have c2:True:=trivial
   have c3:True:=trivial
   have f0:True:=trivial
   have f1:True:=trivial
   have f2:True:=trivial
   have f3:True:=trivial
   have hbk:=wrap_k k (by have:=HMB.out;omega)
   go_upto_region 13 with fail
   have HR6:=Lh (HR5.out.set k)
   have HB6:=Lh (HB5.out.else (r:=r) (i:=1) (u:=.int .i64 (k:Int)) HNE.out)
   have HG6:=Lh (Za HG5.out (Z3 w4 r 1 (.int .i64 (k:Int))))
   clear c0 c1 c2 c3 f0 f1 f2 f3 d0 d1 g1 hz hbk
   generalize w4.setCell ⟨r,1,none⟩ (.int .i64 (k:Int))=w6 at *
   obtain ⟨c0,c1,c2,c3,f0,f1,f2,f3⟩:=HB6.out
   go_wp2_with fail
   obtain ⟨q0,q1,q2,q3⟩:=Zbb w6 b (.int .u8 0) (eS) (.int .u64 0) (iZ) HB6.out _ rfl
   rw [HONE.out]
   refine bodyPost_ret (v:=.tuple #[T0.val,.int .i64 3]) kb26 rfl ⟨rfl,HR6.out.box _ _ _ _ HNE.out,Zab HG6.out _ _ _ _ HBE.out⟩
  ·have HONE:Hid (Zbu l = .tok 2 t 0 m):=Lh (by rw [HONE.out,if_neg kD,if_neg h32])
   have i1:¬ (32:Int) < (m:Int):=kW
   clear h32
   go_wp2_with fail
   refine (HC2.out _).mono ?_
   rintro e w5 ⟨rfl,rfl⟩
   go_wp2_with fail
   obtain ⟨q0,q1,q2,q3⟩:=Zbb w4 b (.int .u8 2) (.string ⟨t.toArray⟩) (.int .u64 0) (iZ) HB4.out _ rfl
   rw [HONE.out]
   refine bodyPost_ret (v:=.tuple #[Tk.val ⟨2,⟨t.toArray⟩,0,0⟩,iZ]) kb69 rfl ⟨rfl,HR4.out.box _ _ _ _ HNE.out,Zab HG4.out _ _ _ _ HBE.out⟩
theorem Zq2:∀ (M:Nat) (l:List UInt8) (acc v:Nat),acc ≤ M→Lib.parseUintM M acc l = .ok v→v ≤ M
 | M,[],acc,v,h,e=>by cases e;exact h
 | M,c :: l,acc,v,h,e=>by
  unfold Lib.parseUintM at e
  split at e
  ·split at e
   ·cases e
   ·split at e
    ·cases e
    ·exact Zq2 M l _ v kW e
  ·cases e
theorem parseUW (s:ByteArray) (w:World) (hw:LW w) (hs:s.size ≤ 1000000) :
 Calls Tryz.prog 143 #[.string s,.int .i64 10,.int .i64 64] w fun e w'=>
  (∃ (n:Nat) (ev:Value) (ok:Bool),e = .returned (.tuple #[.int .u64 (n:Int),ev])∧n ≤ 18446744073709551615 ∧
   (ok=true→Lib.parseUintB 64 s.data.toList = .ok n∧ev = .nilIface)∧(ok=false→(∀ v,Lib.parseUintB 64 s.data.toList ≠ .ok v)∧∃ t p,ev = .iface t (.pointer (some p))))∧Below w.heap.size w w':=by
 obtain ⟨_,_,⟨t,p,h3⟩,⟨u,q,h4⟩⟩:=hw
 rcases hp:Lib.parseUintB 64 s.data.toList with v | _ | _
 ·skip
  refine (Tryz.strconv_ParseUint_10_at64_ok s kW v hp w).mono fun e w' h=>?_
  obtain ⟨rfl,h⟩:=h
  refine ⟨⟨v,.nilIface,true,rfl,?_,fun _=>⟨rfl,rfl⟩,fun h=>by cases h⟩,?_⟩
  ·unfold Lib.parseUintB at hp
   split at hp
   ·cases hp
   exact Zq2 18446744073709551615 _ 0 _ kD hp
  rcases h with rfl | rfl
  ·exact Below.refl _ _
  exact Lib.bytesWorld_below _ _ _
 ·skip
  refine (Tryz.strconv_ParseUint_10_at64_syntax_var s kW hp t p w h3).mono fun e w' h=>?_
  obtain ⟨N,rfl,_,_,hb⟩:=h
  exact ⟨⟨0,_,false,rfl,by decide,fun h=>Zod,fun _=>⟨fun v h=>Zod,_,_,rfl⟩⟩,hb⟩
 skip
 refine (Tryz.strconv_ParseUint_10_at64_range_var s kW hp u q w h4).mono fun e w' h=>?_
 obtain ⟨N,rfl,_,_,hb⟩:=h
 exact ⟨⟨18446744073709551615,_,false,rfl,by decide,fun h=>Zod,fun _=>⟨fun v h=>Zod,_,_,rfl⟩⟩,hb⟩
theorem num_ok {l t:List UInt8} {n:Nat} (h0:¬ (Zal l=48∧Zdx (Zal (l.drop 1))=true)) (ht:t=l.take (Zap Zdx l)) (hp:Lib.parseUintB 64 t = .ok n):Zc2 l=if 9223372036854775808 < n then .bad 5 0 else .tok 3 [] n (Zap Zdx l):=by
 unfold Lib.parseUintB at hp
 split at hp
 ·cases hp
 have:=Zq0 _ _ _ _ hp
 unfold Zc2
 rw [if_neg h0,← ht,this]
theorem num_no {l t:List UInt8} (h0:¬ (Zal l=48∧Zdx (Zal (l.drop 1))=true)) (ht:t=l.take (Zap Zdx l)) (hne:t ≠ []) (hp:∀ v,Lib.parseUintB 64 t ≠ .ok v):Zc2 l = .bad 5 0:=by
 unfold Zc2
 rw [if_neg h0,← ht]
 cases hd:Zmv 0 t with
 | none=>rfl
 | some n=>
  simp only
  rw [if_pos]
  rcases Nat.lt_or_ge 9223372036854775808 n with h | h
  ·exact h
  ·exfalso
   refine hp n ?_
   unfold Lib.parseUintB
   rw [if_neg hne]
   exact Zq1 t 0 n hd kW
theorem numberW (w0:World) (r:Nat) (s:ByteArray) (k:Nat) (w:World) (hx:Env w0 r w) (h:RD r s k w) (hs:s.size ≤ 1000000) (hk:k ≤ s.size) (hdg:Zdx (Zal (s.data.toList.drop k))=true) :
 Calls Tryz.prog 119 #[pV r] w fun e w'=>e = .returned (outV (Zc2 (s.data.toList.drop k)))∧RD r s (k + Zs3 (Zc2 (s.data.toList.drop k))) w'∧w.grownBy w' (some r):=by
 obtain ⟨l,hl⟩:∃ l,l=s.data.toList.drop k:=⟨_,rfl⟩
 have hll:l.length=s.size - k:=by rw [hl,List.length_drop,Zx]
 have hne:w.heap.size ≠ r:=by have:=h.lt;omega
 have HP0:Hid (∀ W,RD r s k W→Calls Tryz.prog 111 #[pV r,iZ] W fun e w'=>e = .returned (byte (Zal l))∧Below W.heap.size W w'):=Lh (fun W h=>by rw [hl];exact Zpv r s k W h hs hk)
 have HP1:Hid (∀ W,RD r s k W→Calls Tryz.prog 111 #[pV r,.int .i64 1] W fun e w'=>e = .returned (byte (Zal (l.drop 1)))∧Below W.heap.size W w'):=Lh (fun W h=>by rw [hl,List.drop_drop];exact Zuq r s k W h hs hk)
 have HWW:Hid (∀ W,RD r s k W→Calls Tryz.prog 109 #[pV r,.func (.func 118) #[] #[]] W fun e w'=>e = .returned (str (l.take (Zap Zdx l)))∧RD r s (k + Zap Zdx l) w'∧W.grownBy w' (some r)):=Lh (fun W h=>by rw [hl];exact Zjf Zdx 118 (fun _ _=>by kernel_rfl) digW r s k W h hs hk)
 rw [← hl] at hdg ⊢
 have HDG:=Lh hdg
 have HL:=Lh hll
 have HNE:=Lh hne
 have HX:=Lh hx
 have HS:=Lh hs
 have HK:=Lh hk
 have HG0:Hid (w.grownBy (w.alloc (.cells #[.int .u8 0,eS,.int .u64 0,iZ] 128)) (some r)):=Lh (below_grown (bA))
 have HR0:Hid (RD r s k (w.alloc (.cells #[.int .u8 0,eS,.int .u64 0,iZ] 128))):=Lh (h.later (bA))
 have HB0:Hid (Zlw w.heap.size (w.alloc (.cells #[.int .u8 0,eS,.int .u64 0,iZ] 128))):=Lh (Zhn _ _)
 clear hl hll hne hx h hs hk hdg
 go_enter Tryz.func119,Tryz.ntmps119
 go_upto_region 1 with fail
 generalize w.alloc (.cells #[.int .u8 0,eS,.int .u64 0,iZ] 128)=w1 at *
 obtain ⟨b,hb⟩:∃ b,b=w.heap.size:=⟨_,rfl⟩
 rw [← hb] at HB0 HNE ⊢
 have HBE:=Lh (Nat.le_of_eq hb.symm)
 clear hb
 obtain ⟨c,hc⟩:∃ c,c=Zal l:=⟨_,rfl⟩
 obtain ⟨d,hd⟩:∃ d,d=Zal (l.drop 1):=⟨_,rfl⟩
 have HC:=Lh hc
 have HD:=Lh hd
 rw [← hc] at HP0
 rw [← hd] at HP1
 clear hc hd
 obtain ⟨B,hB⟩:∃ B,B=decide (c=48∧Zdx d=true):=⟨_,rfl⟩
 have HBB:=Lh hB
 clear hB
 go_cut [14] (fun c14 wx=>c14 = .bool B∧Hid (RD r s k wx)∧Hid (Zlw b wx)∧Hid (w.grownBy wx (some r)))
 case first=>
  by_cases h48:c=48
  ·subst h48
   have HDW:=Lh (digW d)
   cases hdd:Zdx d with
   | true=>
    rw [hdd] at HDW
    obtain rfl:B=true:=by rw [HBB.out,hdd];rfl
    exact ks24
   | false=>
    rw [hdd] at HDW
    obtain rfl:B=false:=by rw [HBB.out,hdd];rfl
    exact ks24
  have e1:((c.toNat:Int) == 48)=false:=by
   have:c.toNat ≠ 48:=fun e=>h48 (UInt8.toNat_inj.1 e)
   first | (simp;done) | (simp;omega)
  obtain rfl:B=false:=by rw [HBB.out];exact decide_eq_false (fun e=>h48 e.1)
  clear h48
  go_wp2_with fail
  refine (HP0.out _ HR0.out).mono ?_
  rintro e w2 ⟨rfl,hb2⟩
  have HR2:=Lh (HR0.out.later hb2)
  have HB2:=Lh (HB0.out.later hb2)
  have HG2:=Lh (Za HG0.out (below_grown hb2))
  clear hb2
  go_wp2_with fail
  go_meet
  exact ⟨rfl,HR2,HB2,HG2⟩
 rename World=>w5
 obtain ⟨rfl,HR5,HB5,HG5⟩:=hcut
 clear HR0 HB0 HG0
 by_cases hbad:c=48∧Zdx d=true
 ·have HONE:Hid (Zc2 l = .bad 6 1):=Lh (by unfold Zc2;rw [if_pos (by rw [← HC.out,← HD.out];exact hbad)])
  obtain rfl:B=true:=by rw [HBB.out];exact decide_eq_true hbad
  obtain ⟨d0,d1,g1⟩:=HR5.out
  have hw1:wrap64 ((k:Int) + 1)=(k:Int) + 1:=by have h1:=HS.out;have h2:=HK.out;unfold wrap64;omega
  clear hbad
  go_upto_region 3 with fail
  have e1:((k + 1:Nat):Int)=(k:Int) + 1:=kW
  have HR6:=Lh (HR5.out.set (k + 1))
  have HB6:=Lh (HB5.out.else (r:=r) (i:=1) (u:=.int .i64 ((k + 1:Nat):Int)) HNE.out)
  have HG6:=Lh (Za HG5.out (Z3 w5 r 1 (.int .i64 ((k + 1:Nat):Int))))
  rw [e1] at HR6 HB6 HG6
  clear d0 d1 g1 hw1 e1
  generalize w5.setCell ⟨r,1,none⟩ (.int .i64 ((k:Int) + 1))=w6 at *
  obtain ⟨c0,c1,c2,c3,f0,f1,f2,f3⟩:=HB6.out
  go_wp2_with fail
  obtain ⟨q0,q1,q2,q3⟩:=Zbb w6 b (.int .u8 0) (eS) (.int .u64 0) (iZ) HB6.out _ rfl
  rw [HONE.out]
  refine bodyPost_ret (v:=.tuple #[T0.val,.int .i64 6]) kb27 rfl ⟨rfl,HR6.out.box _ _ _ _ HNE.out,Zab HG6.out _ _ _ _ HBE.out⟩
 obtain rfl:B=false:=by rw [HBB.out];exact decide_eq_false hbad
 have HNB:Hid (¬ (Zal l=48∧Zdx (Zal (l.drop 1))=true)):=Lh (by rw [← HC.out,← HD.out];exact hbad)
 obtain ⟨m,hm⟩:∃ m,m=Zap Zdx l:=⟨_,rfl⟩
 obtain ⟨t,ht⟩:∃ t,t=l.take m:=⟨_,rfl⟩
 have HNO:Hid ((∀ v,Lib.parseUintB 64 t ≠ .ok v)→Zc2 l = .bad 5 0):=Lh (fun h=>by
  refine num_no HNB.out (t:=t) (by rw [ht,hm]) ?_ h
  rintro rfl
  have h1:=congrArg List.length ht
  rw [Zd2 (by rw [hm];exact Zat Zdx l)] at h1
  have h2:0 < m:=by
   rw [hm]
   cases hl:l with
   | nil=>rw [hl] at HDG;exact absurd HDG.out kD
   | cons x y=>rw [hl] at HDG;rw [Zbe (show Zdx x=true from HDG.out)];omega
  simp at h1;omega)
 have HOK:Hid (∀ n,Lib.parseUintB 64 t = .ok n→Zc2 l=if 9223372036854775808 < n then .bad 5 0 else .tok 3 [] n m):=Lh (fun n h=>by
  rw [hm];exact num_ok HNB.out (by rw [ht,hm]) h)
 have htl:t.length=m:=by rw [ht,hm];exact Zd2 (Zat Zdx l)
 have hmb:k + m ≤ 1000000:=by
  have h1:=Zat Zdx l
  have h2:=HL.out
  have h3:=HS.out
  have h4:=HK.out
  rw [hm];omega
 rw [← hm,← ht] at HWW
 have HTL:=Lh htl
 have HMB:=Lh hmb
 clear hm ht htl hmb hbad
 go_wp2_with fail
 refine (HWW.out _ HR5.out).mono ?_
 rintro e w7 ⟨rfl,hr7,hg7⟩
 have HR7:=Lh hr7
 have HB7:=Lh (HB5.out.grown hg7 HNE.out)
 have HG7:=Lh (Za HG5.out hg7)
 clear hr7 hg7
 go_wp2_with fail
 refine (parseUW ⟨t.toArray⟩ w7 (HX.out.grown HG7.out).lx.toLW (by have h1:=HTL.out;have h2:=HMB.out;show t.length ≤ 1000000;omega)).mono ?_
 rintro e w9 ⟨⟨n,ev,ok,rfl,hnb,hy,hn⟩,hb9⟩
 have HR9:=Lh (HR7.out.later hb9)
 have HB9:=Lh (HB7.out.later hb9)
 have HG9:=Lh (Za HG7.out (below_grown hb9))
 have HY:=Lh hy
 have HN:=Lh hn
 have HNBD:=Lh hnb
 clear hb9 hy hn hnb
 cases ok with
 | true=>
  obtain ⟨hp,rfl⟩:=HY.out rfl
  have HONE:=Lh (HOK.out n hp)
  clear hp
  by_cases hbig:9223372036854775808 < n
  ·have HONE:Hid (Zc2 l = .bad 5 0):=Lh (by rw [HONE.out,if_pos hbig])
   have i1:(9223372036854775808:Int) < (n:Int):=kW
   clear hbig
   exact ks15
  ·have HONE:Hid (Zc2 l = .tok 3 [] n m):=Lh (by rw [HONE.out,if_neg hbig])
   have i1:¬ (9223372036854775808:Int) < (n:Int):=kW
   clear hbig
   obtain ⟨c0,c1,c2,c3,f0,f1,f2,f3⟩:=HB9.out
   go_wp2_with fail
   obtain ⟨q0,q1,q2,q3⟩:=Zbb w9 b (.int .u8 3) (eS) (.int .u64 (n:Int)) (iZ) HB9.out _ rfl
   rw [HONE.out]
   refine bodyPost_ret (v:=.tuple #[Tk.val ⟨3,⟨([]:List UInt8).toArray⟩,n,0⟩,iZ]) (by simp [results,Tryz.results119,go_sem,q0,q1,q2,q3,Tk.val]) rfl ⟨rfl,HR9.out.box _ _ _ _ HNE.out,Zab HG9.out _ _ _ _ HBE.out⟩
 | false=>
  obtain ⟨hp,tt,pp,rfl⟩:=HN.out rfl
  have HONE:=Lh (HNO.out hp)
  clear hp
  exact ks15
theorem signs_at:∀ k:Fin 256,(Lib.indexByte [40,41,44,46,42,43,45,47,37,61,60,62,59] (UInt8.ofNat k.val) < 0 ↔ UInt8.ofNat k.val ∉ Zfz):=by decide +kernel
def signI (c:UInt8):Int:=Lib.indexByte [40,41,44,46,42,43,45,47,37,61,60,62,59] c
theorem Zt4 (c:UInt8):signI c < 0 ↔ c ∉ Zfz:=by
 have h2:=signs_at ⟨c.toNat,c.toNat_lt⟩
 simp only [UInt8.ofNat_toNat] at h2
 exact h2
theorem signByte (c:UInt8) (w:World):Calls Tryz.prog 138 #[.string ⟨#[40,41,44,46,42,43,45,47,37,61,60,62,59]⟩,byte c] w fun e w'=>e = .returned (.int .i64 (signI c))∧w=w':=by
 refine (Tryz.strings_IndexByte _ _ w).mono fun e w' h=>?_
 obtain ⟨rfl,rfl⟩:=h
 have e:((c.toNat:Int)).toNat.toUInt8=c:=kY
 rw [e]
 exact ⟨rfl,rfl⟩
theorem signW (r:Nat) (s:ByteArray) (k:Nat) (w:World) (h:RD r s k w) (hs:s.size ≤ 1000000) (hk:k < s.size) :
 Calls Tryz.prog 113 #[pV r] w fun e w'=>e = .returned (outV (Zbm (s.data.toList.drop k)))∧RD r s (k + Zs3 (Zbm (s.data.toList.drop k))) w'∧w.grownBy w' (some r):=by
 obtain ⟨l,hl⟩:∃ l,l=s.data.toList.drop k:=⟨_,rfl⟩
 have hll:l.length=s.size - k:=by rw [hl,List.length_drop,Zx]
 have hne:w.heap.size ≠ r:=by have:=h.lt;omega
 obtain ⟨t,ht⟩:∃ t,t=l.take 2:=⟨_,rfl⟩
 obtain ⟨m,hm⟩:∃ m,m=t.length:=⟨_,rfl⟩
 have hm2:m=min 2 (s.size - k):=by rw [hm,ht,List.length_take,hll]
 have hcut:(.string (s.extract k (k + m)):Value)=str t:=by
  have h1:l.take m=l.take 2:=by rw [List.take_eq_take_iff,hm2];omega
  rw [Zmw,← hl,h1,ht]
 have hone:(.string (s.extract k (k + 1)):Value)=str (l.take 1):=by rw [Zmw,← hl]
 have htop:Zal l=s[k]:=by rw [hl];exact Zdu s k hk
 have HONE:Hid (Zbm l=if t ∈ Zf1 then .tok 6 t 0 2 else if s[k] ∈ Zfz then .tok 6 (l.take 1) 0 1 else .bad 6 0):=Lh (by unfold Zbm;rw [← ht,htop])
 rw [← hl]
 have hw2:=Zly ((k:Int) + 2) kW kW
 have hw1:=Zly ((k:Int) + 1) kW kW
 have hw0:=Zly (k:Int) kW kW
 have hw3:=wrapK ((k:Int) + 2) kW kW
 have hw4:=wrapK (k:Int) kW kW
 have HW4:=Lh hw4
 have HW2:=Lh hw2
 have HW1:=Lh hw1
 have HW0:=Lh hw0
 have HW3:=Lh hw3
 clear hw2 hw1 hw0 hw3 hw4
 have hmi:min ((k:Int) + 2) (s.size:Int)=(k:Int) + (m:Int):=kW
 have j0:(0:Int) ≤ (k:Int):=kW
 have j1:(k:Int) ≤ (k:Int) + (m:Int):=kW
 have j2:(k:Int) + (m:Int) ≤ (s.size:Int):=kW
 have j3:(k:Int) < (s.size:Int):=kW
 have j4:(k:Int) + 1 ≤ (s.size:Int):=kW
 have HM2:Hid (t ∈ Zf1→m=2):=Lh (fun hx=>by
  rw [hm]
  simp only [Zf1,List.mem_cons,List.not_mem_nil,or_false] at hx
  rcases hx with rfl | rfl | rfl | rfl <;> rfl)
 have HNE:=Lh hne
 have HC:=Lh hcut
 have HO:=Lh hone
 have HMI:=Lh hmi
 have HG0:Hid (w.grownBy (w.alloc (.cells #[.int .u8 0,eS,.int .u64 0,iZ] 128)) (some r)):=Lh (below_grown (bA))
 have HR0:Hid (RD r s k (w.alloc (.cells #[.int .u8 0,eS,.int .u64 0,iZ] 128))):=Lh (h.later (bA))
 have HB0:Hid (Zlw w.heap.size (w.alloc (.cells #[.int .u8 0,eS,.int .u64 0,iZ] 128))):=Lh (Zhn _ _)
 clear hl hll hne h hs hm hm2 ht hcut hone htop hmi
 go_enter Tryz.func113,Tryz.ntmps113
 go_upto_region 1 with fail
 generalize w.alloc (.cells #[.int .u8 0,eS,.int .u64 0,iZ] 128)=w1 at *
 obtain ⟨b,hb⟩:∃ b,b=w.heap.size:=⟨_,rfl⟩
 rw [← hb] at HB0 HNE ⊢
 have HBE:=Lh (Nat.le_of_eq hb.symm)
 clear hb
 go_cut [4] (fun v wx=>v=str t∧Hid (Below w1.heap.size w1 wx))
 case first=>
  have hmi:=HMI.out
  have hw3:=HW3.out
  obtain ⟨d0,d1,g1⟩:=HR0.out
  go_quiet (fail)
  go_wp2_with fail
  go_meet
  exact ⟨HC.out,Lh (Zdb (Below.refl _ _) _)⟩
 rename World=>w2
 obtain ⟨rfl,HBW⟩:=hcut
 have HR2:=Lh (HR0.out.later HBW.out)
 have HB2:=Lh (HB0.out.later HBW.out)
 have HG2:=Lh (Za HG0.out (below_grown HBW.out))
 clear HR0 HB0 HG0 HBW
 by_cases hx:t ∈ Zf1
 ·have hy:=hx
  simp only [Zf1,List.mem_cons,List.not_mem_nil,or_false] at hy
  rcases hy with rfl | rfl | rfl | rfl
  ·have HONE:Hid (Zbm l = .tok 6 [60,62] 0 2):=Lh kb75
   have hw2:=HW2.out
   obtain ⟨d0,d1,g1⟩:=HR2.out
   clear hx HM2
   go_upto_region 8 with fail
   have e1:((k + 2:Nat):Int)=(k:Int) + 2:=kW
   have HR6:=Lh (HR2.out.set (k + 2))
   have HB6:=Lh (HB2.out.else (r:=r) (i:=1) (u:=.int .i64 ((k + 2:Nat):Int)) HNE.out)
   have HG6:=Lh (Za HG2.out (Z3 w2 r 1 (.int .i64 ((k + 2:Nat):Int))))
   rw [e1] at HR6 HB6 HG6
   clear d0 d1 g1 hw2 e1
   generalize w2.setCell ⟨r,1,none⟩ (.int .i64 ((k:Int) + 2))=w6 at *
   obtain ⟨c0,c1,c2,c3,f0,f1,f2,f3⟩:=HB6.out
   go_wp2_with fail
   obtain ⟨q0,q1,q2,q3⟩:=Zbb w6 b (.int .u8 6) (.string ⟨#[60,62]⟩) (.int .u64 0) (iZ) HB6.out _ rfl
   rw [HONE.out]
   refine bodyPost_ret (v:=.tuple #[Tk.val ⟨6,⟨([60,62]:List UInt8).toArray⟩,0,0⟩,iZ]) kb11 rfl ⟨rfl,HR6.out.box _ _ _ _ HNE.out,Zab HG6.out _ _ _ _ HBE.out⟩
  ·have HONE:Hid (Zbm l = .tok 6 [60,61] 0 2):=Lh kb75
   have hw2:=HW2.out
   obtain ⟨d0,d1,g1⟩:=HR2.out
   clear hx HM2
   go_upto_region 8 with fail
   have e1:((k + 2:Nat):Int)=(k:Int) + 2:=kW
   have HR6:=Lh (HR2.out.set (k + 2))
   have HB6:=Lh (HB2.out.else (r:=r) (i:=1) (u:=.int .i64 ((k + 2:Nat):Int)) HNE.out)
   have HG6:=Lh (Za HG2.out (Z3 w2 r 1 (.int .i64 ((k + 2:Nat):Int))))
   rw [e1] at HR6 HB6 HG6
   clear d0 d1 g1 hw2 e1
   generalize w2.setCell ⟨r,1,none⟩ (.int .i64 ((k:Int) + 2))=w6 at *
   obtain ⟨c0,c1,c2,c3,f0,f1,f2,f3⟩:=HB6.out
   go_wp2_with fail
   obtain ⟨q0,q1,q2,q3⟩:=Zbb w6 b (.int .u8 6) (.string ⟨#[60,61]⟩) (.int .u64 0) (iZ) HB6.out _ rfl
   rw [HONE.out]
   refine bodyPost_ret (v:=.tuple #[Tk.val ⟨6,⟨([60,61]:List UInt8).toArray⟩,0,0⟩,iZ]) kb11 rfl ⟨rfl,HR6.out.box _ _ _ _ HNE.out,Zab HG6.out _ _ _ _ HBE.out⟩
  ·have HONE:Hid (Zbm l = .tok 6 [62,61] 0 2):=Lh kb75
   have hw2:=HW2.out
   obtain ⟨d0,d1,g1⟩:=HR2.out
   clear hx HM2
   go_upto_region 8 with fail
   have e1:((k + 2:Nat):Int)=(k:Int) + 2:=kW
   have HR6:=Lh (HR2.out.set (k + 2))
   have HB6:=Lh (HB2.out.else (r:=r) (i:=1) (u:=.int .i64 ((k + 2:Nat):Int)) HNE.out)
   have HG6:=Lh (Za HG2.out (Z3 w2 r 1 (.int .i64 ((k + 2:Nat):Int))))
   rw [e1] at HR6 HB6 HG6
   clear d0 d1 g1 hw2 e1
   generalize w2.setCell ⟨r,1,none⟩ (.int .i64 ((k:Int) + 2))=w6 at *
   obtain ⟨c0,c1,c2,c3,f0,f1,f2,f3⟩:=HB6.out
   go_wp2_with fail
   obtain ⟨q0,q1,q2,q3⟩:=Zbb w6 b (.int .u8 6) (.string ⟨#[62,61]⟩) (.int .u64 0) (iZ) HB6.out _ rfl
   rw [HONE.out]
   refine bodyPost_ret (v:=.tuple #[Tk.val ⟨6,⟨([62,61]:List UInt8).toArray⟩,0,0⟩,iZ]) kb11 rfl ⟨rfl,HR6.out.box _ _ _ _ HNE.out,Zab HG6.out _ _ _ _ HBE.out⟩
  have HONE:Hid (Zbm l = .tok 6 [124,124] 0 2):=Lh kb75
  have hw2:=HW2.out
  obtain ⟨d0,d1,g1⟩:=HR2.out
  clear hx HM2
  go_upto_region 8 with fail
  have e1:((k + 2:Nat):Int)=(k:Int) + 2:=kW
  have HR6:=Lh (HR2.out.set (k + 2))
  have HB6:=Lh (HB2.out.else (r:=r) (i:=1) (u:=.int .i64 ((k + 2:Nat):Int)) HNE.out)
  have HG6:=Lh (Za HG2.out (Z3 w2 r 1 (.int .i64 ((k + 2:Nat):Int))))
  rw [e1] at HR6 HB6 HG6
  clear d0 d1 g1 hw2 e1
  generalize w2.setCell ⟨r,1,none⟩ (.int .i64 ((k:Int) + 2))=w6 at *
  obtain ⟨c0,c1,c2,c3,f0,f1,f2,f3⟩:=HB6.out
  go_wp2_with fail
  obtain ⟨q0,q1,q2,q3⟩:=Zbb w6 b (.int .u8 6) (.string ⟨#[124,124]⟩) (.int .u64 0) (iZ) HB6.out _ rfl
  rw [HONE.out]
  refine bodyPost_ret (v:=.tuple #[Tk.val ⟨6,⟨([124,124]:List UInt8).toArray⟩,0,0⟩,iZ]) kb11 rfl ⟨rfl,HR6.out.box _ _ _ _ HNE.out,Zab HG6.out _ _ _ _ HBE.out⟩
 have n1:(t == [60,62])=false:=by rw [beq_eq_false_iff_ne];rintro rfl;exact hx kD
 have n2:(t == [60,61])=false:=by rw [beq_eq_false_iff_ne];rintro rfl;exact hx kD
 have n3:(t == [62,61])=false:=by rw [beq_eq_false_iff_ne];rintro rfl;exact hx kD
 have n4:(t == [124,124])=false:=by rw [beq_eq_false_iff_ne];rintro rfl;exact hx kD
 have HONE:Hid (Zbm l=if s[k] ∈ Zfz then .tok 6 (l.take 1) 0 1 else .bad 6 0):=Lh (by rw [HONE.out,if_neg hx])
 have HSB:=Lh (signByte s[k])
 clear hx HM2 HC HMI
 go_upto_region 9 with fail
 clear n1 n2 n3 n4
 obtain ⟨I,hI⟩:∃ I,I=signI s[k]:=⟨_,rfl⟩
 have HI:Hid (I < 0 ↔ s[k] ∉ Zfz):=Lh (by rw [hI];exact Zt4 _)
 rw [← hI] at HSB
 clear hI
 go_cut [50] (fun v wx=>v = .bool (decide (I < 0))∧Hid (Below w2.heap.size w2 wx))
 case first=>
  obtain ⟨d0,d1,g1⟩:=HR2.out
  have l0:=Zb d0
  have l1:=Zb d1
  refine Zj kR kR ?_
  repeat (go_big_quiet_step ((go_at_call 138;exact Ze0 (HSB.out _))))
  refine wpQuiet_nil ?_
  refine Zu (fun w3 hb3=>?_)
  have HB3:=Lh hb3
  clear l0 l1 d0 d1 g1 hb3
  go_wp2_with fail
  go_meet
  exact ⟨rfl,HB3⟩
 rename World=>w3
 obtain ⟨rfl,HBW⟩:=hcut
 have HR3:=Lh (HR2.out.later HBW.out)
 have HB3:=Lh (HB2.out.later HBW.out)
 have HG3:=Lh (Za HG2.out (below_grown HBW.out))
 clear HR2 HB2 HG2 HBW HSB
 by_cases hm:s[k] ∈ Zfz
 ·have HONE:Hid (Zbm l = .tok 6 (l.take 1) 0 1):=Lh (by rw [HONE.out,if_pos hm])
  have hi:decide (I < 0)=false:=decide_eq_false (fun h=>HI.out.1 h hm)
  rw [hi]
  obtain ⟨d0,d1,g1⟩:=HR3.out
  have hw1:=HW1.out
  clear hm hi
  go_upto_region 12 with fail
  have e1:((k + 1:Nat):Int)=(k:Int) + 1:=kW
  have HR6:=Lh (HR3.out.set (k + 1))
  have HB6:=Lh (HB3.out.else (r:=r) (i:=1) (u:=.int .i64 ((k + 1:Nat):Int)) HNE.out)
  have HG6:=Lh (Za HG3.out (Z3 w3 r 1 (.int .i64 ((k + 1:Nat):Int))))
  rw [e1] at HR6 HB6 HG6
  clear d0 d1 g1 hw1
  generalize w3.setCell ⟨r,1,none⟩ (.int .i64 ((k:Int) + 1))=w6 at *
  obtain ⟨d0,d1,g1⟩:=HR6.out
  rw [e1] at d1
  have l0:=Zb d0
  have l1:=Zb d1
  have hw0:=HW0.out
  have hw4:=HW4.out
  have hsl:∀ W,(Instr.slice 9 (.string s) (some (.int .i64 (k:Int))) (some (.int .i64 ((k:Int) + 1))) none).run Tryz.prog W = .ok (.string (s.extract k (k + 1))) W:=fun W=>by
   rw [run_slice_string (w:=W) 9 s .i64 .i64 (k:Int) ((k:Int) + 1) Tryz.underlying9 j0 (Int.le_add_one (Int.le_refl _)) j4]
   rfl
  refine Zaj 15 kR kR ?_
  simp only [List.take_succ_cons,List.take_zero,List.drop_succ_cons,List.drop_zero]
  repeat (go_big_quiet_step (fail))
  refine wpQuiet_nil ?_
  refine Zu (fun w7 hb7=>?_)
  have HR7:=Lh (HR6.out.later hb7)
  have HB7:=Lh (HB6.out.later hb7)
  have HG7:=Lh (Za HG6.out (below_grown hb7))
  clear l0 l1 d0 d1 g1 hb7 hw0 hw4 e1
  obtain ⟨c0,c1,c2,c3,f0,f1,f2,f3⟩:=HB7.out
  go_wp2_with fail
  obtain ⟨q0,q1,q2,q3⟩:=Zbb w7 b (.int .u8 6) (.string (s.extract k (k + 1))) (.int .u64 0) (iZ) HB7.out _ rfl
  rw [HONE.out]
  refine bodyPost_ret (v:=.tuple #[Tk.val ⟨6,s.extract k (k + 1),0,0⟩,iZ]) kb11 rfl ⟨?_,HR7.out.box _ _ _ _ HNE.out,Zab HG7.out _ _ _ _ HBE.out⟩
  show Ending.returned (.tuple #[.agg #[.int .u8 6,.string (s.extract k (k + 1)),.int .u64 0,iZ],iZ]) = .returned (.tuple #[.agg #[.int .u8 6,str (l.take 1),.int .u64 0,iZ],iZ])
  rw [HO.out]
 have HONE:Hid (Zbm l = .bad 6 0):=Lh (by rw [HONE.out,if_neg hm])
 have hi:decide (I < 0)=true:=decide_eq_true (HI.out.2 hm)
 rw [hi]
 obtain ⟨c0,c1,c2,c3,f0,f1,f2,f3⟩:=HB3.out
 clear hm hi
 go_wp2_with fail
 obtain ⟨q0,q1,q2,q3⟩:=Zbb w3 b (.int .u8 0) (eS) (.int .u64 0) (iZ) HB3.out _ rfl
 rw [HONE.out]
 refine bodyPost_ret (v:=.tuple #[T0.val,.int .i64 6]) (by simp [results,Tryz.results113,go_sem,q0,q1,q2,q3,Tk.val,T0];try rfl) rfl ⟨rfl,HR3.out.box _ _ _ _ HNE.out,Zab HG3.out _ _ _ _ HBE.out⟩
end Go.Proofs.YtmdogmpcmkfjpaaGreatDoor.Dt
