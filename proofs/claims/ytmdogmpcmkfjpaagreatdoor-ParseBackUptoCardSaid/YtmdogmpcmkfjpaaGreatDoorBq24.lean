import Derived.ScopeJumps
import Derived.WalkMore
import Derived.Test.YtmdogmpcmkfjpaaGreatDoorBq09
import Derived.Test.YtmdogmpcmkfjpaaGreatDoorBq12
import Derived.Test.YtmdogmpcmkfjpaaGreatDoorBq10
import Derived.Test.YtmdogmpcmkfjpaaGreatDoorBq23
import Derived.Test.YtmdogmpcmkfjpaaGreatDoorBq13
import Derived.Test.YtmdogmpcmkfjpaaGreatDoorBq14
set_option maxRecDepth 100000
set_option maxHeartbeats 64000000
/- Part. -/
namespace Go.Proofs.YtmdogmpcmkfjpaaGreatDoor.Dt
open Go.RowKit Go.Proofs.YtmdogmpcmkfjpaaGreatDoor.By
def leftR (r:Nat) (s:ByteArray) (w:World):Nat:=match w.cell? ⟨r,1,none⟩ with | some (.int _ q)=>s.size - q.toNat | _=>0
theorem Zrc {r:Nat} {s:ByteArray} {k:Nat} {w:World} (h:RD r s k w):leftR r s w=s.size - k:=by
 unfold leftR
 rw [h.c1]
 simp
theorem skipW (r:Nat) (s:ByteArray) (k:Nat) (w:World) (h:RD r s k w) (hs:s.size ≤ 1000000) (hk:k ≤ s.size) :
 Calls Tryz.prog 71 #[pV r] w fun e w'=>e = .returned (.tuple #[])∧RD r s (k + Zr (s.data.toList.drop k)) w'∧w.grownBy w' (some r):=by
 have HR0:=Lh h
 have HS:=Lh hs
 have HK0:=Lh hk
 clear h hs hk
 go_enter Tryz.func71,Tryz.ntmps71
 go_wp2_with fail
 refine wp_scope_jumps 0 (fun a' w'=>∃ (u2 u3 u4 u5 u6 u7 u8 u9 u10 u11 u12 u13:Value) (k':Nat),a' = { tmps:=#[pV r,undef,u2,u3,u4,u5,u6,u7,u8,u9,u10,u11,u12,u13],defers:=[] } ∧k' ≤ s.size∧Hid (RD r s k' w')∧Hid (w.grownBy w' (some r))∧Hid (k' + Zr (s.data.toList.drop k')=k + Zr (s.data.toList.drop k))) (fun _ w'=>leftR r s w') rfl ?_ ?_
 ·have HR:=HR0
  have HG:Hid (w.grownBy w (some r)):=Lh (World.grownBy.refl _ _)
  have HK:=HK0
  have HSUM:Hid (k + Zr (s.data.toList.drop k)=k + Zr (s.data.toList.drop k)):=Lh rfl
  go_wp2_with fail
  go_step3
  go_wp2_with fail
  refine (Zjf Zs 110 (fun _ _=>by kernel_rfl) blankW r s k w HR.out HS.out HK.out).mono ?_
  rintro e w1 ⟨rfl,hr1,hg1⟩
  obtain ⟨k1,hk1⟩:∃ k1,k1=k + Zap Zs (s.data.toList.drop k):=⟨_,rfl⟩
  rw [← hk1] at hr1
  have HK1:Hid (k ≤ k1∧k1 ≤ s.size):=Lh (by
   have:=Zat Zs (s.data.toList.drop k)
   rw [List.length_drop,Zx] at this
   have:=HK.out
   omega)
  have HSK:Hid (k + Zr (s.data.toList.drop k)=if Zcw (s.data.toList.drop k1) then k1 + Zap Zc4 (s.data.toList.drop k1) + Zr (s.data.toList.drop (k1 + Zap Zc4 (s.data.toList.drop k1))) else k1):=Lh (by
   rw [Zee,List.drop_drop,← hk1,List.drop_drop]
   split
   ·omega
   ·rw [hk1])
  have HR1:=Lh hr1
  have HG1:=Lh (Za HG.out hg1)
  clear hr1 hg1 hk1
  obtain ⟨c,hc⟩:∃ c,c=Zal (s.data.toList.drop k1):=⟨_,rfl⟩
  obtain ⟨d,hd⟩:∃ d,d=Zal (s.data.toList.drop (k1 + 1)):=⟨_,rfl⟩
  have HDA:Hid (Zcw (s.data.toList.drop k1) ↔ (c=45∧d=45)):=Lh (by
   unfold Zcw
   rw [List.drop_drop,← hc,← hd])
  have HP0:Hid (∀ W,RD r s k1 W→Calls Tryz.prog 111 #[pV r,iZ] W fun e w'=>e = .returned (byte c)∧Below W.heap.size W w'):=Lh (fun W h=>by rw [hc];exact Zpv r s k1 W h HS.out HK1.out.2)
  have HP1:Hid (∀ W,RD r s k1 W→Calls Tryz.prog 111 #[pV r,.int .i64 1] W fun e w'=>e = .returned (byte d)∧Below W.heap.size W w'):=Lh (fun W h=>by rw [hd];exact Zuq r s k1 W h HS.out HK1.out.2)
  clear hc hd
  by_cases h45:c=45
  ·subst h45
   by_cases h46:d=45
   ·subst h46
    have hda:=HDA.out.2 ⟨rfl,rfl⟩
    obtain ⟨q,hq⟩:∃ q,q=Zap Zc4 (s.data.toList.drop k1):=⟨_,rfl⟩
    have HQ2:Hid (2 ≤ q):=Lh (by rw [hq];exact Zdc hda)
    have HQ:Hid (k1 + q ≤ s.size):=Lh (by
     have:=Zat Zc4 (s.data.toList.drop k1)
     rw [List.length_drop,Zx,← hq] at this
     have:=HK1.out
     omega)
    have HT:Hid (k1 + q + Zr (s.data.toList.drop (k1 + q))=k + Zr (s.data.toList.drop k)):=Lh (by
     have h1:=HSK.out
     rw [if_pos hda,← hq] at h1
     have h2:=HSUM.out
     omega)
    have HW3:Hid (∀ W,RD r s k1 W→Calls Tryz.prog 109 #[pV r,.func (.func 112) #[] #[]] W fun e w'=>e = .returned (str ((s.data.toList.drop k1).take q))∧RD r s (k1 + q) w'∧W.grownBy w' (some r)):=Lh (fun W h=>by
     rw [hq];exact Zjf Zc4 112 (fun _ _=>by kernel_rfl) lineW r s k1 W h HS.out HK1.out.2)
    clear hq hda
    go_wp2_with fail
    refine (HP0.out _ HR1.out).mono ?_
    rintro e w2 ⟨rfl,hb2⟩
    have HR2:=Lh (HR1.out.later hb2)
    have HG2:=Lh (Za HG1.out (below_grown hb2))
    clear hb2
    go_wp2_with fail
    refine (HP1.out _ HR2.out).mono ?_
    rintro e w3 ⟨rfl,hb3⟩
    have HR3:=Lh (HR2.out.later hb3)
    have HG3:=Lh (Za HG2.out (below_grown hb3))
    clear hb3
    go_wp2_with fail
    refine (HW3.out _ HR3.out).mono ?_
    rintro e w4 ⟨rfl,hr4,hg4⟩
    have HR4:=Lh hr4
    have HG4:=Lh (Za HG3.out hg4)
    clear hr4 hg4
    go_wp2_with fail
    go_step3
    refine ⟨rfl,_,_,_,_,_,_,_,_,_,_,_,_,k1 + q,rfl,HQ.out,HR4,HG4,HT⟩
   exact ks14
  exact ks21
 rintro a' w' ⟨u2,u3,u4,u5,u6,u7,u8,u9,u10,u11,u12,u13,k',rfl,hk',HR,HG,HSUM⟩
 have HK:=Lh hk'
 clear hk'
 go_wp2_with fail
 refine (Zjf Zs 110 (fun _ _=>by kernel_rfl) blankW r s k' w' HR.out HS.out HK.out).mono ?_
 rintro e w1 ⟨rfl,hr1,hg1⟩
 obtain ⟨k1,hk1⟩:∃ k1,k1=k' + Zap Zs (s.data.toList.drop k'):=⟨_,rfl⟩
 rw [← hk1] at hr1
 have HK1:Hid (k' ≤ k1∧k1 ≤ s.size):=Lh (by
  have:=Zat Zs (s.data.toList.drop k')
  rw [List.length_drop,Zx] at this
  have:=HK.out
  omega)
 have HSK:Hid (k' + Zr (s.data.toList.drop k')=if Zcw (s.data.toList.drop k1) then k1 + Zap Zc4 (s.data.toList.drop k1) + Zr (s.data.toList.drop (k1 + Zap Zc4 (s.data.toList.drop k1))) else k1):=Lh (by
  rw [Zee,List.drop_drop,← hk1,List.drop_drop]
  split
  ·omega
  ·rw [hk1])
 have HR1:=Lh hr1
 have HG1:=Lh (Za HG.out hg1)
 clear hr1 hg1 hk1
 obtain ⟨c,hc⟩:∃ c,c=Zal (s.data.toList.drop k1):=⟨_,rfl⟩
 obtain ⟨d,hd⟩:∃ d,d=Zal (s.data.toList.drop (k1 + 1)):=⟨_,rfl⟩
 have HDA:Hid (Zcw (s.data.toList.drop k1) ↔ (c=45∧d=45)):=Lh (by
  unfold Zcw
  rw [List.drop_drop,← hc,← hd])
 have HP0:Hid (∀ W,RD r s k1 W→Calls Tryz.prog 111 #[pV r,iZ] W fun e w'=>e = .returned (byte c)∧Below W.heap.size W w'):=Lh (fun W h=>by rw [hc];exact Zpv r s k1 W h HS.out HK1.out.2)
 have HP1:Hid (∀ W,RD r s k1 W→Calls Tryz.prog 111 #[pV r,.int .i64 1] W fun e w'=>e = .returned (byte d)∧Below W.heap.size W w'):=Lh (fun W h=>by rw [hd];exact Zuq r s k1 W h HS.out HK1.out.2)
 clear hc hd
 by_cases h45:c=45
 ·subst h45
  by_cases h46:d=45
  ·subst h46
   have hda:=HDA.out.2 ⟨rfl,rfl⟩
   obtain ⟨q,hq⟩:∃ q,q=Zap Zc4 (s.data.toList.drop k1):=⟨_,rfl⟩
   have HQ2:Hid (2 ≤ q):=Lh (by rw [hq];exact Zdc hda)
   have HQ:Hid (k1 + q ≤ s.size):=Lh (by
    have:=Zat Zc4 (s.data.toList.drop k1)
    rw [List.length_drop,Zx,← hq] at this
    have:=HK1.out
    omega)
   have HT:Hid (k1 + q + Zr (s.data.toList.drop (k1 + q))=k + Zr (s.data.toList.drop k)):=Lh (by
    have h1:=HSK.out
    rw [if_pos hda,← hq] at h1
    have h2:=HSUM.out
    omega)
   have HW3:Hid (∀ W,RD r s k1 W→Calls Tryz.prog 109 #[pV r,.func (.func 112) #[] #[]] W fun e w'=>e = .returned (str ((s.data.toList.drop k1).take q))∧RD r s (k1 + q) w'∧W.grownBy w' (some r)):=Lh (fun W h=>by
    rw [hq];exact Zjf Zc4 112 (fun _ _=>by kernel_rfl) lineW r s k1 W h HS.out HK1.out.2)
   clear hq hda
   go_wp2_with fail
   refine (HP0.out _ HR1.out).mono ?_
   rintro e w2 ⟨rfl,hb2⟩
   have HR2:=Lh (HR1.out.later hb2)
   have HG2:=Lh (Za HG1.out (below_grown hb2))
   clear hb2
   go_wp2_with fail
   refine (HP1.out _ HR2.out).mono ?_
   rintro e w3 ⟨rfl,hb3⟩
   have HR3:=Lh (HR2.out.later hb3)
   have HG3:=Lh (Za HG2.out (below_grown hb3))
   clear hb3
   go_wp2_with fail
   refine (HW3.out _ HR3.out).mono ?_
   rintro e w4 ⟨rfl,hr4,hg4⟩
   have HR4:=Lh hr4
   have HG4:=Lh (Za HG3.out hg4)
   clear hr4 hg4
   go_wp2_with fail
   go_step3
   refine ⟨rfl,⟨_,_,_,_,_,_,_,_,_,_,_,_,k1 + q,rfl,HQ.out,HR4,HG4,HT⟩,?_⟩
   have h2:=HQ.out
   have h3:=HQ2.out
   have h4:=HK1.out
   rw [Zrc HR4.out,Zrc HR.out]
   omega
  exact ks14
 exact ks21
def Zqj:TR→Ending→World→Prop
 | .inl x,e,_=>e = .returned (.tuple #[nS,.agg #[.int .i64 (x.1:Int),.int .i64 (x.2:Int)]])
 | .inr l,e,w=>∃ v,e = .returned (.tuple #[v,.agg #[iZ,iZ]])∧Zoz w v l
theorem Zmt (w:World) (b:Nat) (x y:Value) (h:Box b [iZ,iZ] w):∀ W,W=((w.setCell ⟨b,0,none⟩ x).setCell ⟨b,1,none⟩ y)→W.cell? ⟨b,0,none⟩=some x∧W.cell? ⟨b,1,none⟩=some y:=by
 rintro W rfl
 have s0:=Zbk w ⟨b,0,none⟩ x _ (h 0 _ rfl).1
 have s1:=Zbk (w.setCell ⟨b,0,none⟩ x) ⟨b,1,none⟩ y _ ((Zv w b 0 1 x kD).trans (h 1 _ rfl).1)
 exact ⟨(Zv _ b 1 0 y kD).trans s0,s1⟩
theorem Box.grown {k r:Nat} {cs:List Value} {w w':World} (h:Box k cs w) (g:w.grownBy w' (some r)) (hne:k ≠ r):Box k cs w':=fun i u hu=>by
 have hl:=Zd (h i u hu).1
 refine ⟨(cell_grown g hl (fun e=>hne (Option.some.inj e).symm) i).trans (h i u hu).1,?_⟩
 have:=(h i u hu).2
 unfold World.frozen? at this ⊢
 rw [g.block k hl (fun e=>hne (Option.some.inj e))]
 exact this
structure LS (w:World) (r:Nat) (s:ByteArray) (p:Nat) (v:Value) (O:List Tk) (W:World):Prop where
 rd:RD r s p W
 bx:Box w.heap.size [iZ,iZ] W
 own:Zo4 W (r + 1) v O
 bl:Below w.heap.size w W
 sz:r + 1 ≤ W.heap.size
theorem LS.grown {w:World} {r:Nat} {s:ByteArray} {p q:Nat} {v:Value} {O:List Tk} {W W':World} (h:LS w r s p v O W) (hr:w.heap.size < r) (g:W.grownBy W' (some r)) (hd:RD r s q W'):LS w r s q v O W':=
 ⟨hd,h.bx.grown g kW,World.ownsRow.kept h.own g (.inr (fun e=>by have:=(World.ownsRow.lt h.own r e).1;omega)),Zg5 h.bl kW g h.bl.size,Nat.le_trans h.sz g.size⟩
theorem LS.later {w:World} {r:Nat} {s:ByteArray} {p:Nat} {v:Value} {O:List Tk} {W W':World} (h:LS w r s p v O W) (hb:Below W.heap.size W W'):LS w r s p v O W':=
 ⟨h.rd.later hb,h.bx.later hb,h.own.below hb,next h.bl hb,Nat.le_trans h.sz hb.size⟩
theorem LS.app {w:World} {r:Nat} {s:ByteArray} {p:Nat} {v v':Value} {O O':List Tk} {W W':World} (h:LS w r s p v O W) (hr:w.heap.size < r) (hb:Below (r + 1) W W') (hz:W.heap.size ≤ W'.heap.size) (ho:Zo4 W' (r + 1) v' O'):LS w r s p v' O' W':=by
 have hc:∀ j i,j < r + 1→W'.cell? ⟨j,i,none⟩=W.cell? ⟨j,i,none⟩:=fun j i hj=>hb.cell (p:=⟨j,i,none⟩) hj
 have hf:∀ j i,j < r + 1→W'.frozen? ⟨j,i,none⟩=W.frozen? ⟨j,i,none⟩:=fun j i hj=>hb.frozen (p:=⟨j,i,none⟩) hj
 have hr1:r < r + 1:=kW
 refine ⟨⟨(hc _ _ hr1).trans h.rd.c0,(hc _ _ hr1).trans h.rd.c1,(hf _ _ hr1).trans h.rd.f1⟩,fun i u hu=>⟨(hc _ _ kW).trans (h.bx i u hu).1,(hf _ _ kW).trans (h.bx i u hu).2⟩,ho,?_,Nat.le_trans h.sz hz⟩
 exact ⟨hb.os.trans h.bl.os,hb.tape.trans h.bl.tape,hb.output.trans h.bl.output,Nat.le_trans h.bl.size hz,fun k hk=>(hb.block k kW).trans (h.bl.block k hk)⟩
def cT (O:List Tk):TR→TR
 | .inl e=>.inl e
 | .inr t=>.inr (O ++ t)
theorem cT_step (O:List Tk) {b k n m:Nat} {l s:List UInt8} (ho:Zcx l = .tok k s n m) (hw:¬ (k ≠ 6∧Zbf (Zal (l.drop m))=true)):cT O (stepT b l tk)=cT (O ++ [⟨k,⟨s.toArray⟩,n,(b:Int)⟩]) (tk (b + m) (l.drop m)):=by
 unfold stepT
 rw [ho]
 simp only
 rw [if_neg hw]
 cases tk (b + m) (l.drop m) with
 | inl e=>rfl
 | inr t=>simp [cT]
theorem cT_word (O:List Tk) {b k n m:Nat} {l s:List UInt8} (ho:Zcx l = .tok k s n m) (hw:k ≠ 6∧Zbf (Zal (l.drop m))=true):cT O (stepT b l tk) = .inl (6,b + m):=by
 unfold stepT
 rw [ho]
 simp only
 rw [if_pos hw]
 rfl
theorem cT_bad (O:List Tk) {b e m:Nat} {l:List UInt8} (ho:Zcx l = .bad e m):cT O (stepT b l tk) = .inl (e,b + m):=by
 unfold stepT
 rw [ho]
 rfl
theorem Zk8 (s:ByteArray) (w:World) (hw:LX w) (hs:s.size ≤ 140737488351232) :
 Calls Tryz.prog 27 #[.string s] w fun e w'=>Zqj (Zea s.data.toList) e w'∧Below w.heap.size w w':=by
 have HX:=Lh hw
 have HS:=Lh hs
 have hb1:Box w.heap.size [iZ,iZ] (w.alloc (.cells #[iZ,iZ] 39)):=by
  intro i u hu
  rcases i with _ | _ | i <;> simp at hu <;> subst hu <;> exact ⟨by go_simp,by go_simp⟩
 have hl1:Below w.heap.size w (w.alloc (.cells #[iZ,iZ] 39)):=bA
 by_cases hlong:4096 < s.size
 ·have HT:Hid (Zea s.data.toList = .inl (3,4096)):=Lh (by rw [Zb4,if_pos (by rw [Zx];exact hlong)])
  have i1:(4096:Int) < (s.size:Int):=kW
  have HB:=Lh hb1
  have HL:=Lh hl1
  clear hw hs hb1 hl1 hlong
  go_enter Tryz.func27,Tryz.ntmps27
  go_upto_region 1 with fail
  generalize (w.alloc (.cells #[iZ,iZ] 39))=w1 at *
  have c0:=(HB.out 0 _ rfl).1
  have c1:=(HB.out 1 _ rfl).1
  have f0:=(HB.out 0 _ rfl).2
  have f1:=(HB.out 1 _ rfl).2
  go_wp2_with fail
  obtain ⟨q0,q1⟩:=Zmt w1 w.heap.size (.int .i64 3) (.int .i64 4096) HB.out _ rfl
  refine bodyPost_ret (v:=.tuple #[nS,.agg #[.int .i64 3,.int .i64 4096]]) kb36 rfl ⟨?_,?_⟩
  ·rw [HT.out];rfl
  exact Zbd (Zbd HL.out (Nat.le_refl _)) (Nat.le_refl _)
 replace HS:Hid (s.size ≤ 1000000):=Lh kW
 have HT:Hid (Zea s.data.toList=tk 0 s.data.toList):=Lh (by rw [Zb4,if_neg (by rw [Zx];exact hlong)])
 have i1:¬ (4096:Int) < (s.size:Int):=kW
 have hr0:RD (w.heap.size + 1) s 0 ((w.alloc (.cells #[iZ,iZ] 39)).alloc (.cells #[.string s,iZ] 125)):=by constructor <;> (simp;try go_simp)
 have HL0:Hid (LS w (w.heap.size + 1) s 0 (nS) [] ((w.alloc (.cells #[iZ,iZ] 39)).alloc (.cells #[.string s,iZ] 125))):=Lh ⟨hr0,hb1.later (bA),Zo4.nil _ _,next hl1 (bA),by simp⟩
 clear hw hs hb1 hl1 hlong hr0
 rw [HT.out]
 clear HT
 obtain ⟨R,hR⟩:∃ R,R=tk 0 s.data.toList:=⟨_,rfl⟩
 have HR:=Lh hR
 rw [← hR]
 clear hR
 go_enter Tryz.func27,Tryz.ntmps27
 go_upto_region 4 with fail
 generalize ((w.alloc (.cells #[iZ,iZ] 39)).alloc (.cells #[.string s,iZ] 125))=w2 at *
 obtain ⟨r,hr⟩:∃ r,r=w.heap.size + 1:=⟨_,rfl⟩
 rw [← hr] at HL0 ⊢
 have HRW:Hid (w.heap.size < r):=Lh kW
 clear hr
 have HE:Hid (∀ W,Below w.heap.size w W→Env w r W):=Lh (fun W h=>⟨HX.out,h,Nat.le_of_lt HRW.out⟩)
 go_wp2_with fail
 refine (skipW r s 0 w2 HL0.out.rd HS.out (Nat.zero_le _)).mono ?_
 rintro e w3 ⟨rfl,hr3,hg3⟩
 have HL3:=Lh (HL0.out.grown HRW.out hg3 hr3)
 clear hr3 hg3
 go_wp2_with fail
 go_loopg [5] (s.size + 1 - (0 + Zr (s.data.toList.drop 0))) (fun gk ov wr=>∃ (p:Nat) (O:List Tk),gk=s.size + 1 - p∧p ≤ s.size∧Hid (LS w r s p ov O wr)∧Hid (R=cT O (tk p (s.data.toList.drop p)))∧Hid (Zr (s.data.toList.drop p)=0)∧Hid (O.length ≤ p))
 case atStart=>
  refine ⟨0 + Zr (s.data.toList.drop 0),[],rfl,?_,HL3,Lh ?_,Lh ?_,Lh (Nat.zero_le _)⟩
  ·have:=Zez _ (s.data.toList.drop 0) (Nat.le_refl _)
   rw [List.length_drop,Zx] at this
   omega
  ·rw [HR.out,Zgx,List.drop_zero,Nat.zero_add]
   cases tk (Zr s.data.toList) (s.data.toList.drop (Zr s.data.toList)) <;> rfl
  rw [List.drop_zero,Nat.zero_add];exact Zhs _
 case round=>
  obtain ⟨p,O,rfl,hp,HL,HT,HSK,HOL⟩:=hrel
  have HP:=Lh hp
  obtain ⟨ao,co,rfl⟩:=HL.out.own.shape
  obtain ⟨d0,d1,g1⟩:=HL.out.rd
  by_cases hlt:p < s.size
  ·have j1:(p:Int) < (s.size:Int):=kW
   have hne:s.data.toList.drop p ≠ []:=by
    intro e
    have:=congrArg List.length e
    rw [List.length_drop,Zx] at this
    simp at this;omega
   have HNE:=Lh hne
   have HST:Hid (R=cT O (stepT p (s.data.toList.drop p) tk)):=Lh (by rw [HT.out,Zjl hne HSK.out])
   have HLT:=Lh hlt
   clear hp hlt hne
   have HTK:=fun W (hW:LS w r s p (.slice ao O.length co) O W)=>tokenW w r s p W (HE.out _ hW.bl) hW.rd HS.out HLT.out
   cases ho:Zcx (s.data.toList.drop p) with
   | bad er m=>
    rw [ho] at HTK
    have HTK:Hid (∀ W,LS w r s p (.slice ao O.length co) O W→Calls Tryz.prog 72 #[pV r] W fun e w'=>e = .returned (.tuple #[.agg #[.int .u8 0,eS,.int .u64 0,iZ],.int .i64 (er:Int)])∧RD r s (p + m) w'∧W.grownBy w' (some r)):=Lh HTK
    have HRS:Hid (R = .inl (er,p + m)):=Lh (by rw [HST.out,cT_bad O ho])
    have her:=(Zpx HNE.out ho).2
    have e1:((er:Int) == 0)=false:=by first | (simp;done) | (simp;omega)
    have e2:((er:Int) != 0)=true:=by first | (simp;done) | (simp;omega)
    clear ho her
    go_wp2_with fail
    refine (HTK.out _ HL.out).mono ?_
    rintro e w4 ⟨rfl,hr4,hg4⟩
    have HL4:=Lh (HL.out.grown HRW.out hg4 hr4)
    have HL5:=Lh (HL4.out.later ((Below.refl _ w4).alloc (Nat.le_refl _) (.cells #[.int .u8 0,eS,.int .u64 0,iZ] 128)))
    clear hr4 hg4 d0 d1 g1 HL
    go_upto_region 10 with fail
    generalize w4.alloc (.cells #[.int .u8 0,eS,.int .u64 0,iZ] 128)=w5 at *
    go_upto_region 13 with fail
    obtain ⟨d0,d1,g1⟩:=HL5.out.rd
    have l1:=Zb d1
    refine Zaj 7 kR kR ?_
    simp only [List.take_succ_cons,List.take_zero,List.drop_succ_cons,List.drop_zero]
    repeat (go_big_quiet_step (fail))
    refine wpQuiet_nil ?_
    refine Zu (fun w7 hb7=>?_)
    have HL7:=Lh (HL5.out.later hb7)
    clear l1 d0 d1 g1 hb7
    have c0:=(HL7.out.bx 0 _ rfl).1
    have c1:=(HL7.out.bx 1 _ rfl).1
    have f0:=(HL7.out.bx 0 _ rfl).2
    have f1:=(HL7.out.bx 1 _ rfl).2
    go_wp2_with fail
    obtain ⟨q0,q1⟩:=Zmt w7 w.heap.size (.int .i64 (er:Int)) (.int .i64 ((p:Int) + (m:Int))) HL7.out.bx _ rfl
    refine bodyPost_ret (v:=.tuple #[nS,.agg #[.int .i64 (er:Int),.int .i64 ((p:Int) + (m:Int))]]) kb36 rfl ⟨?_,?_⟩
    ·rw [HRS.out];first | rfl | (show _=Ending.returned (.tuple #[nS,.agg #[.int .i64 _,.int .i64 ((p + m:Nat):Int)]]);push_cast;rfl)
    ·exact Zbd (Zbd HL7.out.bl (Nat.le_refl _)) (Nat.le_refl _)
   | tok k st n m=>
    rw [ho] at HTK
    have HTK:Hid (∀ W,LS w r s p (.slice ao O.length co) O W→Calls Tryz.prog 72 #[pV r] W fun e w'=>e = .returned (.tuple #[.agg #[.int .u8 (k:Int),.string ⟨st.toArray⟩,.int .u64 (n:Int),iZ],iZ])∧RD r s (p + m) w'∧W.grownBy w' (some r)):=Lh HTK
    have hlen:=Zg2 HNE.out ho
    rw [List.length_drop,Zx] at hlen
    have HLEN:=Lh hlen
    obtain ⟨B,hB⟩:∃ B,B=decide (k ≠ 6∧Zbf (Zal (s.data.toList.drop (p + m)))=true):=⟨_,rfl⟩
    have HBB:=Lh hB
    have HRW1:Hid (B=true→R = .inl (6,p + m)):=Lh (fun h=>by
     rw [hB] at h
     have h1:=of_decide_eq_true h
     rw [HST.out,cT_word O ho (by rw [List.drop_drop];exact h1)])
    have HRW2:Hid (B=false→R=cT (O ++ [⟨k,⟨st.toArray⟩,n,(p:Int)⟩]) (tk (p + m) (s.data.toList.drop (p + m)))):=Lh (fun h=>by
     rw [hB] at h
     have h1:=of_decide_eq_false h
     rw [HST.out,cT_step O ho (by rw [List.drop_drop];exact h1),List.drop_drop])
    clear ho hlen hB
    go_wp2_with fail
    refine (HTK.out _ HL.out).mono ?_
    rintro e w4 ⟨rfl,hr4,hg4⟩
    have HL4:=Lh (HL.out.grown HRW.out hg4 hr4)
    have HL5:=Lh (HL4.out.later ((Below.refl _ w4).alloc (Nat.le_refl _) (.cells #[.int .u8 (k:Int),.string ⟨st.toArray⟩,.int .u64 (n:Int),iZ] 128)))
    have HL6:=Lh (HL4.out.later (Zbd (i:=3) (u:=.int .i64 (p:Int)) ((Below.refl _ w4).alloc (Nat.le_refl _) (.cells #[.int .u8 (k:Int),.string ⟨st.toArray⟩,.int .u64 (n:Int),iZ] 128)) (Nat.le_refl _)))
    clear hr4 hg4 d0 d1 g1 HL
    go_upto_region 10 with fail
    have b0:(w4.alloc (.cells #[.int .u8 (k:Int),.string ⟨st.toArray⟩,.int .u64 (n:Int),iZ] 128)).cell? ⟨w4.heap.size,0,none⟩=some (.int .u8 (k:Int)):=by go_simp
    have b1:(w4.alloc (.cells #[.int .u8 (k:Int),.string ⟨st.toArray⟩,.int .u64 (n:Int),iZ] 128)).cell? ⟨w4.heap.size,1,none⟩=some (.string ⟨st.toArray⟩):=by go_simp
    have b2:(w4.alloc (.cells #[.int .u8 (k:Int),.string ⟨st.toArray⟩,.int .u64 (n:Int),iZ] 128)).cell? ⟨w4.heap.size,2,none⟩=some (.int .u64 (n:Int)):=by go_simp
    have b3:(w4.alloc (.cells #[.int .u8 (k:Int),.string ⟨st.toArray⟩,.int .u64 (n:Int),iZ] 128)).cell? ⟨w4.heap.size,3,none⟩=some (iZ):=by go_simp
    have g3:(w4.alloc (.cells #[.int .u8 (k:Int),.string ⟨st.toArray⟩,.int .u64 (n:Int),iZ] 128)).frozen? ⟨w4.heap.size,3,none⟩=false:=by go_simp
    generalize w4.alloc (.cells #[.int .u8 (k:Int),.string ⟨st.toArray⟩,.int .u64 (n:Int),iZ] 128)=w5 at *
    generalize w4.heap.size=b at *
    have HB0:=Lh b0
    have HB1:=Lh b1
    have HB2:=Lh b2
    have HB3:=Lh b3
    have HG3:=Lh g3
    clear b1 b2 b3 g3 HL4
    obtain ⟨d0,d1,g1⟩:=HL5.out.rd
    go_cut [60] (fun v wx=>v = .bool B∧w5=wx)
    case first=>
     by_cases hk6:k=6
     ·obtain rfl:B=false:=by rw [HBB.out];exact decide_eq_false (fun e=>e.1 hk6)
      have e1:((k:Int) != 6)=false:=by first | (simp;done) | (simp;omega)
      clear hk6
      go_wp2_with fail
      go_meet
      exact ⟨rfl,rfl⟩
     ·have e1:((k:Int) != 6)=true:=by first | (simp;done) | (simp;omega)
      by_cases hend:p + m < s.size
      ·have i2:(0:Int) ≤ (p:Int) + (m:Int):=kW
       have i3:(p:Int) + (m:Int) < (s.size:Int):=kW
       have hw:=Zp3 s[p + m]
       have hbb:=HBB.out
       rw [Zdu s (p + m) hend] at hbb
       have hwb:Zbf s[p + m]=B:=by rw [hbb];simp [hk6]
       rw [hwb] at hw
       have HW:=Lh hw
       clear hw hbb hwb hk6
       go_wp2_with fail
       refine (HW.out _).mono ?_
       rintro e w6 ⟨rfl,rfl⟩
       go_wp2_with fail
       go_meet
       exact ⟨rfl,rfl⟩
      ·obtain rfl:B=false:=by rw [HBB.out,Zib s (p + m) kW];simp [show Zbf 0=false by decide]
       have i3:¬ (p:Int) + (m:Int) < (s.size:Int):=kW
       clear hk6 hend
       go_wp2_with fail
       go_meet
       exact ⟨rfl,rfl⟩
    case rest=>
     obtain ⟨rfl,rfl⟩:=hcut
     clear d0 d1 g1 b0
     cases B with
     | true=>
      have HRS:=Lh (HRW1.out rfl)
      go_upto_region 13 with fail
      obtain ⟨d0,d1,g1⟩:=HL5.out.rd
      have l1:=Zb d1
      refine Zaj 7 kR kR ?_
      simp only [List.take_succ_cons,List.take_zero,List.drop_succ_cons,List.drop_zero]
      repeat (go_big_quiet_step (fail))
      refine wpQuiet_nil ?_
      refine Zu (fun w7 hb7=>?_)
      have HL7:=Lh (HL5.out.later hb7)
      clear l1 d0 d1 g1 hb7
      have c0:=(HL7.out.bx 0 _ rfl).1
      have c1:=(HL7.out.bx 1 _ rfl).1
      have f0:=(HL7.out.bx 0 _ rfl).2
      have f1:=(HL7.out.bx 1 _ rfl).2
      go_wp2_with fail
      obtain ⟨q0,q1⟩:=Zmt w7 w.heap.size (.int .i64 6) (.int .i64 ((p:Int) + (m:Int))) HL7.out.bx _ rfl
      refine bodyPost_ret (v:=.tuple #[nS,.agg #[.int .i64 6,.int .i64 ((p:Int) + (m:Int))]]) kb36 rfl ⟨?_,?_⟩
      ·rw [HRS.out];first | rfl | (show _=Ending.returned (.tuple #[nS,.agg #[.int .i64 _,.int .i64 ((p + m:Nat):Int)]]);push_cast;rfl)
      ·exact Zbd (Zbd HL7.out.bl (Nat.le_refl _)) (Nat.le_refl _)
     | false=>
      have HRS:=Lh (HRW2.out rfl)
      have g3:=HG3.out
      have b3:=HB3.out
      go_upto_region 15 with fail
      have y0:(w5.setCell ⟨b,3,none⟩ (.int .i64 (p:Int))).cell? ⟨b,0,none⟩=some (.int .u8 (k:Int)):=(Zv _ b 3 0 _ kD).trans HB0.out
      have y1:(w5.setCell ⟨b,3,none⟩ (.int .i64 (p:Int))).cell? ⟨b,1,none⟩=some (.string ⟨st.toArray⟩):=(Zv _ b 3 1 _ kD).trans HB1.out
      have y2:(w5.setCell ⟨b,3,none⟩ (.int .i64 (p:Int))).cell? ⟨b,2,none⟩=some (.int .u64 (n:Int)):=(Zv _ b 3 2 _ kD).trans HB2.out
      have y3:(w5.setCell ⟨b,3,none⟩ (.int .i64 (p:Int))).cell? ⟨b,3,none⟩=some (.int .i64 (p:Int)):=Zbk w5 ⟨b,3,none⟩ _ _ HB3.out
      clear g3 b3
      generalize w5.setCell ⟨b,3,none⟩ (.int .i64 (p:Int))=w6 at *
      have hsrc:=reads_T w6 (r + 1) ⟨k,⟨st.toArray⟩,n,(p:Int)⟩ HL6.out.sz _ rfl
      have HSRC:=Lh hsrc
      clear hsrc
      go_wp2_with (at_builtin;refine Zda rfl (.tmp 71) (.tmp 73) 72 rfl (r + 1) 128 4 40 elT _ O.length (Zhm O) rfl (World.ownsRow.alloc HL6.out.own _) _ 1 _ rfl HSRC.out (by simp [Value.oneCell']) (by have:=HOL.out;have:=HP.out;have:=HS.out;unfold maxLen;omega) (by have:=HOL.out;have:=HP.out;have:=HS.out;omega) (by have:=HL6.out.sz;simp;omega) ?_;intro v' w7 hown7 hgrow7 hbel7;have HL7:=Lh (HL6.out.app (W':=w7) HRW.out (((Below.refl _ w6).alloc HL6.out.sz (.cells #[.int .u8 (k:Int),.string ⟨st.toArray⟩,.int .u64 (n:Int),.int .i64 (p:Int)] 128)).trans hbel7) (by have:=hbel7.size;simp at this;omega) (Zo4.snoc (x:=⟨k,⟨st.toArray⟩,n,(p:Int)⟩) hown7));clear hown7 hgrow7 hbel7)
      refine (skipW r s (p + m) w7 HL7.out.rd HS.out kb20).mono ?_
      rintro e w8 ⟨rfl,hr8,hg8⟩
      have HL8:=Lh (HL7.out.grown HRW.out hg8 hr8)
      clear hr8 hg8 y0 y1 y2 y3
      have HSL:Hid (Zr (s.data.toList.drop (p + m)) ≤ s.size - (p + m)):=Lh (by
       have:=Zez _ (s.data.toList.drop (p + m)) (Nat.le_refl _)
       rwa [List.length_drop,Zx] at this)
      go_wp2_with fail
      go_roundg (s.size + 1 - (p + m + Zr (s.data.toList.drop (p + m))))
      case measure=>have h1:=HLEN.out;have h2:=HLT.out;omega
      case rel=>
       refine ⟨p + m + Zr (s.data.toList.drop (p + m)),_,rfl,?_,HL8,Lh ?_,Lh ?_,Lh ?_⟩
       ·have h1:=HSL.out;have h2:=HLEN.out;have h3:=HLT.out;omega
       ·rw [HRS.out,Zgx,List.drop_drop]
       ·rw [← List.drop_drop];exact Zhs _
       ·have h1:=HOL.out;have h2:=HLEN.out;simp;omega
  obtain rfl:p=s.size:=kW
  have HRS:Hid (R = .inr O):=Lh (by
   rw [HT.out,Zh8 s (Nat.le_refl _),tk_nil]
   show Sum.inr (O ++ [])=_
   rw [List.append_nil])
  have c0:=(HL.out.bx 0 _ rfl).1
  have c1:=(HL.out.bx 1 _ rfl).1
  have f0:=(HL.out.bx 0 _ rfl).2
  have f1:=(HL.out.bx 1 _ rfl).2
  clear hlt hp
  go_wp2_with fail
  obtain ⟨q0,q1⟩:=Zmt wr w.heap.size (iZ) (iZ) HL.out.bx _ rfl
  refine bodyPost_ret (v:=.tuple #[.slice ao O.length co,.agg #[iZ,iZ]]) kb36 rfl ⟨?_,?_⟩
  ·rw [HRS.out]
   exact ⟨_,rfl,Zo4.at_ (ownsRow_setCell_below (ownsRow_setCell_below HL.out.own (by show w.heap.size < r + 1;have:=HRW.out;omega) _) (by show w.heap.size < r + 1;have:=HRW.out;omega) _)⟩
  exact Zbd (Zbd HL.out.bl (Nat.le_refl _)) (Nat.le_refl _)
theorem Zrz (s:ByteArray) (w:World) (hw:LX w) (hs:s.size ≤ 1000000000) :
 Calls Tryz.prog 27 #[.string s] w fun e w'=>Zqj (Zea s.data.toList) e w'∧Below w.heap.size w w':=Zk8 s w hw (Nat.le_trans hs kD)
attribute [local go_sem ↓] Zbv Zcb
attribute [local go_sem] Zc6 Zbx Zc7 Zfg Value.oneCell'
theorem Zwq (x:ByteArray):x.data.toList.length=x.size:=Array.length_toList
structure Fin2 (q:Nat) (t:TypeId) (cs ds:Array Value) (W W':World):Prop where
 r0:Row q t cs W'
 r1:Row (q + 1) 39 ds W'
 ot:∀ b,b ≠ q→b ≠ q + 1→W'.heap[b]? = W.heap[b]?
 sz:W.heap.size ≤ W'.heap.size
 bl:∀ n,n ≤ q→Below n W W'
end Go.Proofs.YtmdogmpcmkfjpaaGreatDoor.Dt
namespace Go.Proofs.YtmdogmpcmkfjpaaGreatDoor.Dt
open Go.RowKit Go.Proofs.YtmdogmpcmkfjpaaGreatDoor.By
def Zdy (a:List UInt8):List UInt8 × Bool:=match Zea (Ze6 a) with
 | .inl _=>([],false)
 | .inr L=>((Zb1 L).1,decide ((Zb1 L).2=0))
theorem trim_eq (a:List UInt8):Lib.trimSuffix a [32]=Ze6 a:=by
 unfold Lib.trimSuffix Lib.hasSuffix Ze6
 rcases List.eq_nil_or_concat a with rfl | ⟨l,x,rfl⟩
 ·rfl
 rw [List.concat_eq_append]
 by_cases h:x=32
 ·subst h
  have h1:List.isSuffixOf [32] (l ++ [32])=true:=List.isSuffixOf_iff_suffix.2 ⟨l,rfl⟩
  rw [if_pos h1,List.getLast?_append]
  simp
 have h1:¬ List.isSuffixOf [32] (l ++ [x])=true:=fun e=>by
  obtain ⟨m,hm⟩:=List.isSuffixOf_iff_suffix.1 e
  have:=congrArg List.getLast? hm
  simp at this
  exact h this.symm
 rw [if_neg h1,if_neg]
 simpa using h
theorem Ztr (a:List UInt8):(Ze6 a).length ≤ a.length:=by
 unfold Ze6
 split
 ·simp
 exact Nat.le_refl _
theorem Zka {n:Nat} : ∀ l:List (List UInt8),(∀ x ∈ l,x.length ≤ n)→(joinL l).length ≤ (n + 1) * l.length
 | [],_=>Nat.zero_le _
 | [x],h=>by
  show x.length ≤ (n + 1) * 1
  have:=h x kY
  omega
 | x :: y :: l,h=>by
  have ih:=Zka (y :: l) fun z hz=>h z (by simp [hz])
  have h1:=h x kY
  show (x ++ 32 :: joinL (y :: l)).length ≤ (n + 1) * (l.length + 1 + 1)
  rw [List.length_append,List.length_cons]
  have e:(n + 1) * (l.length + 1 + 1)=(n + 1) * (y :: l).length + (n + 1):=by rw [List.length_cons,Nat.mul_add,Nat.mul_one]
  omega
theorem Zrv {s:List UInt8} {L:List Tk} (h:Zea s = .inr L):(Zb1 L).1.length ≤ 1000000000:=by
 have h1:=Zpr h
 have h2:=Zhl h
 have h3:s.length ≤ 4096:=by
  have h4:=h
  rw [Zb4] at h4
  by_cases hl:4096 < s.length
  ·rw [if_pos hl] at h4;cases h4
  ·omega
 unfold Zb1
 split
 ·refine Nat.le_trans (Zka (n:=2003) _ fun x hx=>?_) ?_
  ·obtain ⟨t,ht,rfl⟩:=List.mem_map.1 hx
   have:=h1 t ht
   exact Zjm this.1.2.1 kW
  rw [List.length_map];omega
 exact Nat.zero_le _
theorem plainW (s:ByteArray) (w:World) (hx:LX w) (hs:s.size ≤ 1000000000):Calls Tryz.prog 25 #[.string s] w fun e w'=>
 ∃ t,e = .returned (.tuple #[.string t,.bool (Zdy s.data.toList).2])∧((Zdy s.data.toList).2=true→t.data.toList=(Zdy s.data.toList).1)∧t.size ≤ 1000000000∧Below w.heap.size w w':=by
 have ht:=Tryz.strings_TrimSuffix s ⟨#[32]⟩ w kW
 have e0:Lib.trimSuffix s.data.toList (⟨#[32]⟩:ByteArray).data.toList=Ze6 s.data.toList:=trim_eq _
 rw [e0] at ht
 obtain ⟨T,hT⟩:∃ z:ByteArray,z=⟨(Ze6 s.data.toList).toArray⟩:=⟨_,rfl⟩
 rw [← hT] at ht
 have hTd:T.data.toList=Ze6 s.data.toList:=by rw [hT]
 have HTS:Hid (T.size ≤ 1000000000):=Lh (by
  have h1:=Ztr s.data.toList
  rw [← hTd,Zid,Zid] at h1
  omega)
 have HT:=Lh ht
 have HTK:=Lh (Zrz T w hx HTS.out)
 rw [hTd] at HTK
 have HX:=Lh hx
 obtain ⟨PL,hPL⟩:∃ z,z=Zdy s.data.toList:=⟨_,rfl⟩
 rw [← hPL]
 unfold Zdy at hPL
 have HPL:=Lh hPL
 clear ht e0 hT hTd hPL hx hs
 go_enter Tryz.func25,Tryz.ntmps25
 go_wp2_with fail
 refine HT.out.mono ?_
 rintro e1 w2 ⟨rfl,hw2⟩
 subst hw2
 clear HT
 cases hR:Zea (Ze6 s.data.toList) with
 | inl x=>
  obtain ⟨en,ea⟩:=x
  rw [hR] at HTK HPL
  have hne:=(Zmc hR).1
  have e1:((en:Int) == 0)=false:=kQ
  clear hR hne
  go_wp2_with fail
  refine HTK.out.mono ?_
  rintro e3 w3 ⟨rfl,hb3⟩
  have hba:=(Below.refl _ w3).alloc (Nat.le_refl _) (.cells #[.int .i64 (en:Int),.int .i64 (ea:Int)] 39)
  have HRS:=Lh (Zc w3 39 #[.int .i64 (en:Int),.int .i64 (ea:Int)])
  have HXA:=Lh ((HX.out.later hb3).later hba)
  have HBA:=Lh (next hb3 hba)
  clear hb3 hba HTK
  go_upto_region 2 with fail
  generalize w3.alloc (.cells #[.int .i64 (en:Int),.int .i64 (ea:Int)] 39)=wa at *
  generalize w3.heap.size=k at *
  have HWR:=Lh (Ztb (nS) [] wa HXA.out (Zlx.nil _ _ _) kY kY)
  have hwn:Zb1 []=([],0):=by unfold Zb1;rw [if_pos kY];rfl
  rw [hwn] at HWR
  clear hwn
  go_wp2_with fail
  refine HWR.out.mono ?_
  rintro e4 w4 ⟨rfl,hb4⟩
  have s0:=(HRS.out.later hb4).cell (i:=0) (v:=.int .i64 (en:Int)) rfl
  have HBF:=Lh (next HBA.out hb4)
  clear hb4 HWR
  go_wp2_with fail
  go_ret2
  exact ⟨⟨#[]⟩,by rw [HPL.out];rfl,(by rw [HPL.out];exact fun h=>Bool.noConfusion h),by decide,HBF.out⟩
 | inr L=>
  have HLB:=Lh (Zrv hR)
  have HLL:Hid (L.length ≤ 1000000):=Lh (by
   have h1:=Zhl hR
   have h4:=hR
   rw [Zb4] at h4
   by_cases hl:4096 < (Ze6 s.data.toList).length
   ·rw [if_pos hl] at h4;cases h4
   ·omega)
  have HRO:=Lh (Zpr hR)
  rw [hR] at HTK HPL
  clear hR
  go_wp2_with fail
  refine HTK.out.mono ?_
  rintro e3 w3 ⟨⟨tv,rfl,htk⟩,hb3⟩
  obtain ⟨ta,tc,rfl⟩:=htk.shape
  have hba:=(Below.refl _ w3).alloc (Nat.le_refl _) (.cells #[iZ,iZ] 39)
  have HRS:=Lh (Zc w3 39 #[iZ,iZ])
  have HXA:=Lh ((HX.out.later hb3).later hba)
  have HTA:=Lh (Zlx.below htk hba)
  have HBA:=Lh (next hb3 hba)
  clear hb3 hba HTK htk
  go_upto_region 2 with fail
  generalize w3.alloc (.cells #[iZ,iZ] 39)=wa at *
  generalize w3.heap.size=k at *
  have HWR:=Lh (Ztb _ L wa HXA.out HTA.out (fun t ht=>by have:=HRO.out t ht;omega) HLL.out)
  obtain ⟨⟨t,n2⟩,hwl⟩:∃ z,Zb1 L=z:=⟨_,rfl⟩
  rw [hwl] at HWR HLB
  have HPL2:Hid (PL=(t,decide (n2=0))):=Lh (by rw [HPL.out,hwl])
  clear hwl
  go_wp2_with fail
  refine HWR.out.mono ?_
  rintro e4 w4 ⟨rfl,hb4⟩
  have s0:=(HRS.out.later hb4).cell (i:=0) (v:=iZ) rfl
  have HBF:=Lh (next HBA.out hb4)
  have eB:((n2:Int) == 0)=decide (n2=0):=by rw [Bool.eq_iff_iff];simp
  clear hb4 HWR
  go_wp2_with fail
  go_ret2
  exact ⟨⟨t.toArray⟩,by rw [HPL2.out];rfl,(by rw [HPL2.out];exact fun _=>rfl),(by have:=HLB.out;simpa [ByteArray.size] using this),HBF.out⟩
end Go.Proofs.YtmdogmpcmkfjpaaGreatDoor.Dt
