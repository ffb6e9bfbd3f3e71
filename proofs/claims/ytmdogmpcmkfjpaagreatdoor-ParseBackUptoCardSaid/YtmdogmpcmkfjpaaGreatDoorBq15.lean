import Derived.Test.YtmdogmpcmkfjpaaGreatDoorBq14
set_option maxRecDepth 100000
set_option maxHeartbeats 64000000
/- Part. -/
namespace Go.Proofs.YtmdogmpcmkfjpaaGreatDoor.Dt
open Go.RowKit Go.Proofs.YtmdogmpcmkfjpaaGreatDoor.By
attribute [local go_sem ↓] Ztp Zbv Zji Zhf Zjh Zcb Zjk Zhh Zjj
attribute [local go_sem] Zbx Zjy Zhx Zjx Zc7 Zmh run_odLd run_seLd
section
variable {w0:World} {r:Nat} {tv:Value} {L:List Tk} {en:Int}
namespace nr337
theorem qR0 {p:Prop} (h:p:=by
 go_enter Tryz.func121,Tryz.ntmps121
 go_wp2_with fail
 go_loopg [5] (L.length + 1 - s.k) (fun gk ov wr=>∃ (O:List ByteArray) (cs:List (List Value)) (sj:PS) (f:Nat),gk=L.length + 1 - sj.k∧Hid (PB w0 r tv L en sj wr)∧Hid (Ze3 9 1 SR w.heap.size wr ov O cs)∧Hid (w.grownBy wr (some r)) ∧
  Hid (Z=cL O (listM L en one f sj))∧Hid (L.length - sj.k < f)∧Hid (cs.length ≤ sj.k)∧Hid (k0 ≤ sj.k))
 case atStart=>exact ⟨[],[],s,FU,rfl,H,Lh (Ze3.nil _ _ _ _ _),Lh (World.grownBy.refl _ _),HZ,HFU,Lh (Nat.zero_le _),HK⟩
 case round=>
  obtain ⟨O,cs,sj,f,rfl,HP,HO,HG,HR,HF,HC,HKJ⟩:=hrel
  obtain ⟨oa,oc,rfl⟩:=HO.out.shape
  obtain ⟨⟨x,s1⟩,hx⟩:∃ q,one sj=q:=⟨_,rfl⟩
  have HC1:=Lh (HONE.out sj wr HKJ.out HG.out HP.out)
  rw [hx] at HC1
  have HX:=Lh hx
  have HSK:Hid (sj.k ≤ s1.k):=Lh kb12
  clear hx
  obtain ⟨f',rfl⟩:∃ f',f=f' + 1:=⟨f - 1,by have:=HF.out;omega⟩
  go_wp2_with fail
  refine HC1.out.mono ?_
  rintro e2 w2 ⟨xv,rfl,hn2,hp2,hg2⟩
  have HN2:=Lh hn2
  have HP2:Hid (PB w0 r tv L en s1 w2):=Lh hp2
  have HG2:=Lh (Za HG.out hg2)
  have HO2:=Lh (HO.out.grown hg2 HLT.out)
  have HOLD:=Lh (fun k hk=>(World.ownsRow.lt HO.out.own k hk).2)
  have HLO:Hid (∀ k,(Value.slice oa O.length oc).ownBlock=some k→w.heap.size ≤ k):=Lh (fun k hk=>(World.ownsRow.lt HO.out.own k hk).1)
  have HSZ:Hid (wr.heap.size ≤ w2.heap.size):=Lh hg2.size
  have HW:Hid (w.heap.size ≤ wr.heap.size):=Lh HG.out.size
  clear hn2 hp2 hg2
  have HK2:=Lh (okP w2 HP2.out)
  by_cases h0:s1.e=0
  ·have d0:decide (s1.e=0)=true:=decide_eq_true h0
   rw [d0] at HK2
   have H0:=Lh h0
   clear d0 h0
   go_wp2_with fail
   refine HK2.out.mono ?_
   rintro e3 w4 ⟨rfl,rfl⟩
   obtain ⟨c,hc8,hc1,hcn,hbs⟩:=hes _ _ _ _ HN2.out
   have HC8:=Lh hc8
   have HC11:=Lh hc1
   have HCN:=Lh hcn
   clear hc8 hc1 hcn
   have HR3:=Lh (Zc w2 9 c.toArray)
   have HW3:=Lh ((Below.refl _ w2).alloc (Nat.le_refl _) (.cells c.toArray 9))
   have HOL:Hid (cs.length=O.length):=Lh HO2.out.len
   go_wp2_with (at_builtin;refine Zae rfl (.tmp 12) (.tmp 14) 23 rfl w.heap.size 9 1 16 elS (.slice oa O.length oc) cs.length cs.flatten rfl (HO2.out.later HW3.out).own _ 1 c rfl HC8.out (fun j u hj=>HR3.out.cell (by simpa using hj)) HC11.out (by have:=HC.out;have:=HP.out.hk;have:=HL.out;unfold maxLen;omega) (by have:=HC.out;have:=HP.out.hk;have:=HL.out;omega) (by have:=HW.out;have:=HSZ.out;simp;omega) ?_;intro v' w5 hown5 hg5 hv5;have HO5:=Lh ((HO2.out.later HW3.out).snoc hown5 hg5 hv5 HC8.out (HCN.out.below HW3.out) HW.out HOLD.out);have HP5:=Lh ((HP2.out.later HW3.out).row hg5 (fun k hk=>by have h1:=HLO.out k hk;have h2:=HLT.out;omega));have HG5:=Lh (Zds (Za HG2.out (below_grown HW3.out)) hg5 HLO.out);clear hown5 hv5 hg5)
   exact ks84
  have d0:decide (s1.e=0)=false:=decide_eq_false h0
  rw [d0] at HK2
  have HZ2:Hid (Z=([],s1)):=Lh kb30
  clear d0 h0
  go_wp2_with fail
  refine HK2.out.mono ?_
  rintro e3 w4 ⟨rfl,rfl⟩
  go_wp2_with fail
  go_ret
  exact ⟨_,rfl,by rw [HZ2.out];exact (Ze3.nil 9 1 SR _ _).done,by rw [HZ2.out];exact HP2.out,HG2.out⟩):p:=h
end nr337
open nr337 in
theorem Zsj {one:Rd ByteArray} (hmono:∀ s:PS,s.k ≤ (one s).2.k) (fv:Value) (hfv:fv = .func (.func 76) #[pV r] #[]) (w:World) (k0:Nat) (hone:Zks w0 r tv L en w k0 76 #[pV r] one SvR)
 (s:PS) (hk0:k0 ≤ s.k) (h:PB w0 r tv L en s w):Calls Tryz.prog 121 #[pV r,fv] w fun e w'=>
 ∃ v,e = .returned v∧New w.heap.size w' (fun u=>SlR 1 SR u v (listM L en one FU s).1)∧PB w0 r tv L en (listM L en one FU s).2 w'∧w.grownBy w' (some r):=by exact kp1
namespace nr338
theorem qR0 {p:Prop} (h:p:=by
 go_enter Tryz.func122,Tryz.ntmps122
 go_wp2_with fail
 go_loopg [5] (L.length + 1 - s.k) (fun gk ov wr=>∃ (O:List PE) (cs:List (List Value)) (sj:PS) (f:Nat),gk=L.length + 1 - sj.k∧Hid (PB w0 r tv L en sj wr)∧Hid (Ze3 48 8 ExR w.heap.size wr ov O cs)∧Hid (w.grownBy wr (some r)) ∧
  Hid (Z=cL O (listM L en one f sj))∧Hid (L.length - sj.k < f)∧Hid (cs.length ≤ sj.k)∧Hid (k0 ≤ sj.k))
 case atStart=>exact ⟨[],[],s,FU,rfl,H,Lh (Ze3.nil _ _ _ _ _),Lh (World.grownBy.refl _ _),HZ,HFU,Lh (Nat.zero_le _),HK⟩
 case round=>
  obtain ⟨O,cs,sj,f,rfl,HP,HO,HG,HR,HF,HC,HKJ⟩:=hrel
  obtain ⟨oa,oc,rfl⟩:=HO.out.shape
  obtain ⟨⟨x,s1⟩,hx⟩:∃ q,one sj=q:=⟨_,rfl⟩
  have HC1:=Lh (HONE.out sj wr HKJ.out HG.out HP.out)
  rw [hx] at HC1
  have HX:=Lh hx
  have HSK:Hid (sj.k ≤ s1.k):=Lh kb12
  clear hx
  obtain ⟨f',rfl⟩:∃ f',f=f' + 1:=⟨f - 1,by have:=HF.out;omega⟩
  go_wp2_with fail
  refine HC1.out.mono ?_
  rintro e2 w2 ⟨xv,rfl,hn2,hp2,hg2⟩
  have HN2:=Lh hn2
  have HP2:Hid (PB w0 r tv L en s1 w2):=Lh hp2
  have HG2:=Lh (Za HG.out hg2)
  have HO2:=Lh (HO.out.grown hg2 HLT.out)
  have HOLD:=Lh (fun k hk=>(World.ownsRow.lt HO.out.own k hk).2)
  have HLO:Hid (∀ k,(Value.slice oa O.length oc).ownBlock=some k→w.heap.size ≤ k):=Lh (fun k hk=>(World.ownsRow.lt HO.out.own k hk).1)
  have HSZ:Hid (wr.heap.size ≤ w2.heap.size):=Lh hg2.size
  have HW:Hid (w.heap.size ≤ wr.heap.size):=Lh HG.out.size
  clear hn2 hp2 hg2
  obtain ⟨c,rfl,hc8,hc1,hok,hcn⟩:=heB exCells _ _ _ _ HN2.out
  have hB:=(Below.refl _ w2).alloc (Nat.le_refl _) (.cells c.toArray 48)
  have hR:=Zc w2 48 c.toArray
  have hbs:∀ W,(Zeh 28 1 #[(0,.agg c.toArray)]).run Tryz.prog W = .ok (.slice (some ⟨W.heap.size,0,none⟩) 1 1) (W.alloc (.cells c.toArray 48)):=run_bsEx c.toArray kb48
  have hrb:=hR.b (n:=8) kb48
  have hro:=hR.of
  replace HP2:=Lh (HP2.out.later hB)
  replace HG2:=Lh (Za HG2.out (below_grown hB))
  replace HO2:=Lh (HO2.out.later hB)
  replace HSZ:=Lh (Nat.le_trans HSZ.out hB.size)
  have HC8:=Lh hc8
  have HC11:=Lh hc1
  have HCN:=Lh (hcn.below hB)
  have HBS:=Lh hbs
  clear hc8 hc1 hcn hB hR HN2 hbs
  go_upto_region 3 with fail
  generalize w2.alloc (.cells c.toArray 48)=w3 at *
  generalize w2.heap.size=gq at *
  clear hok
  have HK2:=Lh (okP w3 HP2.out)
  by_cases h0:s1.e=0
  ·have d0:decide (s1.e=0)=true:=decide_eq_true h0
   rw [d0] at HK2
   have H0:=Lh h0
   clear d0 h0
   go_wp2_with fail
   refine HK2.out.mono ?_
   rintro e3 w4 ⟨rfl,rfl⟩
   have hbs:=HBS.out
   have HR3:=Lh (Zc w3 48 c.toArray)
   have HW3:=Lh ((Below.refl _ w3).alloc (Nat.le_refl _) (.cells c.toArray 48))
   have HOL:Hid (cs.length=O.length):=Lh HO2.out.len
   go_wp2_with (at_builtin;refine Zae rfl (.tmp 12) (.tmp 14) 28 rfl w.heap.size 48 8 104 elEx (.slice oa O.length oc) cs.length cs.flatten rfl (HO2.out.later HW3.out).own _ 1 c rfl HC8.out (fun j u hj=>HR3.out.cell (by simpa using hj)) HC11.out (by have:=HC.out;have:=HP.out.hk;have:=HL.out;unfold maxLen;omega) (by have:=HC.out;have:=HP.out.hk;have:=HL.out;omega) (by have:=HW.out;have:=HSZ.out;simp;omega) ?_;intro v' w5 hown5 hg5 hv5;have HO5:=Lh ((HO2.out.later HW3.out).snoc hown5 hg5 hv5 HC8.out (HCN.out.below HW3.out) HW.out HOLD.out);have HP5:=Lh ((HP2.out.later HW3.out).row hg5 (fun k hk=>by have h1:=HLO.out k hk;have h2:=HLT.out;omega));have HG5:=Lh (Zds (Za HG2.out (below_grown HW3.out)) hg5 HLO.out);clear hown5 hv5 hg5)
   exact ks79
  have d0:decide (s1.e=0)=false:=decide_eq_false h0
  rw [d0] at HK2
  have HZ2:Hid (Z=([],s1)):=Lh kb30
  clear d0 h0
  go_wp2_with fail
  refine HK2.out.mono ?_
  rintro e3 w4 ⟨rfl,rfl⟩
  go_wp2_with fail
  go_ret
  exact ⟨_,rfl,by rw [HZ2.out];exact (Ze3.nil 48 8 ExR _ _).done,by rw [HZ2.out];exact HP2.out,HG2.out⟩):p:=h
end nr338
open nr338 in
theorem Zrb {one:Rd PE} (hmono:∀ s:PS,s.k ≤ (one s).2.k) (fv:Value) (hfv:fv = .func (.func 31) #[pV r] #[]) (w:World) (k0:Nat) (hone:Zks w0 r tv L en w k0 31 #[pV r] one (AgV ExR))
 (s:PS) (hk0:k0 ≤ s.k) (h:PB w0 r tv L en s w):Calls Tryz.prog 122 #[pV r,fv] w fun e w'=>
 ∃ v,e = .returned v∧New w.heap.size w' (fun u=>SlR 8 ExR u v (listM L en one FU s).1)∧PB w0 r tv L en (listM L en one FU s).2 w'∧w.grownBy w' (some r):=by exact kp1
namespace nr339
theorem qR0 {p:Prop} (h:p:=by
 go_enter Tryz.func123,Tryz.ntmps123
 go_wp2_with fail
 go_loopg [5] (L.length + 1 - s.k) (fun gk ov wr=>∃ (O:List (PE × ByteArray)) (cs:List (List Value)) (sj:PS) (f:Nat),gk=L.length + 1 - sj.k∧Hid (PB w0 r tv L en sj wr)∧Hid (Ze3 106 9 Zfl w.heap.size wr ov O cs)∧Hid (w.grownBy wr (some r)) ∧
  Hid (Z=cL O (listM L en one f sj))∧Hid (L.length - sj.k < f)∧Hid (cs.length ≤ sj.k)∧Hid (k0 ≤ sj.k))
 case atStart=>exact ⟨[],[],s,FU,rfl,H,Lh (Ze3.nil _ _ _ _ _),Lh (World.grownBy.refl _ _),HZ,HFU,Lh (Nat.zero_le _),HK⟩
 case round=>
  obtain ⟨O,cs,sj,f,rfl,HP,HO,HG,HR,HF,HC,HKJ⟩:=hrel
  obtain ⟨oa,oc,rfl⟩:=HO.out.shape
  obtain ⟨⟨x,s1⟩,hx⟩:∃ q,one sj=q:=⟨_,rfl⟩
  have HC1:=Lh (HONE.out sj wr HKJ.out HG.out HP.out)
  rw [hx] at HC1
  have HX:=Lh hx
  have HSK:Hid (sj.k ≤ s1.k):=Lh kb12
  clear hx
  obtain ⟨f',rfl⟩:∃ f',f=f' + 1:=⟨f - 1,by have:=HF.out;omega⟩
  go_wp2_with fail
  refine HC1.out.mono ?_
  rintro e2 w2 ⟨xv,rfl,hn2,hp2,hg2⟩
  have HN2:=Lh hn2
  have HP2:Hid (PB w0 r tv L en s1 w2):=Lh hp2
  have HG2:=Lh (Za HG.out hg2)
  have HO2:=Lh (HO.out.grown hg2 HLT.out)
  have HOLD:=Lh (fun k hk=>(World.ownsRow.lt HO.out.own k hk).2)
  have HLO:Hid (∀ k,(Value.slice oa O.length oc).ownBlock=some k→w.heap.size ≤ k):=Lh (fun k hk=>(World.ownsRow.lt HO.out.own k hk).1)
  have HSZ:Hid (wr.heap.size ≤ w2.heap.size):=Lh hg2.size
  have HW:Hid (w.heap.size ≤ wr.heap.size):=Lh HG.out.size
  clear hn2 hp2 hg2
  obtain ⟨c,rfl,hc8,hc1,hok,hcn⟩:=heB Zvh _ _ _ _ HN2.out
  have hB:=(Below.refl _ w2).alloc (Nat.le_refl _) (.cells c.toArray 106)
  have hR:=Zc w2 106 c.toArray
  have hbs:∀ W,(Zeh 26 1 #[(0,.agg c.toArray)]).run Tryz.prog W = .ok (.slice (some ⟨W.heap.size,0,none⟩) 1 1) (W.alloc (.cells c.toArray 106)):=Zsc c.toArray kb48
  have hrb:=hR.b (n:=9) kb48
  have hro:=hR.of
  replace HP2:=Lh (HP2.out.later hB)
  replace HG2:=Lh (Za HG2.out (below_grown hB))
  replace HO2:=Lh (HO2.out.later hB)
  replace HSZ:=Lh (Nat.le_trans HSZ.out hB.size)
  have HC8:=Lh hc8
  have HC11:=Lh hc1
  have HCN:=Lh (hcn.below hB)
  have HBS:=Lh hbs
  clear hc8 hc1 hcn hB hR HN2 hbs
  go_upto_region 3 with fail
  generalize w2.alloc (.cells c.toArray 106)=w3 at *
  generalize w2.heap.size=gq at *
  clear hok
  have HK2:=Lh (okP w3 HP2.out)
  by_cases h0:s1.e=0
  ·have d0:decide (s1.e=0)=true:=decide_eq_true h0
   rw [d0] at HK2
   have H0:=Lh h0
   clear d0 h0
   go_wp2_with fail
   refine HK2.out.mono ?_
   rintro e3 w4 ⟨rfl,rfl⟩
   have hbs:=HBS.out
   have HR3:=Lh (Zc w3 106 c.toArray)
   have HW3:=Lh ((Below.refl _ w3).alloc (Nat.le_refl _) (.cells c.toArray 106))
   have HOL:Hid (cs.length=O.length):=Lh HO2.out.len
   go_wp2_with (at_builtin;refine Zae rfl (.tmp 12) (.tmp 14) 26 rfl w.heap.size 106 9 120 elItem (.slice oa O.length oc) cs.length cs.flatten rfl (HO2.out.later HW3.out).own _ 1 c rfl HC8.out (fun j u hj=>HR3.out.cell (by simpa using hj)) HC11.out (by have:=HC.out;have:=HP.out.hk;have:=HL.out;unfold maxLen;omega) (by have:=HC.out;have:=HP.out.hk;have:=HL.out;omega) (by have:=HW.out;have:=HSZ.out;simp;omega) ?_;intro v' w5 hown5 hg5 hv5;have HO5:=Lh ((HO2.out.later HW3.out).snoc hown5 hg5 hv5 HC8.out (HCN.out.below HW3.out) HW.out HOLD.out);have HP5:=Lh ((HP2.out.later HW3.out).row hg5 (fun k hk=>by have h1:=HLO.out k hk;have h2:=HLT.out;omega));have HG5:=Lh (Zds (Za HG2.out (below_grown HW3.out)) hg5 HLO.out);clear hown5 hv5 hg5)
   exact ks79
  have d0:decide (s1.e=0)=false:=decide_eq_false h0
  rw [d0] at HK2
  have HZ2:Hid (Z=([],s1)):=Lh kb30
  clear d0 h0
  go_wp2_with fail
  refine HK2.out.mono ?_
  rintro e3 w4 ⟨rfl,rfl⟩
  go_wp2_with fail
  go_ret
  exact ⟨_,rfl,by rw [HZ2.out];exact (Ze3.nil 106 9 Zfl _ _).done,by rw [HZ2.out];exact HP2.out,HG2.out⟩):p:=h
end nr339
open nr339 in
theorem listItem {one:Rd (PE × ByteArray)} (hmono:∀ s:PS,s.k ≤ (one s).2.k) (fv:Value) (q:Nat) (hfv:fv = .func (.func 124) #[] #[pV q]) (w:World) (k0:Nat) (hone:Zks w0 r tv L en w k0 124 #[pV q] one (AgV Zfl))
 (s:PS) (hk0:k0 ≤ s.k) (h:PB w0 r tv L en s w):Calls Tryz.prog 123 #[pV r,fv] w fun e w'=>
 ∃ v,e = .returned v∧New w.heap.size w' (fun u=>SlR 9 Zfl u v (listM L en one FU s).1)∧PB w0 r tv L en (listM L en one FU s).2 w'∧w.grownBy w' (some r):=by exact kp1
namespace nr340
theorem qR0 {p:Prop} (h:p:=by
 go_enter Tryz.func126,Tryz.ntmps126
 go_wp2_with fail
 go_loopg [5] (L.length + 1 - s.k) (fun gk ov wr=>∃ (O:List (PE × Bool)) (cs:List (List Value)) (sj:PS) (f:Nat),gk=L.length + 1 - sj.k∧Hid (PB w0 r tv L en sj wr)∧Hid (Ze3 114 9 Zdl w.heap.size wr ov O cs)∧Hid (w.grownBy wr (some r)) ∧
  Hid (Z=cL O (listM L en one f sj))∧Hid (L.length - sj.k < f)∧Hid (cs.length ≤ sj.k)∧Hid (k0 ≤ sj.k))
 case atStart=>exact ⟨[],[],s,FU,rfl,H,Lh (Ze3.nil _ _ _ _ _),Lh (World.grownBy.refl _ _),HZ,HFU,Lh (Nat.zero_le _),HK⟩
 case round=>
  obtain ⟨O,cs,sj,f,rfl,HP,HO,HG,HR,HF,HC,HKJ⟩:=hrel
  obtain ⟨oa,oc,rfl⟩:=HO.out.shape
  obtain ⟨⟨x,s1⟩,hx⟩:∃ q,one sj=q:=⟨_,rfl⟩
  have HC1:=Lh (HONE.out sj wr HKJ.out HG.out HP.out)
  rw [hx] at HC1
  have HX:=Lh hx
  have HSK:Hid (sj.k ≤ s1.k):=Lh kb12
  clear hx
  obtain ⟨f',rfl⟩:∃ f',f=f' + 1:=⟨f - 1,by have:=HF.out;omega⟩
  go_wp2_with fail
  refine HC1.out.mono ?_
  rintro e2 w2 ⟨xv,rfl,hn2,hp2,hg2⟩
  have HN2:=Lh hn2
  have HP2:Hid (PB w0 r tv L en s1 w2):=Lh hp2
  have HG2:=Lh (Za HG.out hg2)
  have HO2:=Lh (HO.out.grown hg2 HLT.out)
  have HOLD:=Lh (fun k hk=>(World.ownsRow.lt HO.out.own k hk).2)
  have HLO:Hid (∀ k,(Value.slice oa O.length oc).ownBlock=some k→w.heap.size ≤ k):=Lh (fun k hk=>(World.ownsRow.lt HO.out.own k hk).1)
  have HSZ:Hid (wr.heap.size ≤ w2.heap.size):=Lh hg2.size
  have HW:Hid (w.heap.size ≤ wr.heap.size):=Lh HG.out.size
  clear hn2 hp2 hg2
  obtain ⟨c,rfl,hc8,hc1,hok,hcn⟩:=heB Zsh _ _ _ _ HN2.out
  have hB:=(Below.refl _ w2).alloc (Nat.le_refl _) (.cells c.toArray 114)
  have hR:=Zc w2 114 c.toArray
  have hbs:∀ W,(Zeh 29 1 #[(0,.agg c.toArray)]).run Tryz.prog W = .ok (.slice (some ⟨W.heap.size,0,none⟩) 1 1) (W.alloc (.cells c.toArray 114)):=Zpq c.toArray kb48
  have hrb:=hR.b (n:=9) kb48
  have hro:=hR.of
  replace HP2:=Lh (HP2.out.later hB)
  replace HG2:=Lh (Za HG2.out (below_grown hB))
  replace HO2:=Lh (HO2.out.later hB)
  replace HSZ:=Lh (Nat.le_trans HSZ.out hB.size)
  have HC8:=Lh hc8
  have HC11:=Lh hc1
  have HCN:=Lh (hcn.below hB)
  have HBS:=Lh hbs
  clear hc8 hc1 hcn hB hR HN2 hbs
  go_upto_region 3 with fail
  generalize w2.alloc (.cells c.toArray 114)=w3 at *
  generalize w2.heap.size=gq at *
  clear hok
  have HK2:=Lh (okP w3 HP2.out)
  by_cases h0:s1.e=0
  ·have d0:decide (s1.e=0)=true:=decide_eq_true h0
   rw [d0] at HK2
   have H0:=Lh h0
   clear d0 h0
   go_wp2_with fail
   refine HK2.out.mono ?_
   rintro e3 w4 ⟨rfl,rfl⟩
   have hbs:=HBS.out
   have HR3:=Lh (Zc w3 114 c.toArray)
   have HW3:=Lh ((Below.refl _ w3).alloc (Nat.le_refl _) (.cells c.toArray 114))
   have HOL:Hid (cs.length=O.length):=Lh HO2.out.len
   go_wp2_with (at_builtin;refine Zae rfl (.tmp 12) (.tmp 14) 29 rfl w.heap.size 114 9 112 elOrder (.slice oa O.length oc) cs.length cs.flatten rfl (HO2.out.later HW3.out).own _ 1 c rfl HC8.out (fun j u hj=>HR3.out.cell (by simpa using hj)) HC11.out (by have:=HC.out;have:=HP.out.hk;have:=HL.out;unfold maxLen;omega) (by have:=HC.out;have:=HP.out.hk;have:=HL.out;omega) (by have:=HW.out;have:=HSZ.out;simp;omega) ?_;intro v' w5 hown5 hg5 hv5;have HO5:=Lh ((HO2.out.later HW3.out).snoc hown5 hg5 hv5 HC8.out (HCN.out.below HW3.out) HW.out HOLD.out);have HP5:=Lh ((HP2.out.later HW3.out).row hg5 (fun k hk=>by have h1:=HLO.out k hk;have h2:=HLT.out;omega));have HG5:=Lh (Zds (Za HG2.out (below_grown HW3.out)) hg5 HLO.out);clear hown5 hv5 hg5)
   exact ks79
  have d0:decide (s1.e=0)=false:=decide_eq_false h0
  rw [d0] at HK2
  have HZ2:Hid (Z=([],s1)):=Lh kb30
  clear d0 h0
  go_wp2_with fail
  refine HK2.out.mono ?_
  rintro e3 w4 ⟨rfl,rfl⟩
  go_wp2_with fail
  go_ret
  exact ⟨_,rfl,by rw [HZ2.out];exact (Ze3.nil 114 9 Zdl _ _).done,by rw [HZ2.out];exact HP2.out,HG2.out⟩):p:=h
end nr340
open nr340 in
theorem Zu9 {one:Rd (PE × Bool)} (hmono:∀ s:PS,s.k ≤ (one s).2.k) (fv:Value) (q:Nat) (hfv:fv = .func (.func 127) #[] #[pV q]) (w:World) (k0:Nat) (hone:Zks w0 r tv L en w k0 127 #[pV q] one (AgV Zdl))
 (s:PS) (hk0:k0 ≤ s.k) (h:PB w0 r tv L en s w):Calls Tryz.prog 126 #[pV r,fv] w fun e w'=>
 ∃ v,e = .returned v∧New w.heap.size w' (fun u=>SlR 9 Zdl u v (listM L en one FU s).1)∧PB w0 r tv L en (listM L en one FU s).2 w'∧w.grownBy w' (some r):=by exact kp1
namespace nr341
theorem qR0 {p:Prop} (h:p:=by
 go_enter Tryz.func81,Tryz.ntmps81
 go_wp2_with fail
 go_loopg [5] (L.length + 1 - s.k) (fun gk ov wr=>∃ (O:List (ByteArray × PE)) (cs:List (List Value)) (sj:PS) (f:Nat),gk=L.length + 1 - sj.k∧Hid (PB w0 r tv L en sj wr)∧Hid (Ze3 94 9 Zm3 w.heap.size wr ov O cs)∧Hid (w.grownBy wr (some r)) ∧
  Hid (Z=cL O (listM L en one f sj))∧Hid (L.length - sj.k < f)∧Hid (cs.length ≤ sj.k)∧Hid (k0 ≤ sj.k))
 case atStart=>exact ⟨[],[],s,FU,rfl,H,Lh (Ze3.nil _ _ _ _ _),Lh (World.grownBy.refl _ _),HZ,HFU,Lh (Nat.zero_le _),HK⟩
 case round=>
  obtain ⟨O,cs,sj,f,rfl,HP,HO,HG,HR,HF,HC,HKJ⟩:=hrel
  obtain ⟨oa,oc,rfl⟩:=HO.out.shape
  obtain ⟨⟨x,s1⟩,hx⟩:∃ q,one sj=q:=⟨_,rfl⟩
  have HC1:=Lh (HONE.out sj wr HKJ.out HG.out HP.out)
  rw [hx] at HC1
  have HX:=Lh hx
  have HSK:Hid (sj.k ≤ s1.k):=Lh kb12
  clear hx
  obtain ⟨f',rfl⟩:∃ f',f=f' + 1:=⟨f - 1,by have:=HF.out;omega⟩
  go_wp2_with fail
  refine HC1.out.mono ?_
  rintro e2 w2 ⟨xv,rfl,hn2,hp2,hg2⟩
  have HN2:=Lh hn2
  have HP2:Hid (PB w0 r tv L en s1 w2):=Lh hp2
  have HG2:=Lh (Za HG.out hg2)
  have HO2:=Lh (HO.out.grown hg2 HLT.out)
  have HOLD:=Lh (fun k hk=>(World.ownsRow.lt HO.out.own k hk).2)
  have HLO:Hid (∀ k,(Value.slice oa O.length oc).ownBlock=some k→w.heap.size ≤ k):=Lh (fun k hk=>(World.ownsRow.lt HO.out.own k hk).1)
  have HSZ:Hid (wr.heap.size ≤ w2.heap.size):=Lh hg2.size
  have HW:Hid (w.heap.size ≤ wr.heap.size):=Lh HG.out.size
  clear hn2 hp2 hg2
  obtain ⟨c,rfl,hc8,hc1,hok,hcn⟩:=heB setCells _ _ _ _ HN2.out
  have hB:=(Below.refl _ w2).alloc (Nat.le_refl _) (.cells c.toArray 94)
  have hR:=Zc w2 94 c.toArray
  have hbs:∀ W,(Zeh 25 1 #[(0,.agg c.toArray)]).run Tryz.prog W = .ok (.slice (some ⟨W.heap.size,0,none⟩) 1 1) (W.alloc (.cells c.toArray 94)):=Zt9 c.toArray kb48
  have hrb:=hR.b (n:=9) kb48
  have hro:=hR.of
  replace HP2:=Lh (HP2.out.later hB)
  replace HG2:=Lh (Za HG2.out (below_grown hB))
  replace HO2:=Lh (HO2.out.later hB)
  replace HSZ:=Lh (Nat.le_trans HSZ.out hB.size)
  have HC8:=Lh hc8
  have HC11:=Lh hc1
  have HCN:=Lh (hcn.below hB)
  have HBS:=Lh hbs
  clear hc8 hc1 hcn hB hR HN2 hbs
  go_upto_region 3 with fail
  generalize w2.alloc (.cells c.toArray 94)=w3 at *
  generalize w2.heap.size=gq at *
  clear hok
  have HK2:=Lh (okP w3 HP2.out)
  by_cases h0:s1.e=0
  ·have d0:decide (s1.e=0)=true:=decide_eq_true h0
   rw [d0] at HK2
   have H0:=Lh h0
   clear d0 h0
   go_wp2_with fail
   refine HK2.out.mono ?_
   rintro e3 w4 ⟨rfl,rfl⟩
   have hbs:=HBS.out
   have HR3:=Lh (Zc w3 94 c.toArray)
   have HW3:=Lh ((Below.refl _ w3).alloc (Nat.le_refl _) (.cells c.toArray 94))
   have HOL:Hid (cs.length=O.length):=Lh HO2.out.len
   go_wp2_with (at_builtin;refine Zae rfl (.tmp 12) (.tmp 14) 25 rfl w.heap.size 94 9 120 elSet (.slice oa O.length oc) cs.length cs.flatten rfl (HO2.out.later HW3.out).own _ 1 c rfl HC8.out (fun j u hj=>HR3.out.cell (by simpa using hj)) HC11.out (by have:=HC.out;have:=HP.out.hk;have:=HL.out;unfold maxLen;omega) (by have:=HC.out;have:=HP.out.hk;have:=HL.out;omega) (by have:=HW.out;have:=HSZ.out;simp;omega) ?_;intro v' w5 hown5 hg5 hv5;have HO5:=Lh ((HO2.out.later HW3.out).snoc hown5 hg5 hv5 HC8.out (HCN.out.below HW3.out) HW.out HOLD.out);have HP5:=Lh ((HP2.out.later HW3.out).row hg5 (fun k hk=>by have h1:=HLO.out k hk;have h2:=HLT.out;omega));have HG5:=Lh (Zds (Za HG2.out (below_grown HW3.out)) hg5 HLO.out);clear hown5 hv5 hg5)
   exact ks79
  have d0:decide (s1.e=0)=false:=decide_eq_false h0
  rw [d0] at HK2
  have HZ2:Hid (Z=([],s1)):=Lh kb30
  clear d0 h0
  go_wp2_with fail
  refine HK2.out.mono ?_
  rintro e3 w4 ⟨rfl,rfl⟩
  go_wp2_with fail
  go_ret
  exact ⟨_,rfl,by rw [HZ2.out];exact (Ze3.nil 94 9 Zm3 _ _).done,by rw [HZ2.out];exact HP2.out,HG2.out⟩):p:=h
end nr341
open nr341 in
theorem listSet {one:Rd (ByteArray × PE)} (hmono:∀ s:PS,s.k ≤ (one s).2.k) (fv:Value) (q:Nat) (hfv:fv = .func (.func 82) #[] #[pV q]) (w:World) (k0:Nat) (hone:Zks w0 r tv L en w k0 82 #[pV q] one (AgV Zm3))
 (s:PS) (hk0:k0 ≤ s.k) (h:PB w0 r tv L en s w):Calls Tryz.prog 81 #[pV r,fv] w fun e w'=>
 ∃ v,e = .returned v∧New w.heap.size w' (fun u=>SlR 9 Zm3 u v (listM L en one FU s).1)∧PB w0 r tv L en (listM L en one FU s).2 w'∧w.grownBy w' (some r):=by exact kp1
namespace nr342
theorem qR0 {p:Prop} (h:p:=by
 go_enter Tryz.func78,Tryz.ntmps78
 go_wp2_with fail
 go_loopg [5] (L.length + 1 - s.k) (fun gk ov wr=>∃ (O:List (List PE)) (cs:List (List Value)) (sj:PS) (f:Nat),gk=L.length + 1 - sj.k∧Hid (PB w0 r tv L en sj wr)∧Hid (Ze3 28 1 Zo3 w.heap.size wr ov O cs)∧Hid (w.grownBy wr (some r)) ∧
  Hid (Z=cL O (listM L en one f sj))∧Hid (L.length - sj.k < f)∧Hid (cs.length ≤ sj.k)∧Hid (k0 ≤ sj.k))
 case atStart=>exact ⟨[],[],s,FU,rfl,H,Lh (Ze3.nil _ _ _ _ _),Lh (World.grownBy.refl _ _),HZ,HFU,Lh (Nat.zero_le _),HK⟩
 case round=>
  obtain ⟨O,cs,sj,f,rfl,HP,HO,HG,HR,HF,HC,HKJ⟩:=hrel
  obtain ⟨oa,oc,rfl⟩:=HO.out.shape
  obtain ⟨⟨x,s1⟩,hx⟩:∃ q,one sj=q:=⟨_,rfl⟩
  have HC1:=Lh (HONE.out sj wr HKJ.out HG.out HP.out)
  rw [hx] at HC1
  have HX:=Lh hx
  have HSK:Hid (sj.k ≤ s1.k):=Lh kb12
  clear hx
  obtain ⟨f',rfl⟩:∃ f',f=f' + 1:=⟨f - 1,by have:=HF.out;omega⟩
  go_wp2_with fail
  refine HC1.out.mono ?_
  rintro e2 w2 ⟨xv,rfl,hn2,hp2,hg2⟩
  have HN2:=Lh hn2
  have HP2:Hid (PB w0 r tv L en s1 w2):=Lh hp2
  have HG2:=Lh (Za HG.out hg2)
  have HO2:=Lh (HO.out.grown hg2 HLT.out)
  have HOLD:=Lh (fun k hk=>(World.ownsRow.lt HO.out.own k hk).2)
  have HLO:Hid (∀ k,(Value.slice oa O.length oc).ownBlock=some k→w.heap.size ≤ k):=Lh (fun k hk=>(World.ownsRow.lt HO.out.own k hk).1)
  have HSZ:Hid (wr.heap.size ≤ w2.heap.size):=Lh hg2.size
  have HW:Hid (w.heap.size ≤ wr.heap.size):=Lh HG.out.size
  clear hn2 hp2 hg2
  have HK2:=Lh (okP w2 HP2.out)
  by_cases h0:s1.e=0
  ·have d0:decide (s1.e=0)=true:=decide_eq_true h0
   rw [d0] at HK2
   have H0:=Lh h0
   clear d0 h0
   go_wp2_with fail
   refine HK2.out.mono ?_
   rintro e3 w4 ⟨rfl,rfl⟩
   obtain ⟨c,hc8,hc1,hcn,hbs⟩:=heRow _ _ _ _ HN2.out
   have HC8:=Lh hc8
   have HC11:=Lh hc1
   have HCN:=Lh hcn
   clear hc8 hc1 hcn
   have HR3:=Lh (Zc w2 28 c.toArray)
   have HW3:=Lh ((Below.refl _ w2).alloc (Nat.le_refl _) (.cells c.toArray 28))
   have HOL:Hid (cs.length=O.length):=Lh HO2.out.len
   go_wp2_with (at_builtin;refine Zae rfl (.tmp 12) (.tmp 14) 24 rfl w.heap.size 28 1 24 elRow (.slice oa O.length oc) cs.length cs.flatten rfl (HO2.out.later HW3.out).own _ 1 c rfl HC8.out (fun j u hj=>HR3.out.cell (by simpa using hj)) HC11.out (by have:=HC.out;have:=HP.out.hk;have:=HL.out;unfold maxLen;omega) (by have:=HC.out;have:=HP.out.hk;have:=HL.out;omega) (by have:=HW.out;have:=HSZ.out;simp;omega) ?_;intro v' w5 hown5 hg5 hv5;have HO5:=Lh ((HO2.out.later HW3.out).snoc hown5 hg5 hv5 HC8.out (HCN.out.below HW3.out) HW.out HOLD.out);have HP5:=Lh ((HP2.out.later HW3.out).row hg5 (fun k hk=>by have h1:=HLO.out k hk;have h2:=HLT.out;omega));have HG5:=Lh (Zds (Za HG2.out (below_grown HW3.out)) hg5 HLO.out);clear hown5 hv5 hg5)
   exact ks84
  have d0:decide (s1.e=0)=false:=decide_eq_false h0
  rw [d0] at HK2
  have HZ2:Hid (Z=([],s1)):=Lh kb30
  clear d0 h0
  go_wp2_with fail
  refine HK2.out.mono ?_
  rintro e3 w4 ⟨rfl,rfl⟩
  go_wp2_with fail
  go_ret
  exact ⟨_,rfl,by rw [HZ2.out];exact (Ze3.nil 28 1 Zo3 _ _).done,by rw [HZ2.out];exact HP2.out,HG2.out⟩):p:=h
end nr342
open nr342 in
theorem listRow {one:Rd (List PE)} (hmono:∀ s:PS,s.k ≤ (one s).2.k) (fv:Value) (q:Nat) (hfv:fv = .func (.func 79) #[] #[pV q]) (w:World) (k0:Nat) (hone:Zks w0 r tv L en w k0 79 #[pV q] one Zbq)
 (s:PS) (hk0:k0 ≤ s.k) (h:PB w0 r tv L en s w):Calls Tryz.prog 78 #[pV r,fv] w fun e w'=>
 ∃ v,e = .returned v∧New w.heap.size w' (fun u=>SlR 1 Zo3 u v (listM L en one FU s).1)∧PB w0 r tv L en (listM L en one FU s).2 w'∧w.grownBy w' (some r):=by exact kp1
end
end Go.Proofs.YtmdogmpcmkfjpaaGreatDoor.Dt
namespace Go.Proofs.YtmdogmpcmkfjpaaGreatDoor.Dt
open Go.RowKit Go.Proofs.YtmdogmpcmkfjpaaGreatDoor.By
section
variable {w0:World} {r:Nat} {tv:Value} {L:List Tk} {en:Int}
theorem kf2 {p:Prop} (h:p:=by
 obtain ⟨s1,h1⟩:∃ s1,(mustM L en [Z9] s).2=s1:=⟨_,rfl⟩
 obtain ⟨⟨l,s2⟩,h2⟩:∃ q,listM L en one FU s1=q:=⟨_,rfl⟩
 obtain ⟨s3,h3⟩:∃ s3,(mustM L en [Zp] s2).2=s3:=⟨_,rfl⟩
 have hz:insideM L en one FU s=(l,s3):=by
  unfold insideM
  rw [Za1 (x:=()) (s1:=s1) (by rw [← h1]),Za1 h2,Za1 (x:=()) (s1:=s3) (by rw [← h3])]
  rfl
 rw [hz]
 have hm1:k0 ≤ s1.k:=Nat.le_trans hk0 (by rw [← h1];exact (Zc3 [Z9] s).1)
 have HK:=Lh hm1
 have HM1:=Lh (Zaw Z9 w h)
 rw [h1] at HM1
 have HONE:=Lh hone
 have HMO:=Lh hmono
 have HLT:=Lh h.lt
 have H2:=Lh h2
 have H3:=Lh h3
 clear hz hk0 hm1 h hone hmono h1 h2 h3
 go_enter q2_0,q2_1
 go_wp2_with fail
 refine HM1.out.mono ?_
 rintro e1 w1 ⟨rfl,hp1,hg1⟩
 have HG1:=Lh hg1
 have HL:=Lh (q2_2 (L:=L) (en:=en) HMO.out _ rfl w1 k0 (HONE.out.grown hg1 (Nat.le_refl _)) s1 HK.out hp1)
 rw [H2.out] at HL
 clear hp1 hg1
 go_wp2_with fail
 refine HL.out.mono ?_
 rintro e2 w2 ⟨v,rfl,hn2,hp2,hg2⟩
 have HG2:=Lh (Za HG1.out hg2)
 have HN2:=Lh (hn2.mono HG1.out.size)
 have HM3:=Lh (Zaw Zp w2 hp2)
 rw [H3.out] at HM3
 clear hp2 hg2 hn2
 go_wp2_with fail
 refine HM3.out.mono ?_
 rintro e3 w3 ⟨rfl,hp3,hg3⟩
 have HP3:=Lh hp3
 have HG3:=Lh (Za HG2.out hg3)
 have HN3:=Lh (HN2.out.grown hg3 HLT.out)
 clear hp3 hg3
 go_wp2_with fail
 go_ret
 exact ⟨_,rfl,HN3.out,HP3.out,HG3.out⟩):p:=h
namespace n2_0
abbrev q2_0:=@Tryz.func77
abbrev q2_1:=@Tryz.ntmps77
abbrev q2_2:=@Zsj
end n2_0
open n2_0 in
theorem Zof {one:Rd ByteArray} (hmono:∀ s:PS,s.k ≤ (one s).2.k) (w:World) (k0:Nat) (hone:Zks w0 r tv L en w k0 76 #[pV r] one SvR)
 (s:PS) (hk0:k0 ≤ s.k) (h:PB w0 r tv L en s w):Calls Tryz.prog 77 #[pV r,.func (.func 76) #[pV r] #[]] w fun e w'=>
 ∃ v,e = .returned v∧New w.heap.size w' (fun u=>SlR 1 SR u v (insideM L en one FU s).1)∧PB w0 r tv L en (insideM L en one FU s).2 w'∧w.grownBy w' (some r):=by exact kf2
namespace n2_1
abbrev q2_0:=@Tryz.func80
abbrev q2_1:=@Tryz.ntmps80
abbrev q2_2:=@Zrb
end n2_1
open n2_1 in
theorem Zsk {one:Rd PE} (hmono:∀ s:PS,s.k ≤ (one s).2.k) (w:World) (k0:Nat) (hone:Zks w0 r tv L en w k0 31 #[pV r] one (AgV ExR))
 (s:PS) (hk0:k0 ≤ s.k) (h:PB w0 r tv L en s w):Calls Tryz.prog 80 #[pV r,.func (.func 31) #[pV r] #[]] w fun e w'=>
 ∃ v,e = .returned v∧New w.heap.size w' (fun u=>SlR 8 ExR u v (insideM L en one FU s).1)∧PB w0 r tv L en (insideM L en one FU s).2 w'∧w.grownBy w' (some r):=by exact kf2
end
end Go.Proofs.YtmdogmpcmkfjpaaGreatDoor.Dt
