import Derived.Test.YtmdogmpcmkfjpaaGreatDoorBn17
import Derived.Test.YtmdogmpcmkfjpaaGreatDoorBn18
/- Part of the proof (merged). -/
namespace Go.Proofs.YtmdogmpcmkfjpaaGreatDoor.Dt
open Go.RowKit Go.Proofs.YtmdogmpcmkfjpaaGreatDoor.By
attribute [local go_sem ↓] veilBs_eq veilSt_ex veilSt_it veilSt_od veilSt_se veilLd_ex veilLd_it veilLd_od veilLd_se
attribute [local go_sem] run_exNew run_itNew run_odNew run_seNew run_exLd run_itLd run_odLd run_seLd
section
variable {w0:World} {r:Nat} {tv:Value} {L:List Tk} {en:Int}
set_option maxRecDepth 100000 in
set_option maxHeartbeats 8000000 in
theorem listString {one:Rd ByteArray} (hmono:∀ s:PS,s.k ≤ (one s).2.k) (fv:Value) (hfv:fv = .func (.func 76) #[.pointer (some ⟨r,0,none⟩)] #[]) (w:World) (k0:Nat) (hone:PRun w0 r tv L en w k0 76 #[.pointer (some ⟨r,0,none⟩)] one SvR)
 (s:PS) (hk0:k0 ≤ s.k) (h:PB w0 r tv L en s w):Calls Tryz.prog 121 #[.pointer (some ⟨r,0,none⟩),fv] w fun e w'=>
 ∃ v,e = .returned v∧New w.heap.size w' (fun u=>SlR 1 SR u v (listM L en one FU s).1)∧PB w0 r tv L en (listM L en one FU s).2 w'∧w.grownBy w' (some r):=by
 obtain ⟨Z,hZ⟩:∃ Z,Z=listM L en one FU s:=⟨_,rfl⟩
 have HZ:Hid (Z=cL [] (listM L en one FU s)):=Lib.hid (by rw [hZ,cL_nil])
 rw [← hZ]
 have HLT:Hid (r < w.heap.size):=Lib.hid h.lt
 have HL:Hid (L.length ≤ 4096):=Lib.hid h.hl
 have H:=Lib.hid h
 have HONE:=Lib.hid hone
 have HM:=Lib.hid hmono
 have HK:=Lib.hid hk0
 have HFU:Hid (L.length - s.k < FU):=Lib.hid (by have:=h.hl;show _ < 100000;omega)
 subst hfv
 clear h hone hmono hk0 hZ
 go_enter Tryz.func121,Tryz.ntmps121
 go_wp2_with fail
 go_loopg [5] (L.length + 1 - s.k) (fun gk ov wr=>∃ (O:List ByteArray) (cs:List (List Value)) (sj:PS) (f:Nat),gk=L.length + 1 - sj.k∧Hid (PB w0 r tv L en sj wr)∧Hid (OwnL 9 1 SR w.heap.size wr ov O cs)∧Hid (w.grownBy wr (some r)) ∧
  Hid (Z=cL O (listM L en one f sj))∧Hid (L.length - sj.k < f)∧Hid (cs.length ≤ sj.k)∧Hid (k0 ≤ sj.k))
 case atStart=>exact ⟨[],[],s,FU,rfl,H,Lib.hid (OwnL.nil _ _ _ _ _),Lib.hid (World.grownBy.refl _ _),HZ,HFU,Lib.hid (Nat.zero_le _),HK⟩
 case round=>
  obtain ⟨O,cs,sj,f,rfl,HP,HO,HG,HR,HF,HC,HKJ⟩:=hrel
  obtain ⟨oa,oc,rfl⟩:=HO.out.shape
  obtain ⟨⟨x,s1⟩,hx⟩:∃ q,one sj=q:=⟨_,rfl⟩
  have HC1:=Lib.hid (HONE.out sj wr HKJ.out HG.out HP.out)
  rw [hx] at HC1
  have HX:=Lib.hid hx
  have HSK:Hid (sj.k ≤ s1.k):=Lib.hid (by have:=HM.out sj;rw [hx] at this;exact this)
  clear hx
  obtain ⟨f',rfl⟩:∃ f',f=f' + 1:=⟨f - 1,by have:=HF.out;omega⟩
  go_wp2_with fail
  refine HC1.out.mono ?_
  rintro e2 w2 ⟨xv,rfl,hn2,hp2,hg2⟩
  have HN2:=Lib.hid hn2
  have HP2:Hid (PB w0 r tv L en s1 w2):=Lib.hid hp2
  have HG2:=Lib.hid (grown_trans HG.out hg2)
  have HO2:=Lib.hid (HO.out.grown hg2 HLT.out)
  have HOLD:=Lib.hid (fun k hk=>(World.ownsRow.lt HO.out.own k hk).2)
  have HLO:Hid (∀ k,(Value.slice oa O.length oc).ownBlock=some k→w.heap.size ≤ k):=Lib.hid (fun k hk=>(World.ownsRow.lt HO.out.own k hk).1)
  have HSZ:Hid (wr.heap.size ≤ w2.heap.size):=Lib.hid hg2.size
  have HW:Hid (w.heap.size ≤ wr.heap.size):=Lib.hid HG.out.size
  clear hn2 hp2 hg2
  have HK2:=Lib.hid (okP w2 HP2.out)
  by_cases h0:s1.e=0
  ·have d0:decide (s1.e=0)=true:=decide_eq_true h0
   rw [d0] at HK2
   have H0:=Lib.hid h0
   clear d0 h0
   go_wp2_with fail
   refine HK2.out.mono ?_
   rintro e3 w4 ⟨rfl,rfl⟩
   obtain ⟨c,hc8,hc1,hcn,hbs⟩:=hes _ _ _ _ HN2.out
   have HC8:=Lib.hid hc8
   have HC11:=Lib.hid hc1
   have HCN:=Lib.hid hcn
   clear hc8 hc1 hcn
   have HR3:=Lib.hid (row_alloc w2 9 c.toArray)
   have HW3:=Lib.hid ((Below.refl _ w2).alloc (Nat.le_refl _) (.cells c.toArray 9))
   have HOL:Hid (cs.length=O.length):=Lib.hid HO2.out.len
   go_wp2_with (at_builtin;refine wpList_append_one rfl (.tmp 12) (.tmp 14) 23 rfl w.heap.size 9 1 16 elS (.slice oa O.length oc) cs.length cs.flatten rfl (HO2.out.later HW3.out).own _ 1 c rfl HC8.out (fun j u hj=>HR3.out.cell (by simpa using hj)) HC11.out (by have:=HC.out;have:=HP.out.hk;have:=HL.out;unfold maxLen;omega) (by have:=HC.out;have:=HP.out.hk;have:=HL.out;omega) (by have:=HW.out;have:=HSZ.out;simp;omega) ?_;intro v' w5 hown5 hg5 hv5;have HO5:=Lib.hid ((HO2.out.later HW3.out).snoc hown5 hg5 hv5 HC8.out (HCN.out.below HW3.out) HW.out HOLD.out);have HP5:=Lib.hid ((HP2.out.later HW3.out).row hg5 (fun k hk=>by have h1:=HLO.out k hk;have h2:=HLT.out;omega));have HG5:=Lib.hid (grown_row (grown_trans HG2.out (below_grown HW3.out)) hg5 HLO.out);clear hown5 hv5 hg5)
   refine (isW BCOMMA w5 HP5.out).mono ?_
   rintro e6 w6 ⟨rfl,hp6,hg6⟩
   have HO6:=Lib.hid (HO5.out.grown hg6 HLT.out)
   have HG6:=Lib.hid (grown_trans HG5.out hg6)
   have HP6:=Lib.hid hp6
   clear hp6 hg6 hbs
   obtain ⟨B,hB⟩:∃ B,isB L en BCOMMA s1=B:=⟨_,rfl⟩
   have HB:=Lib.hid hB
   rw [isM_snd,hB] at HP6
   rw [hB]
   clear hB
   cases B
   ·have HZ2:Hid (Z=(O ++ [x],s1)):=Lib.hid (by rw [HR.out,cL_end HX.out H0.out HB.out])
    have HP7:Hid (PB w0 r tv L en s1 w6):=HP6
    go_wp2_with fail
    go_ret
    exact ⟨_,rfl,by rw [HZ2.out];exact HO6.out.done,by rw [HZ2.out];exact HP7.out,HG6.out⟩
   ·have HP7:Hid (PB w0 r tv L en s1.next w6):=HP6
    have HLT1:=Lib.hid (isM_lt (L:=L) (en:=en) (t:=BCOMMA) (s:=s1) HB.out).2
    go_wp2_with fail
    go_roundg (L.length + 1 - s1.next.k)
    case measure=>have h1:=HSK.out;have h2:=HLT1.out;show L.length + 1 - (s1.k + 1) < _;omega
    case rel=>
     refine ⟨O ++ [x],cs ++ [c],s1.next,f',rfl,HP7,HO6,HG6,Lib.hid ?_,Lib.hid ?_,Lib.hid ?_,Lib.hid ?_⟩
     ·rw [HR.out,cL_more HX.out H0.out HB.out]
     ·have h1:=HF.out;have h2:=HSK.out;have h3:=HLT1.out;show L.length - (s1.k + 1) < f';omega
     ·have h1:=HC.out;have h2:=HSK.out;rw [List.length_append];show cs.length + 1 ≤ s1.k + 1;omega
     ·have h1:=HKJ.out;have h2:=HSK.out;show k0 ≤ s1.k + 1;omega
  ·have d0:decide (s1.e=0)=false:=decide_eq_false h0
   rw [d0] at HK2
   have HZ2:Hid (Z=([],s1)):=Lib.hid (by rw [HR.out,cL_bad HX.out h0])
   clear d0 h0
   go_wp2_with fail
   refine HK2.out.mono ?_
   rintro e3 w4 ⟨rfl,rfl⟩
   go_wp2_with fail
   go_ret
   exact ⟨_,rfl,by rw [HZ2.out];exact (OwnL.nil 9 1 SR _ _).done,by rw [HZ2.out];exact HP2.out,HG2.out⟩
set_option maxRecDepth 100000 in
set_option maxHeartbeats 8000000 in
theorem listExpr {one:Rd PE} (hmono:∀ s:PS,s.k ≤ (one s).2.k) (fv:Value) (hfv:fv = .func (.func 31) #[.pointer (some ⟨r,0,none⟩)] #[]) (w:World) (k0:Nat) (hone:PRun w0 r tv L en w k0 31 #[.pointer (some ⟨r,0,none⟩)] one (AgV ExR))
 (s:PS) (hk0:k0 ≤ s.k) (h:PB w0 r tv L en s w):Calls Tryz.prog 122 #[.pointer (some ⟨r,0,none⟩),fv] w fun e w'=>
 ∃ v,e = .returned v∧New w.heap.size w' (fun u=>SlR 8 ExR u v (listM L en one FU s).1)∧PB w0 r tv L en (listM L en one FU s).2 w'∧w.grownBy w' (some r):=by
 obtain ⟨Z,hZ⟩:∃ Z,Z=listM L en one FU s:=⟨_,rfl⟩
 have HZ:Hid (Z=cL [] (listM L en one FU s)):=Lib.hid (by rw [hZ,cL_nil])
 rw [← hZ]
 have HLT:Hid (r < w.heap.size):=Lib.hid h.lt
 have HL:Hid (L.length ≤ 4096):=Lib.hid h.hl
 have H:=Lib.hid h
 have HONE:=Lib.hid hone
 have HM:=Lib.hid hmono
 have HK:=Lib.hid hk0
 have HFU:Hid (L.length - s.k < FU):=Lib.hid (by have:=h.hl;show _ < 100000;omega)
 subst hfv
 clear h hone hmono hk0 hZ
 go_enter Tryz.func122,Tryz.ntmps122
 go_wp2_with fail
 go_loopg [5] (L.length + 1 - s.k) (fun gk ov wr=>∃ (O:List PE) (cs:List (List Value)) (sj:PS) (f:Nat),gk=L.length + 1 - sj.k∧Hid (PB w0 r tv L en sj wr)∧Hid (OwnL 48 8 ExR w.heap.size wr ov O cs)∧Hid (w.grownBy wr (some r)) ∧
  Hid (Z=cL O (listM L en one f sj))∧Hid (L.length - sj.k < f)∧Hid (cs.length ≤ sj.k)∧Hid (k0 ≤ sj.k))
 case atStart=>exact ⟨[],[],s,FU,rfl,H,Lib.hid (OwnL.nil _ _ _ _ _),Lib.hid (World.grownBy.refl _ _),HZ,HFU,Lib.hid (Nat.zero_le _),HK⟩
 case round=>
  obtain ⟨O,cs,sj,f,rfl,HP,HO,HG,HR,HF,HC,HKJ⟩:=hrel
  obtain ⟨oa,oc,rfl⟩:=HO.out.shape
  obtain ⟨⟨x,s1⟩,hx⟩:∃ q,one sj=q:=⟨_,rfl⟩
  have HC1:=Lib.hid (HONE.out sj wr HKJ.out HG.out HP.out)
  rw [hx] at HC1
  have HX:=Lib.hid hx
  have HSK:Hid (sj.k ≤ s1.k):=Lib.hid (by have:=HM.out sj;rw [hx] at this;exact this)
  clear hx
  obtain ⟨f',rfl⟩:∃ f',f=f' + 1:=⟨f - 1,by have:=HF.out;omega⟩
  go_wp2_with fail
  refine HC1.out.mono ?_
  rintro e2 w2 ⟨xv,rfl,hn2,hp2,hg2⟩
  have HN2:=Lib.hid hn2
  have HP2:Hid (PB w0 r tv L en s1 w2):=Lib.hid hp2
  have HG2:=Lib.hid (grown_trans HG.out hg2)
  have HO2:=Lib.hid (HO.out.grown hg2 HLT.out)
  have HOLD:=Lib.hid (fun k hk=>(World.ownsRow.lt HO.out.own k hk).2)
  have HLO:Hid (∀ k,(Value.slice oa O.length oc).ownBlock=some k→w.heap.size ≤ k):=Lib.hid (fun k hk=>(World.ownsRow.lt HO.out.own k hk).1)
  have HSZ:Hid (wr.heap.size ≤ w2.heap.size):=Lib.hid hg2.size
  have HW:Hid (w.heap.size ≤ wr.heap.size):=Lib.hid HG.out.size
  clear hn2 hp2 hg2
  obtain ⟨c,rfl,hc8,hc1,hok,hcn⟩:=heB exCells _ _ _ _ HN2.out
  have hB:=(Below.refl _ w2).alloc (Nat.le_refl _) (.cells c.toArray 48)
  have hR:=row_alloc w2 48 c.toArray
  have hbs:∀ W,(veilBs 28 1 #[(0,.agg c.toArray)]).run Tryz.prog W = .ok (.slice (some ⟨W.heap.size,0,none⟩) 1 1) (W.alloc (.cells c.toArray 48)):=run_bsEx c.toArray (by simpa using hc8)
  have hrb:=hR.b (n:=8) (by simpa using hc8)
  have hro:=hR.of
  replace HP2:=Lib.hid (HP2.out.later hB)
  replace HG2:=Lib.hid (grown_trans HG2.out (below_grown hB))
  replace HO2:=Lib.hid (HO2.out.later hB)
  replace HSZ:=Lib.hid (Nat.le_trans HSZ.out hB.size)
  have HC8:=Lib.hid hc8
  have HC11:=Lib.hid hc1
  have HCN:=Lib.hid (hcn.below hB)
  have HBS:=Lib.hid hbs
  clear hc8 hc1 hcn hB hR HN2 hbs
  go_upto_region 3 with fail
  generalize w2.alloc (.cells c.toArray 48)=w3 at *
  generalize w2.heap.size=gq at *
  clear hok
  have HK2:=Lib.hid (okP w3 HP2.out)
  by_cases h0:s1.e=0
  ·have d0:decide (s1.e=0)=true:=decide_eq_true h0
   rw [d0] at HK2
   have H0:=Lib.hid h0
   clear d0 h0
   go_wp2_with fail
   refine HK2.out.mono ?_
   rintro e3 w4 ⟨rfl,rfl⟩
   have hbs:=HBS.out
   have HR3:=Lib.hid (row_alloc w3 48 c.toArray)
   have HW3:=Lib.hid ((Below.refl _ w3).alloc (Nat.le_refl _) (.cells c.toArray 48))
   have HOL:Hid (cs.length=O.length):=Lib.hid HO2.out.len
   go_wp2_with (at_builtin;refine wpList_append_one rfl (.tmp 12) (.tmp 14) 28 rfl w.heap.size 48 8 104 elEx (.slice oa O.length oc) cs.length cs.flatten rfl (HO2.out.later HW3.out).own _ 1 c rfl HC8.out (fun j u hj=>HR3.out.cell (by simpa using hj)) HC11.out (by have:=HC.out;have:=HP.out.hk;have:=HL.out;unfold maxLen;omega) (by have:=HC.out;have:=HP.out.hk;have:=HL.out;omega) (by have:=HW.out;have:=HSZ.out;simp;omega) ?_;intro v' w5 hown5 hg5 hv5;have HO5:=Lib.hid ((HO2.out.later HW3.out).snoc hown5 hg5 hv5 HC8.out (HCN.out.below HW3.out) HW.out HOLD.out);have HP5:=Lib.hid ((HP2.out.later HW3.out).row hg5 (fun k hk=>by have h1:=HLO.out k hk;have h2:=HLT.out;omega));have HG5:=Lib.hid (grown_row (grown_trans HG2.out (below_grown HW3.out)) hg5 HLO.out);clear hown5 hv5 hg5)
   refine (isW BCOMMA w5 HP5.out).mono ?_
   rintro e6 w6 ⟨rfl,hp6,hg6⟩
   have HO6:=Lib.hid (HO5.out.grown hg6 HLT.out)
   have HG6:=Lib.hid (grown_trans HG5.out hg6)
   have HP6:=Lib.hid hp6
   clear hp6 hg6 hbs hrb hro
   obtain ⟨B,hB⟩:∃ B,isB L en BCOMMA s1=B:=⟨_,rfl⟩
   have HB:=Lib.hid hB
   rw [isM_snd,hB] at HP6
   rw [hB]
   clear hB
   cases B
   ·have HZ2:Hid (Z=(O ++ [x],s1)):=Lib.hid (by rw [HR.out,cL_end HX.out H0.out HB.out])
    have HP7:Hid (PB w0 r tv L en s1 w6):=HP6
    go_wp2_with fail
    go_ret
    exact ⟨_,rfl,by rw [HZ2.out];exact HO6.out.done,by rw [HZ2.out];exact HP7.out,HG6.out⟩
   ·have HP7:Hid (PB w0 r tv L en s1.next w6):=HP6
    have HLT1:=Lib.hid (isM_lt (L:=L) (en:=en) (t:=BCOMMA) (s:=s1) HB.out).2
    go_wp2_with fail
    go_roundg (L.length + 1 - s1.next.k)
    case measure=>have h1:=HSK.out;have h2:=HLT1.out;show L.length + 1 - (s1.k + 1) < _;omega
    case rel=>
     refine ⟨O ++ [x],cs ++ [c],s1.next,f',rfl,HP7,HO6,HG6,Lib.hid ?_,Lib.hid ?_,Lib.hid ?_,Lib.hid ?_⟩
     ·rw [HR.out,cL_more HX.out H0.out HB.out]
     ·have h1:=HF.out;have h2:=HSK.out;have h3:=HLT1.out;show L.length - (s1.k + 1) < f';omega
     ·have h1:=HC.out;have h2:=HSK.out;rw [List.length_append];show cs.length + 1 ≤ s1.k + 1;omega
     ·have h1:=HKJ.out;have h2:=HSK.out;show k0 ≤ s1.k + 1;omega
  ·have d0:decide (s1.e=0)=false:=decide_eq_false h0
   rw [d0] at HK2
   have HZ2:Hid (Z=([],s1)):=Lib.hid (by rw [HR.out,cL_bad HX.out h0])
   clear d0 h0
   go_wp2_with fail
   refine HK2.out.mono ?_
   rintro e3 w4 ⟨rfl,rfl⟩
   go_wp2_with fail
   go_ret
   exact ⟨_,rfl,by rw [HZ2.out];exact (OwnL.nil 48 8 ExR _ _).done,by rw [HZ2.out];exact HP2.out,HG2.out⟩
set_option maxRecDepth 100000 in
set_option maxHeartbeats 8000000 in
theorem listItem {one:Rd (PE × ByteArray)} (hmono:∀ s:PS,s.k ≤ (one s).2.k) (fv:Value) (q:Nat) (hfv:fv = .func (.func 124) #[] #[.pointer (some ⟨q,0,none⟩)]) (w:World) (k0:Nat) (hone:PRun w0 r tv L en w k0 124 #[.pointer (some ⟨q,0,none⟩)] one (AgV ItemR))
 (s:PS) (hk0:k0 ≤ s.k) (h:PB w0 r tv L en s w):Calls Tryz.prog 123 #[.pointer (some ⟨r,0,none⟩),fv] w fun e w'=>
 ∃ v,e = .returned v∧New w.heap.size w' (fun u=>SlR 9 ItemR u v (listM L en one FU s).1)∧PB w0 r tv L en (listM L en one FU s).2 w'∧w.grownBy w' (some r):=by
 obtain ⟨Z,hZ⟩:∃ Z,Z=listM L en one FU s:=⟨_,rfl⟩
 have HZ:Hid (Z=cL [] (listM L en one FU s)):=Lib.hid (by rw [hZ,cL_nil])
 rw [← hZ]
 have HLT:Hid (r < w.heap.size):=Lib.hid h.lt
 have HL:Hid (L.length ≤ 4096):=Lib.hid h.hl
 have H:=Lib.hid h
 have HONE:=Lib.hid hone
 have HM:=Lib.hid hmono
 have HK:=Lib.hid hk0
 have HFU:Hid (L.length - s.k < FU):=Lib.hid (by have:=h.hl;show _ < 100000;omega)
 subst hfv
 clear h hone hmono hk0 hZ
 go_enter Tryz.func123,Tryz.ntmps123
 go_wp2_with fail
 go_loopg [5] (L.length + 1 - s.k) (fun gk ov wr=>∃ (O:List (PE × ByteArray)) (cs:List (List Value)) (sj:PS) (f:Nat),gk=L.length + 1 - sj.k∧Hid (PB w0 r tv L en sj wr)∧Hid (OwnL 106 9 ItemR w.heap.size wr ov O cs)∧Hid (w.grownBy wr (some r)) ∧
  Hid (Z=cL O (listM L en one f sj))∧Hid (L.length - sj.k < f)∧Hid (cs.length ≤ sj.k)∧Hid (k0 ≤ sj.k))
 case atStart=>exact ⟨[],[],s,FU,rfl,H,Lib.hid (OwnL.nil _ _ _ _ _),Lib.hid (World.grownBy.refl _ _),HZ,HFU,Lib.hid (Nat.zero_le _),HK⟩
 case round=>
  obtain ⟨O,cs,sj,f,rfl,HP,HO,HG,HR,HF,HC,HKJ⟩:=hrel
  obtain ⟨oa,oc,rfl⟩:=HO.out.shape
  obtain ⟨⟨x,s1⟩,hx⟩:∃ q,one sj=q:=⟨_,rfl⟩
  have HC1:=Lib.hid (HONE.out sj wr HKJ.out HG.out HP.out)
  rw [hx] at HC1
  have HX:=Lib.hid hx
  have HSK:Hid (sj.k ≤ s1.k):=Lib.hid (by have:=HM.out sj;rw [hx] at this;exact this)
  clear hx
  obtain ⟨f',rfl⟩:∃ f',f=f' + 1:=⟨f - 1,by have:=HF.out;omega⟩
  go_wp2_with fail
  refine HC1.out.mono ?_
  rintro e2 w2 ⟨xv,rfl,hn2,hp2,hg2⟩
  have HN2:=Lib.hid hn2
  have HP2:Hid (PB w0 r tv L en s1 w2):=Lib.hid hp2
  have HG2:=Lib.hid (grown_trans HG.out hg2)
  have HO2:=Lib.hid (HO.out.grown hg2 HLT.out)
  have HOLD:=Lib.hid (fun k hk=>(World.ownsRow.lt HO.out.own k hk).2)
  have HLO:Hid (∀ k,(Value.slice oa O.length oc).ownBlock=some k→w.heap.size ≤ k):=Lib.hid (fun k hk=>(World.ownsRow.lt HO.out.own k hk).1)
  have HSZ:Hid (wr.heap.size ≤ w2.heap.size):=Lib.hid hg2.size
  have HW:Hid (w.heap.size ≤ wr.heap.size):=Lib.hid HG.out.size
  clear hn2 hp2 hg2
  obtain ⟨c,rfl,hc8,hc1,hok,hcn⟩:=heB itemCells _ _ _ _ HN2.out
  have hB:=(Below.refl _ w2).alloc (Nat.le_refl _) (.cells c.toArray 106)
  have hR:=row_alloc w2 106 c.toArray
  have hbs:∀ W,(veilBs 26 1 #[(0,.agg c.toArray)]).run Tryz.prog W = .ok (.slice (some ⟨W.heap.size,0,none⟩) 1 1) (W.alloc (.cells c.toArray 106)):=run_bsItem c.toArray (by simpa using hc8)
  have hrb:=hR.b (n:=9) (by simpa using hc8)
  have hro:=hR.of
  replace HP2:=Lib.hid (HP2.out.later hB)
  replace HG2:=Lib.hid (grown_trans HG2.out (below_grown hB))
  replace HO2:=Lib.hid (HO2.out.later hB)
  replace HSZ:=Lib.hid (Nat.le_trans HSZ.out hB.size)
  have HC8:=Lib.hid hc8
  have HC11:=Lib.hid hc1
  have HCN:=Lib.hid (hcn.below hB)
  have HBS:=Lib.hid hbs
  clear hc8 hc1 hcn hB hR HN2 hbs
  go_upto_region 3 with fail
  generalize w2.alloc (.cells c.toArray 106)=w3 at *
  generalize w2.heap.size=gq at *
  clear hok
  have HK2:=Lib.hid (okP w3 HP2.out)
  by_cases h0:s1.e=0
  ·have d0:decide (s1.e=0)=true:=decide_eq_true h0
   rw [d0] at HK2
   have H0:=Lib.hid h0
   clear d0 h0
   go_wp2_with fail
   refine HK2.out.mono ?_
   rintro e3 w4 ⟨rfl,rfl⟩
   have hbs:=HBS.out
   have HR3:=Lib.hid (row_alloc w3 106 c.toArray)
   have HW3:=Lib.hid ((Below.refl _ w3).alloc (Nat.le_refl _) (.cells c.toArray 106))
   have HOL:Hid (cs.length=O.length):=Lib.hid HO2.out.len
   go_wp2_with (at_builtin;refine wpList_append_one rfl (.tmp 12) (.tmp 14) 26 rfl w.heap.size 106 9 120 elItem (.slice oa O.length oc) cs.length cs.flatten rfl (HO2.out.later HW3.out).own _ 1 c rfl HC8.out (fun j u hj=>HR3.out.cell (by simpa using hj)) HC11.out (by have:=HC.out;have:=HP.out.hk;have:=HL.out;unfold maxLen;omega) (by have:=HC.out;have:=HP.out.hk;have:=HL.out;omega) (by have:=HW.out;have:=HSZ.out;simp;omega) ?_;intro v' w5 hown5 hg5 hv5;have HO5:=Lib.hid ((HO2.out.later HW3.out).snoc hown5 hg5 hv5 HC8.out (HCN.out.below HW3.out) HW.out HOLD.out);have HP5:=Lib.hid ((HP2.out.later HW3.out).row hg5 (fun k hk=>by have h1:=HLO.out k hk;have h2:=HLT.out;omega));have HG5:=Lib.hid (grown_row (grown_trans HG2.out (below_grown HW3.out)) hg5 HLO.out);clear hown5 hv5 hg5)
   refine (isW BCOMMA w5 HP5.out).mono ?_
   rintro e6 w6 ⟨rfl,hp6,hg6⟩
   have HO6:=Lib.hid (HO5.out.grown hg6 HLT.out)
   have HG6:=Lib.hid (grown_trans HG5.out hg6)
   have HP6:=Lib.hid hp6
   clear hp6 hg6 hbs hrb hro
   obtain ⟨B,hB⟩:∃ B,isB L en BCOMMA s1=B:=⟨_,rfl⟩
   have HB:=Lib.hid hB
   rw [isM_snd,hB] at HP6
   rw [hB]
   clear hB
   cases B
   ·have HZ2:Hid (Z=(O ++ [x],s1)):=Lib.hid (by rw [HR.out,cL_end HX.out H0.out HB.out])
    have HP7:Hid (PB w0 r tv L en s1 w6):=HP6
    go_wp2_with fail
    go_ret
    exact ⟨_,rfl,by rw [HZ2.out];exact HO6.out.done,by rw [HZ2.out];exact HP7.out,HG6.out⟩
   ·have HP7:Hid (PB w0 r tv L en s1.next w6):=HP6
    have HLT1:=Lib.hid (isM_lt (L:=L) (en:=en) (t:=BCOMMA) (s:=s1) HB.out).2
    go_wp2_with fail
    go_roundg (L.length + 1 - s1.next.k)
    case measure=>have h1:=HSK.out;have h2:=HLT1.out;show L.length + 1 - (s1.k + 1) < _;omega
    case rel=>
     refine ⟨O ++ [x],cs ++ [c],s1.next,f',rfl,HP7,HO6,HG6,Lib.hid ?_,Lib.hid ?_,Lib.hid ?_,Lib.hid ?_⟩
     ·rw [HR.out,cL_more HX.out H0.out HB.out]
     ·have h1:=HF.out;have h2:=HSK.out;have h3:=HLT1.out;show L.length - (s1.k + 1) < f';omega
     ·have h1:=HC.out;have h2:=HSK.out;rw [List.length_append];show cs.length + 1 ≤ s1.k + 1;omega
     ·have h1:=HKJ.out;have h2:=HSK.out;show k0 ≤ s1.k + 1;omega
  ·have d0:decide (s1.e=0)=false:=decide_eq_false h0
   rw [d0] at HK2
   have HZ2:Hid (Z=([],s1)):=Lib.hid (by rw [HR.out,cL_bad HX.out h0])
   clear d0 h0
   go_wp2_with fail
   refine HK2.out.mono ?_
   rintro e3 w4 ⟨rfl,rfl⟩
   go_wp2_with fail
   go_ret
   exact ⟨_,rfl,by rw [HZ2.out];exact (OwnL.nil 106 9 ItemR _ _).done,by rw [HZ2.out];exact HP2.out,HG2.out⟩
set_option maxRecDepth 100000 in
set_option maxHeartbeats 8000000 in
theorem listOrder {one:Rd (PE × Bool)} (hmono:∀ s:PS,s.k ≤ (one s).2.k) (fv:Value) (q:Nat) (hfv:fv = .func (.func 127) #[] #[.pointer (some ⟨q,0,none⟩)]) (w:World) (k0:Nat) (hone:PRun w0 r tv L en w k0 127 #[.pointer (some ⟨q,0,none⟩)] one (AgV OrderR))
 (s:PS) (hk0:k0 ≤ s.k) (h:PB w0 r tv L en s w):Calls Tryz.prog 126 #[.pointer (some ⟨r,0,none⟩),fv] w fun e w'=>
 ∃ v,e = .returned v∧New w.heap.size w' (fun u=>SlR 9 OrderR u v (listM L en one FU s).1)∧PB w0 r tv L en (listM L en one FU s).2 w'∧w.grownBy w' (some r):=by
 obtain ⟨Z,hZ⟩:∃ Z,Z=listM L en one FU s:=⟨_,rfl⟩
 have HZ:Hid (Z=cL [] (listM L en one FU s)):=Lib.hid (by rw [hZ,cL_nil])
 rw [← hZ]
 have HLT:Hid (r < w.heap.size):=Lib.hid h.lt
 have HL:Hid (L.length ≤ 4096):=Lib.hid h.hl
 have H:=Lib.hid h
 have HONE:=Lib.hid hone
 have HM:=Lib.hid hmono
 have HK:=Lib.hid hk0
 have HFU:Hid (L.length - s.k < FU):=Lib.hid (by have:=h.hl;show _ < 100000;omega)
 subst hfv
 clear h hone hmono hk0 hZ
 go_enter Tryz.func126,Tryz.ntmps126
 go_wp2_with fail
 go_loopg [5] (L.length + 1 - s.k) (fun gk ov wr=>∃ (O:List (PE × Bool)) (cs:List (List Value)) (sj:PS) (f:Nat),gk=L.length + 1 - sj.k∧Hid (PB w0 r tv L en sj wr)∧Hid (OwnL 114 9 OrderR w.heap.size wr ov O cs)∧Hid (w.grownBy wr (some r)) ∧
  Hid (Z=cL O (listM L en one f sj))∧Hid (L.length - sj.k < f)∧Hid (cs.length ≤ sj.k)∧Hid (k0 ≤ sj.k))
 case atStart=>exact ⟨[],[],s,FU,rfl,H,Lib.hid (OwnL.nil _ _ _ _ _),Lib.hid (World.grownBy.refl _ _),HZ,HFU,Lib.hid (Nat.zero_le _),HK⟩
 case round=>
  obtain ⟨O,cs,sj,f,rfl,HP,HO,HG,HR,HF,HC,HKJ⟩:=hrel
  obtain ⟨oa,oc,rfl⟩:=HO.out.shape
  obtain ⟨⟨x,s1⟩,hx⟩:∃ q,one sj=q:=⟨_,rfl⟩
  have HC1:=Lib.hid (HONE.out sj wr HKJ.out HG.out HP.out)
  rw [hx] at HC1
  have HX:=Lib.hid hx
  have HSK:Hid (sj.k ≤ s1.k):=Lib.hid (by have:=HM.out sj;rw [hx] at this;exact this)
  clear hx
  obtain ⟨f',rfl⟩:∃ f',f=f' + 1:=⟨f - 1,by have:=HF.out;omega⟩
  go_wp2_with fail
  refine HC1.out.mono ?_
  rintro e2 w2 ⟨xv,rfl,hn2,hp2,hg2⟩
  have HN2:=Lib.hid hn2
  have HP2:Hid (PB w0 r tv L en s1 w2):=Lib.hid hp2
  have HG2:=Lib.hid (grown_trans HG.out hg2)
  have HO2:=Lib.hid (HO.out.grown hg2 HLT.out)
  have HOLD:=Lib.hid (fun k hk=>(World.ownsRow.lt HO.out.own k hk).2)
  have HLO:Hid (∀ k,(Value.slice oa O.length oc).ownBlock=some k→w.heap.size ≤ k):=Lib.hid (fun k hk=>(World.ownsRow.lt HO.out.own k hk).1)
  have HSZ:Hid (wr.heap.size ≤ w2.heap.size):=Lib.hid hg2.size
  have HW:Hid (w.heap.size ≤ wr.heap.size):=Lib.hid HG.out.size
  clear hn2 hp2 hg2
  obtain ⟨c,rfl,hc8,hc1,hok,hcn⟩:=heB orderCells _ _ _ _ HN2.out
  have hB:=(Below.refl _ w2).alloc (Nat.le_refl _) (.cells c.toArray 114)
  have hR:=row_alloc w2 114 c.toArray
  have hbs:∀ W,(veilBs 29 1 #[(0,.agg c.toArray)]).run Tryz.prog W = .ok (.slice (some ⟨W.heap.size,0,none⟩) 1 1) (W.alloc (.cells c.toArray 114)):=run_bsOrder c.toArray (by simpa using hc8)
  have hrb:=hR.b (n:=9) (by simpa using hc8)
  have hro:=hR.of
  replace HP2:=Lib.hid (HP2.out.later hB)
  replace HG2:=Lib.hid (grown_trans HG2.out (below_grown hB))
  replace HO2:=Lib.hid (HO2.out.later hB)
  replace HSZ:=Lib.hid (Nat.le_trans HSZ.out hB.size)
  have HC8:=Lib.hid hc8
  have HC11:=Lib.hid hc1
  have HCN:=Lib.hid (hcn.below hB)
  have HBS:=Lib.hid hbs
  clear hc8 hc1 hcn hB hR HN2 hbs
  go_upto_region 3 with fail
  generalize w2.alloc (.cells c.toArray 114)=w3 at *
  generalize w2.heap.size=gq at *
  clear hok
  have HK2:=Lib.hid (okP w3 HP2.out)
  by_cases h0:s1.e=0
  ·have d0:decide (s1.e=0)=true:=decide_eq_true h0
   rw [d0] at HK2
   have H0:=Lib.hid h0
   clear d0 h0
   go_wp2_with fail
   refine HK2.out.mono ?_
   rintro e3 w4 ⟨rfl,rfl⟩
   have hbs:=HBS.out
   have HR3:=Lib.hid (row_alloc w3 114 c.toArray)
   have HW3:=Lib.hid ((Below.refl _ w3).alloc (Nat.le_refl _) (.cells c.toArray 114))
   have HOL:Hid (cs.length=O.length):=Lib.hid HO2.out.len
   go_wp2_with (at_builtin;refine wpList_append_one rfl (.tmp 12) (.tmp 14) 29 rfl w.heap.size 114 9 112 elOrder (.slice oa O.length oc) cs.length cs.flatten rfl (HO2.out.later HW3.out).own _ 1 c rfl HC8.out (fun j u hj=>HR3.out.cell (by simpa using hj)) HC11.out (by have:=HC.out;have:=HP.out.hk;have:=HL.out;unfold maxLen;omega) (by have:=HC.out;have:=HP.out.hk;have:=HL.out;omega) (by have:=HW.out;have:=HSZ.out;simp;omega) ?_;intro v' w5 hown5 hg5 hv5;have HO5:=Lib.hid ((HO2.out.later HW3.out).snoc hown5 hg5 hv5 HC8.out (HCN.out.below HW3.out) HW.out HOLD.out);have HP5:=Lib.hid ((HP2.out.later HW3.out).row hg5 (fun k hk=>by have h1:=HLO.out k hk;have h2:=HLT.out;omega));have HG5:=Lib.hid (grown_row (grown_trans HG2.out (below_grown HW3.out)) hg5 HLO.out);clear hown5 hv5 hg5)
   refine (isW BCOMMA w5 HP5.out).mono ?_
   rintro e6 w6 ⟨rfl,hp6,hg6⟩
   have HO6:=Lib.hid (HO5.out.grown hg6 HLT.out)
   have HG6:=Lib.hid (grown_trans HG5.out hg6)
   have HP6:=Lib.hid hp6
   clear hp6 hg6 hbs hrb hro
   obtain ⟨B,hB⟩:∃ B,isB L en BCOMMA s1=B:=⟨_,rfl⟩
   have HB:=Lib.hid hB
   rw [isM_snd,hB] at HP6
   rw [hB]
   clear hB
   cases B
   ·have HZ2:Hid (Z=(O ++ [x],s1)):=Lib.hid (by rw [HR.out,cL_end HX.out H0.out HB.out])
    have HP7:Hid (PB w0 r tv L en s1 w6):=HP6
    go_wp2_with fail
    go_ret
    exact ⟨_,rfl,by rw [HZ2.out];exact HO6.out.done,by rw [HZ2.out];exact HP7.out,HG6.out⟩
   ·have HP7:Hid (PB w0 r tv L en s1.next w6):=HP6
    have HLT1:=Lib.hid (isM_lt (L:=L) (en:=en) (t:=BCOMMA) (s:=s1) HB.out).2
    go_wp2_with fail
    go_roundg (L.length + 1 - s1.next.k)
    case measure=>have h1:=HSK.out;have h2:=HLT1.out;show L.length + 1 - (s1.k + 1) < _;omega
    case rel=>
     refine ⟨O ++ [x],cs ++ [c],s1.next,f',rfl,HP7,HO6,HG6,Lib.hid ?_,Lib.hid ?_,Lib.hid ?_,Lib.hid ?_⟩
     ·rw [HR.out,cL_more HX.out H0.out HB.out]
     ·have h1:=HF.out;have h2:=HSK.out;have h3:=HLT1.out;show L.length - (s1.k + 1) < f';omega
     ·have h1:=HC.out;have h2:=HSK.out;rw [List.length_append];show cs.length + 1 ≤ s1.k + 1;omega
     ·have h1:=HKJ.out;have h2:=HSK.out;show k0 ≤ s1.k + 1;omega
  ·have d0:decide (s1.e=0)=false:=decide_eq_false h0
   rw [d0] at HK2
   have HZ2:Hid (Z=([],s1)):=Lib.hid (by rw [HR.out,cL_bad HX.out h0])
   clear d0 h0
   go_wp2_with fail
   refine HK2.out.mono ?_
   rintro e3 w4 ⟨rfl,rfl⟩
   go_wp2_with fail
   go_ret
   exact ⟨_,rfl,by rw [HZ2.out];exact (OwnL.nil 114 9 OrderR _ _).done,by rw [HZ2.out];exact HP2.out,HG2.out⟩
set_option maxRecDepth 100000 in
set_option maxHeartbeats 8000000 in
theorem listSet {one:Rd (ByteArray × PE)} (hmono:∀ s:PS,s.k ≤ (one s).2.k) (fv:Value) (q:Nat) (hfv:fv = .func (.func 82) #[] #[.pointer (some ⟨q,0,none⟩)]) (w:World) (k0:Nat) (hone:PRun w0 r tv L en w k0 82 #[.pointer (some ⟨q,0,none⟩)] one (AgV SetR))
 (s:PS) (hk0:k0 ≤ s.k) (h:PB w0 r tv L en s w):Calls Tryz.prog 81 #[.pointer (some ⟨r,0,none⟩),fv] w fun e w'=>
 ∃ v,e = .returned v∧New w.heap.size w' (fun u=>SlR 9 SetR u v (listM L en one FU s).1)∧PB w0 r tv L en (listM L en one FU s).2 w'∧w.grownBy w' (some r):=by
 obtain ⟨Z,hZ⟩:∃ Z,Z=listM L en one FU s:=⟨_,rfl⟩
 have HZ:Hid (Z=cL [] (listM L en one FU s)):=Lib.hid (by rw [hZ,cL_nil])
 rw [← hZ]
 have HLT:Hid (r < w.heap.size):=Lib.hid h.lt
 have HL:Hid (L.length ≤ 4096):=Lib.hid h.hl
 have H:=Lib.hid h
 have HONE:=Lib.hid hone
 have HM:=Lib.hid hmono
 have HK:=Lib.hid hk0
 have HFU:Hid (L.length - s.k < FU):=Lib.hid (by have:=h.hl;show _ < 100000;omega)
 subst hfv
 clear h hone hmono hk0 hZ
 go_enter Tryz.func81,Tryz.ntmps81
 go_wp2_with fail
 go_loopg [5] (L.length + 1 - s.k) (fun gk ov wr=>∃ (O:List (ByteArray × PE)) (cs:List (List Value)) (sj:PS) (f:Nat),gk=L.length + 1 - sj.k∧Hid (PB w0 r tv L en sj wr)∧Hid (OwnL 94 9 SetR w.heap.size wr ov O cs)∧Hid (w.grownBy wr (some r)) ∧
  Hid (Z=cL O (listM L en one f sj))∧Hid (L.length - sj.k < f)∧Hid (cs.length ≤ sj.k)∧Hid (k0 ≤ sj.k))
 case atStart=>exact ⟨[],[],s,FU,rfl,H,Lib.hid (OwnL.nil _ _ _ _ _),Lib.hid (World.grownBy.refl _ _),HZ,HFU,Lib.hid (Nat.zero_le _),HK⟩
 case round=>
  obtain ⟨O,cs,sj,f,rfl,HP,HO,HG,HR,HF,HC,HKJ⟩:=hrel
  obtain ⟨oa,oc,rfl⟩:=HO.out.shape
  obtain ⟨⟨x,s1⟩,hx⟩:∃ q,one sj=q:=⟨_,rfl⟩
  have HC1:=Lib.hid (HONE.out sj wr HKJ.out HG.out HP.out)
  rw [hx] at HC1
  have HX:=Lib.hid hx
  have HSK:Hid (sj.k ≤ s1.k):=Lib.hid (by have:=HM.out sj;rw [hx] at this;exact this)
  clear hx
  obtain ⟨f',rfl⟩:∃ f',f=f' + 1:=⟨f - 1,by have:=HF.out;omega⟩
  go_wp2_with fail
  refine HC1.out.mono ?_
  rintro e2 w2 ⟨xv,rfl,hn2,hp2,hg2⟩
  have HN2:=Lib.hid hn2
  have HP2:Hid (PB w0 r tv L en s1 w2):=Lib.hid hp2
  have HG2:=Lib.hid (grown_trans HG.out hg2)
  have HO2:=Lib.hid (HO.out.grown hg2 HLT.out)
  have HOLD:=Lib.hid (fun k hk=>(World.ownsRow.lt HO.out.own k hk).2)
  have HLO:Hid (∀ k,(Value.slice oa O.length oc).ownBlock=some k→w.heap.size ≤ k):=Lib.hid (fun k hk=>(World.ownsRow.lt HO.out.own k hk).1)
  have HSZ:Hid (wr.heap.size ≤ w2.heap.size):=Lib.hid hg2.size
  have HW:Hid (w.heap.size ≤ wr.heap.size):=Lib.hid HG.out.size
  clear hn2 hp2 hg2
  obtain ⟨c,rfl,hc8,hc1,hok,hcn⟩:=heB setCells _ _ _ _ HN2.out
  have hB:=(Below.refl _ w2).alloc (Nat.le_refl _) (.cells c.toArray 94)
  have hR:=row_alloc w2 94 c.toArray
  have hbs:∀ W,(veilBs 25 1 #[(0,.agg c.toArray)]).run Tryz.prog W = .ok (.slice (some ⟨W.heap.size,0,none⟩) 1 1) (W.alloc (.cells c.toArray 94)):=run_bsSet c.toArray (by simpa using hc8)
  have hrb:=hR.b (n:=9) (by simpa using hc8)
  have hro:=hR.of
  replace HP2:=Lib.hid (HP2.out.later hB)
  replace HG2:=Lib.hid (grown_trans HG2.out (below_grown hB))
  replace HO2:=Lib.hid (HO2.out.later hB)
  replace HSZ:=Lib.hid (Nat.le_trans HSZ.out hB.size)
  have HC8:=Lib.hid hc8
  have HC11:=Lib.hid hc1
  have HCN:=Lib.hid (hcn.below hB)
  have HBS:=Lib.hid hbs
  clear hc8 hc1 hcn hB hR HN2 hbs
  go_upto_region 3 with fail
  generalize w2.alloc (.cells c.toArray 94)=w3 at *
  generalize w2.heap.size=gq at *
  clear hok
  have HK2:=Lib.hid (okP w3 HP2.out)
  by_cases h0:s1.e=0
  ·have d0:decide (s1.e=0)=true:=decide_eq_true h0
   rw [d0] at HK2
   have H0:=Lib.hid h0
   clear d0 h0
   go_wp2_with fail
   refine HK2.out.mono ?_
   rintro e3 w4 ⟨rfl,rfl⟩
   have hbs:=HBS.out
   have HR3:=Lib.hid (row_alloc w3 94 c.toArray)
   have HW3:=Lib.hid ((Below.refl _ w3).alloc (Nat.le_refl _) (.cells c.toArray 94))
   have HOL:Hid (cs.length=O.length):=Lib.hid HO2.out.len
   go_wp2_with (at_builtin;refine wpList_append_one rfl (.tmp 12) (.tmp 14) 25 rfl w.heap.size 94 9 120 elSet (.slice oa O.length oc) cs.length cs.flatten rfl (HO2.out.later HW3.out).own _ 1 c rfl HC8.out (fun j u hj=>HR3.out.cell (by simpa using hj)) HC11.out (by have:=HC.out;have:=HP.out.hk;have:=HL.out;unfold maxLen;omega) (by have:=HC.out;have:=HP.out.hk;have:=HL.out;omega) (by have:=HW.out;have:=HSZ.out;simp;omega) ?_;intro v' w5 hown5 hg5 hv5;have HO5:=Lib.hid ((HO2.out.later HW3.out).snoc hown5 hg5 hv5 HC8.out (HCN.out.below HW3.out) HW.out HOLD.out);have HP5:=Lib.hid ((HP2.out.later HW3.out).row hg5 (fun k hk=>by have h1:=HLO.out k hk;have h2:=HLT.out;omega));have HG5:=Lib.hid (grown_row (grown_trans HG2.out (below_grown HW3.out)) hg5 HLO.out);clear hown5 hv5 hg5)
   refine (isW BCOMMA w5 HP5.out).mono ?_
   rintro e6 w6 ⟨rfl,hp6,hg6⟩
   have HO6:=Lib.hid (HO5.out.grown hg6 HLT.out)
   have HG6:=Lib.hid (grown_trans HG5.out hg6)
   have HP6:=Lib.hid hp6
   clear hp6 hg6 hbs hrb hro
   obtain ⟨B,hB⟩:∃ B,isB L en BCOMMA s1=B:=⟨_,rfl⟩
   have HB:=Lib.hid hB
   rw [isM_snd,hB] at HP6
   rw [hB]
   clear hB
   cases B
   ·have HZ2:Hid (Z=(O ++ [x],s1)):=Lib.hid (by rw [HR.out,cL_end HX.out H0.out HB.out])
    have HP7:Hid (PB w0 r tv L en s1 w6):=HP6
    go_wp2_with fail
    go_ret
    exact ⟨_,rfl,by rw [HZ2.out];exact HO6.out.done,by rw [HZ2.out];exact HP7.out,HG6.out⟩
   ·have HP7:Hid (PB w0 r tv L en s1.next w6):=HP6
    have HLT1:=Lib.hid (isM_lt (L:=L) (en:=en) (t:=BCOMMA) (s:=s1) HB.out).2
    go_wp2_with fail
    go_roundg (L.length + 1 - s1.next.k)
    case measure=>have h1:=HSK.out;have h2:=HLT1.out;show L.length + 1 - (s1.k + 1) < _;omega
    case rel=>
     refine ⟨O ++ [x],cs ++ [c],s1.next,f',rfl,HP7,HO6,HG6,Lib.hid ?_,Lib.hid ?_,Lib.hid ?_,Lib.hid ?_⟩
     ·rw [HR.out,cL_more HX.out H0.out HB.out]
     ·have h1:=HF.out;have h2:=HSK.out;have h3:=HLT1.out;show L.length - (s1.k + 1) < f';omega
     ·have h1:=HC.out;have h2:=HSK.out;rw [List.length_append];show cs.length + 1 ≤ s1.k + 1;omega
     ·have h1:=HKJ.out;have h2:=HSK.out;show k0 ≤ s1.k + 1;omega
  ·have d0:decide (s1.e=0)=false:=decide_eq_false h0
   rw [d0] at HK2
   have HZ2:Hid (Z=([],s1)):=Lib.hid (by rw [HR.out,cL_bad HX.out h0])
   clear d0 h0
   go_wp2_with fail
   refine HK2.out.mono ?_
   rintro e3 w4 ⟨rfl,rfl⟩
   go_wp2_with fail
   go_ret
   exact ⟨_,rfl,by rw [HZ2.out];exact (OwnL.nil 94 9 SetR _ _).done,by rw [HZ2.out];exact HP2.out,HG2.out⟩
set_option maxRecDepth 100000 in
set_option maxHeartbeats 8000000 in
theorem listRow {one:Rd (List PE)} (hmono:∀ s:PS,s.k ≤ (one s).2.k) (fv:Value) (q:Nat) (hfv:fv = .func (.func 79) #[] #[.pointer (some ⟨q,0,none⟩)]) (w:World) (k0:Nat) (hone:PRun w0 r tv L en w k0 79 #[.pointer (some ⟨q,0,none⟩)] one ExsR)
 (s:PS) (hk0:k0 ≤ s.k) (h:PB w0 r tv L en s w):Calls Tryz.prog 78 #[.pointer (some ⟨r,0,none⟩),fv] w fun e w'=>
 ∃ v,e = .returned v∧New w.heap.size w' (fun u=>SlR 1 RowR u v (listM L en one FU s).1)∧PB w0 r tv L en (listM L en one FU s).2 w'∧w.grownBy w' (some r):=by
 obtain ⟨Z,hZ⟩:∃ Z,Z=listM L en one FU s:=⟨_,rfl⟩
 have HZ:Hid (Z=cL [] (listM L en one FU s)):=Lib.hid (by rw [hZ,cL_nil])
 rw [← hZ]
 have HLT:Hid (r < w.heap.size):=Lib.hid h.lt
 have HL:Hid (L.length ≤ 4096):=Lib.hid h.hl
 have H:=Lib.hid h
 have HONE:=Lib.hid hone
 have HM:=Lib.hid hmono
 have HK:=Lib.hid hk0
 have HFU:Hid (L.length - s.k < FU):=Lib.hid (by have:=h.hl;show _ < 100000;omega)
 subst hfv
 clear h hone hmono hk0 hZ
 go_enter Tryz.func78,Tryz.ntmps78
 go_wp2_with fail
 go_loopg [5] (L.length + 1 - s.k) (fun gk ov wr=>∃ (O:List (List PE)) (cs:List (List Value)) (sj:PS) (f:Nat),gk=L.length + 1 - sj.k∧Hid (PB w0 r tv L en sj wr)∧Hid (OwnL 28 1 RowR w.heap.size wr ov O cs)∧Hid (w.grownBy wr (some r)) ∧
  Hid (Z=cL O (listM L en one f sj))∧Hid (L.length - sj.k < f)∧Hid (cs.length ≤ sj.k)∧Hid (k0 ≤ sj.k))
 case atStart=>exact ⟨[],[],s,FU,rfl,H,Lib.hid (OwnL.nil _ _ _ _ _),Lib.hid (World.grownBy.refl _ _),HZ,HFU,Lib.hid (Nat.zero_le _),HK⟩
 case round=>
  obtain ⟨O,cs,sj,f,rfl,HP,HO,HG,HR,HF,HC,HKJ⟩:=hrel
  obtain ⟨oa,oc,rfl⟩:=HO.out.shape
  obtain ⟨⟨x,s1⟩,hx⟩:∃ q,one sj=q:=⟨_,rfl⟩
  have HC1:=Lib.hid (HONE.out sj wr HKJ.out HG.out HP.out)
  rw [hx] at HC1
  have HX:=Lib.hid hx
  have HSK:Hid (sj.k ≤ s1.k):=Lib.hid (by have:=HM.out sj;rw [hx] at this;exact this)
  clear hx
  obtain ⟨f',rfl⟩:∃ f',f=f' + 1:=⟨f - 1,by have:=HF.out;omega⟩
  go_wp2_with fail
  refine HC1.out.mono ?_
  rintro e2 w2 ⟨xv,rfl,hn2,hp2,hg2⟩
  have HN2:=Lib.hid hn2
  have HP2:Hid (PB w0 r tv L en s1 w2):=Lib.hid hp2
  have HG2:=Lib.hid (grown_trans HG.out hg2)
  have HO2:=Lib.hid (HO.out.grown hg2 HLT.out)
  have HOLD:=Lib.hid (fun k hk=>(World.ownsRow.lt HO.out.own k hk).2)
  have HLO:Hid (∀ k,(Value.slice oa O.length oc).ownBlock=some k→w.heap.size ≤ k):=Lib.hid (fun k hk=>(World.ownsRow.lt HO.out.own k hk).1)
  have HSZ:Hid (wr.heap.size ≤ w2.heap.size):=Lib.hid hg2.size
  have HW:Hid (w.heap.size ≤ wr.heap.size):=Lib.hid HG.out.size
  clear hn2 hp2 hg2
  have HK2:=Lib.hid (okP w2 HP2.out)
  by_cases h0:s1.e=0
  ·have d0:decide (s1.e=0)=true:=decide_eq_true h0
   rw [d0] at HK2
   have H0:=Lib.hid h0
   clear d0 h0
   go_wp2_with fail
   refine HK2.out.mono ?_
   rintro e3 w4 ⟨rfl,rfl⟩
   obtain ⟨c,hc8,hc1,hcn,hbs⟩:=heRow _ _ _ _ HN2.out
   have HC8:=Lib.hid hc8
   have HC11:=Lib.hid hc1
   have HCN:=Lib.hid hcn
   clear hc8 hc1 hcn
   have HR3:=Lib.hid (row_alloc w2 28 c.toArray)
   have HW3:=Lib.hid ((Below.refl _ w2).alloc (Nat.le_refl _) (.cells c.toArray 28))
   have HOL:Hid (cs.length=O.length):=Lib.hid HO2.out.len
   go_wp2_with (at_builtin;refine wpList_append_one rfl (.tmp 12) (.tmp 14) 24 rfl w.heap.size 28 1 24 elRow (.slice oa O.length oc) cs.length cs.flatten rfl (HO2.out.later HW3.out).own _ 1 c rfl HC8.out (fun j u hj=>HR3.out.cell (by simpa using hj)) HC11.out (by have:=HC.out;have:=HP.out.hk;have:=HL.out;unfold maxLen;omega) (by have:=HC.out;have:=HP.out.hk;have:=HL.out;omega) (by have:=HW.out;have:=HSZ.out;simp;omega) ?_;intro v' w5 hown5 hg5 hv5;have HO5:=Lib.hid ((HO2.out.later HW3.out).snoc hown5 hg5 hv5 HC8.out (HCN.out.below HW3.out) HW.out HOLD.out);have HP5:=Lib.hid ((HP2.out.later HW3.out).row hg5 (fun k hk=>by have h1:=HLO.out k hk;have h2:=HLT.out;omega));have HG5:=Lib.hid (grown_row (grown_trans HG2.out (below_grown HW3.out)) hg5 HLO.out);clear hown5 hv5 hg5)
   refine (isW BCOMMA w5 HP5.out).mono ?_
   rintro e6 w6 ⟨rfl,hp6,hg6⟩
   have HO6:=Lib.hid (HO5.out.grown hg6 HLT.out)
   have HG6:=Lib.hid (grown_trans HG5.out hg6)
   have HP6:=Lib.hid hp6
   clear hp6 hg6 hbs
   obtain ⟨B,hB⟩:∃ B,isB L en BCOMMA s1=B:=⟨_,rfl⟩
   have HB:=Lib.hid hB
   rw [isM_snd,hB] at HP6
   rw [hB]
   clear hB
   cases B
   ·have HZ2:Hid (Z=(O ++ [x],s1)):=Lib.hid (by rw [HR.out,cL_end HX.out H0.out HB.out])
    have HP7:Hid (PB w0 r tv L en s1 w6):=HP6
    go_wp2_with fail
    go_ret
    exact ⟨_,rfl,by rw [HZ2.out];exact HO6.out.done,by rw [HZ2.out];exact HP7.out,HG6.out⟩
   ·have HP7:Hid (PB w0 r tv L en s1.next w6):=HP6
    have HLT1:=Lib.hid (isM_lt (L:=L) (en:=en) (t:=BCOMMA) (s:=s1) HB.out).2
    go_wp2_with fail
    go_roundg (L.length + 1 - s1.next.k)
    case measure=>have h1:=HSK.out;have h2:=HLT1.out;show L.length + 1 - (s1.k + 1) < _;omega
    case rel=>
     refine ⟨O ++ [x],cs ++ [c],s1.next,f',rfl,HP7,HO6,HG6,Lib.hid ?_,Lib.hid ?_,Lib.hid ?_,Lib.hid ?_⟩
     ·rw [HR.out,cL_more HX.out H0.out HB.out]
     ·have h1:=HF.out;have h2:=HSK.out;have h3:=HLT1.out;show L.length - (s1.k + 1) < f';omega
     ·have h1:=HC.out;have h2:=HSK.out;rw [List.length_append];show cs.length + 1 ≤ s1.k + 1;omega
     ·have h1:=HKJ.out;have h2:=HSK.out;show k0 ≤ s1.k + 1;omega
  ·have d0:decide (s1.e=0)=false:=decide_eq_false h0
   rw [d0] at HK2
   have HZ2:Hid (Z=([],s1)):=Lib.hid (by rw [HR.out,cL_bad HX.out h0])
   clear d0 h0
   go_wp2_with fail
   refine HK2.out.mono ?_
   rintro e3 w4 ⟨rfl,rfl⟩
   go_wp2_with fail
   go_ret
   exact ⟨_,rfl,by rw [HZ2.out];exact (OwnL.nil 28 1 RowR _ _).done,by rw [HZ2.out];exact HP2.out,HG2.out⟩
end
end Go.Proofs.YtmdogmpcmkfjpaaGreatDoor.Dt
