import Derived.Deep.DeepCutAuto
import Derived.Test.YtmdogmpcmkfjpaaGreatDoorBn33
import Derived.Test.YtmdogmpcmkfjpaaGreatDoorBn12
import Derived.Test.YtmdogmpcmkfjpaaGreatDoorBn05
import Derived.Test.YtmdogmpcmkfjpaaGreatDoorBn08
/- Part of the proof (merged). -/
namespace Go.Proofs.YtmdogmpcmkfjpaaGreatDoor.Dt
open Go.RowKit Go.Proofs.YtmdogmpcmkfjpaaGreatDoor.By
theorem arr16 {c:Array Value} (h:c.size=16):∃ a0 a1 a2 a3 a4 a5 a6 a7 a8 a9 a10 a11 a12 a13 a14 a15,c = #[a0,a1,a2,a3,a4,a5,a6,a7,a8,a9,a10,a11,a12,a13,a14,a15]:=by
 have hl:c.toList.length=16:=by simpa using h
 match hc:c.toList,hl with
 | [a0,a1,a2,a3,a4,a5,a6,a7,a8,a9,a10,a11,a12,a13,a14,a15],_=>exact ⟨a0,a1,a2,a3,a4,a5,a6,a7,a8,a9,a10,a11,a12,a13,a14,a15,Array.toList_inj.1 hc⟩
theorem veilBs_st (n:Nat) (ps:Array (Nat × Value)):Instr.buildSlice 37 n ps=veilBs 37 n ps:=rfl
theorem run_bsSt (W:World) (c:Array Value) (h:okRow 16 c=true):(veilBs 37 1 #[(0,.agg c)]).run Tryz.prog W = .ok (.slice (some ⟨W.heap.size,0,none⟩) 1 1) (W.alloc (.cells c 31)):=by
 obtain ⟨a0,a1,a2,a3,a4,a5,a6,a7,a8,a9,a10,a11,a12,a13,a14,a15,rfl⟩:=arr16 (okRow_iff.1 h).1
 unfold veilBs
 go_simp
theorem elSt:By.Elem Tryz.prog 37 31 16 320 where
 slice:=by kernel_rfl
 info:=by
  have h:(Tryz.prog.info? 31).map (fun i=>(i.zero,i.size,i.bytes))=some (some (.agg stZ),16,320):=by kernel_rfl
  obtain ⟨i,hi,h1,h2,h3⟩:=info_parts h
  exact ⟨i,_,hi,h1,h2,h3,rfl⟩
 pos:=by decide
def scPost (w:World):(Nat × Int) ⊕ List PSt→Ending→World→Prop
 | .inl x,e,_=>e = .returned (.tuple #[.slice none 0 0,.agg #[.int .i64 (x.1:Int),.int .i64 x.2]])
 | .inr l,e,w'=>∃ v,e = .returned (.tuple #[v,.agg #[.int .i64 0,.int .i64 0]])∧New w.heap.size w' (fun u=>SlR 16 StR u v l)
theorem res_tc {fn:Func} {p q:Tmp} (h:fn.results = #[.tmp p,.cell q 39]) (tmps:Array Value) (w:World) (k:Nat) (u:TypeId) (v:Value) (ds:Array Value)
 (hp:tmps.getD p undef=v) (hq:tmps.getD q undef = .pointer (some ⟨k,0,none⟩)) (hk:Row k u ds w) (hd:ds.size=2):(results fn tmps).run Tryz.prog w = .ok (.tuple #[v,.agg ds]) w:=by
 have hs:∃ fs,Tryz.prog.underlying 39=some (.struct fs):=st_of (by kernel_rfl)
 obtain ⟨gs,hv⟩:=hs
 have hi:(Tryz.prog.info? 39).map (·.size)=some 2:=by kernel_rfl
 have hp':tmps[p]?.getD undef=v:=by simpa using hp
 have hq':tmps[q]?.getD undef = .pointer (some ⟨k,0,none⟩):=by simpa using hq
 simp [results,h,hp',hq',asAddr,run_loadVar_row w k u 39 ds (0,0) _ hk hv rfl (by rw [hi,hd])]
structure Fin1 (q:Nat) (ds:Array Value) (W W':World):Prop where
 r1:Row q 39 ds W'
 ot:∀ b,b ≠ q→W'.heap[b]? = W.heap[b]?
 sz:W.heap.size ≤ W'.heap.size
 bl:∀ n,n ≤ q→Below n W W'
theorem fin_1 {q:Nat} {x y a b:Value} {W:World} (h1:Row q 39 #[x,y] W):Fin1 q #[a,b] W ((W.setCell ⟨q,0,none⟩ a).setCell ⟨q,1,none⟩ b):=by
 have e1:=setCell_eq_setRow _ q 0 _ _ _ a h1
 have h2:Row q 39 #[a,y] (W.setCell ⟨q,0,none⟩ a):=by rw [e1];exact h1.set _
 have e2:=setCell_eq_setRow _ q 1 _ _ _ b h2
 refine ⟨by rw [e2];exact h2.set _,fun k hk=>?_,by simp,fun n hn=>below_set (below_set (Below.refl _ _) hn) hn⟩
 rw [e2,e1]
 exact (setRow_other _ q k _ hk).trans (setRow_other _ q k _ hk)
theorem stmts_bad {L:List Tk} {en:Int} {f:Nat} {s:PS} (h:¬ (s.e=0∧s.k < L.length)):stmtsM L en (f + 1) s=([],s):=by
 show (if s.e=0∧s.k < L.length then _ else _)=_
 rw [if_neg h]
theorem stmts_go {L:List Tk} {en:Int} {f:Nat} {s s1 s2:PS} {x:PSt} (h:s.e=0∧s.k < L.length) (h1:stmtM L en s=(x,s1)) (h2:(if s1.k < L.length then (mustM L en [BSEMI] s1).2 else s1)=s2) :
 stmtsM L en (f + 1) s=(x :: (stmtsM L en f s2).1,(stmtsM L en f s2).2):=by
 show (if s.e=0∧s.k < L.length then _ else _)=_
 rw [if_pos h,bndE h1,bndE (x:=()) (s1:=s2)]
 ·rfl
 ·show (if s1.k < L.length then mustM L en [BSEMI] s1 else ((),s1))=_
  rw [← h2]
  split <;> rfl
def stLeft (L:List Tk) (s:PS):Nat:=(L.length - s.k) + (if s.e=0 then 1 else 0)
theorem st_round {L:List Tk} {en:Int} {sj s2 s3:PS} {x:PSt} (hg:sj.e=0∧sj.k < L.length) (h1:stmtM L en sj=(x,s2)) (h2:(if s2.k < L.length then (mustM L en [BSEMI] s2).2 else s2)=s3) :
 stLeft L s3 < stLeft L sj∧sj.k + 1 ≤ s3.k + (if s3.e=0 then 0 else 1):=by
 have m1:=(Sim.stmtM (L:=L) (L':=L) (en:=en) (en':=en) (d:=0)).mono sj |>.1
 have p1:=Prog.stmtM (L:=L) (en:=en) sj
 rw [h1] at m1 p1
 have m2:s2.k ≤ s3.k∧(s2.e ≠ 0→s3.e ≠ 0):=by
  rw [← h2]
  split
  ·exact (Sim.mustM (L:=L) (L':=L) (en:=en) (en':=en) (d:=0) [BSEMI]).mono s2
  ·exact ⟨Nat.le_refl _,id⟩
 obtain ⟨he,hk⟩:=hg
 have m1:sj.k ≤ s2.k:=m1
 have p1:s2.e=0→sj.k < s2.k:=p1
 unfold stLeft
 rw [if_pos he]
 by_cases h3:s3.e=0
 ·have h4:s2.e=0:=Classical.byContradiction fun h=>m2.2 h h3
  have:=p1 h4
  rw [if_pos h3,if_pos h3]
  omega
 ·rw [if_neg h3,if_neg h3]
  omega
attribute [local go_sem ↓] veilBs_st
attribute [local go_sem] run_bsSt
set_option maxRecDepth 100000 in
set_option maxHeartbeats 16000000 in
theorem scriptB (t:ByteArray) (w:World) (hx:LX w) (hs:t.size ≤ 140737488351232):Calls Tryz.prog 11 #[.string t] w fun e w'=>scPost w (scriptL t.data.toList) e w'∧Below w.heap.size w w':=by
 have hb0:Below w.heap.size w (w.alloc (.cells #[.int .i64 0,.int .i64 0] 39)):=(Below.refl _ _).alloc (Nat.le_refl _) _
 have HR1:=Lib.hid (row_alloc w 39 #[.int .i64 0,.int .i64 0])
 have HB0:=Lib.hid hb0
 have HX:=Lib.hid (hx.later hb0)
 have HS:=Lib.hid hs
 clear hb0 hx hs
 go_enter Tryz.func11,Tryz.ntmps11
 go_upto_region 1 with fail
 generalize w.alloc (.cells #[.int .i64 0,.int .i64 0] 39)=w1 at *
 have HT:=Lib.hid (tokensLexB t w1 HX.out HS.out)
 cases hR:toksL t.data.toList with
 | inl x=>
  obtain ⟨en,ea⟩:=x
  rw [hR] at HT
  have HPOST:Hid (scriptL t.data.toList = .inl (en,(ea:Int))):=Lib.hid (by unfold scriptL;rw [hR])
  have hne:=(spot_bad hR).1
  have e1:((en:Int) != 0)=true:=by simp;omega
  clear hR hne
  go_wp2_with fail
  refine HT.out.mono ?_
  rintro e2 w2 ⟨rfl,hb2⟩
  have hbk:=(Below.refl _ w2).alloc (Nat.le_refl _) (.cells #[.int .i64 (en:Int),.int .i64 (ea:Int)] 39)
  have HK:=Lib.hid (row_alloc w2 39 #[.int .i64 (en:Int),.int .i64 (ea:Int)])
  have HR1c:=Lib.hid ((HR1.out.later hb2).later hbk)
  have HB3:=Lib.hid (next (next HB0.out hb2) hbk)
  clear hb2 HT hbk
  go_upto_region 3 with fail
  generalize w2.alloc (.cells #[.int .i64 (en:Int),.int .i64 (ea:Int)] 39)=w3 at *
  generalize w2.heap.size=k at *
  have k0:=HK.out.cell (i:=0) (v:=.int .i64 (en:Int)) rfl
  have k1:=HK.out.cell (i:=1) (v:=.int .i64 (ea:Int)) rfl
  have l0:=lat_cell k0
  have l1:=lat_cell k1
  refine wp_region_later_tail 2 (by kernel_rfl) (by kernel_rfl) ?_
  simp only [List.take_succ_cons,List.take_zero,List.drop_succ_cons,List.drop_zero]
  repeat (go_big_quiet_step (fail))
  refine wpQuiet_nil ?_
  refine later_out (fun w4 hb4=>?_)
  have HR1z:=Lib.hid (HR1c.out.later hb4)
  have HBD:=Lib.hid (next HB3.out hb4)
  have HFA:=Lib.hid (fin_1 (a:=.int .i64 (en:Int)) (b:=.int .i64 (ea:Int)) HR1z.out)
  have q0:=HR1z.out.cell (i:=0) (v:=.int .i64 0) rfl
  have q1:=HR1z.out.cell (i:=1) (v:=.int .i64 0) rfl
  have f0:=HR1z.out.free 0
  have f1:=HR1z.out.free 1
  clear hb4 l0 l1 k0 k1
  go_wp2_with (refine bodyPost_ret (v:=.tuple #[.slice none 0 0,.agg #[.int .i64 (en:Int),.int .i64 (ea:Int)]]) (res_tc rfl _ _ w.heap.size _ _ #[.int .i64 (en:Int),.int .i64 (ea:Int)] rfl rfl HFA.out.r1 rfl) rfl ?_;exact ⟨by rw [HPOST.out];rfl,HBD.out.trans (HFA.out.bl _ (Nat.le_refl _))⟩)
 | inr L=>
  have HALL:Hid (AllOk L):=Lib.hid (read_ok hR)
  have HLEN:Hid (t.size ≤ 4096∧L.length ≤ 4096):=Lib.hid (by
   have h1:=toksL_le hR
   have h2:=hR
   rw [toksL_eq] at h2
   by_cases h:4096 < t.data.toList.length
   ·rw [if_pos h] at h2;cases h2
   ·rw [ba_len'] at h h1;exact ⟨by omega,by omega⟩)
  obtain ⟨⟨l,s1⟩,hx1⟩:∃ z,stmtsM L (t.size:Int) FU ⟨0,0,0⟩=z:=⟨_,rfl⟩
  have HPOST:Hid (scriptL t.data.toList=if s1.e=0 then .inr l else .inl (s1.e,s1.a)):=Lib.hid (by
   unfold scriptL
   rw [hR]
   simp only
   rw [ba_len',hx1])
  have HX1:=Lib.hid hx1
  rw [hR] at HT
  clear hR hx1
  go_wp2_with fail
  refine HT.out.mono ?_
  rintro e2 w2 ⟨⟨tv,rfl,htk⟩,hb2⟩
  obtain ⟨ta,tc,rfl⟩:=htk.shape
  have HTK:=Lib.hid htk
  have hbk:=(Below.refl _ w2).alloc (Nat.le_refl _) (.cells #[.int .i64 0,.int .i64 0] 39)
  have HR1b:=Lib.hid ((HR1.out.later hb2).later hbk)
  have HLK:Hid (w.heap.size < w2.heap.size):=Lib.hid (HR1.out.later hb2).lt
  have HB2:=Lib.hid (next (next HB0.out hb2) hbk)
  have HBK:=Lib.hid hbk
  clear hb2 HT htk hbk
  go_upto_region 4 with fail
  generalize hw3:w2.alloc (.cells #[.int .i64 0,.int .i64 0] 39)=w3 at *
  have HZ3:Hid (w3.heap.size=w2.heap.size + 1):=Lib.hid (by rw [← hw3];simp)
  clear hw3
  have hbp:=(Below.refl _ w3).alloc (Nat.le_refl _) (.cells #[.slice ta L.length tc,.int .i64 0,.int .i64 (t.size:Int),.int .i64 0,.int .i64 0] 77)
  have hrow:=row_alloc w3 77 #[.slice ta L.length tc,.int .i64 0,.int .i64 (t.size:Int),.int .i64 0,.int .i64 0]
  have HPB:Hid (PB w2 w3.heap.size (.slice ta L.length tc) L (t.size:Int) ⟨0,0,0⟩ (w3.alloc (.cells #[.slice ta L.length tc,.int .i64 0,.int .i64 (t.size:Int),.int .i64 0,.int .i64 0] 77))):=Lib.hid
   ⟨hrow.cell rfl,hrow.cell rfl,hrow.cell rfl,hrow.cell rfl,hrow.cell rfl,hrow.free 1,hrow.free 3,hrow.free 4,HTK.out,next HBK.out (by have:=hbp;exact this),by have:=HZ3.out;omega,HLEN.out.2,Nat.zero_le _⟩
  have HR1c:=Lib.hid (HR1b.out.later hbp)
  have HB4:=Lib.hid (next HB2.out hbp)
  have HRP:Hid (w.heap.size < w3.heap.size):=Lib.hid (by have:=HZ3.out;have:=HLK.out;omega)
  have HW4:Hid ((w3.alloc (.cells #[.slice ta L.length tc,.int .i64 0,.int .i64 (t.size:Int),.int .i64 0,.int .i64 0] 77)).heap.size=w3.heap.size + 1):=Lib.hid (by simp)
  clear hbp hrow
  go_upto_region 5 with fail
  generalize w3.alloc (.cells #[.slice ta L.length tc,.int .i64 0,.int .i64 (t.size:Int),.int .i64 0,.int .i64 0] 77)=w4 at *
  generalize w3.heap.size=r at *
  go_upto_block 0 with fail
  go_cut [7] (fun ov wx=>∃ ccs:List (List Value),PB w2 r (.slice ta L.length tc) L (t.size:Int) s1 wx∧OwnL 31 16 StR (r + 1) wx ov l ccs∧w4.grownBy wx (some r))
  case first=>
   go_wp2_with fail
   go_loopg [7] (stLeft L ⟨0,0,0⟩) (fun gk ov wr=>∃ (done:List PSt) (ccs:List (List Value)) (sj:PS) (f:Nat),gk=stLeft L sj∧Hid (PB w2 r (.slice ta L.length tc) L (t.size:Int) sj wr)∧Hid (OwnL 31 16 StR (r + 1) wr ov done ccs)∧Hid (w4.grownBy wr (some r))∧Hid ((l,s1)=(done ++ (stmtsM L (t.size:Int) f sj).1,(stmtsM L (t.size:Int) f sj).2))∧Hid (stLeft L sj + 1 ≤ f)∧Hid (done.length ≤ sj.k + (if sj.e=0 then 0 else 1)))
   case atStart=>exact ⟨[],[],⟨0,0,0⟩,FU,rfl,HPB,Lib.hid (OwnL.nil _ _ _ _ _),Lib.hid (grown_refl _ _),Lib.hid (by rw [HX1.out];rfl),Lib.hid (by have:=HLEN.out.2;unfold stLeft;show _ ≤ 100000;rw [if_pos rfl];omega),Lib.hid (Nat.zero_le _)⟩
   case round=>
    obtain ⟨done,ccs,sj,f,rfl,HP,HOW,HG,HQ,HF,HDL⟩:=hrel
    obtain ⟨f',rfl⟩:∃ f',f=f' + 1:=⟨f - 1,by have:=HF.out;omega⟩
    obtain ⟨va,vc,rfl⟩:=HOW.out.shape
    have HOKW:Hid (∀ W,Below wr.heap.size wr W→Calls Tryz.prog 28 #[.pointer (some ⟨r,0,none⟩)] W fun e w'=>e = .returned (.bool (decide (sj.e=0)))∧Below W.heap.size W w'):=Lib.hid (fun W hW=>(okP W (PB.later HP.out hW)).mono fun e w' h=>by
     obtain ⟨rfl,rfl⟩:=h
     exact ⟨rfl,Below.refl _ _⟩)
    by_cases hgo:sj.e=0∧sj.k < L.length
    ·have d0:decide (sj.e=0)=true:=decide_eq_true hgo.1
     rw [d0] at HOKW
     have i1:(sj.k:Int) < (L.length:Int):=by have:=hgo.2;omega
     have HGO:=Lib.hid hgo
     have c0:=HP.out.c0
     have c1:=HP.out.c1
     clear d0 hgo
     go_upto_region 6 with fail
     have l0:=lat_cell c0
     have l1:=lat_cell c1
     refine wp_region_later (by kernel_rfl) (by kernel_rfl) ?_
     repeat (go_big_quiet_step (exact lat_calls (HOKW.out _ (lat_below _ _))))
     refine wpQuiet_nil ?_
     refine later_out (fun w6 hb6=>?_)
     have HP6:=Lib.hid (PB.later HP.out hb6)
     have HO6:=Lib.hid (HOW.out.later hb6)
     have HG6:=Lib.hid (grown_trans HG.out (below_grown (r:=r) hb6))
     clear l0 l1 hb6 c0 c1 HOKW
     obtain ⟨⟨x,s2⟩,hst⟩:∃ z,stmtM L (t.size:Int) sj=z:=⟨_,rfl⟩
     obtain ⟨s3,hs3⟩:∃ z,(if s2.k < L.length then (mustM L (t.size:Int) [BSEMI] s2).2 else s2)=z:=⟨_,rfl⟩
     have HRD:=Lib.hid (st_round HGO.out hst hs3)
     have HQ2:Hid ((l,s1)=((done ++ [x]) ++ (stmtsM L (t.size:Int) f' s3).1,(stmtsM L (t.size:Int) f' s3).2)):=Lib.hid (by rw [HQ.out,stmts_go HGO.out hst hs3,List.append_assoc];rfl)
     have HS3:=Lib.hid hs3
     have hc:=stmtW_of HALL.out (fun w s h=>chooseW HALL.out w h) w6 HP6.out
     rw [hst] at hc
     have HC:=Lib.hid hc
     clear hc hst hs3
     go_wp2_with fail
     refine HC.out.mono ?_
     rintro e7 v7 ⟨u7,rfl,hn7,hp7,hg7⟩
     obtain ⟨c,rfl,hcl,hc1,hok,hcn⟩:=heB stCells _ _ _ _ hn7
     have hal:=(Below.refl v7.heap.size v7).alloc (Nat.le_refl _) (.cells c.toArray 31)
     have HLT6:Hid (r + 1 ≤ w6.heap.size):=Lib.hid HP6.out.lt
     have HOA:=Lib.hid ((HO6.out.grown hg7 (Nat.lt_succ_self _)).later hal)
     have HPA:=Lib.hid (PB.later hp7 hal)
     have HGA:=Lib.hid (grown_trans (grown_trans HG6.out hg7) (below_grown (r:=r) hal))
     have HNA:=Lib.hid (row_alloc v7 31 c.toArray)
     have HYA:=Lib.hid (New.below hcn hal)
     have HCL:=Lib.hid hcl
     have HC1:=Lib.hid hc1
     have HM:Hid (∀ k,(Value.slice va done.length vc).ownBlock=some k→k < w6.heap.size):=Lib.hid (fun k hk=>(World.ownsRow.lt HO6.out.own k hk).2)
     have HLO:Hid (∀ k,(Value.slice va done.length vc).ownBlock=some k→r + 1 ≤ k):=Lib.hid (fun k hk=>(World.ownsRow.lt HO6.out.own k hk).1)
     have HCC:Hid (ccs.length ≤ 4097):=Lib.hid (by
      have h1:=HO6.out.len;have h2:=HDL.out;have h3:=HGO.out;have h4:=HLEN.out.2
      rw [if_pos h3.1] at h2
      omega)
     have HBS:Hid (r + 1 ≤ (v7.alloc (.cells c.toArray 31)).heap.size):=Lib.hid (Nat.le_trans HP6.out.lt (Nat.le_trans hg7.size hal.size))
     clear hn7 hp7 hg7 hcn hal hcl hc1 HC
     go_upto_region 8 with (at_builtin;refine wpList_append_one rfl (.tmp 36) (.tmp 39) 37 rfl (r + 1) 31 16 320 elSt (.slice va done.length vc) ccs.length ccs.flatten rfl HOA.out.own v7.heap.size 1 c rfl HCL.out (fun j u hj=>HNA.out.cell (by simpa using hj)) HC1.out (by have:=HCC.out;unfold maxLen;omega) (by have:=HCC.out;omega) HBS.out ?_;intro v' w8 hown8 hg8 hv8;have HO8:=Lib.hid (HOA.out.snoc hown8 hg8 hv8 HCL.out HYA.out HLT6.out HM.out);have HP8:=Lib.hid (PB.row HPA.out hg8 (fun j hj=>by have:=HLO.out j hj;omega));have HG8:=Lib.hid (grown_row HGA.out hg8 (fun j hj=>by have:=HLO.out j hj;have:=HW4.out;omega));clear hown8 hg8 hv8;obtain ⟨va',vc',hv'⟩:=HO8.out.shape;rw [List.length_append,List.length_singleton] at hv';subst hv')
     clear hok
     have c0:=HP8.out.c0
     have c1:=HP8.out.c1
     have l0:=lat_cell c0
     have l1:=lat_cell c1
     refine wp_region_later (by kernel_rfl) (by kernel_rfl) ?_
     repeat (go_big_quiet_step (fail))
     refine wpQuiet_nil ?_
     refine later_out (fun w9 hb9=>?_)
     have HP9:=Lib.hid (PB.later HP8.out hb9)
     have HO9:=Lib.hid (HO8.out.later hb9)
     have HG9:=Lib.hid (grown_trans HG8.out (below_grown (r:=r) hb9))
     have HRE:Hid (stLeft L s3 + 1 ≤ f'∧(done ++ [x]).length ≤ s3.k + (if s3.e=0 then 0 else 1)):=Lib.hid (by
      have h1:=HRD.out;have h2:=HF.out;have h3:=HDL.out;have h4:=HGO.out
      rw [if_pos h4.1] at h3
      rw [List.length_append,List.length_singleton]
      omega)
     clear l0 l1 hb9 c0 c1
     by_cases hk:s2.k < L.length
     ·have i2:(s2.k:Int) < (L.length:Int):=by omega
      have hm:=mustLit BSEMI w9 HP9.out
      have HS4:Hid ((mustM L (t.size:Int) [BSEMI] s2).2=s3):=Lib.hid (by rw [← HS3.out,if_pos hk])
      rw [HS4.out] at hm
      have HM9:=Lib.hid hm
      clear hm hk
      go_wp2_with fail
      refine HM9.out.mono ?_
      rintro e10 w10 ⟨rfl,hp10,hg10⟩
      have HP10:=Lib.hid hp10
      have HO10:=Lib.hid (HO9.out.grown hg10 (Nat.lt_succ_self _))
      have HG10:=Lib.hid (grown_trans HG9.out hg10)
      clear hp10 hg10 HM9
      go_wp2_with fail
      go_roundg (stLeft L s3)
      case measure=>exact HRD.out.1
      case rel=>exact ⟨_,_,s3,f',rfl,HP10,HO10,HG10,HQ2,Lib.hid HRE.out.1,Lib.hid HRE.out.2⟩
     ·have i2:¬ (s2.k:Int) < (L.length:Int):=by omega
      obtain rfl:s2=s3:=by rw [← HS3.out,if_neg hk]
      clear hk
      go_wp2_with fail
      go_roundg (stLeft L s2)
      case measure=>exact HRD.out.1
      case rel=>exact ⟨_,_,s2,f',rfl,HP9,HO9,HG9,HQ2,Lib.hid HRE.out.1,Lib.hid HRE.out.2⟩
    ·have HE:Hid ((l,s1)=(done,sj)):=Lib.hid (by rw [HQ.out,stmts_bad hgo,List.append_nil])
     have c0:=HP.out.c0
     have c1:=HP.out.c1
     by_cases h0:sj.e=0
     ·have d0:decide (sj.e=0)=true:=decide_eq_true h0
      rw [d0] at HOKW
      have i1:¬ (sj.k:Int) < (L.length:Int):=by have:=fun h=>hgo ⟨h0,h⟩;omega
      clear d0 hgo h0
      go_upto_region 6 with fail
      have l0:=lat_cell c0
      have l1:=lat_cell c1
      refine wp_region_later (by kernel_rfl) (by kernel_rfl) ?_
      repeat (go_big_quiet_step (exact lat_calls (HOKW.out _ (lat_below _ _))))
      refine wpQuiet_nil ?_
      refine later_out (fun w6 hb6=>?_)
      have HP6:=Lib.hid (PB.later HP.out hb6)
      have HO6:=Lib.hid (HOW.out.later hb6)
      have HG6:=Lib.hid (grown_trans HG.out (below_grown (r:=r) hb6))
      clear l0 l1 hb6 c0 c1 HOKW
      obtain ⟨rfl,rfl⟩:l=done∧s1=sj:=by have e:=HE.out;cases e;exact ⟨rfl,rfl⟩
      go_wp2_with fail
      go_meet
      exact ⟨_,HP6.out,HO6.out,HG6.out⟩
     ·have d0:decide (sj.e=0)=false:=decide_eq_false h0
      rw [d0] at HOKW
      clear d0 hgo h0
      go_upto_region 6 with fail
      have l0:=lat_cell c0
      have l1:=lat_cell c1
      refine wp_region_later (by kernel_rfl) (by kernel_rfl) ?_
      repeat (go_big_quiet_step (exact lat_calls (HOKW.out _ (lat_below _ _))))
      refine wpQuiet_nil ?_
      refine later_out (fun w6 hb6=>?_)
      have HP6:=Lib.hid (PB.later HP.out hb6)
      have HO6:=Lib.hid (HOW.out.later hb6)
      have HG6:=Lib.hid (grown_trans HG.out (below_grown (r:=r) hb6))
      clear l0 l1 hb6 c0 c1 HOKW
      obtain ⟨rfl,rfl⟩:l=done∧s1=sj:=by have e:=HE.out;cases e;exact ⟨rfl,rfl⟩
      go_wp2_with fail
      go_meet
      exact ⟨_,HP6.out,HO6.out,HG6.out⟩
  case rest=>
   rename World=>w7
   obtain ⟨ccs,hp7,hown,hg7⟩:=hcut
   have HP7:=Lib.hid hp7
   have HR1z:=Lib.hid (HR1c.out.grown hg7 (by have:=HRP.out;omega))
   have HB7:Hid (Below w.heap.size w w7):=Lib.hid (HB4.out.grown hg7 HB4.out.size (fun k hk=>by cases hk;have:=HRP.out;omega))
   have HD:=Lib.hid hown.done
   obtain ⟨va,vc,rfl⟩:=hown.shape
   have HO:=Lib.hid (okP w7 hp7)
   clear hp7 hg7 hown
   by_cases h0:s1.e=0
   ·have d0:decide (s1.e=0)=true:=decide_eq_true h0
    rw [d0] at HO
    have HPZ:Hid (scriptL t.data.toList = .inr l):=Lib.hid (by rw [HPOST.out,if_pos h0])
    clear h0 d0
    go_wp2_with fail
    refine HO.out.mono ?_
    rintro e8 w8 ⟨rfl,rfl⟩
    have HFA:=Lib.hid (fin_1 (a:=.int .i64 0) (b:=.int .i64 0) (W:=w7) HR1z.out)
    have q0:=HR1z.out.cell (i:=0) (v:=.int .i64 0) rfl
    have q1:=HR1z.out.cell (i:=1) (v:=.int .i64 0) rfl
    have g0:=HR1z.out.free 0
    have g1:=HR1z.out.free 1
    clear HO
    go_wp2_with (refine bodyPost_ret (v:=.tuple #[.slice va l.length vc,.agg #[.int .i64 0,.int .i64 0]]) (res_tc rfl _ _ w.heap.size _ _ #[.int .i64 0,.int .i64 0] rfl rfl HFA.out.r1 rfl) rfl ?_;exact ⟨by rw [HPZ.out];exact ⟨_,rfl,Dep.step HD.out HFA.out.sz fun b hb _=>⟨by have:=HRP.out;omega,HFA.out.ot b (by have:=HRP.out;omega)⟩⟩,HB7.out.trans (HFA.out.bl _ (Nat.le_refl _))⟩)
   ·have d0:decide (s1.e=0)=false:=decide_eq_false h0
    rw [d0] at HO
    have HPZ:Hid (scriptL t.data.toList = .inl (s1.e,s1.a)):=Lib.hid (by rw [HPOST.out,if_neg h0])
    clear h0 d0
    go_wp2_with fail
    refine HO.out.mono ?_
    rintro e8 w8 ⟨rfl,rfl⟩
    clear HO
    have k0:=HP7.out.c3
    have k1:=HP7.out.c4
    have c0:=HP7.out.c0
    go_upto_region 11 with fail
    have l0:=lat_cell k0
    have l1:=lat_cell k1
    refine wp_region_later_tail 5 (by kernel_rfl) (by kernel_rfl) ?_
    simp only [List.take_succ_cons,List.take_zero,List.drop_succ_cons,List.drop_zero]
    repeat (go_big_quiet_step (fail))
    refine wpQuiet_nil ?_
    refine later_out (fun w8 hb8=>?_)
    have HR1y:=Lib.hid (HR1z.out.later hb8)
    have HBD:=Lib.hid (next HB7.out hb8)
    have HFA:=Lib.hid (fin_1 (a:=.int .i64 (s1.e:Int)) (b:=.int .i64 s1.a) HR1y.out)
    have q0:=HR1y.out.cell (i:=0) (v:=.int .i64 0) rfl
    have q1:=HR1y.out.cell (i:=1) (v:=.int .i64 0) rfl
    have f0:=HR1y.out.free 0
    have f1:=HR1y.out.free 1
    clear hb8 l0 l1 k0 k1 c0
    go_wp2_with (refine bodyPost_ret (v:=.tuple #[.slice none 0 0,.agg #[.int .i64 (s1.e:Int),.int .i64 s1.a]]) (res_tc rfl _ _ w.heap.size _ _ #[.int .i64 (s1.e:Int),.int .i64 s1.a] rfl rfl HFA.out.r1 rfl) rfl ?_;exact ⟨by rw [HPZ.out];rfl,HBD.out.trans (HFA.out.bl _ (Nat.le_refl _))⟩)
theorem scriptW (t:ByteArray) (w:World) (hx:LX w) (hs:t.size ≤ 1000000000):Calls Tryz.prog 11 #[.string t] w fun e w'=>scPost w (scriptL t.data.toList) e w'∧Below w.heap.size w w':=scriptB t w hx (Nat.le_trans hs (by decide))
end Go.Proofs.YtmdogmpcmkfjpaaGreatDoor.Dt
namespace Go.Proofs.YtmdogmpcmkfjpaaGreatDoor.Dt
open Go.RowKit Go.Proofs.YtmdogmpcmkfjpaaGreatDoor.By
theorem exR_below {w w':World} {cs:List Value} {x:PE} (h:ExR w cs x) (hb:Below w.heap.size w w'):ExR w' cs x:=by
 induction h with
 | mk x kv cs h hl h8 _ ih=>exact .mk x kv cs (h.below hb) hl h8 fun i c y hc hy=>ih i c y hc hy
theorem SlR.below {α:Type} {size:Nat} {R:World→List Value→α→Prop} {w w':World} {v:Value} {l:List α} (h:SlR size R w v l) (hb:Below w.heap.size w w') (hR:∀ c x,R w c x→R w' c x):SlR size R w' v l:=by
 obtain ⟨cs,hs,hl,he⟩:=h
 exact ⟨cs,hs.below hb,hl,fun i c x hc hx=>⟨(he i c x hc hx).1,hR c x (he i c x hc hx).2⟩⟩
theorem exsR_below {w w':World} {v:Value} {l:List PE} (h:ExsR w v l) (hb:Below w.heap.size w w'):ExsR w' v l:=SlR.below h hb fun _ _ h=>exR_below h hb
def PE.val (x:PE) (kv:Value):Value:=.agg #[.int .u8 (x.op:Int),.int .u8 (x.v.k:Int),.int .i64 x.v.n,.string x.v.s,.string x.t,.string x.m,.int .i64 x.n,kv]
theorem exs_at {w:World} {a:Option Addr} {n c k:Nat} {l:List PE} {x:PE} (h:ExsR w (.slice a n c) l) (hk:l[k]? = some x):∃ b o kv,a=some ⟨b,o,none⟩∧ExsR w kv x.kids ∧
 w.cell? ⟨b,o + k * 8,none⟩=some (.int .u8 (x.op:Int))∧w.cell? ⟨b,o + k * 8 + 1,none⟩=some (.int .u8 (x.v.k:Int))∧w.cell? ⟨b,o + k * 8 + 2,none⟩=some (.int .i64 x.v.n)∧w.cell? ⟨b,o + k * 8 + 3,none⟩=some (.string x.v.s) ∧
 w.cell? ⟨b,o + k * 8 + 4,none⟩=some (.string x.t)∧w.cell? ⟨b,o + k * 8 + 5,none⟩=some (.string x.m)∧w.cell? ⟨b,o + k * 8 + 6,none⟩=some (.int .i64 x.n)∧w.cell? ⟨b,o + k * 8 + 7,none⟩=some kv:=by
 obtain ⟨b,o,cs,rfl,_,hx,hc⟩:=h.get hk
 obtain ⟨kv,rfl,hkids⟩:=exR_iff.1 hx
 exact ⟨b,o,kv,rfl,hkids,hc 0 _ rfl,hc 1 _ rfl,hc 2 _ rfl,hc 3 _ rfl,hc 4 _ rfl,hc 5 _ rfl,hc 6 _ rfl,hc 7 _ rfl⟩
noncomputable def eqB {α:Type} (a b:α):Bool:=@decide (a=b) (Classical.propDecidable _)
theorem eqB_true {α:Type} {a b:α} : eqB a b=true ↔ a=b:=@decide_eq_true_iff _ (Classical.propDecidable _)
theorem eqB_self {α:Type} (a:α):eqB a a=true:=eqB_true.2 rfl
theorem eqB_false {α:Type} {a b:α} (h:a ≠ b):eqB a b=false:=Bool.eq_false_iff.2 fun e=>h (eqB_true.1 e)
set_option maxRecDepth 100000 in
set_option maxHeartbeats 16000000 in
theorem alikeEx (xs ys:List PE) (va vb:Value) (w:World) (ha:ExsR w va xs) (hb:ExsR w vb ys) (hla:xs.length ≤ 140737488351232)
 (H:∀ (i:Nat) (x y:PE),xs[i]? = some x→ys[i]? = some y→∀ (kx ky:Value) (W:World),ExsR W kx x.kids→ExsR W ky y.kids→Calls Tryz.prog 15 #[x.val kx,y.val ky] W fun e w'=>e = .returned (.bool (eqB x y))∧Below W.heap.size W w') :
 Calls Tryz.prog 33 #[va,vb,.func (.func 15) #[] #[]] w fun e w'=>e = .returned (.bool (eqB xs ys))∧Below w.heap.size w w':=by
 obtain ⟨aa,ac,rfl,hac⟩:=ha.shape
 obtain ⟨ba,bc,rfl,hbc⟩:=hb.shape
 have HA:=Lib.hid ha
 have HB:=Lib.hid hb
 have HH:=Lib.hid H
 by_cases hlen:xs.length=ys.length
 ·have e1:((xs.length:Int) != (ys.length:Int))=false:=by simp [hlen]
  have HLEN:=Lib.hid hlen
  clear ha hb H hac hbc hlen
  go_enter Tryz.func33,Tryz.ntmps33
  go_wp2_with fail
  go_loopg [15] xs.length (fun gk iv wr=>∃ (i:Nat),iv = .int .i64 (i:Int)∧gk=xs.length - i∧i ≤ xs.length∧Hid (Below w.heap.size w wr)∧Hid (xs.take i=ys.take i))
  case atStart=>exact ⟨0,rfl,rfl,Nat.zero_le _,Lib.hid (Below.refl _ _),Lib.hid rfl⟩
  case round=>
   obtain ⟨i,rfl,rfl,hi,HBL,HT⟩:=hrel
   by_cases hlt:i < xs.length
   ·obtain ⟨x,hx⟩:∃ x,xs[i]? = some x:=⟨xs[i],by simp⟩
    obtain ⟨y,hy⟩:∃ y,ys[i]? = some y:=⟨ys[i]'(by have:=HLEN.out;omega),by simp⟩
    have hwa:=exsR_below HA.out HBL.out
    have hwb:=exsR_below HB.out HBL.out
    obtain ⟨b1,o1,k1,rfl,hk1,p0,p1,p2,p3,p4,p5,p6,p7⟩:=exs_at hwa hx
    obtain ⟨b2,o2,k2,rfl,hk2,q0,q1,q2,q3,q4,q5,q6,q7⟩:=exs_at hwb hy
    obtain ⟨ka,kc,rfl,_⟩:=hk1.shape
    obtain ⟨ja,jc,rfl,_⟩:=hk2.shape
    have HC:Hid (∀ W,Below wr.heap.size wr W→Calls Tryz.prog 15 #[x.val (.slice ka x.kids.length kc),y.val (.slice ja y.kids.length jc)] W fun e w'=>e = .returned (.bool (eqB x y))∧Below W.heap.size W w'):=Lib.hid (fun W hW=>HH.out i x y hx hy _ _ W (exsR_below hk1 hW) (exsR_below hk2 hW))
    have HX:=Lib.hid hx
    have HY:=Lib.hid hy
    have ilt:(i:Int) < (xs.length:Int):=by omega
    have ilt2:(i:Int) < (ys.length:Int):=by have:=HLEN.out;omega
    have ige:(0:Int) ≤ (i:Int):=by omega
    have HLT:=Lib.hid hlt
    unfold PE.val at HC
    clear hx hy hwa hwb hk1 hk2 hlt
    go_upto_region 6 with fail
    have l0:=lat_cell p0;have l1:=lat_cell p1;have l2:=lat_cell p2;have l3:=lat_cell p3;have l4:=lat_cell p4;have l5:=lat_cell p5;have l6:=lat_cell p6;have l7:=lat_cell p7
    have m0:=lat_cell q0;have m1:=lat_cell q1;have m2:=lat_cell q2;have m3:=lat_cell q3;have m4:=lat_cell q4;have m5:=lat_cell q5;have m6:=lat_cell q6;have m7:=lat_cell q7
    refine wp_region_later (by kernel_rfl) (by kernel_rfl) ?_
    repeat (go_big_quiet_step (exact lat_calls (HC.out _ (lat_below _ _))))
    refine wpQuiet_nil ?_
    refine later_out (fun w2 hb2=>?_)
    have HB2:=Lib.hid (next HBL.out hb2)
    clear l0 l1 l2 l3 l4 l5 l6 l7 m0 m1 m2 m3 m4 m5 m6 m7 p0 p1 p2 p3 p4 p5 p6 p7 q0 q1 q2 q3 q4 q5 q6 q7 hb2
    by_cases hxy:x=y
    ·have e2:eqB x y=true:=eqB_true.2 hxy
     have HT2:Hid (xs.take (i + 1)=ys.take (i + 1)):=Lib.hid (by
      rw [List.take_add_one,List.take_add_one,HT.out,HX.out,HY.out,hxy])
     rw [e2]
     clear e2 hxy
     go_wp2_with fail
     go_roundg (xs.length - (i + 1))
     case measure=>exact Nat.sub_lt_sub_left HLT.out (Nat.lt_succ_self _)
     case rel=>exact ⟨i + 1,by go_num,rfl,HLT.out,HB2,HT2⟩
    ·have e2:eqB x y=false:=eqB_false hxy
     have HE:Hid (eqB xs ys=false):=Lib.hid (eqB_false fun e=>hxy (by have h1:=HX.out;have h2:=HY.out;rw [e,h2] at h1;cases h1;rfl))
     rw [e2]
     clear e2 hxy
     go_wp2_with fail
     go_ret
     exact ⟨by rw [HE.out];rfl,HB2.out⟩
   ·obtain rfl:i=xs.length:=by omega
    have HE:Hid (eqB xs ys=true):=Lib.hid (eqB_true.2 (by have h1:=HT.out;have h2:=HLEN.out;rw [List.take_length,h2,List.take_length] at h1;exact h1))
    clear hlt hi
    go_wp2_with fail
    go_ret
    exact ⟨by rw [HE.out];rfl,HBL.out⟩
 ·have e1:((xs.length:Int) != (ys.length:Int))=true:=by simp;omega
  have HE:Hid (eqB xs ys=false):=Lib.hid (eqB_false fun e=>hlen (by rw [e]))
  clear ha hb H hac hbc hlen
  go_enter Tryz.func33,Tryz.ntmps33
  go_wp2_with fail
  go_ret
  exact ⟨by rw [HE.out];rfl,Below.refl _ _⟩
theorem bytes_eq {a b:ByteArray} (h:a.toList=b.toList):a=b:=
 of_decide_eq_true ((str_eq a b).symm.trans (by rw [h];exact beq_self_eq_true _))
theorem eqB_kids {x y:PE} (h0:(x.op:Int)=(y.op:Int)) (h1:(x.v.k:Int)=(y.v.k:Int)) (h2:x.v.n=y.v.n) (h3:x.v.s.toList=y.v.s.toList) (h4:x.t.toList=y.t.toList) (h5:x.m.toList=y.m.toList) (h6:x.n=y.n) :
 eqB x y=eqB x.kids y.kids:=by
 have h3:=bytes_eq h3
 have h4:=bytes_eq h4
 have h5:=bytes_eq h5
 obtain ⟨o,⟨k,i,s⟩,t,m,n,l⟩:=x
 obtain ⟨o',⟨k',i',s'⟩,t',m',n',l'⟩:=y
 simp only [PE.op,PE.v,PE.t,PE.m,PE.n,PE.kids] at *
 obtain rfl:o=o':=by omega
 obtain rfl:k=k':=by omega
 subst h2;subst h3;subst h4;subst h5;subst h6
 by_cases h:l=l'
 ·rw [eqB_true.2 h,h];exact eqB_self _
 ·rw [eqB_false h];exact eqB_false fun e=>h (by cases e;rfl)
set_option maxRecDepth 100000 in
set_option maxHeartbeats 16000000 in
theorem sameEx1 (x y:PE) (ka kb:Option Addr) (kc kd:Nat) (w:World)
 (H:∀ W,Below w.heap.size w W→Calls Tryz.prog 33 #[.slice ka x.kids.length kc,.slice kb y.kids.length kd,.func (.func 15) #[] #[]] W fun e w'=>e = .returned (.bool (eqB x.kids y.kids))∧Below W.heap.size W w') :
 Calls Tryz.prog 15 #[x.val (.slice ka x.kids.length kc),y.val (.slice kb y.kids.length kd)] w fun e w'=>e = .returned (.bool (eqB x y))∧Below w.heap.size w w':=by
 have HH:=Lib.hid H
 clear H
 unfold PE.val
 have hbA:Below w.heap.size w ((w.alloc (.cells #[.int .u8 (x.op:Int),.int .u8 (x.v.k:Int),.int .i64 x.v.n,.string x.v.s,.string x.t,.string x.m,.int .i64 x.n,.slice ka x.kids.length kc] 48)).alloc (.cells #[.int .u8 (y.op:Int),.int .u8 (y.v.k:Int),.int .i64 y.v.n,.string y.v.s,.string y.t,.string y.m,.int .i64 y.n,.slice kb y.kids.length kd] 48)):=((Below.refl _ _).alloc (Nat.le_refl _) _).alloc (by simp) _
 have HR0:=Lib.hid ((row_alloc w 48 #[.int .u8 (x.op:Int),.int .u8 (x.v.k:Int),.int .i64 x.v.n,.string x.v.s,.string x.t,.string x.m,.int .i64 x.n,.slice ka x.kids.length kc]).later ((Below.refl _ _).alloc (Nat.le_refl _) (.cells #[.int .u8 (y.op:Int),.int .u8 (y.v.k:Int),.int .i64 y.v.n,.string y.v.s,.string y.t,.string y.m,.int .i64 y.n,.slice kb y.kids.length kd] 48)))
 have HR1:=Lib.hid (row_alloc (w.alloc (.cells #[.int .u8 (x.op:Int),.int .u8 (x.v.k:Int),.int .i64 x.v.n,.string x.v.s,.string x.t,.string x.m,.int .i64 x.n,.slice ka x.kids.length kc] 48)) 48 #[.int .u8 (y.op:Int),.int .u8 (y.v.k:Int),.int .i64 y.v.n,.string y.v.s,.string y.t,.string y.m,.int .i64 y.n,.slice kb y.kids.length kd])
 have HS1:Hid ((w.alloc (.cells #[.int .u8 (x.op:Int),.int .u8 (x.v.k:Int),.int .i64 x.v.n,.string x.v.s,.string x.t,.string x.m,.int .i64 x.n,.slice ka x.kids.length kc] 48)).heap.size=w.heap.size + 1):=Lib.hid (by simp)
 rw [HS1.out] at HR1
 go_enter Tryz.func15,Tryz.ntmps15
 go_upto_region 1 with fail
 have HBA:=Lib.hid hbA
 clear hbA HS1
 generalize (w.alloc (.cells #[.int .u8 (x.op:Int),.int .u8 (x.v.k:Int),.int .i64 x.v.n,.string x.v.s,.string x.t,.string x.m,.int .i64 x.n,.slice ka x.kids.length kc] 48)).alloc (.cells #[.int .u8 (y.op:Int),.int .u8 (y.v.k:Int),.int .i64 y.v.n,.string y.v.s,.string y.t,.string y.m,.int .i64 y.n,.slice kb y.kids.length kd] 48)=w2 at *
 have l0:=(HR0.out.cell (i:=0) rfl)
 have m0:=(HR1.out.cell (i:=0) rfl)
 have l1:=(HR0.out.cell (i:=1) rfl)
 have m1:=(HR1.out.cell (i:=1) rfl)
 have l2:=(HR0.out.cell (i:=2) rfl)
 have m2:=(HR1.out.cell (i:=2) rfl)
 have l3:=(HR0.out.cell (i:=3) rfl)
 have m3:=(HR1.out.cell (i:=3) rfl)
 have l4:=(HR0.out.cell (i:=4) rfl)
 have m4:=(HR1.out.cell (i:=4) rfl)
 have l5:=(HR0.out.cell (i:=5) rfl)
 have m5:=(HR1.out.cell (i:=5) rfl)
 have l6:=(HR0.out.cell (i:=6) rfl)
 have m6:=(HR1.out.cell (i:=6) rfl)
 have l7:=(HR0.out.cell (i:=7) rfl)
 have m7:=(HR1.out.cell (i:=7) rfl)
 go_wp2_with fail
 all_goals first
  | (refine (HH.out _ HBA.out).mono ?_
     have HE:Hid (eqB x y=eqB x.kids y.kids):=Lib.hid (eqB_kids (by assumption) (by assumption) (by assumption) (by assumption) (by assumption) (by assumption) (by assumption))
     intro e w3 hr
     obtain ⟨rfl,hb3⟩:=hr
     have HB3:=Lib.hid (next HBA.out hb3)
     clear hb3 l0 l1 l2 l3 l4 l5 l6 l7 m0 m1 m2 m3 m4 m5 m6 m7
     go_wp2_with fail
     go_ret
     exact ⟨by rw [HE.out];rfl,HB3.out⟩)
  | (have HE:Hid (eqB x y=false):=Lib.hid (eqB_false fun e=>by subst e;contradiction)
     go_ret
     exact ⟨by rw [HE.out];rfl,HBA.out⟩)
inductive Short:PE→Prop
 | mk (x:PE):x.kids.length ≤ 140737488351232→(∀ y,y ∈ x.kids→Short y)→Short x
theorem sameEx {x:PE} (h:Short x):∀ (y:PE) (kx ky:Value) (W:World),ExsR W kx x.kids→ExsR W ky y.kids →
 Calls Tryz.prog 15 #[x.val kx,y.val ky] W fun e w'=>e = .returned (.bool (eqB x y))∧Below W.heap.size W w':=by
 induction h with
 | mk x hl _ ih=>
  intro y kx ky W hx hy
  obtain ⟨ka,kc,rfl,_⟩:=hx.shape
  obtain ⟨kb,kd,rfl,_⟩:=hy.shape
  exact sameEx1 x y ka kb kc kd W fun W2 hb=>alikeEx x.kids y.kids _ _ W2 (exsR_below hx hb) (exsR_below hy hb) hl fun _ a b ha _ kx ky W3 h1 h2=>ih a (List.mem_of_getElem? ha) b kx ky W3 h1 h2
theorem sameExs {xs ys:List PE} (hs:∀ x,x ∈ xs→Short x) (hl:xs.length ≤ 140737488351232) {va vb:Value} {w:World} (ha:ExsR w va xs) (hb:ExsR w vb ys) :
 Calls Tryz.prog 33 #[va,vb,.func (.func 15) #[] #[]] w fun e w'=>e = .returned (.bool (eqB xs ys))∧Below w.heap.size w w':=
 alikeEx xs ys va vb w ha hb hl fun _ a b hi _ kx ky W h1 h2=>sameEx (hs a (List.mem_of_getElem? hi)) b kx ky W h1 h2
end Go.Proofs.YtmdogmpcmkfjpaaGreatDoor.Dt
