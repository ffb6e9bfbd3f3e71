import Derived.Test.YtmdogmpcmkfjpaaGreatDoorBq24
import Derived.Test.YtmdogmpcmkfjpaaGreatDoorBq10
import Derived.Test.YtmdogmpcmkfjpaaGreatDoorBq05
import Derived.Test.YtmdogmpcmkfjpaaGreatDoorBq08
import Derived.Test.YtmdogmpcmkfjpaaGreatDoorBq14
set_option maxRecDepth 100000
set_option maxHeartbeats 64000000
/- Part. -/
namespace Go.Proofs.YtmdogmpcmkfjpaaGreatDoor.Dt
open Go.RowKit Go.Proofs.YtmdogmpcmkfjpaaGreatDoor.By
theorem arr16 {c:Array Value} (h:c.size=16):∃ a0 a1 a2 a3 a4 a5 a6 a7 a8 a9 a10 a11 a12 a13 a14 a15,c = #[a0,a1,a2,a3,a4,a5,a6,a7,a8,a9,a10,a11,a12,a13,a14,a15]:=by
 have hl:c.toList.length=16:=by simpa using h
 match hc:c.toList,hl with
 | [a0,a1,a2,a3,a4,a5,a6,a7,a8,a9,a10,a11,a12,a13,a14,a15],_=>exact ⟨a0,a1,a2,a3,a4,a5,a6,a7,a8,a9,a10,a11,a12,a13,a14,a15,Array.toList_inj.1 hc⟩
theorem Zto (n:Nat) (ps:Array (Nat × Value)):Instr.buildSlice 37 n ps=Zeh 37 n ps:=rfl
theorem run_bsSt (W:World) (c:Array Value) (h:Zav 16 c=true):(Zeh 37 1 #[(0,.agg c)]).run Tryz.prog W = .ok (.slice (some ⟨W.heap.size,0,none⟩) 1 1) (W.alloc (.cells c 31)):=by
 obtain ⟨a0,a1,a2,a3,a4,a5,a6,a7,a8,a9,a10,a11,a12,a13,a14,a15,rfl⟩:=arr16 (Zo.1 h).1
 unfold Zeh
 go_simp
theorem elSt:By.Elem Tryz.prog 37 31 16 320 where
 slice:=kR
 info:=by
  have h:(Tryz.prog.info? 31).map (fun i=>(i.zero,i.size,i.bytes))=some (some (.agg stZ),16,320):=kR
  obtain ⟨i,hi,h1,h2,h3⟩:=info_parts h
  exact ⟨i,_,hi,h1,h2,h3,rfl⟩
 pos:=kD
def Zt6 (w:World):(Nat × Int) ⊕ List PSt→Ending→World→Prop
 | .inl x,e,_=>e = .returned (.tuple #[nS,.agg #[.int .i64 (x.1:Int),.int .i64 x.2]])
 | .inr l,e,w'=>∃ v,e = .returned (.tuple #[v,.agg #[iZ,iZ]])∧New w.heap.size w' (fun u=>SlR 16 StR u v l)
theorem Zue {fn:Func} {p q:Tmp} (h:fn.results = #[.tmp p,.cell q 39]) (tmps:Array Value) (w:World) (k:Nat) (u:TypeId) (v:Value) (ds:Array Value)
 (hp:tmps.getD p undef=v) (hq:tmps.getD q undef = pV k) (hk:Row k u ds w) (hd:ds.size=2):(results fn tmps).run Tryz.prog w = .ok (.tuple #[v,.agg ds]) w:=by
 have hs:∃ fs,Tryz.prog.underlying 39=some (.struct fs):=Zl9 kR
 obtain ⟨gs,hv⟩:=hs
 have hi:(Tryz.prog.info? 39).map (·.size)=some 2:=kR
 have hp':tmps[p]?.getD undef=v:=by simpa using hp
 have hq':tmps[q]?.getD undef = pV k:=by simpa using hq
 simp [results,h,hp',hq',asAddr,run_loadVar_row w k u 39 ds (0,0) _ hk hv rfl (by rw [hi,hd])]
structure Fin1 (q:Nat) (ds:Array Value) (W W':World):Prop where
 r1:Row q 39 ds W'
 ot:∀ b,b ≠ q→W'.heap[b]? = W.heap[b]?
 sz:W.heap.size ≤ W'.heap.size
 bl:∀ n,n ≤ q→Below n W W'
theorem fin_1 {q:Nat} {x y a b:Value} {W:World} (h1:Row q 39 #[x,y] W):Fin1 q #[a,b] W ((W.setCell ⟨q,0,none⟩ a).setCell ⟨q,1,none⟩ b):=by
 have e1:=setCell_eq_setRow _ q 0 _ _ _ a h1
 have h2:Row q 39 #[a,y] (W.setCell ⟨q,0,none⟩ a):=by rw [e1];exact h1.set _
 have e2:=setCell_eq_setRow _ q 1 _ _ _ b h2
 refine ⟨by rw [e2];exact h2.set _,fun k hk=>?_,by simp,fun n hn=>Zbd (Zbd (Below.refl _ _) hn) hn⟩
 rw [e2,e1]
 exact (setRow_other _ q k _ hk).trans (setRow_other _ q k _ hk)
theorem Ztz {L:List Tk} {en:Int} {f:Nat} {s:PS} (h:¬ (s.e=0∧s.k < L.length)):stmtsM L en (f + 1) s=([],s):=by
 show (if s.e=0∧s.k < L.length then _ else _)=_
 rw [if_neg h]
theorem stmts_go {L:List Tk} {en:Int} {f:Nat} {s s1 s2:PS} {x:PSt} (h:s.e=0∧s.k < L.length) (h1:stmtM L en s=(x,s1)) (h2:(if s1.k < L.length then (mustM L en [Za4] s1).2 else s1)=s2) :
 stmtsM L en (f + 1) s=(x :: (stmtsM L en f s2).1,(stmtsM L en f s2).2):=by
 show (if s.e=0∧s.k < L.length then _ else _)=_
 rw [if_pos h,Za1 h1,Za1 (x:=()) (s1:=s2)]
 ·rfl
 show (if s1.k < L.length then mustM L en [Za4] s1 else ((),s1))=_
 rw [← h2]
 split <;> rfl
def Zgq (L:List Tk) (s:PS):Nat:=(L.length - s.k) + (if s.e=0 then 1 else 0)
theorem st_round {L:List Tk} {en:Int} {sj s2 s3:PS} {x:PSt} (hg:sj.e=0∧sj.k < L.length) (h1:stmtM L en sj=(x,s2)) (h2:(if s2.k < L.length then (mustM L en [Za4] s2).2 else s2)=s3) :
 Zgq L s3 < Zgq L sj∧sj.k + 1 ≤ s3.k + (if s3.e=0 then 0 else 1):=by
 have m1:=(Sim.stmtM (L:=L) (L':=L) (en:=en) (en':=en) (d:=0)).mono sj |>.1
 have p1:=Zjc.stmtM (L:=L) (en:=en) sj
 rw [h1] at m1 p1
 have m2:s2.k ≤ s3.k∧(s2.e ≠ 0→s3.e ≠ 0):=by
  rw [← h2]
  split
  ·exact (Sim.mustM (L:=L) (L':=L) (en:=en) (en':=en) (d:=0) [Za4]).mono s2
  ·exact ⟨Nat.le_refl _,id⟩
 obtain ⟨he,hk⟩:=hg
 have m1:sj.k ≤ s2.k:=m1
 have p1:s2.e=0→sj.k < s2.k:=p1
 unfold Zgq
 rw [if_pos he]
 by_cases h3:s3.e=0
 ·have h4:s2.e=0:=Classical.byContradiction fun h=>m2.2 h h3
  have:=p1 h4
  rw [if_pos h3,if_pos h3]
  omega
 rw [if_neg h3,if_neg h3]
 omega
attribute [local go_sem ↓] Zto
attribute [local go_sem] run_bsSt
theorem Zme (t:ByteArray) (w:World) (hx:LX w) (hs:t.size ≤ 140737488351232):Calls Tryz.prog 11 #[.string t] w fun e w'=>Zt6 w (Z4 t.data.toList) e w'∧Below w.heap.size w w':=by
 have hb0:Below w.heap.size w (w.alloc (.cells #[iZ,iZ] 39)):=bA
 have HR1:=Lh (Zc w 39 #[iZ,iZ])
 have HB0:=Lh hb0
 have HX:=Lh (hx.later hb0)
 have HS:=Lh hs
 clear hb0 hx hs
 go_enter Tryz.func11,Tryz.ntmps11
 go_upto_region 1 with fail
 generalize w.alloc (.cells #[iZ,iZ] 39)=w1 at *
 have HT:=Lh (Zk8 t w1 HX.out HS.out)
 cases hR:Zea t.data.toList with
 | inl x=>
  obtain ⟨en,ea⟩:=x
  rw [hR] at HT
  have HPOST:Hid (Z4 t.data.toList = .inl (en,(ea:Int))):=Lh (by unfold Z4;rw [hR])
  have hne:=(Zmc hR).1
  have e1:((en:Int) != 0)=true:=kQ
  clear hR hne
  go_wp2_with fail
  refine HT.out.mono ?_
  rintro e2 w2 ⟨rfl,hb2⟩
  have hbk:=(Below.refl _ w2).alloc (Nat.le_refl _) (.cells #[.int .i64 (en:Int),.int .i64 (ea:Int)] 39)
  have HK:=Lh (Zc w2 39 #[.int .i64 (en:Int),.int .i64 (ea:Int)])
  have HR1c:=Lh ((HR1.out.later hb2).later hbk)
  have HB3:=Lh (next (next HB0.out hb2) hbk)
  clear hb2 HT hbk
  go_upto_region 3 with fail
  generalize w2.alloc (.cells #[.int .i64 (en:Int),.int .i64 (ea:Int)] 39)=w3 at *
  generalize w2.heap.size=k at *
  have k0:=HK.out.cell (i:=0) (v:=.int .i64 (en:Int)) rfl
  have k1:=HK.out.cell (i:=1) (v:=.int .i64 (ea:Int)) rfl
  have l0:=Zb k0
  have l1:=Zb k1
  refine Zaj 2 kR kR ?_
  simp only [List.take_succ_cons,List.take_zero,List.drop_succ_cons,List.drop_zero]
  repeat (go_big_quiet_step (fail))
  refine wpQuiet_nil ?_
  refine Zu (fun w4 hb4=>?_)
  have HR1z:=Lh (HR1c.out.later hb4)
  have HBD:=Lh (next HB3.out hb4)
  have HFA:=Lh (fin_1 (a:=.int .i64 (en:Int)) (b:=.int .i64 (ea:Int)) HR1z.out)
  have q0:=HR1z.out.cell (i:=0) (v:=iZ) rfl
  have q1:=HR1z.out.cell (i:=1) (v:=iZ) rfl
  have f0:=HR1z.out.free 0
  have f1:=HR1z.out.free 1
  clear hb4 l0 l1 k0 k1
  go_wp2_with (refine bodyPost_ret (v:=.tuple #[nS,.agg #[.int .i64 (en:Int),.int .i64 (ea:Int)]]) (Zue rfl _ _ w.heap.size _ _ #[.int .i64 (en:Int),.int .i64 (ea:Int)] rfl rfl HFA.out.r1 rfl) rfl ?_;exact ⟨by rw [HPOST.out];rfl,HBD.out.trans (HFA.out.bl _ (Nat.le_refl _))⟩)
 | inr L=>
  have HALL:Hid (Zbs L):=Lh (Zpr hR)
  have HLEN:Hid (t.size ≤ 4096∧L.length ≤ 4096):=Lh (by
   have h1:=Zhl hR
   have h2:=hR
   rw [Zb4] at h2
   by_cases h:4096 < t.data.toList.length
   ·rw [if_pos h] at h2;cases h2
   ·rw [Zwq] at h h1;exact ⟨by omega,by omega⟩)
  obtain ⟨⟨l,s1⟩,hx1⟩:∃ z,stmtsM L (t.size:Int) FU ⟨0,0,0⟩=z:=⟨_,rfl⟩
  have HPOST:Hid (Z4 t.data.toList=if s1.e=0 then .inr l else .inl (s1.e,s1.a)):=Lh (by
   unfold Z4
   rw [hR]
   simp only
   rw [Zwq,hx1])
  have HX1:=Lh hx1
  rw [hR] at HT
  clear hR hx1
  go_wp2_with fail
  refine HT.out.mono ?_
  rintro e2 w2 ⟨⟨tv,rfl,htk⟩,hb2⟩
  obtain ⟨ta,tc,rfl⟩:=htk.shape
  have HTK:=Lh htk
  have hbk:=(Below.refl _ w2).alloc (Nat.le_refl _) (.cells #[iZ,iZ] 39)
  have HR1b:=Lh ((HR1.out.later hb2).later hbk)
  have HLK:Hid (w.heap.size < w2.heap.size):=Lh (HR1.out.later hb2).lt
  have HB2:=Lh (next (next HB0.out hb2) hbk)
  have HBK:=Lh hbk
  clear hb2 HT htk hbk
  go_upto_region 4 with fail
  generalize hw3:w2.alloc (.cells #[iZ,iZ] 39)=w3 at *
  have HZ3:Hid (w3.heap.size=w2.heap.size + 1):=Lh (by rw [← hw3];simp)
  clear hw3
  have hbp:=(Below.refl _ w3).alloc (Nat.le_refl _) (.cells #[.slice ta L.length tc,iZ,.int .i64 (t.size:Int),iZ,iZ] 77)
  have hrow:=Zc w3 77 #[.slice ta L.length tc,iZ,.int .i64 (t.size:Int),iZ,iZ]
  have HPB:Hid (PB w2 w3.heap.size (.slice ta L.length tc) L (t.size:Int) ⟨0,0,0⟩ (w3.alloc (.cells #[.slice ta L.length tc,iZ,.int .i64 (t.size:Int),iZ,iZ] 77))):=Lh
   ⟨hrow.cell rfl,hrow.cell rfl,hrow.cell rfl,hrow.cell rfl,hrow.cell rfl,hrow.free 1,hrow.free 3,hrow.free 4,HTK.out,next HBK.out (by have:=hbp;exact this),by have:=HZ3.out;omega,HLEN.out.2,Nat.zero_le _⟩
  have HR1c:=Lh (HR1b.out.later hbp)
  have HB4:=Lh (next HB2.out hbp)
  have HRP:Hid (w.heap.size < w3.heap.size):=Lh (by have:=HZ3.out;have:=HLK.out;omega)
  have HW4:Hid ((w3.alloc (.cells #[.slice ta L.length tc,iZ,.int .i64 (t.size:Int),iZ,iZ] 77)).heap.size=w3.heap.size + 1):=Lh kY
  clear hbp hrow
  go_upto_region 5 with fail
  generalize w3.alloc (.cells #[.slice ta L.length tc,iZ,.int .i64 (t.size:Int),iZ,iZ] 77)=w4 at *
  generalize w3.heap.size=r at *
  go_upto_block 0 with fail
  go_cut [7] (fun ov wx=>∃ ccs:List (List Value),PB w2 r (.slice ta L.length tc) L (t.size:Int) s1 wx∧Ze3 31 16 StR (r + 1) wx ov l ccs∧w4.grownBy wx (some r))
  case first=>
   go_wp2_with fail
   go_loopg [7] (Zgq L ⟨0,0,0⟩) (fun gk ov wr=>∃ (done:List PSt) (ccs:List (List Value)) (sj:PS) (f:Nat),gk=Zgq L sj∧Hid (PB w2 r (.slice ta L.length tc) L (t.size:Int) sj wr)∧Hid (Ze3 31 16 StR (r + 1) wr ov done ccs)∧Hid (w4.grownBy wr (some r))∧Hid ((l,s1)=(done ++ (stmtsM L (t.size:Int) f sj).1,(stmtsM L (t.size:Int) f sj).2))∧Hid (Zgq L sj + 1 ≤ f)∧Hid (done.length ≤ sj.k + (if sj.e=0 then 0 else 1)))
   case atStart=>exact ⟨[],[],⟨0,0,0⟩,FU,rfl,HPB,Lh (Ze3.nil _ _ _ _ _),Lh (Zln _ _),Lh (by rw [HX1.out];rfl),Lh (by have:=HLEN.out.2;unfold Zgq;show _ ≤ 100000;rw [if_pos rfl];omega),Lh (Nat.zero_le _)⟩
   case round=>
    obtain ⟨done,ccs,sj,f,rfl,HP,HOW,HG,HQ,HF,HDL⟩:=hrel
    obtain ⟨f',rfl⟩:∃ f',f=f' + 1:=⟨f - 1,by have:=HF.out;omega⟩
    obtain ⟨va,vc,rfl⟩:=HOW.out.shape
    have HOKW:Hid (∀ W,Below wr.heap.size wr W→Calls Tryz.prog 28 #[pV r] W fun e w'=>e = .returned (.bool (decide (sj.e=0)))∧Below W.heap.size W w'):=Lh (fun W hW=>(okP W (PB.later HP.out hW)).mono fun e w' h=>by
     obtain ⟨rfl,rfl⟩:=h
     exact ⟨rfl,Below.refl _ _⟩)
    by_cases hgo:sj.e=0∧sj.k < L.length
    ·have d0:decide (sj.e=0)=true:=decide_eq_true hgo.1
     rw [d0] at HOKW
     have i1:(sj.k:Int) < (L.length:Int):=by have:=hgo.2;omega
     have HGO:=Lh hgo
     have c0:=HP.out.c0
     have c1:=HP.out.c1
     clear d0 hgo
     go_upto_region 6 with fail
     have l0:=Zb c0
     have l1:=Zb c1
     refine Zj kR kR ?_
     repeat (go_big_quiet_step (exact Zcn (HOKW.out _ (Zdr _ _))))
     refine wpQuiet_nil ?_
     refine Zu (fun w6 hb6=>?_)
     have HP6:=Lh (PB.later HP.out hb6)
     have HO6:=Lh (HOW.out.later hb6)
     have HG6:=Lh (Za HG.out (below_grown (r:=r) hb6))
     clear l0 l1 hb6 c0 c1 HOKW
     obtain ⟨⟨x,s2⟩,hst⟩:∃ z,stmtM L (t.size:Int) sj=z:=⟨_,rfl⟩
     obtain ⟨s3,hs3⟩:∃ z,(if s2.k < L.length then (mustM L (t.size:Int) [Za4] s2).2 else s2)=z:=⟨_,rfl⟩
     have HRD:=Lh (st_round HGO.out hst hs3)
     have HQ2:Hid ((l,s1)=((done ++ [x]) ++ (stmtsM L (t.size:Int) f' s3).1,(stmtsM L (t.size:Int) f' s3).2)):=Lh (by rw [HQ.out,stmts_go HGO.out hst hs3,List.append_assoc];rfl)
     have HS3:=Lh hs3
     have hc:=stmtW_of HALL.out (fun w s h=>chooseW HALL.out w h) w6 HP6.out
     rw [hst] at hc
     have HC:=Lh hc
     clear hc hst hs3
     go_wp2_with fail
     refine HC.out.mono ?_
     rintro e7 v7 ⟨u7,rfl,hn7,hp7,hg7⟩
     obtain ⟨c,rfl,hcl,hc1,hok,hcn⟩:=heB Zeq _ _ _ _ hn7
     have hal:=(Below.refl v7.heap.size v7).alloc (Nat.le_refl _) (.cells c.toArray 31)
     have HLT6:Hid (r + 1 ≤ w6.heap.size):=Lh HP6.out.lt
     have HOA:=Lh ((HO6.out.grown hg7 (Nat.lt_succ_self _)).later hal)
     have HPA:=Lh (PB.later hp7 hal)
     have HGA:=Lh (Za (Za HG6.out hg7) (below_grown (r:=r) hal))
     have HNA:=Lh (Zc v7 31 c.toArray)
     have HYA:=Lh (New.below hcn hal)
     have HCL:=Lh hcl
     have HC1:=Lh hc1
     have HM:Hid (∀ k,(Value.slice va done.length vc).ownBlock=some k→k < w6.heap.size):=Lh (fun k hk=>(World.ownsRow.lt HO6.out.own k hk).2)
     have HLO:Hid (∀ k,(Value.slice va done.length vc).ownBlock=some k→r + 1 ≤ k):=Lh (fun k hk=>(World.ownsRow.lt HO6.out.own k hk).1)
     have HCC:Hid (ccs.length ≤ 4097):=Lh (by
      have h1:=HO6.out.len;have h2:=HDL.out;have h3:=HGO.out;have h4:=HLEN.out.2
      rw [if_pos h3.1] at h2
      omega)
     have HBS:Hid (r + 1 ≤ (v7.alloc (.cells c.toArray 31)).heap.size):=Lh (Nat.le_trans HP6.out.lt (Nat.le_trans hg7.size hal.size))
     clear hn7 hp7 hg7 hcn hal hcl hc1 HC
     go_upto_region 8 with (at_builtin;refine Zae rfl (.tmp 36) (.tmp 39) 37 rfl (r + 1) 31 16 320 elSt (.slice va done.length vc) ccs.length ccs.flatten rfl HOA.out.own v7.heap.size 1 c rfl HCL.out (fun j u hj=>HNA.out.cell (by simpa using hj)) HC1.out (by have:=HCC.out;unfold maxLen;omega) (by have:=HCC.out;omega) HBS.out ?_;intro v' w8 hown8 hg8 hv8;have HO8:=Lh (HOA.out.snoc hown8 hg8 hv8 HCL.out HYA.out HLT6.out HM.out);have HP8:=Lh (PB.row HPA.out hg8 (fun j hj=>by have:=HLO.out j hj;omega));have HG8:=Lh (Zds HGA.out hg8 (fun j hj=>by have:=HLO.out j hj;have:=HW4.out;omega));clear hown8 hg8 hv8;obtain ⟨va',vc',hv'⟩:=HO8.out.shape;rw [List.length_append,List.length_singleton] at hv';subst hv')
     clear hok
     have c0:=HP8.out.c0
     have c1:=HP8.out.c1
     have l0:=Zb c0
     have l1:=Zb c1
     refine Zj kR kR ?_
     repeat (go_big_quiet_step (fail))
     refine wpQuiet_nil ?_
     refine Zu (fun w9 hb9=>?_)
     have HP9:=Lh (PB.later HP8.out hb9)
     have HO9:=Lh (HO8.out.later hb9)
     have HG9:=Lh (Za HG8.out (below_grown (r:=r) hb9))
     have HRE:Hid (Zgq L s3 + 1 ≤ f'∧(done ++ [x]).length ≤ s3.k + (if s3.e=0 then 0 else 1)):=Lh (by
      have h1:=HRD.out;have h2:=HF.out;have h3:=HDL.out;have h4:=HGO.out
      rw [if_pos h4.1] at h3
      rw [List.length_append,List.length_singleton]
      omega)
     clear l0 l1 hb9 c0 c1
     by_cases hk:s2.k < L.length
     ·have i2:(s2.k:Int) < (L.length:Int):=kW
      have hm:=Zaw Za4 w9 HP9.out
      have HS4:Hid ((mustM L (t.size:Int) [Za4] s2).2=s3):=Lh (by rw [← HS3.out,if_pos hk])
      rw [HS4.out] at hm
      have HM9:=Lh hm
      clear hm hk
      go_wp2_with fail
      refine HM9.out.mono ?_
      rintro e10 w10 ⟨rfl,hp10,hg10⟩
      have HP10:=Lh hp10
      have HO10:=Lh (HO9.out.grown hg10 (Nat.lt_succ_self _))
      have HG10:=Lh (Za HG9.out hg10)
      clear hp10 hg10 HM9
      go_wp2_with fail
      go_roundg (Zgq L s3)
      case measure=>exact HRD.out.1
      case rel=>exact ⟨_,_,s3,f',rfl,HP10,HO10,HG10,HQ2,Lh HRE.out.1,Lh HRE.out.2⟩
     ·have i2:¬ (s2.k:Int) < (L.length:Int):=kW
      obtain rfl:s2=s3:=by rw [← HS3.out,if_neg hk]
      clear hk
      go_wp2_with fail
      go_roundg (Zgq L s2)
      case measure=>exact HRD.out.1
      case rel=>exact ⟨_,_,s2,f',rfl,HP9,HO9,HG9,HQ2,Lh HRE.out.1,Lh HRE.out.2⟩
    ·have HE:Hid ((l,s1)=(done,sj)):=Lh (by rw [HQ.out,Ztz hgo,List.append_nil])
     have c0:=HP.out.c0
     have c1:=HP.out.c1
     by_cases h0:sj.e=0
     ·have d0:decide (sj.e=0)=true:=decide_eq_true h0
      rw [d0] at HOKW
      have i1:¬ (sj.k:Int) < (L.length:Int):=by have:=fun h=>hgo ⟨h0,h⟩;omega
      exact ks25
     ·have d0:decide (sj.e=0)=false:=decide_eq_false h0
      rw [d0] at HOKW
      exact ks25
  case rest=>
   rename World=>w7
   obtain ⟨ccs,hp7,hown,hg7⟩:=hcut
   have HP7:=Lh hp7
   have HR1z:=Lh (HR1c.out.grown hg7 (by have:=HRP.out;omega))
   have HB7:Hid (Below w.heap.size w w7):=Lh (HB4.out.grown hg7 HB4.out.size (fun k hk=>by cases hk;have:=HRP.out;omega))
   have HD:=Lh hown.done
   obtain ⟨va,vc,rfl⟩:=hown.shape
   have HO:=Lh (okP w7 hp7)
   clear hp7 hg7 hown
   by_cases h0:s1.e=0
   ·have d0:decide (s1.e=0)=true:=decide_eq_true h0
    rw [d0] at HO
    have HPZ:Hid (Z4 t.data.toList = .inr l):=Lh (by rw [HPOST.out,if_pos h0])
    clear h0 d0
    go_wp2_with fail
    refine HO.out.mono ?_
    rintro e8 w8 ⟨rfl,rfl⟩
    have HFA:=Lh (fin_1 (a:=iZ) (b:=iZ) (W:=w7) HR1z.out)
    have q0:=HR1z.out.cell (i:=0) (v:=iZ) rfl
    have q1:=HR1z.out.cell (i:=1) (v:=iZ) rfl
    have g0:=HR1z.out.free 0
    have g1:=HR1z.out.free 1
    clear HO
    go_wp2_with (refine bodyPost_ret (v:=.tuple #[.slice va l.length vc,.agg #[.int .i64 0,.int .i64 0]]) (Zue rfl _ _ w.heap.size _ _ #[.int .i64 0,.int .i64 0] rfl rfl HFA.out.r1 rfl) rfl ?_;exact ⟨by rw [HPZ.out];exact ⟨_,rfl,Dep.step HD.out HFA.out.sz fun b hb _=>⟨by have:=HRP.out;omega,HFA.out.ot b (by have:=HRP.out;omega)⟩⟩,HB7.out.trans (HFA.out.bl _ (Nat.le_refl _))⟩)
   ·have d0:decide (s1.e=0)=false:=decide_eq_false h0
    rw [d0] at HO
    have HPZ:Hid (Z4 t.data.toList = .inl (s1.e,s1.a)):=Lh (by rw [HPOST.out,if_neg h0])
    clear h0 d0
    go_wp2_with fail
    refine HO.out.mono ?_
    rintro e8 w8 ⟨rfl,rfl⟩
    clear HO
    have k0:=HP7.out.c3
    have k1:=HP7.out.c4
    have c0:=HP7.out.c0
    go_upto_region 11 with fail
    have l0:=Zb k0
    have l1:=Zb k1
    refine Zaj 5 kR kR ?_
    simp only [List.take_succ_cons,List.take_zero,List.drop_succ_cons,List.drop_zero]
    repeat (go_big_quiet_step (fail))
    refine wpQuiet_nil ?_
    refine Zu (fun w8 hb8=>?_)
    have HR1y:=Lh (HR1z.out.later hb8)
    have HBD:=Lh (next HB7.out hb8)
    have HFA:=Lh (fin_1 (a:=.int .i64 (s1.e:Int)) (b:=.int .i64 s1.a) HR1y.out)
    have q0:=HR1y.out.cell (i:=0) (v:=iZ) rfl
    have q1:=HR1y.out.cell (i:=1) (v:=iZ) rfl
    have f0:=HR1y.out.free 0
    have f1:=HR1y.out.free 1
    clear hb8 l0 l1 k0 k1 c0
    go_wp2_with (refine bodyPost_ret (v:=.tuple #[nS,.agg #[.int .i64 (s1.e:Int),.int .i64 s1.a]]) (Zue rfl _ _ w.heap.size _ _ #[.int .i64 (s1.e:Int),.int .i64 s1.a] rfl rfl HFA.out.r1 rfl) rfl ?_;exact ⟨by rw [HPZ.out];rfl,HBD.out.trans (HFA.out.bl _ (Nat.le_refl _))⟩)
theorem Zt5 (t:ByteArray) (w:World) (hx:LX w) (hs:t.size ≤ 1000000000):Calls Tryz.prog 11 #[.string t] w fun e w'=>Zt6 w (Z4 t.data.toList) e w'∧Below w.heap.size w w':=Zme t w hx (Nat.le_trans hs kD)
end Go.Proofs.YtmdogmpcmkfjpaaGreatDoor.Dt
namespace Go.Proofs.YtmdogmpcmkfjpaaGreatDoor.Dt
open Go.RowKit Go.Proofs.YtmdogmpcmkfjpaaGreatDoor.By
theorem Zfj {w w':World} {cs:List Value} {x:PE} (h:ExR w cs x) (hb:Below w.heap.size w w'):ExR w' cs x:=by
 induction h with
 | mk x kv cs h hl h8 _ ih=>exact .mk x kv cs (h.below hb) hl h8 fun i c y hc hy=>ih i c y hc hy
theorem SlR.below {α:Type} {size:Nat} {R:World→List Value→α→Prop} {w w':World} {v:Value} {l:List α} (h:SlR size R w v l) (hb:Below w.heap.size w w') (hR:∀ c x,R w c x→R w' c x):SlR size R w' v l:=by
 obtain ⟨cs,hs,hl,he⟩:=h
 exact ⟨cs,hs.below hb,hl,fun i c x hc hx=>⟨(he i c x hc hx).1,hR c x (he i c x hc hx).2⟩⟩
theorem Zg {w w':World} {v:Value} {l:List PE} (h:Zbq w v l) (hb:Below w.heap.size w w'):Zbq w' v l:=SlR.below h hb fun _ _ h=>Zfj h hb
def PE.val (x:PE) (kv:Value):Value:=.agg #[.int .u8 (x.op:Int),.int .u8 (x.v.k:Int),.int .i64 x.v.n,.string x.v.s,.string x.t,.string x.m,.int .i64 x.n,kv]
theorem Zgu {w:World} {a:Option Addr} {n c k:Nat} {l:List PE} {x:PE} (h:Zbq w (.slice a n c) l) (hk:l[k]? = some x):∃ b o kv,a=some ⟨b,o,none⟩∧Zbq w kv x.kids ∧
 w.cell? ⟨b,o + k * 8,none⟩=some (.int .u8 (x.op:Int))∧w.cell? ⟨b,o + k * 8 + 1,none⟩=some (.int .u8 (x.v.k:Int))∧w.cell? ⟨b,o + k * 8 + 2,none⟩=some (.int .i64 x.v.n)∧w.cell? ⟨b,o + k * 8 + 3,none⟩=some (.string x.v.s) ∧
 w.cell? ⟨b,o + k * 8 + 4,none⟩=some (.string x.t)∧w.cell? ⟨b,o + k * 8 + 5,none⟩=some (.string x.m)∧w.cell? ⟨b,o + k * 8 + 6,none⟩=some (.int .i64 x.n)∧w.cell? ⟨b,o + k * 8 + 7,none⟩=some kv:=by
 obtain ⟨b,o,cs,rfl,_,hx,hc⟩:=h.get hk
 obtain ⟨kv,rfl,hkids⟩:=Zby.1 hx
 exact ⟨b,o,kv,rfl,hkids,hc 0 _ rfl,hc 1 _ rfl,hc 2 _ rfl,hc 3 _ rfl,hc 4 _ rfl,hc 5 _ rfl,hc 6 _ rfl,hc 7 _ rfl⟩
noncomputable def eqB {α:Type} (a b:α):Bool:=@decide (a=b) (Classical.propDecidable _)
theorem Za3 {α:Type} {a b:α} : eqB a b=true ↔ a=b:=@decide_eq_true_iff _ (Classical.propDecidable _)
theorem Zch {α:Type} (a:α):eqB a a=true:=Za3.2 rfl
theorem Zw {α:Type} {a b:α} (h:a ≠ b):eqB a b=false:=Bool.eq_false_iff.2 fun e=>h (Za3.1 e)
theorem Zws (xs ys:List PE) (va vb:Value) (w:World) (ha:Zbq w va xs) (hb:Zbq w vb ys) (hla:xs.length ≤ 140737488351232)
 (H:∀ (i:Nat) (x y:PE),xs[i]? = some x→ys[i]? = some y→∀ (kx ky:Value) (W:World),Zbq W kx x.kids→Zbq W ky y.kids→Calls Tryz.prog 15 #[x.val kx,y.val ky] W fun e w'=>e = .returned (.bool (eqB x y))∧Below W.heap.size W w') :
 Calls Tryz.prog 33 #[va,vb,.func (.func 15) #[] #[]] w fun e w'=>e = .returned (.bool (eqB xs ys))∧Below w.heap.size w w':=by
 obtain ⟨aa,ac,rfl,hac⟩:=ha.shape
 obtain ⟨ba,bc,rfl,hbc⟩:=hb.shape
 have HA:=Lh ha
 have HB:=Lh hb
 have HH:=Lh H
 by_cases hlen:xs.length=ys.length
 ·have e1:((xs.length:Int) != (ys.length:Int))=false:=by simp [hlen]
  have HLEN:=Lh hlen
  clear ha hb H hac hbc hlen
  go_enter Tryz.func33,Tryz.ntmps33
  go_wp2_with fail
  go_loopg [15] xs.length (fun gk iv wr=>∃ (i:Nat),iv = .int .i64 (i:Int)∧gk=xs.length - i∧i ≤ xs.length∧Hid (Below w.heap.size w wr)∧Hid (xs.take i=ys.take i))
  case atStart=>exact ⟨0,rfl,rfl,Nat.zero_le _,Lh (Below.refl _ _),Lh rfl⟩
  case round=>
   obtain ⟨i,rfl,rfl,hi,HBL,HT⟩:=hrel
   by_cases hlt:i < xs.length
   ·obtain ⟨x,hx⟩:∃ x,xs[i]? = some x:=⟨xs[i],by simp⟩
    obtain ⟨y,hy⟩:∃ y,ys[i]? = some y:=⟨ys[i]'kb20,by simp⟩
    have hwa:=Zg HA.out HBL.out
    have hwb:=Zg HB.out HBL.out
    obtain ⟨b1,o1,k1,rfl,hk1,p0,p1,p2,p3,p4,p5,p6,p7⟩:=Zgu hwa hx
    obtain ⟨b2,o2,k2,rfl,hk2,q0,q1,q2,q3,q4,q5,q6,q7⟩:=Zgu hwb hy
    obtain ⟨ka,kc,rfl,_⟩:=hk1.shape
    obtain ⟨ja,jc,rfl,_⟩:=hk2.shape
    have HC:Hid (∀ W,Below wr.heap.size wr W→Calls Tryz.prog 15 #[x.val (.slice ka x.kids.length kc),y.val (.slice ja y.kids.length jc)] W fun e w'=>e = .returned (.bool (eqB x y))∧Below W.heap.size W w'):=Lh (fun W hW=>HH.out i x y hx hy _ _ W (Zg hk1 hW) (Zg hk2 hW))
    have HX:=Lh hx
    have HY:=Lh hy
    have ilt:(i:Int) < (xs.length:Int):=kW
    have ilt2:(i:Int) < (ys.length:Int):=by have:=HLEN.out;omega
    have ige:(0:Int) ≤ (i:Int):=kW
    have HLT:=Lh hlt
    unfold PE.val at HC
    clear hx hy hwa hwb hk1 hk2 hlt
    go_upto_region 6 with fail
    have l0:=Zb p0;have l1:=Zb p1;have l2:=Zb p2;have l3:=Zb p3;have l4:=Zb p4;have l5:=Zb p5;have l6:=Zb p6;have l7:=Zb p7
    have m0:=Zb q0;have m1:=Zb q1;have m2:=Zb q2;have m3:=Zb q3;have m4:=Zb q4;have m5:=Zb q5;have m6:=Zb q6;have m7:=Zb q7
    refine Zj kR kR ?_
    repeat (go_big_quiet_step (exact Zcn (HC.out _ (Zdr _ _))))
    refine wpQuiet_nil ?_
    refine Zu (fun w2 hb2=>?_)
    have HB2:=Lh (next HBL.out hb2)
    clear l0 l1 l2 l3 l4 l5 l6 l7 m0 m1 m2 m3 m4 m5 m6 m7 p0 p1 p2 p3 p4 p5 p6 p7 q0 q1 q2 q3 q4 q5 q6 q7 hb2
    exact ks3
   exact ks11
 have e1:((xs.length:Int) != (ys.length:Int))=true:=kQ
 have HE:Hid (eqB xs ys=false):=Lh (Zw fun e=>hlen Zvc)
 clear ha hb H hac hbc hlen
 go_enter Tryz.func33,Tryz.ntmps33
 go_wp2_with fail
 go_ret
 exact ⟨by rw [HE.out];rfl,Below.refl _ _⟩
theorem Zd8 {a b:ByteArray} (h:a.toList=b.toList):a=b:=
 of_decide_eq_true ((str_eq a b).symm.trans (by rw [h];exact beq_self_eq_true _))
theorem Zro {x y:PE} (h0:(x.op:Int)=(y.op:Int)) (h1:(x.v.k:Int)=(y.v.k:Int)) (h2:x.v.n=y.v.n) (h3:x.v.s.toList=y.v.s.toList) (h4:x.t.toList=y.t.toList) (h5:x.m.toList=y.m.toList) (h6:x.n=y.n) :
 eqB x y=eqB x.kids y.kids:=by
 have h3:=Zd8 h3
 have h4:=Zd8 h4
 have h5:=Zd8 h5
 obtain ⟨o,⟨k,i,s⟩,t,m,n,l⟩:=x
 obtain ⟨o',⟨k',i',s'⟩,t',m',n',l'⟩:=y
 simp only [PE.op,PE.v,PE.t,PE.m,PE.n,PE.kids] at *
 obtain rfl:o=o':=kW
 obtain rfl:k=k':=kW
 subst h2;subst h3;subst h4;subst h5;subst h6
 by_cases h:l=l'
 ·rw [Za3.2 h,h];exact Zch _
 rw [Zw h];exact Zw fun e=>h kb47
theorem sameEx1 (x y:PE) (ka kb:Option Addr) (kc kd:Nat) (w:World)
 (H:∀ W,Below w.heap.size w W→Calls Tryz.prog 33 #[.slice ka x.kids.length kc,.slice kb y.kids.length kd,.func (.func 15) #[] #[]] W fun e w'=>e = .returned (.bool (eqB x.kids y.kids))∧Below W.heap.size W w') :
 Calls Tryz.prog 15 #[x.val (.slice ka x.kids.length kc),y.val (.slice kb y.kids.length kd)] w fun e w'=>e = .returned (.bool (eqB x y))∧Below w.heap.size w w':=by
 have HH:=Lh H
 clear H
 unfold PE.val
 have hbA:Below w.heap.size w ((w.alloc (.cells (eA x ka kc) 48)).alloc (.cells (eA y kb kd) 48)):=(bA).alloc kY _
 have HR0:=Lh ((Zc w 48 (eA x ka kc)).later ((Below.refl _ _).alloc (Nat.le_refl _) (.cells (eA y kb kd) 48)))
 have HR1:=Lh (Zc (w.alloc (.cells (eA x ka kc) 48)) 48 (eA y kb kd))
 have HS1:Hid ((w.alloc (.cells (eA x ka kc) 48)).heap.size=w.heap.size + 1):=Lh kY
 rw [HS1.out] at HR1
 go_enter Tryz.func15,Tryz.ntmps15
 go_upto_region 1 with fail
 have HBA:=Lh hbA
 clear hbA HS1
 generalize (w.alloc (.cells (eA x ka kc) 48)).alloc (.cells (eA y kb kd) 48)=w2 at *
 have l0:=(HR0.out.cell (i:=0) rfl)
 have m0:=(HR1.out.cell (i:=0) rfl)
 have l1:=(HR0.out.cell (i:=1) rfl)
 have m1:=(HR1.out.cell (i:=1) rfl)
 have l2:=(HR0.out.cell (i:=2) rfl)
 have m2:=(HR1.out.cell (i:=2) rfl)
 have l3:=(HR0.out.cell (i:=3) rfl)
 have m3:=(HR1.out.cell (i:=3) rfl)
 have l4:=(HR0.out.cell (i:=4) rfl)
 have m4:=(HR1.out.cell (i:=4) rfl)
 have l5:=(HR0.out.cell (i:=5) rfl)
 have m5:=(HR1.out.cell (i:=5) rfl)
 have l6:=(HR0.out.cell (i:=6) rfl)
 have m6:=(HR1.out.cell (i:=6) rfl)
 have l7:=(HR0.out.cell (i:=7) rfl)
 have m7:=(HR1.out.cell (i:=7) rfl)
 go_wp2_with fail
 all_goals first
  | (refine (HH.out _ HBA.out).mono ?_
     have HE:Hid (eqB x y=eqB x.kids y.kids):=Lh (Zro kb8 kb8 kb8 kb8 kb8 kb8 kb8)
     intro e w3 hr
     obtain ⟨rfl,hb3⟩:=hr
     have HB3:=Lh (next HBA.out hb3)
     clear hb3 l0 l1 l2 l3 l4 l5 l6 l7 m0 m1 m2 m3 m4 m5 m6 m7
     go_wp2_with fail
     go_ret
     exact ⟨by rw [HE.out];rfl,HB3.out⟩)
  | (have HE:Hid (eqB x y=false):=Lh (Zw fun e=>by subst e;contradiction)
     go_ret
     exact ⟨by rw [HE.out];rfl,HBA.out⟩)
inductive Za5:PE→Prop
 | mk (x:PE):x.kids.length ≤ 140737488351232→(∀ y,y ∈ x.kids→Za5 y)→Za5 x
theorem Znz {x:PE} (h:Za5 x):∀ (y:PE) (kx ky:Value) (W:World),Zbq W kx x.kids→Zbq W ky y.kids →
 Calls Tryz.prog 15 #[x.val kx,y.val ky] W fun e w'=>e = .returned (.bool (eqB x y))∧Below W.heap.size W w':=by
 induction h with
 | mk x hl _ ih=>
  intro y kx ky W hx hy
  obtain ⟨ka,kc,rfl,_⟩:=hx.shape
  obtain ⟨kb,kd,rfl,_⟩:=hy.shape
  exact sameEx1 x y ka kb kc kd W fun W2 hb=>Zws x.kids y.kids _ _ W2 (Zg hx hb) (Zg hy hb) hl fun _ a b ha _ kx ky W3 h1 h2=>ih a (List.mem_of_getElem? ha) b kx ky W3 h1 h2
theorem Zjw {xs ys:List PE} (hs:∀ x,x ∈ xs→Za5 x) (hl:xs.length ≤ 140737488351232) {va vb:Value} {w:World} (ha:Zbq w va xs) (hb:Zbq w vb ys) :
 Calls Tryz.prog 33 #[va,vb,.func (.func 15) #[] #[]] w fun e w'=>e = .returned (.bool (eqB xs ys))∧Below w.heap.size w w':=
 Zws xs ys va vb w ha hb hl fun _ a b hi _ kx ky W h1 h2=>Znz (hs a (List.mem_of_getElem? hi)) b kx ky W h1 h2
def Zqc (_:World) (c:List Value) (x:ByteArray):Prop:=c = [.string x]
theorem Zk6 {w:World} {a:Option Addr} {n c k:Nat} {l:List ByteArray} {x:ByteArray} (h:SlR 1 Zqc w (.slice a n c) l) (hk:l[k]? = some x):∃ b o,a=some ⟨b,o,none⟩∧w.cell? ⟨b,o + k,none⟩=some (.string x):=by
 obtain ⟨b,o,cs,rfl,_,rfl,hc⟩:=h.get hk
 have:=hc 0 _ rfl
 rw [Nat.mul_one] at this
 exact ⟨b,o,rfl,this⟩
theorem Zrs {w:World} {a:Option Addr} {n c k:Nat} {l:List Zeu} {x:Zeu} (h:SlR 3 Zs7 w (.slice a n c) l) (hk:l[k]? = some x):∃ b o,a=some ⟨b,o,none⟩∧w.cell? ⟨b,o + k * 3,none⟩=some (.string x.name)∧w.cell? ⟨b,o + k * 3 + 1,none⟩=some (.int .u8 (x.ty:Int))∧w.cell? ⟨b,o + k * 3 + 2,none⟩=some (.bool x.nn):=by
 obtain ⟨b,o,cs,rfl,_,rfl,hc⟩:=h.get hk
 exact ⟨b,o,rfl,hc 0 _ rfl,hc 1 _ rfl,hc 2 _ rfl⟩
theorem txtSame (x y:ByteArray) (w:World):Calls Tryz.prog 45 #[.string x,.string y] w fun e w'=>e = .returned (.bool (eqB x y))∧Below w.heap.size w w':=by
 by_cases h:x=y
 ·subst h
  have HE:Hid (eqB x x=true):=Lh (Zch x)
  go_enter Tryz.func45,Tryz.ntmps45
  go_wp2_with fail
  all_goals first | (go_ret;exact ⟨by rw [HE.out];rfl,Below.refl _ _⟩) | contradiction
 have HE:Hid (eqB x y=false):=Lh (Zw h)
 have hl:(x.toList == y.toList)=false:=(str_eq x y).trans (decide_eq_false h)
 clear h
 go_enter Tryz.func45,Tryz.ntmps45
 go_wp2_with fail
 all_goals first | (go_ret;exact ⟨by rw [HE.out];rfl,Below.refl _ _⟩) | simp_all
theorem eqB_col {x y:Zeu} (h0:x.name.toList=y.name.toList) (h1:(x.ty:Int)=(y.ty:Int)) (h2:x.nn=y.nn):eqB x y=true:=by
 have g0:=Zd8 h0
 clear h0
 obtain ⟨a,b,c⟩:=x
 obtain ⟨a',b',c'⟩:=y
 simp only at g0 h1 h2
 obtain rfl:b=b':=kW
 subst g0;subst h2
 exact Zch _
theorem colSame (x y:Zeu) (w:World):Calls Tryz.prog 47 #[.agg #[.string x.name,.int .u8 (x.ty:Int),.bool x.nn],.agg #[.string y.name,.int .u8 (y.ty:Int),.bool y.nn]] w fun e w'=>e = .returned (.bool (eqB x y))∧Below w.heap.size w w':=by
 have hbA:Below w.heap.size w ((w.alloc (.cells #[.string x.name,.int .u8 (x.ty:Int),.bool x.nn] 89)).alloc (.cells #[.string y.name,.int .u8 (y.ty:Int),.bool y.nn] 89)):=(bA).alloc kY _
 have HR0:=Lh ((Zc w 89 #[.string x.name,.int .u8 (x.ty:Int),.bool x.nn]).later ((Below.refl _ _).alloc (Nat.le_refl _) (.cells #[.string y.name,.int .u8 (y.ty:Int),.bool y.nn] 89)))
 have HR1:=Lh (Zc (w.alloc (.cells #[.string x.name,.int .u8 (x.ty:Int),.bool x.nn] 89)) 89 #[.string y.name,.int .u8 (y.ty:Int),.bool y.nn])
 have HS1:Hid ((w.alloc (.cells #[.string x.name,.int .u8 (x.ty:Int),.bool x.nn] 89)).heap.size=w.heap.size + 1):=Lh kY
 rw [HS1.out] at HR1
 go_enter Tryz.func47,Tryz.ntmps47
 go_upto_region 1 with fail
 have HBA:=Lh hbA
 clear hbA HS1
 generalize (w.alloc (.cells #[.string x.name,.int .u8 (x.ty:Int),.bool x.nn] 89)).alloc (.cells #[.string y.name,.int .u8 (y.ty:Int),.bool y.nn] 89)=w2 at *
 have l0:=HR0.out.cell (i:=0) rfl
 have m0:=HR1.out.cell (i:=0) rfl
 have l1:=HR0.out.cell (i:=1) rfl
 have m1:=HR1.out.cell (i:=1) rfl
 have l2:=HR0.out.cell (i:=2) rfl
 have m2:=HR1.out.cell (i:=2) rfl
 go_wp2_with fail
 all_goals first
  | (have HE:Hid (eqB x y=true):=Lh (eqB_col kb8 kb8 kb8)
     go_ret
     exact ⟨by rw [HE.out];rfl,HBA.out⟩)
  | (have HE:Hid (eqB x y=false):=Lh (Zw fun e=>by subst e;contradiction)
     go_ret
     exact ⟨by rw [HE.out];rfl,HBA.out⟩)
theorem Zru (xs ys:List ByteArray) (va vb:Value) (w:World) (ha:SlR 1 Zqc w va xs) (hb:SlR 1 Zqc w vb ys) (hla:xs.length ≤ 140737488351232) :
 Calls Tryz.prog 48 #[va,vb,.func (.func 45) #[] #[]] w fun e w'=>e = .returned (.bool (eqB xs ys))∧Below w.heap.size w w':=by
 obtain ⟨aa,ac,rfl,hac⟩:=ha.shape
 obtain ⟨ba,bc,rfl,hbc⟩:=hb.shape
 have HA:=Lh ha
 have HB:=Lh hb
 by_cases hlen:xs.length=ys.length
 ·have e1:((xs.length:Int) != (ys.length:Int))=false:=by simp [hlen]
  have HLEN:=Lh hlen
  clear ha hb hac hbc hlen
  go_enter Tryz.func48,Tryz.ntmps48
  go_wp2_with fail
  go_loopg [15] xs.length (fun gk iv wr=>∃ (i:Nat),iv = .int .i64 (i:Int)∧gk=xs.length - i∧i ≤ xs.length∧Hid (Below w.heap.size w wr)∧Hid (xs.take i=ys.take i))
  case atStart=>exact ⟨0,rfl,rfl,Nat.zero_le _,Lh (Below.refl _ _),Lh rfl⟩
  case round=>
   obtain ⟨i,rfl,rfl,hi,HBL,HT⟩:=hrel
   by_cases hlt:i < xs.length
   ·obtain ⟨x,hx⟩:∃ x,xs[i]? = some x:=⟨xs[i],by simp⟩
    obtain ⟨y,hy⟩:∃ y,ys[i]? = some y:=⟨ys[i]'kb20,by simp⟩
    have hwa:=SlR.below HA.out HBL.out fun _ _ h=>h
    have hwb:=SlR.below HB.out HBL.out fun _ _ h=>h
    obtain ⟨b1,o1,rfl,p0⟩:=Zk6 hwa hx
    obtain ⟨b2,o2,rfl,q0⟩:=Zk6 hwb hy
    have HC:Hid (∀ W,Calls Tryz.prog 45 #[.string x,.string y] W fun e w'=>e = .returned (.bool (eqB x y))∧Below W.heap.size W w'):=Lh (fun W=>txtSame x y W)
    have HX:=Lh hx
    have HY:=Lh hy
    have ilt:(i:Int) < (xs.length:Int):=kW
    have ilt2:(i:Int) < (ys.length:Int):=by have:=HLEN.out;omega
    have ige:(0:Int) ≤ (i:Int):=kW
    have HLT:=Lh hlt
    clear hx hy hwa hwb hlt
    go_upto_region 6 with fail
    have l0:=Zb p0
    have m0:=Zb q0
    refine Zj kR kR ?_
    repeat (go_big_quiet_step (exact Zcn (HC.out _)))
    refine wpQuiet_nil ?_
    refine Zu (fun w2 hb2=>?_)
    have HB2:=Lh (next HBL.out hb2)
    clear l0 m0 p0 q0 hb2
    exact ks3
   exact ks11
 have e1:((xs.length:Int) != (ys.length:Int))=true:=kQ
 have HE:Hid (eqB xs ys=false):=Lh (Zw fun e=>hlen Zvc)
 clear ha hb hac hbc hlen
 go_enter Tryz.func48,Tryz.ntmps48
 go_wp2_with fail
 go_ret
 exact ⟨by rw [HE.out];rfl,Below.refl _ _⟩
theorem alikeCol (xs ys:List Zeu) (va vb:Value) (w:World) (ha:SlR 3 Zs7 w va xs) (hb:SlR 3 Zs7 w vb ys) (hla:xs.length ≤ 140737488351232) :
 Calls Tryz.prog 46 #[va,vb,.func (.func 47) #[] #[]] w fun e w'=>e = .returned (.bool (eqB xs ys))∧Below w.heap.size w w':=by
 obtain ⟨aa,ac,rfl,hac⟩:=ha.shape
 obtain ⟨ba,bc,rfl,hbc⟩:=hb.shape
 have HA:=Lh ha
 have HB:=Lh hb
 by_cases hlen:xs.length=ys.length
 ·have e1:((xs.length:Int) != (ys.length:Int))=false:=by simp [hlen]
  have HLEN:=Lh hlen
  clear ha hb hac hbc hlen
  go_enter Tryz.func46,Tryz.ntmps46
  go_wp2_with fail
  go_loopg [15] xs.length (fun gk iv wr=>∃ (i:Nat),iv = .int .i64 (i:Int)∧gk=xs.length - i∧i ≤ xs.length∧Hid (Below w.heap.size w wr)∧Hid (xs.take i=ys.take i))
  case atStart=>exact ⟨0,rfl,rfl,Nat.zero_le _,Lh (Below.refl _ _),Lh rfl⟩
  case round=>
   obtain ⟨i,rfl,rfl,hi,HBL,HT⟩:=hrel
   by_cases hlt:i < xs.length
   ·obtain ⟨x,hx⟩:∃ x,xs[i]? = some x:=⟨xs[i],by simp⟩
    obtain ⟨y,hy⟩:∃ y,ys[i]? = some y:=⟨ys[i]'kb20,by simp⟩
    have hwa:=SlR.below HA.out HBL.out fun _ _ h=>h
    have hwb:=SlR.below HB.out HBL.out fun _ _ h=>h
    obtain ⟨b1,o1,rfl,p0,p1,p2⟩:=Zrs hwa hx
    obtain ⟨b2,o2,rfl,q0,q1,q2⟩:=Zrs hwb hy
    have HC:Hid (∀ W,Calls Tryz.prog 47 #[.agg #[.string x.name,.int .u8 (x.ty:Int),.bool x.nn],.agg #[.string y.name,.int .u8 (y.ty:Int),.bool y.nn]] W fun e w'=>e = .returned (.bool (eqB x y))∧Below W.heap.size W w'):=Lh (fun W=>colSame x y W)
    have HX:=Lh hx
    have HY:=Lh hy
    have ilt:(i:Int) < (xs.length:Int):=kW
    have ilt2:(i:Int) < (ys.length:Int):=by have:=HLEN.out;omega
    have ige:(0:Int) ≤ (i:Int):=kW
    have HLT:=Lh hlt
    clear hx hy hwa hwb hlt
    go_upto_region 6 with fail
    have l0:=Zb p0;have l1:=Zb p1;have l2:=Zb p2
    have m0:=Zb q0;have m1:=Zb q1;have m2:=Zb q2
    refine Zj kR kR ?_
    repeat (go_big_quiet_step (exact Zcn (HC.out _)))
    exact ks86
   exact ks11
 have e1:((xs.length:Int) != (ys.length:Int))=true:=kQ
 have HE:Hid (eqB xs ys=false):=Lh (Zw fun e=>hlen Zvc)
 clear ha hb hac hbc hlen
 go_enter Tryz.func46,Tryz.ntmps46
 go_wp2_with fail
 go_ret
 exact ⟨by rw [HE.out];rfl,Below.refl _ _⟩
end Go.Proofs.YtmdogmpcmkfjpaaGreatDoor.Dt
