import Derived.Deep.DeepCutAuto
import Derived.Test.YtmdogmpcmkfjpaaGreatDoorBn31
import Derived.Test.YtmdogmpcmkfjpaaGreatDoorBn16
import Derived.Test.YtmdogmpcmkfjpaaGreatDoorBn32
import Derived.Test.YtmdogmpcmkfjpaaGreatDoorBn17
/- Part of the proof (merged). -/
namespace Go.Proofs.YtmdogmpcmkfjpaaGreatDoor.Dt
open Go.RowKit Go.Proofs.YtmdogmpcmkfjpaaGreatDoor.By
attribute [local go_sem ↓] veilSt_ex veilLd_ex
attribute [local go_sem] run_exSt run_exNew run_exLd okRow8 Value.oneCell'
theorem ba_len' (x:ByteArray):x.data.toList.length=x.size:=Array.length_toList
def exPost (w:World):(Nat × Int) ⊕ PE→Ending→World→Prop
 | .inl x,e,_=>e = .returned (.tuple #[.agg exZ,.agg #[.int .i64 (x.1:Int),.int .i64 x.2]])
 | .inr x,e,w'=>∃ v,e = .returned (.tuple #[v,.agg #[.int .i64 0,.int .i64 0]])∧New w.heap.size w' (fun u=>ExV u v x)
theorem below_setRow {n q:Nat} {W:World} {cs:Array Value} (h:n ≤ q):Below n W (W.setRow q cs):=
 ⟨rfl,rfl,rfl,by simp,fun b hb=>setRow_other W q b cs (by omega)⟩
theorem res_two {fn:Func} {p q:Tmp} (h:fn.results = #[.cell p 48,.cell q 39]) (tmps:Array Value) (w:World) (g k:Nat) (t u:TypeId) (cs ds:Array Value)
 (hp:tmps.getD p undef = .pointer (some ⟨g,0,none⟩)) (hq:tmps.getD q undef = .pointer (some ⟨k,0,none⟩)) (hg:Row g t cs w) (hk:Row k u ds w) (hc:cs.size=8) (hd:ds.size=2):(results fn tmps).run Tryz.prog w = .ok (.tuple #[.agg cs,.agg ds]) w:=by
 obtain ⟨fs,hu⟩:=ex_struct
 have hs:∃ fs,Tryz.prog.underlying 39=some (.struct fs):=st_of (by kernel_rfl)
 obtain ⟨gs,hv⟩:=hs
 have hi:(Tryz.prog.info? 39).map (·.size)=some 2:=by kernel_rfl
 have hp':tmps[p]?.getD undef = .pointer (some ⟨g,0,none⟩):=by simpa using hp
 have hq':tmps[q]?.getD undef = .pointer (some ⟨k,0,none⟩):=by simpa using hq
 simp [results,h,hp',hq',asAddr,run_loadVar_row w g t 48 cs (0,0) _ hg hu rfl (by rw [ex_size,hc]),run_loadVar_row w k u 39 ds (0,0) _ hk hv rfl (by rw [hi,hd])]
structure Fin2 (q:Nat) (t:TypeId) (cs ds:Array Value) (W W':World):Prop where
 r0:Row q t cs W'
 r1:Row (q + 1) 39 ds W'
 ot:∀ b,b ≠ q→b ≠ q + 1→W'.heap[b]? = W.heap[b]?
 sz:W.heap.size ≤ W'.heap.size
 bl:∀ n,n ≤ q→Below n W W'
theorem fin_a {q:Nat} {t:TypeId} {c0 cs:Array Value} {x y a b:Value} {W:World} (h0:Row q t c0 W) (h1:Row (q + 1) 39 #[x,y] W) :
 Fin2 q t cs #[a,b] W (((W.setRow q cs).setCell ⟨q + 1,0,none⟩ a).setCell ⟨q + 1,1,none⟩ b):=by
 have h1':Row (q + 1) 39 #[x,y] (W.setRow q cs):=(setRow_other W q _ _ (by omega)).trans h1
 have e1:=setCell_eq_setRow _ (q + 1) 0 _ _ _ a h1'
 have h2:Row (q + 1) 39 #[a,y] ((W.setRow q cs).setCell ⟨q + 1,0,none⟩ a):=by rw [e1];exact h1'.set _
 have e2:=setCell_eq_setRow _ (q + 1) 1 _ _ _ b h2
 have h3:Row (q + 1) 39 #[a,b] (((W.setRow q cs).setCell ⟨q + 1,0,none⟩ a).setCell ⟨q + 1,1,none⟩ b):=by rw [e2];exact h2.set _
 refine ⟨?_,h3,fun k hk hk1=>?_,by simp,fun n hn=>?_⟩
 ·rw [e2,e1]
  exact (setRow_other _ (q + 1) q _ (by omega)).trans ((setRow_other _ (q + 1) q _ (by omega)).trans (h0.set _))
 ·rw [e2,e1]
  exact (setRow_other _ (q + 1) k _ hk1).trans ((setRow_other _ (q + 1) k _ hk1).trans (setRow_other _ q k _ hk))
 ·exact below_set (below_set (below_setRow hn) (by show n ≤ q + 1;omega)) (by show n ≤ q + 1;omega)
theorem fin_c {q:Nat} {t:TypeId} {c0:Array Value} {x y a b:Value} {W:World} (h0:Row q t c0 W) (h1:Row (q + 1) 39 #[x,y] W) :
 Row q t c0 ((W.setCell ⟨q + 1,0,none⟩ a).setCell ⟨q + 1,1,none⟩ b):=by
 have e1:=setCell_eq_setRow _ (q + 1) 0 _ _ _ a h1
 have h2:Row (q + 1) 39 #[a,y] (W.setCell ⟨q + 1,0,none⟩ a):=by rw [e1];exact h1.set _
 have e2:=setCell_eq_setRow _ (q + 1) 1 _ _ _ b h2
 rw [e2,e1]
 exact (setRow_other _ (q + 1) q _ (by omega)).trans ((setRow_other _ (q + 1) q _ (by omega)).trans h0)
theorem fin_b {q:Nat} {t:TypeId} {c0 cs:Array Value} {x y a b:Value} {W:World} (h0:Row q t c0 W) (h1:Row (q + 1) 39 #[x,y] W) :
 Fin2 q t cs #[a,b] W (((W.setCell ⟨q + 1,0,none⟩ a).setCell ⟨q + 1,1,none⟩ b).setRow q cs):=by
 have e1:=setCell_eq_setRow _ (q + 1) 0 _ _ _ a h1
 have h2:Row (q + 1) 39 #[a,y] (W.setCell ⟨q + 1,0,none⟩ a):=by rw [e1];exact h1.set _
 have e2:=setCell_eq_setRow _ (q + 1) 1 _ _ _ b h2
 have h3:Row (q + 1) 39 #[a,b] ((W.setCell ⟨q + 1,0,none⟩ a).setCell ⟨q + 1,1,none⟩ b):=by rw [e2];exact h2.set _
 have h4:Row q t c0 ((W.setCell ⟨q + 1,0,none⟩ a).setCell ⟨q + 1,1,none⟩ b):=by
  rw [e2,e1]
  exact (setRow_other _ (q + 1) q _ (by omega)).trans ((setRow_other _ (q + 1) q _ (by omega)).trans h0)
 refine ⟨h4.set _,(setRow_other _ q _ _ (by omega)).trans h3,fun k hk hk1=>?_,by simp,fun n hn=>?_⟩
 ·rw [setRow_other _ q k _ hk,e2,e1]
  exact (setRow_other _ (q + 1) k _ hk1).trans (setRow_other _ (q + 1) k _ hk1)
 ·exact (below_set (below_set (Below.refl _ _) (by show n ≤ q + 1;omega)) (by show n ≤ q + 1;omega)).trans (below_setRow hn)
set_option maxRecDepth 100000 in
set_option maxHeartbeats 16000000 in
theorem exprTopB (t:ByteArray) (w:World) (hx:LX w) (hs:t.size ≤ 140737488351232):Calls Tryz.prog 13 #[.string t] w fun e w'=>exPost w (exprL t.data.toList) e w'∧Below w.heap.size w w':=by
 have hb0:Below w.heap.size w ((w.alloc (.cells exZ 48)).alloc (.cells #[.int .i64 0,.int .i64 0] 39)):=((Below.refl _ _).alloc (Nat.le_refl _) _).alloc (by simp) _
 have HR0:=Lib.hid ((row_alloc w 48 exZ).later ((Below.refl _ _).alloc (Nat.le_refl _) (.cells #[.int .i64 0,.int .i64 0] 39)))
 have HR1:=Lib.hid (row_alloc (w.alloc (.cells exZ 48)) 39 #[.int .i64 0,.int .i64 0])
 have HS1:Hid ((w.alloc (.cells exZ 48)).heap.size=w.heap.size + 1):=Lib.hid (by simp)
 rw [HS1.out] at HR1
 have HB0:=Lib.hid hb0
 have HX:=Lib.hid (hx.later hb0)
 have HS:=Lib.hid hs
 clear hb0 hx hs HS1
 go_enter Tryz.func13,Tryz.ntmps13
 go_upto_region 1 with fail
 generalize (w.alloc (.cells exZ 48)).alloc (.cells #[.int .i64 0,.int .i64 0] 39)=w1 at *
 have HT:=Lib.hid (tokensLexB t w1 HX.out HS.out)
 cases hR:toksL t.data.toList with
 | inl x=>
  obtain ⟨en,ea⟩:=x
  rw [hR] at HT
  have HPOST:Hid (exprL t.data.toList = .inl (en,(ea:Int))):=Lib.hid (by unfold exprL;rw [hR])
  have hne:=(spot_bad hR).1
  have e1:((en:Int) != 0)=true:=by simp;omega
  clear hR hne
  go_wp2_with fail
  refine HT.out.mono ?_
  rintro e2 w2 ⟨rfl,hb2⟩
  have HR0b:=Lib.hid (HR0.out.later hb2)
  have HR1b:=Lib.hid (HR1.out.later hb2)
  have HB2:=Lib.hid (next HB0.out hb2)
  clear hb2 HT
  have HK:=Lib.hid (row_alloc w2 39 #[.int .i64 (en:Int),.int .i64 (ea:Int)])
  have hbk:=(Below.refl _ w2).alloc (Nat.le_refl _) (.cells #[.int .i64 (en:Int),.int .i64 (ea:Int)] 39)
  have HR0c:=Lib.hid (HR0b.out.later hbk)
  have HR1c:=Lib.hid (HR1b.out.later hbk)
  have HB3:=Lib.hid (next HB2.out hbk)
  have HLK:Hid (w.heap.size + 1 < w2.heap.size):=Lib.hid HR1b.out.lt
  clear hbk
  go_upto_region 3 with fail
  generalize w2.alloc (.cells #[.int .i64 (en:Int),.int .i64 (ea:Int)] 39)=w3 at *
  generalize w2.heap.size=k at *
  have k0:w3.drew.cell? ⟨k,0,none⟩=some (.int .i64 (en:Int)):=HK.out.cell (i:=0) (v:=.int .i64 (en:Int)) rfl
  have k1:w3.drew.cell? ⟨k,1,none⟩=some (.int .i64 (ea:Int)):=HK.out.cell (i:=1) (v:=.int .i64 (ea:Int)) rfl
  have hrb:rowB 8 w3.drew w.heap.size=true:=HR0c.out.b (n:=8) rfl
  have hok:okRow 8 exZ=true:=by rw [okRow8];rfl
  have q0:w3.drew.cell? ⟨w.heap.size + 1,0,none⟩=some (.int .i64 0):=HR1c.out.cell (i:=0) (v:=.int .i64 0) rfl
  have q1:w3.drew.cell? ⟨w.heap.size + 1,1,none⟩=some (.int .i64 0):=HR1c.out.cell (i:=1) (v:=.int .i64 0) rfl
  have f0:w3.drew.frozen? ⟨w.heap.size + 1,0,none⟩=false:=HR1c.out.free 0
  have f1:w3.drew.frozen? ⟨w.heap.size + 1,1,none⟩=false:=HR1c.out.free 1
  have HA1:Hid (Row (w.heap.size + 1) 39 #[.int .i64 0,.int .i64 0] (w3.drew.setRow w.heap.size exZ)):=Lib.hid ((setRow_other w3.drew _ _ _ (by omega)).trans HR1c.out)
  have HKA:Hid (Row k 39 #[.int .i64 (en:Int),.int .i64 (ea:Int)] (w3.drew.setRow w.heap.size exZ)):=Lib.hid ((setRow_other w3.drew _ _ _ (by have:=HLK.out;omega)).trans HK.out)
  have a0:=HA1.out.cell (i:=0) (v:=.int .i64 0) rfl
  have a1:=HA1.out.cell (i:=1) (v:=.int .i64 0) rfl
  have g0:=HA1.out.free 0
  have g1:=HA1.out.free 1
  have b0:=HKA.out.cell (i:=0) (v:=.int .i64 (en:Int)) rfl
  have b1:=HKA.out.cell (i:=1) (v:=.int .i64 (ea:Int)) rfl
  have HFA:=Lib.hid (fin_a (cs:=exZ) (a:=.int .i64 (en:Int)) (b:=.int .i64 (ea:Int)) (W:=w3.drew) HR0c.out HR1c.out)
  have HFB:=Lib.hid (fin_b (cs:=exZ) (a:=.int .i64 (en:Int)) (b:=.int .i64 (ea:Int)) (W:=w3.drew) HR0c.out HR1c.out)
  have HBD:Hid (Below w.heap.size w w3.drew):=Lib.hid (HB3.out.trans (Below.drew (Below.refl _ _)))
  have hrc:rowB 8 ((w3.drew.setCell ⟨w.heap.size + 1,0,none⟩ (.int .i64 (en:Int))).setCell ⟨w.heap.size + 1,1,none⟩ (.int .i64 (ea:Int))) w.heap.size=true:=(fin_c HR0c.out HR1c.out).b rfl
  go_region_with (fail)
  all_goals go_wp2_with (first
   | (refine bodyPost_ret (v:=.tuple #[.agg exZ,.agg #[.int .i64 (en:Int),.int .i64 (ea:Int)]]) (res_two rfl _ _ w.heap.size (w.heap.size + 1) _ _ exZ #[.int .i64 (en:Int),.int .i64 (ea:Int)] rfl rfl HFA.out.r0 HFA.out.r1 rfl rfl) rfl ?_;exact ⟨by rw [HPOST.out];rfl,HBD.out.trans (HFA.out.bl _ (Nat.le_refl _))⟩)
   | (refine bodyPost_ret (v:=.tuple #[.agg exZ,.agg #[.int .i64 (en:Int),.int .i64 (ea:Int)]]) (res_two rfl _ _ w.heap.size (w.heap.size + 1) _ _ exZ #[.int .i64 (en:Int),.int .i64 (ea:Int)] rfl rfl HFB.out.r0 HFB.out.r1 rfl rfl) rfl ?_;exact ⟨by rw [HPOST.out];rfl,HBD.out.trans (HFB.out.bl _ (Nat.le_refl _))⟩))
 | inr L=>
  have HALL:Hid (AllOk L):=Lib.hid (read_ok hR)
  have HLEN:Hid (t.size ≤ 4096∧L.length ≤ 4096):=Lib.hid (by
   have h1:=toksL_le hR
   have h2:=hR
   rw [toksL_eq] at h2
   by_cases h:4096 < t.data.toList.length
   ·rw [if_pos h] at h2;cases h2
   ·rw [ba_len'] at h h1;exact ⟨by omega,by omega⟩)
  obtain ⟨⟨x,s1⟩,hx1⟩:∃ z,exprM L (t.size:Int) ⟨0,0,0⟩=z:=⟨_,rfl⟩
  obtain ⟨s2,hs2⟩:∃ z,z=(if s1.k < L.length then failP L (t.size:Int) 6 s1 else s1):=⟨_,rfl⟩
  have HPOST:Hid (exprL t.data.toList=if s2.e=0 then .inr x else .inl (s2.e,s2.a)):=Lib.hid (by
   unfold exprL
   rw [hR]
   simp only
   rw [ba_len',hx1]
   simp only
   rw [← hs2])
  have HX1:=Lib.hid hx1
  have HS2:=Lib.hid hs2
  rw [hR] at HT
  clear hR hx1 hs2
  go_wp2_with fail
  refine HT.out.mono ?_
  rintro e2 w2 ⟨⟨tv,rfl,htk⟩,hb2⟩
  obtain ⟨ta,tc,rfl⟩:=htk.shape
  have HTK:=Lib.hid htk
  have hbk:=(Below.refl _ w2).alloc (Nat.le_refl _) (.cells #[.int .i64 0,.int .i64 0] 39)
  have HR0b:=Lib.hid ((HR0.out.later hb2).later hbk)
  have HR1b:=Lib.hid ((HR1.out.later hb2).later hbk)
  have HLK:Hid (w.heap.size + 1 < w2.heap.size):=Lib.hid (HR1.out.later hb2).lt
  have HB2:=Lib.hid (next (next HB0.out hb2) hbk)
  have HBK:=Lib.hid hbk
  clear hb2 HT htk hbk
  go_upto_region 4 with fail
  generalize hw3:w2.alloc (.cells #[.int .i64 0,.int .i64 0] 39)=w3 at *
  have HZ3:Hid (w3.heap.size=w2.heap.size + 1):=Lib.hid (by rw [← hw3];simp)
  clear hw3
  have hbp:=(Below.refl _ w3).alloc (Nat.le_refl _) (.cells #[.slice ta L.length tc,.int .i64 0,.int .i64 (t.size:Int),.int .i64 0,.int .i64 0] 77)
  have hrow:=row_alloc w3 77 #[.slice ta L.length tc,.int .i64 0,.int .i64 (t.size:Int),.int .i64 0,.int .i64 0]
  have HPB:Hid (PB w2 w3.heap.size (.slice ta L.length tc) L (t.size:Int) ⟨0,0,0⟩ (w3.alloc (.cells #[.slice ta L.length tc,.int .i64 0,.int .i64 (t.size:Int),.int .i64 0,.int .i64 0] 77))):=Lib.hid
   ⟨hrow.cell rfl,hrow.cell rfl,hrow.cell rfl,hrow.cell rfl,hrow.cell rfl,hrow.free 1,hrow.free 3,hrow.free 4,HTK.out,next HBK.out (by have:=hbp;exact this),by have:=HZ3.out;omega,HLEN.out.2,Nat.zero_le _⟩
  have HR0c:=Lib.hid (HR0b.out.later hbp)
  have HR1c:=Lib.hid (HR1b.out.later hbp)
  have HB4:=Lib.hid (next HB2.out hbp)
  have HRP:Hid (w.heap.size + 1 < w3.heap.size):=Lib.hid (by have:=HZ3.out;have:=HLK.out;omega)
  clear hbp hrow
  go_upto_region 5 with fail
  generalize w3.alloc (.cells #[.slice ta L.length tc,.int .i64 0,.int .i64 (t.size:Int),.int .i64 0,.int .i64 0] 77)=w4 at *
  generalize w3.heap.size=r at *
  have hc:=exprP HALL.out ⟨0,0,0⟩ w4 HPB.out
  rw [HX1.out] at hc
  have HC:=Lib.hid hc
  clear hc
  go_wp2_with fail
  refine HC.out.mono ?_
  rintro e5 v5 ⟨u5,rfl,hn5,hp5,hg5⟩
  obtain ⟨c,rfl,hx5⟩:=ExN.of hn5
  have hok:=hx5.ok
  have hb5:=(Below.refl _ v5).alloc (Nat.le_refl _) (.cells c 48)
  have HP5:Hid (PB w2 r (.slice ta L.length tc) L (t.size:Int) s1 (v5.alloc (.cells c 48))):=Lib.hid (PB.later hp5 hb5)
  have HG5:Hid (w4.grownBy (v5.alloc (.cells c 48)) (some r)):=Lib.hid (grown_trans hg5 (below_grown hb5))
  have HC5:=Lib.hid (hx5.later hb5)
  have HW5:=Lib.hid (row_alloc v5 48 c)
  have HZ5:Hid (w4.heap.size ≤ v5.heap.size):=Lib.hid hg5.size
  clear hn5 hp5 hg5 hx5 hb5 HC
  go_upto_region 6 with fail
  clear hok
  generalize v5.alloc (.cells c 48)=w5 at *
  generalize v5.heap.size=gx at *
  have c0:=HP5.out.c0
  have c1:=HP5.out.c1
  have l0:=lat_cell c0
  have l1:=lat_cell c1
  refine wp_region_later (by kernel_rfl) (by kernel_rfl) ?_
  repeat (go_big_quiet_step (fail))
  refine wpQuiet_nil ?_
  refine later_out (fun w6 hb6=>?_)
  have HP6:=Lib.hid (PB.later HP5.out hb6)
  have HG6:=Lib.hid (grown_trans HG5.out (below_grown hb6))
  have HC6:=Lib.hid (HC5.out.later hb6)
  have HW6:=Lib.hid (HW5.out.later hb6)
  have HGX:Hid (gx < w6.heap.size):=Lib.hid (HW5.out.later hb6).lt
  clear l0 l1 hb6 c0 c1
  go_upto_if 34 with fail
  go_cut [] (fun wx=>PB w2 r (.slice ta L.length tc) L (t.size:Int) s2 wx∧w6.grownBy wx (some r))
  case first=>
   by_cases hlt:s1.k < L.length
   ·have i1:(s1.k:Int) < (L.length:Int):=by omega
    have HE2:Hid (s2=failP L (t.size:Int) 6 s1):=Lib.hid (by rw [HS2.out,if_pos hlt])
    have HF:=Lib.hid (failW w6 6 HP6.out)
    clear hlt
    go_wp2_with fail
    refine HF.out.mono ?_
    rintro e7 w7 ⟨rfl,hp7,hg7⟩
    have HP7:=Lib.hid hp7
    have HG7:=Lib.hid hg7
    clear hp7 hg7 HF
    go_wp2_with fail
    go_meet
    exact ⟨by rw [HE2.out];exact HP7.out,HG7.out⟩
   ·have i1:¬ (s1.k:Int) < (L.length:Int):=by omega
    have HE2:Hid (s2=s1):=Lib.hid (by rw [HS2.out,if_neg hlt])
    clear hlt
    go_wp2_with fail
    go_meet
    exact ⟨by rw [HE2.out];exact HP6.out,grown_refl _ _⟩
  case rest=>
   rename World=>w7
   obtain ⟨hp7,hg7⟩:=hcut
   have HP7:=Lib.hid hp7
   have HR0z:=Lib.hid (HR0c.out.grown (grown_trans HG6.out hg7) (by have:=HRP.out;omega))
   have HR1z:=Lib.hid (HR1c.out.grown (grown_trans HG6.out hg7) (by have:=HRP.out;omega))
   have HC7:=Lib.hid (HC6.out.grown hg7 (by have:=HP6.out.hr;have:=HPB.out.lt;omega))
   have HW7:=Lib.hid (HW6.out.grown hg7 (by have:=HZ5.out;have:=HPB.out.lt;omega))
   have HB7:Hid (Below w.heap.size w w7):=Lib.hid (HB4.out.grown (grown_trans HG6.out hg7) HB4.out.size (fun k hk=>by cases hk;have:=HRP.out;omega))
   have HO:=Lib.hid (okP w7 hp7)
   have HX7:Hid (rowB 8 w7 gx=true∧rowOf w7 gx=c):=Lib.hid ⟨HW7.out.b HC7.out.size,HW7.out.of⟩
   have HOK:=Lib.hid HC7.out.ok
   have HGX7:Hid (w.heap.size + 1 < gx):=Lib.hid (by have:=HRP.out;have:=HZ5.out;have:=HPB.out.lt;omega)
   clear hp7 hg7
   by_cases h0:s2.e=0
   ·have d0:decide (s2.e=0)=true:=decide_eq_true h0
    rw [d0] at HO
    have HPZ:Hid (exprL t.data.toList = .inr x):=Lib.hid (by rw [HPOST.out,if_pos h0])
    clear h0 d0
    go_wp2_with fail
    refine HO.out.mono ?_
    rintro e8 w7 ⟨rfl,rfl⟩
    have HFA:=Lib.hid (fin_a (cs:=c) (a:=.int .i64 0) (b:=.int .i64 0) (W:=w7) HR0z.out HR1z.out)
    have HA1:Hid (Row (w.heap.size + 1) 39 #[.int .i64 0,.int .i64 0] (w7.setRow w.heap.size c)):=Lib.hid ((setRow_other w7 _ _ _ (by omega)).trans HR1z.out)
    have hb:=HX7.out.1
    have ho:=HX7.out.2
    have hok:=HOK.out
    have hrb:rowB 8 w7 w.heap.size=true:=HR0z.out.b (n:=8) rfl
    have a0:=HA1.out.cell (i:=0) (v:=.int .i64 0) rfl
    have a1:=HA1.out.cell (i:=1) (v:=.int .i64 0) rfl
    have g0:=HA1.out.free 0
    have g1:=HA1.out.free 1
    clear HO
    go_wp2_with (refine bodyPost_ret (v:=.tuple #[.agg c,.agg #[.int .i64 0,.int .i64 0]]) (res_two rfl _ _ w.heap.size (w.heap.size + 1) _ _ c #[.int .i64 0,.int .i64 0] rfl rfl HFA.out.r0 HFA.out.r1 HC7.out.size rfl) rfl ?_;exact ⟨by rw [HPZ.out];exact ⟨_,rfl,(ExD.v (HC7.out.step (S':=fun b=>w.heap.size ≤ b) HFA.out.sz fun b hb _=>⟨by have:=HZ5.out;have:=HPB.out.lt;have:=HRP.out;omega,HFA.out.ot b (by have:=HZ5.out;have:=HPB.out.lt;have:=HRP.out;omega) (by have:=HZ5.out;have:=HPB.out.lt;have:=HRP.out;omega)⟩))⟩,HB7.out.trans (HFA.out.bl _ (Nat.le_refl _))⟩)
   ·have d0:decide (s2.e=0)=false:=decide_eq_false h0
    rw [d0] at HO
    have HPZ:Hid (exprL t.data.toList = .inl (s2.e,s2.a)):=Lib.hid (by rw [HPOST.out,if_neg h0])
    clear h0 d0
    go_wp2_with fail
    refine HO.out.mono ?_
    rintro e8 w7 ⟨rfl,rfl⟩
    clear HO
    have HFA:=Lib.hid (fin_a (cs:=exZ) (a:=.int .i64 (s2.e:Int)) (b:=.int .i64 s2.a) (W:=w7.drew) HR0z.out HR1z.out)
    have HFB:=Lib.hid (fin_b (cs:=exZ) (a:=.int .i64 (s2.e:Int)) (b:=.int .i64 s2.a) (W:=w7.drew) HR0z.out HR1z.out)
    have HA1:Hid (Row (w.heap.size + 1) 39 #[.int .i64 0,.int .i64 0] (w7.drew.setRow w.heap.size exZ)):=Lib.hid ((setRow_other w7.drew _ _ _ (by omega)).trans HR1z.out)
    have HBR:Hid ((w7.drew.setRow w.heap.size exZ).heap[r]? = w7.heap[r]?):=Lib.hid (setRow_other w7.drew w.heap.size r exZ (by have:=HRP.out;omega))
    have HBD:Hid (Below w.heap.size w w7.drew):=Lib.hid (HB7.out.trans (Below.drew (Below.refl _ _)))
    have k0:w7.drew.cell? ⟨r,3,none⟩=some (.int .i64 (s2.e:Int)):=HP7.out.c3
    have k1:w7.drew.cell? ⟨r,4,none⟩=some (.int .i64 s2.a):=HP7.out.c4
    have b0:=(World.cell?_of_block (a:=⟨r,3,none⟩) HBR.out).trans HP7.out.c3
    have b1:=(World.cell?_of_block (a:=⟨r,4,none⟩) HBR.out).trans HP7.out.c4
    have q0:w7.drew.cell? ⟨w.heap.size + 1,0,none⟩=some (.int .i64 0):=HR1z.out.cell (i:=0) (v:=.int .i64 0) rfl
    have q1:w7.drew.cell? ⟨w.heap.size + 1,1,none⟩=some (.int .i64 0):=HR1z.out.cell (i:=1) (v:=.int .i64 0) rfl
    have f0:w7.drew.frozen? ⟨w.heap.size + 1,0,none⟩=false:=HR1z.out.free 0
    have f1:w7.drew.frozen? ⟨w.heap.size + 1,1,none⟩=false:=HR1z.out.free 1
    have hrb:rowB 8 w7.drew w.heap.size=true:=HR0z.out.b (n:=8) rfl
    have a0:=HA1.out.cell (i:=0) (v:=.int .i64 0) rfl
    have a1:=HA1.out.cell (i:=1) (v:=.int .i64 0) rfl
    have g0:=HA1.out.free 0
    have g1:=HA1.out.free 1
    have hok:okRow 8 exZ=true:=by rw [okRow8];rfl
    have hrc:rowB 8 ((w7.drew.setCell ⟨w.heap.size + 1,0,none⟩ (.int .i64 (s2.e:Int))).setCell ⟨w.heap.size + 1,1,none⟩ (.int .i64 s2.a)) w.heap.size=true:=(fin_c (W:=w7.drew) HR0z.out HR1z.out).b rfl
    go_upto_region 9 with fail
    go_region_with (fail)
    all_goals go_wp2_with (first
     | (refine bodyPost_ret (v:=.tuple #[.agg exZ,.agg #[.int .i64 (s2.e:Int),.int .i64 s2.a]]) (res_two rfl _ _ w.heap.size (w.heap.size + 1) _ _ exZ #[.int .i64 (s2.e:Int),.int .i64 s2.a] rfl rfl HFA.out.r0 HFA.out.r1 rfl rfl) rfl ?_;exact ⟨by rw [HPZ.out];rfl,HBD.out.trans (HFA.out.bl _ (Nat.le_refl _))⟩)
     | (refine bodyPost_ret (v:=.tuple #[.agg exZ,.agg #[.int .i64 (s2.e:Int),.int .i64 s2.a]]) (res_two rfl _ _ w.heap.size (w.heap.size + 1) _ _ exZ #[.int .i64 (s2.e:Int),.int .i64 s2.a] rfl rfl HFB.out.r0 HFB.out.r1 rfl rfl) rfl ?_;exact ⟨by rw [HPZ.out];rfl,HBD.out.trans (HFB.out.bl _ (Nat.le_refl _))⟩))
theorem exprTopW (t:ByteArray) (w:World) (hx:LX w) (hs:t.size ≤ 1000000000):Calls Tryz.prog 13 #[.string t] w fun e w'=>exPost w (exprL t.data.toList) e w'∧Below w.heap.size w w':=exprTopB t w hx (Nat.le_trans hs (by decide))
end Go.Proofs.YtmdogmpcmkfjpaaGreatDoor.Dt
namespace Go.Proofs.YtmdogmpcmkfjpaaGreatDoor.Dt
open Go.RowKit Go.Proofs.YtmdogmpcmkfjpaaGreatDoor.By
def plainL (a:List UInt8):List UInt8 × Bool:=match toksL (trimL a) with
 | .inl _=>([],false)
 | .inr L=>((writeL L).1,decide ((writeL L).2=0))
theorem trim_eq (a:List UInt8):Lib.trimSuffix a [32]=trimL a:=by
 unfold Lib.trimSuffix Lib.hasSuffix trimL
 rcases List.eq_nil_or_concat a with rfl | ⟨l,x,rfl⟩
 ·rfl
 ·rw [List.concat_eq_append]
  by_cases h:x=32
  ·subst h
   have h1:List.isSuffixOf [32] (l ++ [32])=true:=List.isSuffixOf_iff_suffix.2 ⟨l,rfl⟩
   rw [if_pos h1,List.getLast?_append]
   simp
  ·have h1:¬ List.isSuffixOf [32] (l ++ [x])=true:=fun e=>by
    obtain ⟨m,hm⟩:=List.isSuffixOf_iff_suffix.1 e
    have:=congrArg List.getLast? hm
    simp at this
    exact h this.symm
   rw [if_neg h1,if_neg]
   simpa using h
theorem trimL_len (a:List UInt8):(trimL a).length ≤ a.length:=by
 unfold trimL
 split
 ·simp
 ·exact Nat.le_refl _
theorem joinL_bound {n:Nat} : ∀ l:List (List UInt8),(∀ x ∈ l,x.length ≤ n)→(joinL l).length ≤ (n + 1) * l.length
 | [],_=>Nat.zero_le _
 | [x],h=>by
  show x.length ≤ (n + 1) * 1
  have:=h x (by simp)
  omega
 | x :: y :: l,h=>by
  have ih:=joinL_bound (y :: l) fun z hz=>h z (by simp [hz])
  have h1:=h x (by simp)
  show (x ++ 32 :: joinL (y :: l)).length ≤ (n + 1) * (l.length + 1 + 1)
  rw [List.length_append,List.length_cons]
  have e:(n + 1) * (l.length + 1 + 1)=(n + 1) * (y :: l).length + (n + 1):=by rw [List.length_cons,Nat.mul_add,Nat.mul_one]
  omega
theorem writeL_len {s:List UInt8} {L:List Tk} (h:toksL s = .inr L):(writeL L).1.length ≤ 1000000000:=by
 have h1:=read_ok h
 have h2:=toksL_le h
 have h3:s.length ≤ 4096:=by
  have h4:=h
  rw [toksL_eq] at h4
  by_cases hl:4096 < s.length
  ·rw [if_pos hl] at h4;cases h4
  ·omega
 unfold writeL
 split
 ·refine Nat.le_trans (joinL_bound (n:=2003) _ fun x hx=>?_) ?_
  ·obtain ⟨t,ht,rfl⟩:=List.mem_map.1 hx
   have:=h1 t ht
   exact textT_len this.1.2.1 (by omega)
  ·rw [List.length_map];omega
 ·exact Nat.zero_le _
set_option maxRecDepth 100000 in
set_option maxHeartbeats 16000000 in
theorem plainW (s:ByteArray) (w:World) (hx:LX w) (hs:s.size ≤ 1000000000):Calls Tryz.prog 25 #[.string s] w fun e w'=>
 ∃ t,e = .returned (.tuple #[.string t,.bool (plainL s.data.toList).2])∧((plainL s.data.toList).2=true→t.data.toList=(plainL s.data.toList).1)∧t.size ≤ 1000000000∧Below w.heap.size w w':=by
 have ht:=Tryz.strings_TrimSuffix s ⟨#[32]⟩ w (by omega)
 have e0:Lib.trimSuffix s.data.toList (⟨#[32]⟩:ByteArray).data.toList=trimL s.data.toList:=trim_eq _
 rw [e0] at ht
 obtain ⟨T,hT⟩:∃ z:ByteArray,z=⟨(trimL s.data.toList).toArray⟩:=⟨_,rfl⟩
 rw [← hT] at ht
 have hTd:T.data.toList=trimL s.data.toList:=by rw [hT]
 have HTS:Hid (T.size ≤ 1000000000):=Lib.hid (by
  have h1:=trimL_len s.data.toList
  rw [← hTd,ba_len,ba_len] at h1
  omega)
 have HT:=Lib.hid ht
 have HTK:=Lib.hid (tokensLexW T w hx HTS.out)
 rw [hTd] at HTK
 have HX:=Lib.hid hx
 obtain ⟨PL,hPL⟩:∃ z,z=plainL s.data.toList:=⟨_,rfl⟩
 rw [← hPL]
 unfold plainL at hPL
 have HPL:=Lib.hid hPL
 clear ht e0 hT hTd hPL hx hs
 go_enter Tryz.func25,Tryz.ntmps25
 go_wp2_with fail
 refine HT.out.mono ?_
 rintro e1 w2 ⟨rfl,hw2⟩
 subst hw2
 clear HT
 cases hR:toksL (trimL s.data.toList) with
 | inl x=>
  obtain ⟨en,ea⟩:=x
  rw [hR] at HTK HPL
  have hne:=(spot_bad hR).1
  have e1:((en:Int) == 0)=false:=by simp;omega
  clear hR hne
  go_wp2_with fail
  refine HTK.out.mono ?_
  rintro e3 w3 ⟨rfl,hb3⟩
  have hba:=(Below.refl _ w3).alloc (Nat.le_refl _) (.cells #[.int .i64 (en:Int),.int .i64 (ea:Int)] 39)
  have HRS:=Lib.hid (row_alloc w3 39 #[.int .i64 (en:Int),.int .i64 (ea:Int)])
  have HXA:=Lib.hid ((HX.out.later hb3).later hba)
  have HBA:=Lib.hid (next hb3 hba)
  clear hb3 hba HTK
  go_upto_region 2 with fail
  generalize w3.alloc (.cells #[.int .i64 (en:Int),.int .i64 (ea:Int)] 39)=wa at *
  generalize w3.heap.size=k at *
  have HWR:=Lib.hid (writeW (.slice none 0 0) [] wa HXA.out (SlAt.nil _ _ _) (by simp) (by simp))
  have hwn:writeL []=([],0):=by unfold writeL;rw [if_pos (by simp)];rfl
  rw [hwn] at HWR
  clear hwn
  go_wp2_with fail
  refine HWR.out.mono ?_
  rintro e4 w4 ⟨rfl,hb4⟩
  have s0:=(HRS.out.later hb4).cell (i:=0) (v:=.int .i64 (en:Int)) rfl
  have HBF:=Lib.hid (next HBA.out hb4)
  clear hb4 HWR
  go_wp2_with fail
  go_ret2
  exact ⟨⟨#[]⟩,by rw [HPL.out];rfl,(by rw [HPL.out];exact fun h=>Bool.noConfusion h),by decide,HBF.out⟩
 | inr L=>
  have HLB:=Lib.hid (writeL_len hR)
  have HLL:Hid (L.length ≤ 1000000):=Lib.hid (by
   have h1:=toksL_le hR
   have h4:=hR
   rw [toksL_eq] at h4
   by_cases hl:4096 < (trimL s.data.toList).length
   ·rw [if_pos hl] at h4;cases h4
   ·omega)
  have HRO:=Lib.hid (read_ok hR)
  rw [hR] at HTK HPL
  clear hR
  go_wp2_with fail
  refine HTK.out.mono ?_
  rintro e3 w3 ⟨⟨tv,rfl,htk⟩,hb3⟩
  obtain ⟨ta,tc,rfl⟩:=htk.shape
  have hba:=(Below.refl _ w3).alloc (Nat.le_refl _) (.cells #[.int .i64 0,.int .i64 0] 39)
  have HRS:=Lib.hid (row_alloc w3 39 #[.int .i64 0,.int .i64 0])
  have HXA:=Lib.hid ((HX.out.later hb3).later hba)
  have HTA:=Lib.hid (SlAt.below htk hba)
  have HBA:=Lib.hid (next hb3 hba)
  clear hb3 hba HTK htk
  go_upto_region 2 with fail
  generalize w3.alloc (.cells #[.int .i64 0,.int .i64 0] 39)=wa at *
  generalize w3.heap.size=k at *
  have HWR:=Lib.hid (writeW _ L wa HXA.out HTA.out (fun t ht=>by have:=HRO.out t ht;omega) HLL.out)
  obtain ⟨⟨t,n2⟩,hwl⟩:∃ z,writeL L=z:=⟨_,rfl⟩
  rw [hwl] at HWR HLB
  have HPL2:Hid (PL=(t,decide (n2=0))):=Lib.hid (by rw [HPL.out,hwl])
  clear hwl
  go_wp2_with fail
  refine HWR.out.mono ?_
  rintro e4 w4 ⟨rfl,hb4⟩
  have s0:=(HRS.out.later hb4).cell (i:=0) (v:=.int .i64 0) rfl
  have HBF:=Lib.hid (next HBA.out hb4)
  have eB:((n2:Int) == 0)=decide (n2=0):=by rw [Bool.eq_iff_iff];simp
  clear hb4 HWR
  go_wp2_with fail
  go_ret2
  exact ⟨⟨t.toArray⟩,by rw [HPL2.out];rfl,(by rw [HPL2.out];exact fun _=>rfl),(by have:=HLB.out;simpa [ByteArray.size] using this),HBF.out⟩
end Go.Proofs.YtmdogmpcmkfjpaaGreatDoor.Dt
