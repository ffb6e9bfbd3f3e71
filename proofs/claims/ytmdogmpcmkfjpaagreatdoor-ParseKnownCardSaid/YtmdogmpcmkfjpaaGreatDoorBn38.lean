import Derived.Deep.DeepCutAuto
import Derived.Test.YtmdogmpcmkfjpaaGreatDoorBn33
import Derived.Test.YtmdogmpcmkfjpaaGreatDoorBn34
import Derived.Test.YtmdogmpcmkfjpaaGreatDoorBn37
/- Part of the proof (merged). -/
namespace Go.Proofs.YtmdogmpcmkfjpaaGreatDoor.Dt
open Go.RowKit Go.Proofs.YtmdogmpcmkfjpaaGreatDoor.By
theorem stR_below {w w':World} {cs:List Value} {x:PSt} (h:StR w cs x) (hb:Below w.heap.size w w'):StR w' cs x:=by
 obtain ⟨c4,c5,c6,c7,c8,c9,c10,c11,c12,c13,c14,e,h4,h5,h6,h7,h8,h9,h10,h11,h12,h13,h14⟩:=h
 exact ⟨c4,c5,c6,c7,c8,c9,c10,c11,c12,c13,c14,e,SlR.below h4 hb (fun _ _ h=>h),SlR.below h5 hb (fun _ _ h=>h),SlR.below h6 hb (fun _ _ h=>h),SlR.below h7 hb (fun _ _ h=>rowR_below hb h),
  SlR.below h8 hb (fun _ _ h=>setR_below hb h),SlR.below h9 hb (fun _ _ h=>itemR_below hb h),SlR.below h10 hb (fun _ _ h=>srcR_below hb h),exsR_below h11 hb,exsR_below h12 hb,exsR_below h13 hb,SlR.below h14 hb (fun _ _ h=>orderR_below hb h)⟩
structure SShort (x:PSt):Prop where
 cols:x.cols.length ≤ 140737488351232
 key:x.key.length ≤ 140737488351232
 names:x.names.length ≤ 140737488351232
 rows:x.rows.length ≤ 140737488351232∧∀ r ∈ x.rows,(∀ e,e ∈ r→Short e)∧r.length ≤ 140737488351232
 sets:x.sets.length ≤ 140737488351232∧∀ s ∈ x.sets,Short s.2
 items:x.items.length ≤ 140737488351232∧∀ s ∈ x.items,Short s.1
 src:x.src.length ≤ 140737488351232∧∀ s ∈ x.src,(∀ e,e ∈ s.on→Short e)∧s.on.length ≤ 140737488351232
 wh:x.wh.length ≤ 140737488351232∧∀ e,e ∈ x.wh→Short e
 group:x.group.length ≤ 140737488351232∧∀ e,e ∈ x.group→Short e
 having:x.having.length ≤ 140737488351232∧∀ e,e ∈ x.having→Short e
 order:x.order.length ≤ 140737488351232∧∀ s ∈ x.order,Short s.1
theorem sameSt {x:PSt} (hs:SShort x) (y:PSt) {cs ds:List Value} {w:World} (hx:StR w cs x) (hy:StR w ds y) :
 Calls Tryz.prog 22 #[.agg cs.toArray,.agg ds.toArray] w fun e w'=>e = .returned (.bool (eqB x y))∧Below w.heap.size w w':=by
 obtain ⟨c4,c5,c6,c7,c8,c9,c10,c11,c12,c13,c14,rfl,h4,h5,h6,h7,h8,h9,h10,h11,h12,h13,h14⟩:=hx
 obtain ⟨d4,d5,d6,d7,d8,d9,d10,d11,d12,d13,d14,rfl,g4,g5,g6,g7,g8,g9,g10,g11,g12,g13,g14⟩:=hy
 obtain ⟨p4,m4,rfl,_⟩:=h4.shape
 obtain ⟨q4,n4,rfl,_⟩:=g4.shape
 obtain ⟨p5,m5,rfl,_⟩:=h5.shape
 obtain ⟨q5,n5,rfl,_⟩:=g5.shape
 obtain ⟨p6,m6,rfl,_⟩:=h6.shape
 obtain ⟨q6,n6,rfl,_⟩:=g6.shape
 obtain ⟨p7,m7,rfl,_⟩:=h7.shape
 obtain ⟨q7,n7,rfl,_⟩:=g7.shape
 obtain ⟨p8,m8,rfl,_⟩:=h8.shape
 obtain ⟨q8,n8,rfl,_⟩:=g8.shape
 obtain ⟨p9,m9,rfl,_⟩:=h9.shape
 obtain ⟨q9,n9,rfl,_⟩:=g9.shape
 obtain ⟨p10,m10,rfl,_⟩:=h10.shape
 obtain ⟨q10,n10,rfl,_⟩:=g10.shape
 obtain ⟨p11,m11,rfl,_⟩:=h11.shape
 obtain ⟨q11,n11,rfl,_⟩:=g11.shape
 obtain ⟨p12,m12,rfl,_⟩:=h12.shape
 obtain ⟨q12,n12,rfl,_⟩:=g12.shape
 obtain ⟨p13,m13,rfl,_⟩:=h13.shape
 obtain ⟨q13,n13,rfl,_⟩:=g13.shape
 obtain ⟨p14,m14,rfl,_⟩:=h14.shape
 obtain ⟨q14,n14,rfl,_⟩:=g14.shape
 exact same1 x y p4 q4 p5 q5 p6 q6 p7 q7 p8 q8 p9 q9 p10 q10 p11 q11 p12 q12 p13 q13 p14 q14 m4 n4 m5 n5 m6 n6 m7 n7 m8 n8 m9 n9 m10 n10 m11 n11 m12 n12 m13 n13 m14 n14 w
  (fun W hb=>alikeCol _ _ _ _ W (SlR.below h4 hb fun _ _ h=>h) (SlR.below g4 hb fun _ _ h=>h) hs.cols)
  (fun W hb=>alikeTxt _ _ _ _ W (SlR.below h5 hb fun _ _ h=>h) (SlR.below g5 hb fun _ _ h=>h) hs.key)
  (fun W hb=>alikeTxt _ _ _ _ W (SlR.below h6 hb fun _ _ h=>h) (SlR.below g6 hb fun _ _ h=>h) hs.names)
  (fun W hb=>alikeRow _ _ _ _ W (SlR.below h7 hb fun _ _ h=>rowR_below hb h) (SlR.below g7 hb fun _ _ h=>rowR_below hb h) hs.rows.1 hs.rows.2)
  (fun W hb=>alikeSet _ _ _ _ W (SlR.below h8 hb fun _ _ h=>setR_below hb h) (SlR.below g8 hb fun _ _ h=>setR_below hb h) hs.sets.1 hs.sets.2)
  (fun W hb=>alikeItem _ _ _ _ W (SlR.below h9 hb fun _ _ h=>itemR_below hb h) (SlR.below g9 hb fun _ _ h=>itemR_below hb h) hs.items.1 hs.items.2)
  (fun W hb=>alikeSrc _ _ _ _ W (SlR.below h10 hb fun _ _ h=>srcR_below hb h) (SlR.below g10 hb fun _ _ h=>srcR_below hb h) hs.src.1 hs.src.2)
  (fun W hb=>sameExs hs.wh.2 hs.wh.1 (exsR_below h11 hb) (exsR_below g11 hb))
  (fun W hb=>sameExs hs.group.2 hs.group.1 (exsR_below h12 hb) (exsR_below g12 hb))
  (fun W hb=>sameExs hs.having.2 hs.having.1 (exsR_below h13 hb) (exsR_below g13 hb))
  (fun W hb=>alikeOrder _ _ _ _ W (SlR.below h14 hb fun _ _ h=>orderR_below hb h) (SlR.below g14 hb fun _ _ h=>orderR_below hb h) hs.order.1 hs.order.2)
theorem expr_ne {t:List UInt8} {e:Nat} {a:Int} (h:exprL t = .inl (e,a)):e ≠ 0:=by
 unfold exprL at h
 cases hR:toksL t with
 | inl x=>
  obtain ⟨e',a'⟩:=x
  rw [hR] at h
  cases h
  exact (spot_bad hR).1
 | inr L=>
  rw [hR] at h
  simp only at h
  obtain ⟨s,hs⟩:∃ s,(if (exprM L (t.length:Int) ⟨0,0,0⟩).2.k < L.length then failP L (t.length:Int) 6 (exprM L (t.length:Int) ⟨0,0,0⟩).2 else (exprM L (t.length:Int) ⟨0,0,0⟩).2)=s:=⟨_,rfl⟩
  rw [hs] at h
  by_cases h0:s.e=0
  ·rw [if_pos h0] at h;cases h
  ·rw [if_neg h0] at h;cases h;exact h0
def STW (w1:World) (b:Nat) (x:PSt):Prop:=∀ (cs:List Value) (l:List UInt8) (w:World),WS w1 b l w→StR w1 cs x→(wrSt x l).length ≤ 140737488355328 →
 Calls Tryz.prog 24 #[.pointer (some ⟨b,0,none⟩),.agg cs.toArray] w (WPost w1 b (wrSt x l) w)
theorem printE_yes {x:PE} (h1:(plainL (wrE x [])).2=true) (h2:exprL (plainL (wrE x [])).1 = .inr x):printEL x=((plainL (wrE x [])).1,0):=by
 unfold printEL
 unfold plainL at h1 h2 ⊢
 cases hR:toksL (trimL (wrE x [])) with
 | inl e=>rw [hR] at h1;cases h1
 | inr L=>
  rw [hR] at h1 h2
  simp only [decide_eq_true_eq] at h1 h2 ⊢
  rw [if_pos ⟨h1,h2⟩]
theorem printE_no {x:PE} (h:¬ ((plainL (wrE x [])).2=true∧exprL (plainL (wrE x [])).1 = .inr x)):printEL x=([],2):=by
 unfold printEL
 unfold plainL at h
 cases hR:toksL (trimL (wrE x [])) with
 | inl e=>rfl
 | inr L=>
  rw [hR] at h
  simp only [decide_eq_true_eq] at h ⊢
  rw [if_neg h]
def prPost (w:World) (r:List UInt8 × Nat) (e:Ending) (w':World):Prop:=∃ t:ByteArray,e = .returned (.tuple #[.string t,.int .i64 (r.2:Int)])∧t.data.toList=r.1∧Below w.heap.size w w'
set_option maxRecDepth 100000 in
set_option maxHeartbeats 16000000 in
theorem printC4 (x:PSt) (cs:List Value) (w:World) (hx:LX w) (hr:StR w cs x) (hS:∀ w1 b,Below w.heap.size w w1→STW w1 b x) (hlen:(wrSt x []).length ≤ 1000000000) (PT:List UInt8) (hpp:plainL (wrSt x [])=(PT,true)) (y:PSt) (hsh:SShort y) (hsc:scriptL PT = .inr [y]) (B:Bool) (hB:eqB y x=B) (PR:List UInt8 × Nat) (HP0:Hid (B=false→PR=([],2))) (HP1:Hid (B=true→PR=(PT,0))) :
 Calls Tryz.prog 10 #[.agg cs.toArray] w (prPost w PR):=by
 have HR:=Lib.hid hr
 have HX:=Lib.hid hx
 have HS:=Lib.hid hS
 have HLN:=Lib.hid hlen
 have HPP:=Lib.hid hpp
 obtain ⟨c4,c5,c6,c7,c8,c9,c10,c11,c12,c13,c14,rfl,h4,h5,h6,h7,h8,h9,h10,h11,h12,h13,h14⟩:=hr
 obtain ⟨a4,n4,rfl,_⟩:=h4.shape
 obtain ⟨a5,n5,rfl,_⟩:=h5.shape
 obtain ⟨a6,n6,rfl,_⟩:=h6.shape
 obtain ⟨a7,n7,rfl,_⟩:=h7.shape
 obtain ⟨a8,n8,rfl,_⟩:=h8.shape
 obtain ⟨a9,n9,rfl,_⟩:=h9.shape
 obtain ⟨a10,n10,rfl,_⟩:=h10.shape
 obtain ⟨a11,n11,rfl,_⟩:=h11.shape
 obtain ⟨a12,n12,rfl,_⟩:=h12.shape
 obtain ⟨a13,n13,rfl,_⟩:=h13.shape
 obtain ⟨a14,n14,rfl,_⟩:=h14.shape
 clear hx hS hlen hpp h4 h5 h6 h7 h8 h9 h10 h11 h12 h13 h14
 have HBA:Hid (Below w.heap.size w (w.alloc (.cells #[.int .u8 (x.kind:Int),.string x.table,.string x.name,.bool x.uniq,.slice a4 x.cols.length n4,.slice a5 x.key.length n5,.slice a6 x.names.length n6,.slice a7 x.rows.length n7,.slice a8 x.sets.length n8,.slice a9 x.items.length n9,.slice a10 x.src.length n10,.slice a11 x.wh.length n11,.slice a12 x.group.length n12,.slice a13 x.having.length n13,.slice a14 x.order.length n14,.int .i64 x.limit] 31))):=Lib.hid ((Below.refl _ _).alloc (Nat.le_refl _) _)
 have HX0:=Lib.hid (row_alloc w 31 #[.int .u8 (x.kind:Int),.string x.table,.string x.name,.bool x.uniq,.slice a4 x.cols.length n4,.slice a5 x.key.length n5,.slice a6 x.names.length n6,.slice a7 x.rows.length n7,.slice a8 x.sets.length n8,.slice a9 x.items.length n9,.slice a10 x.src.length n10,.slice a11 x.wh.length n11,.slice a12 x.group.length n12,.slice a13 x.having.length n13,.slice a14 x.order.length n14,.int .i64 x.limit])
 go_enter Tryz.func10,Tryz.ntmps10
 go_upto_region 2 with fail
 generalize hwa:w.alloc (.cells #[.int .u8 (x.kind:Int),.string x.table,.string x.name,.bool x.uniq,.slice a4 x.cols.length n4,.slice a5 x.key.length n5,.slice a6 x.names.length n6,.slice a7 x.rows.length n7,.slice a8 x.sets.length n8,.slice a9 x.items.length n9,.slice a10 x.src.length n10,.slice a11 x.wh.length n11,.slice a12 x.group.length n12,.slice a13 x.having.length n13,.slice a14 x.order.length n14,.int .i64 x.limit] 31)=wa at *
 have hzA:wa.heap.size=w.heap.size + 1:=by rw [← hwa];simp
 have HBD:=Lib.hid (buildW_new wa.heap.size wa (Nat.le_refl _))
 have HLW:Hid (Below wa.heap.size wa (wa.alloc (.cells #[.pointer none,.slice none 0 0] 67))):=Lib.hid ((Below.refl _ _).alloc (Nat.le_refl _) _)
 rw [hzA] at HBD
 have HW:Hid (WS wa (w.heap.size + 1) [] (wa.alloc (.cells #[.pointer none,.slice none 0 0] 67))):=Lib.hid ⟨by rw [hzA];exact HBD.out,HLW.out⟩
 have HXB:=Lib.hid (HX0.out.later HLW.out)
 have HRA:=Lib.hid (stR_below HR.out HBA.out)
 have HST:=Lib.hid (HS.out wa (w.heap.size + 1) HBA.out _ [] _ HW.out HRA.out (Nat.le_trans HLN.out (by decide)))
 have HQ:Hid (w.heap.size < w.heap.size + 1):=Lib.hid (Nat.lt_succ_self _)
 clear hwa hzA
 generalize wa.alloc (.cells #[.pointer none,.slice none 0 0] 67)=wb at *
 have p0:=HXB.out.cell (i:=0) (v:=.int .u8 (x.kind:Int)) rfl
 have p1:=HXB.out.cell (i:=1) (v:=.string x.table) rfl
 have p2:=HXB.out.cell (i:=2) (v:=.string x.name) rfl
 have p3:=HXB.out.cell (i:=3) (v:=.bool x.uniq) rfl
 have p4:=HXB.out.cell (i:=4) (v:=.slice a4 x.cols.length n4) rfl
 have p5:=HXB.out.cell (i:=5) (v:=.slice a5 x.key.length n5) rfl
 have p6:=HXB.out.cell (i:=6) (v:=.slice a6 x.names.length n6) rfl
 have p7:=HXB.out.cell (i:=7) (v:=.slice a7 x.rows.length n7) rfl
 have p8:=HXB.out.cell (i:=8) (v:=.slice a8 x.sets.length n8) rfl
 have p9:=HXB.out.cell (i:=9) (v:=.slice a9 x.items.length n9) rfl
 have p10:=HXB.out.cell (i:=10) (v:=.slice a10 x.src.length n10) rfl
 have p11:=HXB.out.cell (i:=11) (v:=.slice a11 x.wh.length n11) rfl
 have p12:=HXB.out.cell (i:=12) (v:=.slice a12 x.group.length n12) rfl
 have p13:=HXB.out.cell (i:=13) (v:=.slice a13 x.having.length n13) rfl
 have p14:=HXB.out.cell (i:=14) (v:=.slice a14 x.order.length n14) rfl
 have p15:=HXB.out.cell (i:=15) (v:=.int .i64 x.limit) rfl
 go_wp2_with fail
 refine HST.out.mono ?_
 rintro e2 w2 ⟨rfl,hs2,hk2⟩
 have hs2low:=Lib.hid hs2.low
 have HB2:Hid (Below w.heap.size w w2):=Lib.hid (HBA.out.trans (hs2.low.mono HBA.out.size))
 have HT2:=Lib.hid (writerString _ _ _ w2 hs2.bld)
 clear hs2 hk2 HST p0 p1 p2 p3 p4 p5 p6 p7 p8 p9 p10 p11 p12 p13 p14 p15
 go_wp2_with fail
 refine HT2.out.mono ?_
 rintro e3 w3 ⟨rfl,hb3⟩
 obtain ⟨T,hT⟩:∃ z:ByteArray,str (wrSt x []) = .string z∧z.data.toList=wrSt x []:=⟨⟨(wrSt x []).toArray⟩,rfl,by simp⟩
 rw [hT.1]
 have HB3:Hid (Below w.heap.size w w3):=Lib.hid (HB2.out.trans (hb3.mono HBA.out.size))
 have HPL:=Lib.hid (plainW T w3 (HX.out.later HB3.out) (by have:=HLN.out;rw [← hT.2,ba_len] at this;exact this))
 rw [hT.2,HPP.out] at HPL
 have HX3:Hid (Row w.heap.size 31 #[.int .u8 (x.kind:Int),.string x.table,.string x.name,.bool x.uniq,.slice a4 x.cols.length n4,.slice a5 x.key.length n5,.slice a6 x.names.length n6,.slice a7 x.rows.length n7,.slice a8 x.sets.length n8,.slice a9 x.items.length n9,.slice a10 x.src.length n10,.slice a11 x.wh.length n11,.slice a12 x.group.length n12,.slice a13 x.having.length n13,.slice a14 x.order.length n14,.int .i64 x.limit] w3):=Lib.hid (HX0.out.later (hs2low.out.trans hb3))
 clear hb3 HT2 hT
 go_wp2_with fail
 refine HPL.out.mono ?_
 rintro e4 w4 ⟨t,rfl,ht1,ht2,hb4⟩
 have HB4:=Lib.hid (next HB3.out hb4)
 have HX4:=Lib.hid (HX3.out.later hb4)
 have HSC:=Lib.hid (scriptW t w4 (HX.out.later HB4.out) ht2)
 have HT1:=Lib.hid ht1
 clear hb4 ht1 ht2 HPL
 have htt:t.data.toList=PT:=HT1.out trivial
 rw [htt,hsc] at HSC
 have HSH:=Lib.hid hsh
 have HEB:=Lib.hid hB
 clear hsc hsh
 go_wp2_with fail
 refine HSC.out.mono ?_
 rintro e5 w5 ⟨⟨v,rfl,hn⟩,hb5⟩
 have HSL:=Lib.hid hn.here
 have HB5:=Lib.hid (next HB4.out (hb5.alloc hb5.size (.cells #[.int .i64 0,.int .i64 0] 39)))
 have HX5:=Lib.hid ((HX4.out.later hb5).later ((Below.refl _ w5).alloc (Nat.le_refl _) (.cells #[.int .i64 0,.int .i64 0] 39)))
 have HBA5:=Lib.hid ((Below.refl _ w5).alloc (Nat.le_refl _) (.cells #[.int .i64 0,.int .i64 0] 39))
 have HRS:=Lib.hid (row_alloc w5 39 #[.int .i64 0,.int .i64 0])
 obtain ⟨va,vc,rfl,_⟩:=hn.here.shape
 clear hn hb5 HSC
 obtain ⟨yb,yo,ycs,rfl,_,hst,hyc⟩:=HSL.out.get (k:=0) rfl
 have HSY:=Lib.hid (stR_below hst HBA5.out)
 obtain ⟨d4,d5,d6,d7,d8,d9,d10,d11,d12,d13,d14,rfl,g4,g5,g6,g7,g8,g9,g10,g11,g12,g13,g14⟩:=hst
 obtain ⟨q4,m4,rfl,_⟩:=g4.shape
 obtain ⟨q5,m5,rfl,_⟩:=g5.shape
 obtain ⟨q6,m6,rfl,_⟩:=g6.shape
 obtain ⟨q7,m7,rfl,_⟩:=g7.shape
 obtain ⟨q8,m8,rfl,_⟩:=g8.shape
 obtain ⟨q9,m9,rfl,_⟩:=g9.shape
 obtain ⟨q10,m10,rfl,_⟩:=g10.shape
 obtain ⟨q11,m11,rfl,_⟩:=g11.shape
 obtain ⟨q12,m12,rfl,_⟩:=g12.shape
 obtain ⟨q13,m13,rfl,_⟩:=g13.shape
 obtain ⟨q14,m14,rfl,_⟩:=g14.shape
 have HYC:Hid (∀ (j:Nat) (u:Value),([.int .u8 (y.kind:Int),.string y.table,.string y.name,.bool y.uniq,.slice q4 y.cols.length m4,.slice q5 y.key.length m5,.slice q6 y.names.length m6,.slice q7 y.rows.length m7,.slice q8 y.sets.length m8,.slice q9 y.items.length m9,.slice q10 y.src.length m10,.slice q11 y.wh.length m11,.slice q12 y.group.length m12,.slice q13 y.having.length m13,.slice q14 y.order.length m14,.int .i64 y.limit]:List Value)[j]? = some u→w5.cell? ⟨yb,yo + j,none⟩=some u):=Lib.hid (fun j u hu=>by have:=hyc j u hu;rwa [Nat.zero_mul,Nat.add_zero] at this)
 clear hyc g4 g5 g6 g7 g8 g9 g10 g11 g12 g13 g14 htt
 have hk1:(([y]:List PSt).length:Int)=1:=rfl
 go_upto_region 5 with fail
 have hy0:w5.cell? ⟨yb,yo,none⟩=some (.int .u8 (y.kind:Int)):=HYC.out 0 _ rfl
 have y0:=lat_cell ((HBA5.out.cell (cell_lt hy0)).trans hy0)
 have y1:=lat_cell ((HBA5.out.cell (cell_lt (HYC.out 1 _ rfl))).trans (HYC.out 1 _ rfl))
 have y2:=lat_cell ((HBA5.out.cell (cell_lt (HYC.out 2 _ rfl))).trans (HYC.out 2 _ rfl))
 have y3:=lat_cell ((HBA5.out.cell (cell_lt (HYC.out 3 _ rfl))).trans (HYC.out 3 _ rfl))
 have y4:=lat_cell ((HBA5.out.cell (cell_lt (HYC.out 4 _ rfl))).trans (HYC.out 4 _ rfl))
 have y5:=lat_cell ((HBA5.out.cell (cell_lt (HYC.out 5 _ rfl))).trans (HYC.out 5 _ rfl))
 have y6:=lat_cell ((HBA5.out.cell (cell_lt (HYC.out 6 _ rfl))).trans (HYC.out 6 _ rfl))
 have y7:=lat_cell ((HBA5.out.cell (cell_lt (HYC.out 7 _ rfl))).trans (HYC.out 7 _ rfl))
 have y8:=lat_cell ((HBA5.out.cell (cell_lt (HYC.out 8 _ rfl))).trans (HYC.out 8 _ rfl))
 have y9:=lat_cell ((HBA5.out.cell (cell_lt (HYC.out 9 _ rfl))).trans (HYC.out 9 _ rfl))
 have y10:=lat_cell ((HBA5.out.cell (cell_lt (HYC.out 10 _ rfl))).trans (HYC.out 10 _ rfl))
 have y11:=lat_cell ((HBA5.out.cell (cell_lt (HYC.out 11 _ rfl))).trans (HYC.out 11 _ rfl))
 have y12:=lat_cell ((HBA5.out.cell (cell_lt (HYC.out 12 _ rfl))).trans (HYC.out 12 _ rfl))
 have y13:=lat_cell ((HBA5.out.cell (cell_lt (HYC.out 13 _ rfl))).trans (HYC.out 13 _ rfl))
 have y14:=lat_cell ((HBA5.out.cell (cell_lt (HYC.out 14 _ rfl))).trans (HYC.out 14 _ rfl))
 have y15:=lat_cell ((HBA5.out.cell (cell_lt (HYC.out 15 _ rfl))).trans (HYC.out 15 _ rfl))
 have HRX:=Lib.hid (stR_below HR.out HB5.out)
 generalize w5.alloc (.cells #[.int .i64 0,.int .i64 0] 39)=w6 at *
 generalize w5.heap.size=g at *
 have l0:=lat_cell (HRS.out.cell (i:=0) (v:=.int .i64 0) rfl)
 have x0:=lat_cell (HX5.out.cell (i:=0) (v:=.int .u8 (x.kind:Int)) rfl)
 have x1:=lat_cell (HX5.out.cell (i:=1) (v:=.string x.table) rfl)
 have x2:=lat_cell (HX5.out.cell (i:=2) (v:=.string x.name) rfl)
 have x3:=lat_cell (HX5.out.cell (i:=3) (v:=.bool x.uniq) rfl)
 have x4:=lat_cell (HX5.out.cell (i:=4) (v:=.slice a4 x.cols.length n4) rfl)
 have x5:=lat_cell (HX5.out.cell (i:=5) (v:=.slice a5 x.key.length n5) rfl)
 have x6:=lat_cell (HX5.out.cell (i:=6) (v:=.slice a6 x.names.length n6) rfl)
 have x7:=lat_cell (HX5.out.cell (i:=7) (v:=.slice a7 x.rows.length n7) rfl)
 have x8:=lat_cell (HX5.out.cell (i:=8) (v:=.slice a8 x.sets.length n8) rfl)
 have x9:=lat_cell (HX5.out.cell (i:=9) (v:=.slice a9 x.items.length n9) rfl)
 have x10:=lat_cell (HX5.out.cell (i:=10) (v:=.slice a10 x.src.length n10) rfl)
 have x11:=lat_cell (HX5.out.cell (i:=11) (v:=.slice a11 x.wh.length n11) rfl)
 have x12:=lat_cell (HX5.out.cell (i:=12) (v:=.slice a12 x.group.length n12) rfl)
 have x13:=lat_cell (HX5.out.cell (i:=13) (v:=.slice a13 x.having.length n13) rfl)
 have x14:=lat_cell (HX5.out.cell (i:=14) (v:=.slice a14 x.order.length n14) rfl)
 have x15:=lat_cell (HX5.out.cell (i:=15) (v:=.int .i64 x.limit) rfl)
 have hC:∀ W,Below w6.heap.size w6 W→Calls Tryz.prog 22 #[.agg #[.int .u8 (y.kind:Int),.string y.table,.string y.name,.bool y.uniq,.slice q4 y.cols.length m4,.slice q5 y.key.length m5,.slice q6 y.names.length m6,.slice q7 y.rows.length m7,.slice q8 y.sets.length m8,.slice q9 y.items.length m9,.slice q10 y.src.length m10,.slice q11 y.wh.length m11,.slice q12 y.group.length m12,.slice q13 y.having.length m13,.slice q14 y.order.length m14,.int .i64 y.limit],.agg #[.int .u8 (x.kind:Int),.string x.table,.string x.name,.bool x.uniq,.slice a4 x.cols.length n4,.slice a5 x.key.length n5,.slice a6 x.names.length n6,.slice a7 x.rows.length n7,.slice a8 x.sets.length n8,.slice a9 x.items.length n9,.slice a10 x.src.length n10,.slice a11 x.wh.length n11,.slice a12 x.group.length n12,.slice a13 x.having.length n13,.slice a14 x.order.length n14,.int .i64 x.limit]] W fun e w'=>e = .returned (.bool B)∧Below W.heap.size W w':=fun W hb=>by
  rw [← HEB.out]
  exact sameSt HSH.out x (stR_below HSY.out hb) (stR_below HRX.out hb)
 have HC:=Lib.hid hC
 clear hC hB
 refine wp_region_later (by kernel_rfl) (by kernel_rfl) ?_
 repeat (go_big_quiet_step (exact lat_calls (HC.out _ (lat_below _ _))))
 refine wpQuiet_nil ?_
 refine later_out (fun w7 hb7=>?_)
 have HB7:=Lib.hid (next HB5.out hb7)
 have htt:t.data.toList=PT:=HT1.out trivial
 have HTT:=Lib.hid htt
 clear hb7 l0 htt x0 x1 x2 x3 x4 x5 x6 x7 x8 x9 x10 x11 x12 x13 x14 x15 y0 y1 y2 y3 y4 y5 y6 y7 y8 y9 y10 y11 y12 y13 y14 y15
 cases B
 ·go_wp2_with fail
  go_ret2
  exact ⟨⟨#[]⟩,by rw [HP0.out (by trivial)];rfl,by rw [HP0.out (by trivial)],HB7.out⟩
 ·go_wp2_with fail
  go_ret2
  exact ⟨t,by rw [HP1.out (by trivial)];rfl,by rw [HP1.out (by trivial)];exact HTT.out,HB7.out⟩
end Go.Proofs.YtmdogmpcmkfjpaaGreatDoor.Dt
