import Derived.Test.YtmdogmpcmkfjpaaGreatDoorBq24
import Derived.Test.YtmdogmpcmkfjpaaGreatDoorBq25
import Derived.Test.YtmdogmpcmkfjpaaGreatDoorBq27
set_option maxRecDepth 100000
set_option maxHeartbeats 64000000
/- Part. -/
namespace Go.Proofs.YtmdogmpcmkfjpaaGreatDoor.Dt
open Go.RowKit Go.Proofs.YtmdogmpcmkfjpaaGreatDoor.By
theorem Zah {w w':World} {cs:List Value} {x:PSt} (h:StR w cs x) (hb:Below w.heap.size w w'):StR w' cs x:=by
 obtain ⟨c4,c5,c6,c7,c8,c9,c10,c11,c12,c13,c14,e,h4,h5,h6,h7,h8,h9,h10,h11,h12,h13,h14⟩:=h
 exact ⟨c4,c5,c6,c7,c8,c9,c10,c11,c12,c13,c14,e,SlR.below h4 hb (fun _ _ h=>h),SlR.below h5 hb (fun _ _ h=>h),SlR.below h6 hb (fun _ _ h=>h),SlR.below h7 hb (fun _ _ h=>Zfd hb h),
  SlR.below h8 hb (fun _ _ h=>Zfb hb h),SlR.below h9 hb (fun _ _ h=>Zfs hb h),SlR.below h10 hb (fun _ _ h=>Ze9 hb h),Zg h11 hb,Zg h12 hb,Zg h13 hb,SlR.below h14 hb (fun _ _ h=>Zev hb h)⟩
structure Zgk (x:PSt):Prop where
 cols:x.cols.length ≤ 140737488351232
 key:x.key.length ≤ 140737488351232
 names:x.names.length ≤ 140737488351232
 rows:x.rows.length ≤ 140737488351232∧∀ r ∈ x.rows,(∀ e,e ∈ r→Za5 e)∧r.length ≤ 140737488351232
 sets:x.sets.length ≤ 140737488351232∧∀ s ∈ x.sets,Za5 s.2
 items:x.items.length ≤ 140737488351232∧∀ s ∈ x.items,Za5 s.1
 src:x.src.length ≤ 140737488351232∧∀ s ∈ x.src,(∀ e,e ∈ s.on→Za5 e)∧s.on.length ≤ 140737488351232
 wh:x.wh.length ≤ 140737488351232∧∀ e,e ∈ x.wh→Za5 e
 group:x.group.length ≤ 140737488351232∧∀ e,e ∈ x.group→Za5 e
 having:x.having.length ≤ 140737488351232∧∀ e,e ∈ x.having→Za5 e
 order:x.order.length ≤ 140737488351232∧∀ s ∈ x.order,Za5 s.1
theorem Zt8 {x:PSt} (hs:Zgk x) (y:PSt) {cs ds:List Value} {w:World} (hx:StR w cs x) (hy:StR w ds y) :
 Calls Tryz.prog 22 #[.agg cs.toArray,.agg ds.toArray] w fun e w'=>e = .returned (.bool (eqB x y))∧Below w.heap.size w w':=by
 obtain ⟨c4,c5,c6,c7,c8,c9,c10,c11,c12,c13,c14,rfl,h4,h5,h6,h7,h8,h9,h10,h11,h12,h13,h14⟩:=hx
 obtain ⟨d4,d5,d6,d7,d8,d9,d10,d11,d12,d13,d14,rfl,g4,g5,g6,g7,g8,g9,g10,g11,g12,g13,g14⟩:=hy
 obtain ⟨p4,m4,rfl,_⟩:=h4.shape
 obtain ⟨q4,n4,rfl,_⟩:=g4.shape
 obtain ⟨p5,m5,rfl,_⟩:=h5.shape
 obtain ⟨q5,n5,rfl,_⟩:=g5.shape
 obtain ⟨p6,m6,rfl,_⟩:=h6.shape
 obtain ⟨q6,n6,rfl,_⟩:=g6.shape
 obtain ⟨p7,m7,rfl,_⟩:=h7.shape
 obtain ⟨q7,n7,rfl,_⟩:=g7.shape
 obtain ⟨p8,m8,rfl,_⟩:=h8.shape
 obtain ⟨q8,n8,rfl,_⟩:=g8.shape
 obtain ⟨p9,m9,rfl,_⟩:=h9.shape
 obtain ⟨q9,n9,rfl,_⟩:=g9.shape
 obtain ⟨p10,m10,rfl,_⟩:=h10.shape
 obtain ⟨q10,n10,rfl,_⟩:=g10.shape
 obtain ⟨p11,m11,rfl,_⟩:=h11.shape
 obtain ⟨q11,n11,rfl,_⟩:=g11.shape
 obtain ⟨p12,m12,rfl,_⟩:=h12.shape
 obtain ⟨q12,n12,rfl,_⟩:=g12.shape
 obtain ⟨p13,m13,rfl,_⟩:=h13.shape
 obtain ⟨q13,n13,rfl,_⟩:=g13.shape
 obtain ⟨p14,m14,rfl,_⟩:=h14.shape
 obtain ⟨q14,n14,rfl,_⟩:=g14.shape
 exact same1 x y p4 q4 p5 q5 p6 q6 p7 q7 p8 q8 p9 q9 p10 q10 p11 q11 p12 q12 p13 q13 p14 q14 m4 n4 m5 n5 m6 n6 m7 n7 m8 n8 m9 n9 m10 n10 m11 n11 m12 n12 m13 n13 m14 n14 w
  (fun W hb=>alikeCol _ _ _ _ W (SlR.below h4 hb fun _ _ h=>h) (SlR.below g4 hb fun _ _ h=>h) hs.cols)
  (fun W hb=>Zru _ _ _ _ W (SlR.below h5 hb fun _ _ h=>h) (SlR.below g5 hb fun _ _ h=>h) hs.key)
  (fun W hb=>Zru _ _ _ _ W (SlR.below h6 hb fun _ _ h=>h) (SlR.below g6 hb fun _ _ h=>h) hs.names)
  (fun W hb=>alikeRow _ _ _ _ W (SlR.below h7 hb fun _ _ h=>Zfd hb h) (SlR.below g7 hb fun _ _ h=>Zfd hb h) hs.rows.1 hs.rows.2)
  (fun W hb=>alikeSet _ _ _ _ W (SlR.below h8 hb fun _ _ h=>Zfb hb h) (SlR.below g8 hb fun _ _ h=>Zfb hb h) hs.sets.1 hs.sets.2)
  (fun W hb=>Zwr _ _ _ _ W (SlR.below h9 hb fun _ _ h=>Zfs hb h) (SlR.below g9 hb fun _ _ h=>Zfs hb h) hs.items.1 hs.items.2)
  (fun W hb=>alikeSrc _ _ _ _ W (SlR.below h10 hb fun _ _ h=>Ze9 hb h) (SlR.below g10 hb fun _ _ h=>Ze9 hb h) hs.src.1 hs.src.2)
  (fun W hb=>Zjw hs.wh.2 hs.wh.1 (Zg h11 hb) (Zg g11 hb))
  (fun W hb=>Zjw hs.group.2 hs.group.1 (Zg h12 hb) (Zg g12 hb))
  (fun W hb=>Zjw hs.having.2 hs.having.1 (Zg h13 hb) (Zg g13 hb))
  (fun W hb=>Zsy _ _ _ _ W (SlR.below h14 hb fun _ _ h=>Zev hb h) (SlR.below g14 hb fun _ _ h=>Zev hb h) hs.order.1 hs.order.2)
theorem Zjt {t:List UInt8} {e:Nat} {a:Int} (h:Z4 t = .inl (e,a)):e ≠ 0:=by
 unfold Z4 at h
 cases hR:Zea t with
 | inl x=>
  obtain ⟨e',a'⟩:=x
  rw [hR] at h
  cases h
  exact (Zmc hR).1
 | inr L=>
  rw [hR] at h
  simp only at h
  by_cases h0:(stmtsM L (t.length:Int) FU ⟨0,0,0⟩).2.e=0
  ·rw [if_pos h0] at h;cases h
  ·rw [if_neg h0] at h;cases h;exact h0
def STW (w1:World) (b:Nat) (x:PSt):Prop:=∀ (cs:List Value) (l:List UInt8) (w:World),WS w1 b l w→StR w1 cs x→(Zb3 x l).length ≤ 140737488355328 →
 Calls Tryz.prog 24 #[pV b,.agg cs.toArray] w (Zbg w1 b (Zb3 x l) w)
theorem Zuj {x:PSt} (h1:(Zdy (Zb3 x [])).2=true) (h2:Z4 (Zdy (Zb3 x [])).1 = .inr [x]):Zc1 x=((Zdy (Zb3 x [])).1,0):=by
 unfold Zc1
 unfold Zdy at h1 h2 ⊢
 cases hR:Zea (Ze6 (Zb3 x [])) with
 | inl e=>rw [hR] at h1;cases h1
 | inr L=>
  rw [hR] at h1 h2
  simp only [decide_eq_true_eq] at h1 h2 ⊢
  rw [if_pos ⟨h1,h2⟩]
theorem Zjb {x:PSt} (h:¬ ((Zdy (Zb3 x [])).2=true∧Z4 (Zdy (Zb3 x [])).1 = .inr [x])):Zc1 x=([],2):=by
 unfold Zc1
 unfold Zdy at h
 cases hR:Zea (Ze6 (Zb3 x [])) with
 | inl e=>rfl
 | inr L=>
  rw [hR] at h
  simp only [decide_eq_true_eq] at h ⊢
  rw [if_neg h]
def Ziv (w:World) (r:List UInt8 × Nat) (e:Ending) (w':World):Prop:=∃ t:ByteArray,e = .returned (.tuple #[.string t,.int .i64 (r.2:Int)])∧t.data.toList=r.1∧Below w.heap.size w w'
namespace nr503
theorem qR0 {p:Prop} (h:p:=by
 have htt:t.data.toList=PT:=HT1.out trivial
 rw [htt,hsc] at HSC
 have HSH:=Lh hsh
 have HEB:=Lh hB
 clear hsc hsh
 go_wp2_with fail
 refine HSC.out.mono ?_
 rintro e5 w5 ⟨⟨v,rfl,hn⟩,hb5⟩
 have HSL:=Lh hn.here
 have HB5:=Lh (next HB4.out (hb5.alloc hb5.size (.cells #[iZ,iZ] 39)))
 have HX5:=Lh ((HX4.out.later hb5).later ((Below.refl _ w5).alloc (Nat.le_refl _) (.cells #[iZ,iZ] 39)))
 have HBA5:=Lh ((Below.refl _ w5).alloc (Nat.le_refl _) (.cells #[iZ,iZ] 39))
 have HRS:=Lh (Zc w5 39 #[iZ,iZ])
 obtain ⟨va,vc,rfl,_⟩:=hn.here.shape
 clear hn hb5 HSC
 obtain ⟨yb,yo,ycs,rfl,_,hst,hyc⟩:=HSL.out.get (k:=0) rfl
 have HSY:=Lh (Zah hst HBA5.out)
 obtain ⟨d4,d5,d6,d7,d8,d9,d10,d11,d12,d13,d14,rfl,g4,g5,g6,g7,g8,g9,g10,g11,g12,g13,g14⟩:=hst
 obtain ⟨q4,m4,rfl,_⟩:=g4.shape
 obtain ⟨q5,m5,rfl,_⟩:=g5.shape
 obtain ⟨q6,m6,rfl,_⟩:=g6.shape
 obtain ⟨q7,m7,rfl,_⟩:=g7.shape
 obtain ⟨q8,m8,rfl,_⟩:=g8.shape
 obtain ⟨q9,m9,rfl,_⟩:=g9.shape
 obtain ⟨q10,m10,rfl,_⟩:=g10.shape
 obtain ⟨q11,m11,rfl,_⟩:=g11.shape
 obtain ⟨q12,m12,rfl,_⟩:=g12.shape
 obtain ⟨q13,m13,rfl,_⟩:=g13.shape
 obtain ⟨q14,m14,rfl,_⟩:=g14.shape
 have HYC:Hid (∀ (j:Nat) (u:Value),([.int .u8 (y.kind:Int),.string y.table,.string y.name,.bool y.uniq,.slice q4 y.cols.length m4,.slice q5 y.key.length m5,.slice q6 y.names.length m6,.slice q7 y.rows.length m7,.slice q8 y.sets.length m8,.slice q9 y.items.length m9,.slice q10 y.src.length m10,.slice q11 y.wh.length m11,.slice q12 y.group.length m12,.slice q13 y.having.length m13,.slice q14 y.order.length m14,.int .i64 y.limit]:List Value)[j]? = some u→w5.cell? ⟨yb,yo + j,none⟩=some u):=Lh (fun j u hu=>by have:=hyc j u hu;rwa [Nat.zero_mul,Nat.add_zero] at this)
 clear hyc g4 g5 g6 g7 g8 g9 g10 g11 g12 g13 g14 htt
 have hk1:(([y]:List PSt).length:Int)=1:=rfl
 go_upto_region 5 with fail
 have hy0:w5.cell? ⟨yb,yo,none⟩=some (.int .u8 (y.kind:Int)):=HYC.out 0 _ rfl
 have y0:=Zb ((HBA5.out.cell (Zd hy0)).trans hy0)
 have y1:=Zb ((HBA5.out.cell (Zd (HYC.out 1 _ rfl))).trans (HYC.out 1 _ rfl))
 have y2:=Zb ((HBA5.out.cell (Zd (HYC.out 2 _ rfl))).trans (HYC.out 2 _ rfl))
 have y3:=Zb ((HBA5.out.cell (Zd (HYC.out 3 _ rfl))).trans (HYC.out 3 _ rfl))
 have y4:=Zb ((HBA5.out.cell (Zd (HYC.out 4 _ rfl))).trans (HYC.out 4 _ rfl))
 have y5:=Zb ((HBA5.out.cell (Zd (HYC.out 5 _ rfl))).trans (HYC.out 5 _ rfl))
 have y6:=Zb ((HBA5.out.cell (Zd (HYC.out 6 _ rfl))).trans (HYC.out 6 _ rfl))
 have y7:=Zb ((HBA5.out.cell (Zd (HYC.out 7 _ rfl))).trans (HYC.out 7 _ rfl))
 have y8:=Zb ((HBA5.out.cell (Zd (HYC.out 8 _ rfl))).trans (HYC.out 8 _ rfl))
 have y9:=Zb ((HBA5.out.cell (Zd (HYC.out 9 _ rfl))).trans (HYC.out 9 _ rfl))
 have y10:=Zb ((HBA5.out.cell (Zd (HYC.out 10 _ rfl))).trans (HYC.out 10 _ rfl))
 have y11:=Zb ((HBA5.out.cell (Zd (HYC.out 11 _ rfl))).trans (HYC.out 11 _ rfl))
 have y12:=Zb ((HBA5.out.cell (Zd (HYC.out 12 _ rfl))).trans (HYC.out 12 _ rfl))
 have y13:=Zb ((HBA5.out.cell (Zd (HYC.out 13 _ rfl))).trans (HYC.out 13 _ rfl))
 have y14:=Zb ((HBA5.out.cell (Zd (HYC.out 14 _ rfl))).trans (HYC.out 14 _ rfl))
 have y15:=Zb ((HBA5.out.cell (Zd (HYC.out 15 _ rfl))).trans (HYC.out 15 _ rfl))
 have HRX:=Lh (Zah HR.out HB5.out)
 generalize w5.alloc (.cells #[iZ,iZ] 39)=w6 at *
 generalize w5.heap.size=g at *
 have l0:=Zb (HRS.out.cell (i:=0) (v:=iZ) rfl)
 have x0:=Zb (HX5.out.cell (i:=0) (v:=.int .u8 (x.kind:Int)) rfl)
 have x1:=Zb (HX5.out.cell (i:=1) (v:=.string x.table) rfl)
 have x2:=Zb (HX5.out.cell (i:=2) (v:=.string x.name) rfl)
 have x3:=Zb (HX5.out.cell (i:=3) (v:=.bool x.uniq) rfl)
 have x4:=Zb (HX5.out.cell (i:=4) (v:=.slice a4 x.cols.length n4) rfl)
 have x5:=Zb (HX5.out.cell (i:=5) (v:=.slice a5 x.key.length n5) rfl)
 have x6:=Zb (HX5.out.cell (i:=6) (v:=.slice a6 x.names.length n6) rfl)
 have x7:=Zb (HX5.out.cell (i:=7) (v:=.slice a7 x.rows.length n7) rfl)
 have x8:=Zb (HX5.out.cell (i:=8) (v:=.slice a8 x.sets.length n8) rfl)
 have x9:=Zb (HX5.out.cell (i:=9) (v:=.slice a9 x.items.length n9) rfl)
 have x10:=Zb (HX5.out.cell (i:=10) (v:=.slice a10 x.src.length n10) rfl)
 have x11:=Zb (HX5.out.cell (i:=11) (v:=.slice a11 x.wh.length n11) rfl)
 have x12:=Zb (HX5.out.cell (i:=12) (v:=.slice a12 x.group.length n12) rfl)
 have x13:=Zb (HX5.out.cell (i:=13) (v:=.slice a13 x.having.length n13) rfl)
 have x14:=Zb (HX5.out.cell (i:=14) (v:=.slice a14 x.order.length n14) rfl)
 have x15:=Zb (HX5.out.cell (i:=15) (v:=.int .i64 x.limit) rfl)
 have hC:∀ W,Below w6.heap.size w6 W→Calls Tryz.prog 22 #[.agg (sA y q4 m4 q5 m5 q6 m6 q7 m7 q8 m8 q9 m9 q10 m10 q11 m11 q12 m12 q13 m13 q14 m14),.agg (sA x a4 n4 a5 n5 a6 n6 a7 n7 a8 n8 a9 n9 a10 n10 a11 n11 a12 n12 a13 n13 a14 n14)] W fun e w'=>e = .returned (.bool B)∧Below W.heap.size W w':=fun W hb=>by
  rw [← HEB.out]
  exact Zt8 HSH.out x (Zah HSY.out hb) (Zah HRX.out hb)
 have HC:=Lh hC
 clear hC hB
 refine Zj kR kR ?_
 repeat (go_big_quiet_step (exact Zcn (HC.out _ (Zdr _ _))))
 refine wpQuiet_nil ?_
 refine Zu (fun w7 hb7=>?_)
 have HB7:=Lh (next HB5.out hb7)
 have htt:t.data.toList=PT:=HT1.out trivial
 have HTT:=Lh htt
 clear hb7 l0 htt x0 x1 x2 x3 x4 x5 x6 x7 x8 x9 x10 x11 x12 x13 x14 x15 y0 y1 y2 y3 y4 y5 y6 y7 y8 y9 y10 y11 y12 y13 y14 y15
 cases B
 ·go_wp2_with fail
  go_ret2
  exact ⟨⟨#[]⟩,by rw [HP0.out (by trivial)];rfl,by rw [HP0.out (by trivial)],HB7.out⟩
 go_wp2_with fail
 go_ret2
 exact ⟨t,by rw [HP1.out (by trivial)];rfl,by rw [HP1.out (by trivial)];exact HTT.out,HB7.out⟩):p:=h
end nr503
open nr503 in
theorem Zpu (x:PSt) (cs:List Value) (w:World) (hx:LX w) (hr:StR w cs x) (hS:∀ w1 b,Below w.heap.size w w1→STW w1 b x) (hlen:(Zb3 x []).length ≤ 1000000000) (PT:List UInt8) (hpp:Zdy (Zb3 x [])=(PT,true)) (y:PSt) (hsh:Zgk y) (hsc:Z4 PT = .inr [y]) (B:Bool) (hB:eqB y x=B) (PR:List UInt8 × Nat) (HP0:Hid (B=false→PR=([],2))) (HP1:Hid (B=true→PR=(PT,0))) :
 Calls Tryz.prog 10 #[.agg cs.toArray] w (Ziv w PR):=by exact kp2
end Go.Proofs.YtmdogmpcmkfjpaaGreatDoor.Dt
