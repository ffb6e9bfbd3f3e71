import Derived.Test.YtmdogmpcmkfjpaaGreatDoorBq26
set_option maxRecDepth 100000
set_option maxHeartbeats 64000000
/- Part. -/
namespace Go.Proofs.YtmdogmpcmkfjpaaGreatDoor.Dt
open Go.RowKit Go.Proofs.YtmdogmpcmkfjpaaGreatDoor.By
theorem st_eq {x y:PSt} (h0:(x.kind:Int)=(y.kind:Int)) (h1:x.table.toList=y.table.toList) (h2:x.name.toList=y.name.toList) (h3:x.uniq=y.uniq) (h15:x.limit=y.limit)
 (h4:eqB x.cols y.cols=true)
 (h5:eqB x.key y.key=true)
 (h6:eqB x.names y.names=true)
 (h7:eqB x.rows y.rows=true)
 (h8:eqB x.sets y.sets=true)
 (h9:eqB x.items y.items=true)
 (h10:eqB x.src y.src=true)
 (h11:eqB x.wh y.wh=true)
 (h12:eqB x.group y.group=true)
 (h13:eqB x.having y.having=true)
 (h14:eqB x.order y.order=true):eqB x y=true:=by
 have h1:=Zd8 h1
 have h2:=Zd8 h2
 have h4:=Za3.1 h4
 have h5:=Za3.1 h5
 have h6:=Za3.1 h6
 have h7:=Za3.1 h7
 have h8:=Za3.1 h8
 have h9:=Za3.1 h9
 have h10:=Za3.1 h10
 have h11:=Za3.1 h11
 have h12:=Za3.1 h12
 have h13:=Za3.1 h13
 have h14:=Za3.1 h14
 refine Za3.2 ?_
 cases x
 cases y
 simp only at h0 h1 h2 h3 h15 h4 h5 h6 h7 h8 h9 h10 h11 h12 h13 h14
 simp only [PSt.mk.injEq]
 exact ⟨by omega,h1,h2,h3,h4,h5,h6,h7,h8,h9,h10,h11,h12,h13,h14,h15⟩
theorem Zjo {α:Type} (f:PSt→α) {x y:PSt} (h:eqB (f x) (f y)=false):eqB x y=false:=Zw fun e=>by
 rw [e,Zch] at h
 cases h
theorem same1 (x y:PSt) (p4 q4 p5 q5 p6 q6 p7 q7 p8 q8 p9 q9 p10 q10 p11 q11 p12 q12 p13 q13 p14 q14:Option Addr) (c4 d4 c5 d5 c6 d6 c7 d7 c8 d8 c9 d9 c10 d10 c11 d11 c12 d12 c13 d13 c14 d14:Nat) (w:World)
 (H4:∀ W,Below w.heap.size w W→Calls Tryz.prog 46 #[.slice p4 x.cols.length c4,.slice q4 y.cols.length d4,.func (.func 47) #[] #[]] W fun e w'=>e = .returned (.bool (eqB x.cols y.cols))∧Below W.heap.size W w')
 (H5:∀ W,Below w.heap.size w W→Calls Tryz.prog 48 #[.slice p5 x.key.length c5,.slice q5 y.key.length d5,.func (.func 45) #[] #[]] W fun e w'=>e = .returned (.bool (eqB x.key y.key))∧Below W.heap.size W w')
 (H6:∀ W,Below w.heap.size w W→Calls Tryz.prog 48 #[.slice p6 x.names.length c6,.slice q6 y.names.length d6,.func (.func 45) #[] #[]] W fun e w'=>e = .returned (.bool (eqB x.names y.names))∧Below W.heap.size W w')
 (H7:∀ W,Below w.heap.size w W→Calls Tryz.prog 49 #[.slice p7 x.rows.length c7,.slice q7 y.rows.length d7,.func (.func 50) #[] #[]] W fun e w'=>e = .returned (.bool (eqB x.rows y.rows))∧Below W.heap.size W w')
 (H8:∀ W,Below w.heap.size w W→Calls Tryz.prog 51 #[.slice p8 x.sets.length c8,.slice q8 y.sets.length d8,.func (.func 52) #[] #[]] W fun e w'=>e = .returned (.bool (eqB x.sets y.sets))∧Below W.heap.size W w')
 (H9:∀ W,Below w.heap.size w W→Calls Tryz.prog 53 #[.slice p9 x.items.length c9,.slice q9 y.items.length d9,.func (.func 54) #[] #[]] W fun e w'=>e = .returned (.bool (eqB x.items y.items))∧Below W.heap.size W w')
 (H10:∀ W,Below w.heap.size w W→Calls Tryz.prog 55 #[.slice p10 x.src.length c10,.slice q10 y.src.length d10,.func (.func 56) #[] #[]] W fun e w'=>e = .returned (.bool (eqB x.src y.src))∧Below W.heap.size W w')
 (H11:∀ W,Below w.heap.size w W→Calls Tryz.prog 33 #[.slice p11 x.wh.length c11,.slice q11 y.wh.length d11,.func (.func 15) #[] #[]] W fun e w'=>e = .returned (.bool (eqB x.wh y.wh))∧Below W.heap.size W w')
 (H12:∀ W,Below w.heap.size w W→Calls Tryz.prog 33 #[.slice p12 x.group.length c12,.slice q12 y.group.length d12,.func (.func 15) #[] #[]] W fun e w'=>e = .returned (.bool (eqB x.group y.group))∧Below W.heap.size W w')
 (H13:∀ W,Below w.heap.size w W→Calls Tryz.prog 33 #[.slice p13 x.having.length c13,.slice q13 y.having.length d13,.func (.func 15) #[] #[]] W fun e w'=>e = .returned (.bool (eqB x.having y.having))∧Below W.heap.size W w')
 (H14:∀ W,Below w.heap.size w W→Calls Tryz.prog 57 #[.slice p14 x.order.length c14,.slice q14 y.order.length d14,.func (.func 58) #[] #[]] W fun e w'=>e = .returned (.bool (eqB x.order y.order))∧Below W.heap.size W w') :
 Calls Tryz.prog 22 #[.agg (sA x p4 c4 p5 c5 p6 c6 p7 c7 p8 c8 p9 c9 p10 c10 p11 c11 p12 c12 p13 c13 p14 c14),.agg (sA y q4 d4 q5 d5 q6 d6 q7 d7 q8 d8 q9 d9 q10 d10 q11 d11 q12 d12 q13 d13 q14 d14)] w fun e w'=>e = .returned (.bool (eqB x y))∧Below w.heap.size w w':=by
 have HH4:=Lh H4
 have HH5:=Lh H5
 have HH6:=Lh H6
 have HH7:=Lh H7
 have HH8:=Lh H8
 have HH9:=Lh H9
 have HH10:=Lh H10
 have HH11:=Lh H11
 have HH12:=Lh H12
 have HH13:=Lh H13
 have HH14:=Lh H14
 clear H4 H5 H6 H7 H8 H9 H10 H11 H12 H13 H14
 have hbA:Below w.heap.size w ((w.alloc (.cells (sA x p4 c4 p5 c5 p6 c6 p7 c7 p8 c8 p9 c9 p10 c10 p11 c11 p12 c12 p13 c13 p14 c14) 31)).alloc (.cells (sA y q4 d4 q5 d5 q6 d6 q7 d7 q8 d8 q9 d9 q10 d10 q11 d11 q12 d12 q13 d13 q14 d14) 31)):=(bA).alloc kY _
 have HR0:=Lh ((Zc w 31 (sA x p4 c4 p5 c5 p6 c6 p7 c7 p8 c8 p9 c9 p10 c10 p11 c11 p12 c12 p13 c13 p14 c14)).later ((Below.refl _ _).alloc (Nat.le_refl _) (.cells (sA y q4 d4 q5 d5 q6 d6 q7 d7 q8 d8 q9 d9 q10 d10 q11 d11 q12 d12 q13 d13 q14 d14) 31)))
 have HR1:=Lh (Zc (w.alloc (.cells (sA x p4 c4 p5 c5 p6 c6 p7 c7 p8 c8 p9 c9 p10 c10 p11 c11 p12 c12 p13 c13 p14 c14) 31)) 31 (sA y q4 d4 q5 d5 q6 d6 q7 d7 q8 d8 q9 d9 q10 d10 q11 d11 q12 d12 q13 d13 q14 d14))
 have HS1:Hid ((w.alloc (.cells (sA x p4 c4 p5 c5 p6 c6 p7 c7 p8 c8 p9 c9 p10 c10 p11 c11 p12 c12 p13 c13 p14 c14) 31)).heap.size=w.heap.size + 1):=Lh kY
 rw [HS1.out] at HR1
 go_enter Tryz.func22,Tryz.ntmps22
 go_upto_region 1 with fail
 have HBA:=Lh hbA
 clear hbA HS1
 generalize (w.alloc (.cells (sA x p4 c4 p5 c5 p6 c6 p7 c7 p8 c8 p9 c9 p10 c10 p11 c11 p12 c12 p13 c13 p14 c14) 31)).alloc (.cells (sA y q4 d4 q5 d5 q6 d6 q7 d7 q8 d8 q9 d9 q10 d10 q11 d11 q12 d12 q13 d13 q14 d14) 31)=w2 at *
 obtain ⟨l0,l1,l2,l3,l4,l5,l6,l7,l8,l9,l10,l11,l12,l13,l14,l15⟩:=sC HR0.out
 obtain ⟨m0,m1,m2,m3,m4,m5,m6,m7,m8,m9,m10,m11,m12,m13,m14,m15⟩:=sC HR1.out
 have HW:=Lh (Below.refl w2.heap.size w2)
 go_wp2_with fail
 all_goals first
  | (have K0:Hid ((x.kind:Int)=(y.kind:Int)):=Lh kb8
     have K1:Hid (x.table.toList=y.table.toList):=Lh kb8
     have K2:Hid (x.name.toList=y.name.toList):=Lh kb8
     have K3:Hid (x.uniq=y.uniq):=Lh kb8
     have K15:Hid (x.limit=y.limit):=Lh kb8
     refine (HH4.out _ HBA.out).mono ?_
     intro e4 v4 hr
     obtain ⟨rfl,hb⟩:=hr
     have HA4:=Lh (next HBA.out hb)
     have HB4:=Lh (next HW.out hb)
     clear hb l0 m0 l1 m1 l2 m2 l3 m3 l4 m4 l5 m5 l6 m6 l7 m7 l8 m8 l9 m9 l10 m10 l11 m11 l12 m12 l13 m13 l14 m14 l15 m15
     obtain ⟨B4,hB4⟩:∃ B,eqB x.cols y.cols=B:=⟨_,rfl⟩
     rw [hB4]
     have HQ4:=Lh hB4
     clear hB4
     cases B4
     ·have HE:Hid (eqB x y=false):=Lh (Zjo PSt.cols HQ4.out)
      go_wp2_with fail
      go_ret
      exact ⟨by rw [HE.out];rfl,HA4.out⟩
     ·have l5:=(HR0.out.later HB4.out).cell (i:=5) (v:=.slice p5 x.key.length c5) rfl
      have m5:=(HR1.out.later HB4.out).cell (i:=5) (v:=.slice q5 y.key.length d5) rfl
      go_wp2_with fail
      refine (HH5.out _ HA4.out).mono ?_
      intro e5 v5 hr
      obtain ⟨rfl,hb⟩:=hr
      have HA5:=Lh (next HA4.out hb)
      have HB5:=Lh (next HB4.out hb)
      clear hb l5 m5
      obtain ⟨B5,hB5⟩:∃ B,eqB x.key y.key=B:=⟨_,rfl⟩
      rw [hB5]
      have HQ5:=Lh hB5
      clear hB5
      cases B5
      ·have HE:Hid (eqB x y=false):=Lh (Zjo PSt.key HQ5.out)
       go_wp2_with fail
       go_ret
       exact ⟨by rw [HE.out];rfl,HA5.out⟩
      ·have l6:=(HR0.out.later HB5.out).cell (i:=6) (v:=.slice p6 x.names.length c6) rfl
       have m6:=(HR1.out.later HB5.out).cell (i:=6) (v:=.slice q6 y.names.length d6) rfl
       go_wp2_with fail
       refine (HH6.out _ HA5.out).mono ?_
       intro e6 v6 hr
       obtain ⟨rfl,hb⟩:=hr
       have HA6:=Lh (next HA5.out hb)
       have HB6:=Lh (next HB5.out hb)
       clear hb l6 m6
       obtain ⟨B6,hB6⟩:∃ B,eqB x.names y.names=B:=⟨_,rfl⟩
       rw [hB6]
       have HQ6:=Lh hB6
       clear hB6
       cases B6
       ·have HE:Hid (eqB x y=false):=Lh (Zjo PSt.names HQ6.out)
        go_wp2_with fail
        go_ret
        exact ⟨by rw [HE.out];rfl,HA6.out⟩
       ·have l7:=(HR0.out.later HB6.out).cell (i:=7) (v:=.slice p7 x.rows.length c7) rfl
        have m7:=(HR1.out.later HB6.out).cell (i:=7) (v:=.slice q7 y.rows.length d7) rfl
        go_wp2_with fail
        refine (HH7.out _ HA6.out).mono ?_
        intro e7 v7 hr
        obtain ⟨rfl,hb⟩:=hr
        have HA7:=Lh (next HA6.out hb)
        have HB7:=Lh (next HB6.out hb)
        clear hb l7 m7
        obtain ⟨B7,hB7⟩:∃ B,eqB x.rows y.rows=B:=⟨_,rfl⟩
        rw [hB7]
        have HQ7:=Lh hB7
        clear hB7
        cases B7
        ·have HE:Hid (eqB x y=false):=Lh (Zjo PSt.rows HQ7.out)
         go_wp2_with fail
         go_ret
         exact ⟨by rw [HE.out];rfl,HA7.out⟩
        ·have l8:=(HR0.out.later HB7.out).cell (i:=8) (v:=.slice p8 x.sets.length c8) rfl
         have m8:=(HR1.out.later HB7.out).cell (i:=8) (v:=.slice q8 y.sets.length d8) rfl
         go_wp2_with fail
         refine (HH8.out _ HA7.out).mono ?_
         intro e8 v8 hr
         obtain ⟨rfl,hb⟩:=hr
         have HA8:=Lh (next HA7.out hb)
         have HB8:=Lh (next HB7.out hb)
         clear hb l8 m8
         obtain ⟨B8,hB8⟩:∃ B,eqB x.sets y.sets=B:=⟨_,rfl⟩
         rw [hB8]
         have HQ8:=Lh hB8
         clear hB8
         cases B8
         ·have HE:Hid (eqB x y=false):=Lh (Zjo PSt.sets HQ8.out)
          go_wp2_with fail
          go_ret
          exact ⟨by rw [HE.out];rfl,HA8.out⟩
         ·have l9:=(HR0.out.later HB8.out).cell (i:=9) (v:=.slice p9 x.items.length c9) rfl
          have m9:=(HR1.out.later HB8.out).cell (i:=9) (v:=.slice q9 y.items.length d9) rfl
          go_wp2_with fail
          refine (HH9.out _ HA8.out).mono ?_
          intro e9 v9 hr
          obtain ⟨rfl,hb⟩:=hr
          have HA9:=Lh (next HA8.out hb)
          have HB9:=Lh (next HB8.out hb)
          clear hb l9 m9
          obtain ⟨B9,hB9⟩:∃ B,eqB x.items y.items=B:=⟨_,rfl⟩
          rw [hB9]
          have HQ9:=Lh hB9
          clear hB9
          cases B9
          ·have HE:Hid (eqB x y=false):=Lh (Zjo PSt.items HQ9.out)
           go_wp2_with fail
           go_ret
           exact ⟨by rw [HE.out];rfl,HA9.out⟩
          ·have l10:=(HR0.out.later HB9.out).cell (i:=10) (v:=.slice p10 x.src.length c10) rfl
           have m10:=(HR1.out.later HB9.out).cell (i:=10) (v:=.slice q10 y.src.length d10) rfl
           go_wp2_with fail
           refine (HH10.out _ HA9.out).mono ?_
           intro e10 v10 hr
           obtain ⟨rfl,hb⟩:=hr
           have HA10:=Lh (next HA9.out hb)
           have HB10:=Lh (next HB9.out hb)
           clear hb l10 m10
           obtain ⟨B10,hB10⟩:∃ B,eqB x.src y.src=B:=⟨_,rfl⟩
           rw [hB10]
           have HQ10:=Lh hB10
           clear hB10
           cases B10
           ·have HE:Hid (eqB x y=false):=Lh (Zjo PSt.src HQ10.out)
            go_wp2_with fail
            go_ret
            exact ⟨by rw [HE.out];rfl,HA10.out⟩
           ·have l11:=(HR0.out.later HB10.out).cell (i:=11) (v:=.slice p11 x.wh.length c11) rfl
            have m11:=(HR1.out.later HB10.out).cell (i:=11) (v:=.slice q11 y.wh.length d11) rfl
            go_wp2_with fail
            refine (HH11.out _ HA10.out).mono ?_
            intro e11 v11 hr
            obtain ⟨rfl,hb⟩:=hr
            have HA11:=Lh (next HA10.out hb)
            have HB11:=Lh (next HB10.out hb)
            clear hb l11 m11
            obtain ⟨B11,hB11⟩:∃ B,eqB x.wh y.wh=B:=⟨_,rfl⟩
            rw [hB11]
            have HQ11:=Lh hB11
            clear hB11
            cases B11
            ·have HE:Hid (eqB x y=false):=Lh (Zjo PSt.wh HQ11.out)
             go_wp2_with fail
             go_ret
             exact ⟨by rw [HE.out];rfl,HA11.out⟩
            ·have l12:=(HR0.out.later HB11.out).cell (i:=12) (v:=.slice p12 x.group.length c12) rfl
             have m12:=(HR1.out.later HB11.out).cell (i:=12) (v:=.slice q12 y.group.length d12) rfl
             go_wp2_with fail
             refine (HH12.out _ HA11.out).mono ?_
             intro e12 v12 hr
             obtain ⟨rfl,hb⟩:=hr
             have HA12:=Lh (next HA11.out hb)
             have HB12:=Lh (next HB11.out hb)
             clear hb l12 m12
             obtain ⟨B12,hB12⟩:∃ B,eqB x.group y.group=B:=⟨_,rfl⟩
             rw [hB12]
             have HQ12:=Lh hB12
             clear hB12
             cases B12
             ·have HE:Hid (eqB x y=false):=Lh (Zjo PSt.group HQ12.out)
              go_wp2_with fail
              go_ret
              exact ⟨by rw [HE.out];rfl,HA12.out⟩
             ·have l13:=(HR0.out.later HB12.out).cell (i:=13) (v:=.slice p13 x.having.length c13) rfl
              have m13:=(HR1.out.later HB12.out).cell (i:=13) (v:=.slice q13 y.having.length d13) rfl
              go_wp2_with fail
              refine (HH13.out _ HA12.out).mono ?_
              intro e13 v13 hr
              obtain ⟨rfl,hb⟩:=hr
              have HA13:=Lh (next HA12.out hb)
              have HB13:=Lh (next HB12.out hb)
              clear hb l13 m13
              obtain ⟨B13,hB13⟩:∃ B,eqB x.having y.having=B:=⟨_,rfl⟩
              rw [hB13]
              have HQ13:=Lh hB13
              clear hB13
              cases B13
              ·have HE:Hid (eqB x y=false):=Lh (Zjo PSt.having HQ13.out)
               go_wp2_with fail
               go_ret
               exact ⟨by rw [HE.out];rfl,HA13.out⟩
              ·have l14:=(HR0.out.later HB13.out).cell (i:=14) (v:=.slice p14 x.order.length c14) rfl
               have m14:=(HR1.out.later HB13.out).cell (i:=14) (v:=.slice q14 y.order.length d14) rfl
               go_wp2_with fail
               refine (HH14.out _ HA13.out).mono ?_
               intro e14 v14 hr
               obtain ⟨rfl,hb⟩:=hr
               have HA14:=Lh (next HA13.out hb)
               have HB14:=Lh (next HB13.out hb)
               clear hb l14 m14
               obtain ⟨B14,hB14⟩:∃ B,eqB x.order y.order=B:=⟨_,rfl⟩
               rw [hB14]
               have HQ14:=Lh hB14
               clear hB14
               cases B14
               ·have HE:Hid (eqB x y=false):=Lh (Zjo PSt.order HQ14.out)
                go_wp2_with fail
                go_ret
                exact ⟨by rw [HE.out];rfl,HA14.out⟩
               ·have HE:Hid (eqB x y=true):=Lh (st_eq K0.out K1.out K2.out K3.out K15.out HQ4.out HQ5.out HQ6.out HQ7.out HQ8.out HQ9.out HQ10.out HQ11.out HQ12.out HQ13.out HQ14.out)
                go_wp2_with fail
                go_ret
                exact ⟨by rw [HE.out];rfl,HA14.out⟩)
  | (have HE:Hid (eqB x y=false):=Lh (Zw fun e=>by subst e;contradiction)
     go_ret
     exact ⟨by rw [HE.out];rfl,HBA.out⟩)
end Go.Proofs.YtmdogmpcmkfjpaaGreatDoor.Dt
