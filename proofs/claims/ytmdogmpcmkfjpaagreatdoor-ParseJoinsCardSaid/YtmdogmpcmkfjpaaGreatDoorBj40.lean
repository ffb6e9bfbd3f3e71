import Derived.Test.YtmdogmpcmkfjpaaGreatDoorBj39
/- Part of the proof (merged). -/
namespace Go.Proofs.YtmdogmpcmkfjpaaGreatDoor.Dt
open Go.RowKit Go.Proofs.YtmdogmpcmkfjpaaGreatDoor.By
set_option maxRecDepth 100000 in
set_option maxHeartbeats 4000000 in
theorem rowSame {xs ys:List PE} (hs:∀ x,x ∈ xs→Short x) (hl:xs.length ≤ 140737488351232) {va vb:Value} {w:World} (ha:ExsR w va xs) (hb:ExsR w vb ys) :
 Calls Tryz.prog 50 #[va,vb] w fun e w'=>e = .returned (.bool (eqB xs ys))∧Below w.heap.size w w':=by
 have HC:=Lib.hid (sameExs hs hl ha hb)
 clear hs hl ha hb
 go_enter Tryz.func50,Tryz.ntmps50
 go_wp2_with fail
 refine HC.out.mono ?_
 intro e w3 hr
 obtain ⟨rfl,hb3⟩:=hr
 have HB3:=Lib.hid hb3
 clear hb3 HC
 go_wp2_with fail
 go_ret
 exact ⟨rfl,HB3.out⟩
set_option maxRecDepth 100000 in
set_option maxHeartbeats 8000000 in
theorem setSame1 (n m:ByteArray) (x y:PE) (ka kb:Option Addr) (kc kd:Nat) (w:World)
 (H:∀ W,Below w.heap.size w W→Calls Tryz.prog 15 #[x.val (.slice ka x.kids.length kc),y.val (.slice kb y.kids.length kd)] W fun e w'=>e = .returned (.bool (eqB x y))∧Below W.heap.size W w') :
 Calls Tryz.prog 52 #[.agg #[.string n,.int .u8 (x.op:Int),.int .u8 (x.v.k:Int),.int .i64 x.v.n,.string x.v.s,.string x.t,.string x.m,.int .i64 x.n,.slice ka x.kids.length kc],.agg #[.string m,.int .u8 (y.op:Int),.int .u8 (y.v.k:Int),.int .i64 y.v.n,.string y.v.s,.string y.t,.string y.m,.int .i64 y.n,.slice kb y.kids.length kd]] w fun e w'=>e = .returned (.bool (eqB (n,x) (m,y)))∧Below w.heap.size w w':=by
 unfold PE.val at H
 have HH:=Lib.hid H
 clear H
 have hbA:Below w.heap.size w ((w.alloc (.cells #[.string n,.int .u8 (x.op:Int),.int .u8 (x.v.k:Int),.int .i64 x.v.n,.string x.v.s,.string x.t,.string x.m,.int .i64 x.n,.slice ka x.kids.length kc] 94)).alloc (.cells #[.string m,.int .u8 (y.op:Int),.int .u8 (y.v.k:Int),.int .i64 y.v.n,.string y.v.s,.string y.t,.string y.m,.int .i64 y.n,.slice kb y.kids.length kd] 94)):=((Below.refl _ _).alloc (Nat.le_refl _) _).alloc (by simp) _
 have HR0:=Lib.hid ((row_alloc w 94 #[.string n,.int .u8 (x.op:Int),.int .u8 (x.v.k:Int),.int .i64 x.v.n,.string x.v.s,.string x.t,.string x.m,.int .i64 x.n,.slice ka x.kids.length kc]).later ((Below.refl _ _).alloc (Nat.le_refl _) (.cells #[.string m,.int .u8 (y.op:Int),.int .u8 (y.v.k:Int),.int .i64 y.v.n,.string y.v.s,.string y.t,.string y.m,.int .i64 y.n,.slice kb y.kids.length kd] 94)))
 have HR1:=Lib.hid (row_alloc (w.alloc (.cells #[.string n,.int .u8 (x.op:Int),.int .u8 (x.v.k:Int),.int .i64 x.v.n,.string x.v.s,.string x.t,.string x.m,.int .i64 x.n,.slice ka x.kids.length kc] 94)) 94 #[.string m,.int .u8 (y.op:Int),.int .u8 (y.v.k:Int),.int .i64 y.v.n,.string y.v.s,.string y.t,.string y.m,.int .i64 y.n,.slice kb y.kids.length kd])
 have HS1:Hid ((w.alloc (.cells #[.string n,.int .u8 (x.op:Int),.int .u8 (x.v.k:Int),.int .i64 x.v.n,.string x.v.s,.string x.t,.string x.m,.int .i64 x.n,.slice ka x.kids.length kc] 94)).heap.size=w.heap.size + 1):=Lib.hid (by simp)
 rw [HS1.out] at HR1
 go_enter Tryz.func52,Tryz.ntmps52
 go_upto_region 1 with fail
 have HBA:=Lib.hid hbA
 clear hbA HS1
 generalize (w.alloc (.cells #[.string n,.int .u8 (x.op:Int),.int .u8 (x.v.k:Int),.int .i64 x.v.n,.string x.v.s,.string x.t,.string x.m,.int .i64 x.n,.slice ka x.kids.length kc] 94)).alloc (.cells #[.string m,.int .u8 (y.op:Int),.int .u8 (y.v.k:Int),.int .i64 y.v.n,.string y.v.s,.string y.t,.string y.m,.int .i64 y.n,.slice kb y.kids.length kd] 94)=w2 at *
 have l0:=HR0.out.cell (i:=0) rfl
 have m0:=HR1.out.cell (i:=0) rfl
 have l1:=HR0.out.cell (i:=1) rfl
 have m1:=HR1.out.cell (i:=1) rfl
 have l2:=HR0.out.cell (i:=2) rfl
 have m2:=HR1.out.cell (i:=2) rfl
 have l3:=HR0.out.cell (i:=3) rfl
 have m3:=HR1.out.cell (i:=3) rfl
 have l4:=HR0.out.cell (i:=4) rfl
 have m4:=HR1.out.cell (i:=4) rfl
 have l5:=HR0.out.cell (i:=5) rfl
 have m5:=HR1.out.cell (i:=5) rfl
 have l6:=HR0.out.cell (i:=6) rfl
 have m6:=HR1.out.cell (i:=6) rfl
 have l7:=HR0.out.cell (i:=7) rfl
 have m7:=HR1.out.cell (i:=7) rfl
 have l8:=HR0.out.cell (i:=8) rfl
 have m8:=HR1.out.cell (i:=8) rfl
 by_cases hnm:n=m
 ·subst hnm
  have HE:Hid (eqB (n,x) (n,y)=eqB x y):=Lib.hid (by
   by_cases h:x=y
   ·rw [h,eqB_self,eqB_self]
   ·rw [eqB_false h];exact eqB_false fun e=>h (by cases e;rfl))
  go_wp2_with fail
  refine (HH.out _ HBA.out).mono ?_
  intro e w3 hr
  obtain ⟨rfl,hb3⟩:=hr
  have HB3:=Lib.hid (next HBA.out hb3)
  clear hb3 l0 m0 l1 m1 l2 m2 l3 m3 l4 m4 l5 m5 l6 m6 l7 m7 l8 m8
  go_wp2_with fail
  go_ret
  exact ⟨by rw [HE.out];rfl,HB3.out⟩
 ·have HE:Hid (eqB (n,x) (m,y)=false):=Lib.hid (eqB_false fun e=>hnm (by cases e;rfl))
  have hl:(n.toList == m.toList)=false:=(str_eq n m).trans (decide_eq_false hnm)
  have hl2:¬ n.toList=m.toList:=fun e=>hnm (bytes_eq e)
  go_wp2_with fail
  all_goals first
   | (go_ret
      exact ⟨by rw [HE.out];rfl,HBA.out⟩)
   | contradiction
set_option maxRecDepth 100000 in
set_option maxHeartbeats 8000000 in
theorem itemSame1 (n m:ByteArray) (x y:PE) (ka kb:Option Addr) (kc kd:Nat) (w:World)
 (H:∀ W,Below w.heap.size w W→Calls Tryz.prog 15 #[x.val (.slice ka x.kids.length kc),y.val (.slice kb y.kids.length kd)] W fun e w'=>e = .returned (.bool (eqB x y))∧Below W.heap.size W w') :
 Calls Tryz.prog 54 #[.agg #[.int .u8 (x.op:Int),.int .u8 (x.v.k:Int),.int .i64 x.v.n,.string x.v.s,.string x.t,.string x.m,.int .i64 x.n,.slice ka x.kids.length kc,.string n],.agg #[.int .u8 (y.op:Int),.int .u8 (y.v.k:Int),.int .i64 y.v.n,.string y.v.s,.string y.t,.string y.m,.int .i64 y.n,.slice kb y.kids.length kd,.string m]] w fun e w'=>e = .returned (.bool (eqB (x,n) (y,m)))∧Below w.heap.size w w':=by
 unfold PE.val at H
 have HH:=Lib.hid H
 clear H
 have hbA:Below w.heap.size w ((w.alloc (.cells #[.int .u8 (x.op:Int),.int .u8 (x.v.k:Int),.int .i64 x.v.n,.string x.v.s,.string x.t,.string x.m,.int .i64 x.n,.slice ka x.kids.length kc,.string n] 106)).alloc (.cells #[.int .u8 (y.op:Int),.int .u8 (y.v.k:Int),.int .i64 y.v.n,.string y.v.s,.string y.t,.string y.m,.int .i64 y.n,.slice kb y.kids.length kd,.string m] 106)):=((Below.refl _ _).alloc (Nat.le_refl _) _).alloc (by simp) _
 have HR0:=Lib.hid ((row_alloc w 106 #[.int .u8 (x.op:Int),.int .u8 (x.v.k:Int),.int .i64 x.v.n,.string x.v.s,.string x.t,.string x.m,.int .i64 x.n,.slice ka x.kids.length kc,.string n]).later ((Below.refl _ _).alloc (Nat.le_refl _) (.cells #[.int .u8 (y.op:Int),.int .u8 (y.v.k:Int),.int .i64 y.v.n,.string y.v.s,.string y.t,.string y.m,.int .i64 y.n,.slice kb y.kids.length kd,.string m] 106)))
 have HR1:=Lib.hid (row_alloc (w.alloc (.cells #[.int .u8 (x.op:Int),.int .u8 (x.v.k:Int),.int .i64 x.v.n,.string x.v.s,.string x.t,.string x.m,.int .i64 x.n,.slice ka x.kids.length kc,.string n] 106)) 106 #[.int .u8 (y.op:Int),.int .u8 (y.v.k:Int),.int .i64 y.v.n,.string y.v.s,.string y.t,.string y.m,.int .i64 y.n,.slice kb y.kids.length kd,.string m])
 have HS1:Hid ((w.alloc (.cells #[.int .u8 (x.op:Int),.int .u8 (x.v.k:Int),.int .i64 x.v.n,.string x.v.s,.string x.t,.string x.m,.int .i64 x.n,.slice ka x.kids.length kc,.string n] 106)).heap.size=w.heap.size + 1):=Lib.hid (by simp)
 rw [HS1.out] at HR1
 go_enter Tryz.func54,Tryz.ntmps54
 go_upto_region 1 with fail
 have HBA:=Lib.hid hbA
 clear hbA HS1
 generalize (w.alloc (.cells #[.int .u8 (x.op:Int),.int .u8 (x.v.k:Int),.int .i64 x.v.n,.string x.v.s,.string x.t,.string x.m,.int .i64 x.n,.slice ka x.kids.length kc,.string n] 106)).alloc (.cells #[.int .u8 (y.op:Int),.int .u8 (y.v.k:Int),.int .i64 y.v.n,.string y.v.s,.string y.t,.string y.m,.int .i64 y.n,.slice kb y.kids.length kd,.string m] 106)=w2 at *
 have l0:=HR0.out.cell (i:=0) rfl
 have m0:=HR1.out.cell (i:=0) rfl
 have l1:=HR0.out.cell (i:=1) rfl
 have m1:=HR1.out.cell (i:=1) rfl
 have l2:=HR0.out.cell (i:=2) rfl
 have m2:=HR1.out.cell (i:=2) rfl
 have l3:=HR0.out.cell (i:=3) rfl
 have m3:=HR1.out.cell (i:=3) rfl
 have l4:=HR0.out.cell (i:=4) rfl
 have m4:=HR1.out.cell (i:=4) rfl
 have l5:=HR0.out.cell (i:=5) rfl
 have m5:=HR1.out.cell (i:=5) rfl
 have l6:=HR0.out.cell (i:=6) rfl
 have m6:=HR1.out.cell (i:=6) rfl
 have l7:=HR0.out.cell (i:=7) rfl
 have m7:=HR1.out.cell (i:=7) rfl
 have l8:=HR0.out.cell (i:=8) rfl
 have m8:=HR1.out.cell (i:=8) rfl
 by_cases hnm:n=m
 ·subst hnm
  have HE:Hid (eqB (x,n) (y,n)=eqB x y):=Lib.hid (by
   by_cases h:x=y
   ·rw [h,eqB_self,eqB_self]
   ·rw [eqB_false h];exact eqB_false fun e=>h (by cases e;rfl))
  go_wp2_with fail
  refine (HH.out _ HBA.out).mono ?_
  intro e w3 hr
  obtain ⟨rfl,hb3⟩:=hr
  have HB3:=Lib.hid (next HBA.out hb3)
  clear hb3 l0 m0 l1 m1 l2 m2 l3 m3 l4 m4 l5 m5 l6 m6 l7 m7 l8 m8
  go_wp2_with fail
  go_ret
  exact ⟨by rw [HE.out];rfl,HB3.out⟩
 ·have HE:Hid (eqB (x,n) (y,m)=false):=Lib.hid (eqB_false fun e=>hnm (by cases e;rfl))
  have hl:(n.toList == m.toList)=false:=(str_eq n m).trans (decide_eq_false hnm)
  have hl2:¬ n.toList=m.toList:=fun e=>hnm (bytes_eq e)
  go_wp2_with fail
  all_goals first
   | (go_ret
      exact ⟨by rw [HE.out];rfl,HBA.out⟩)
   | contradiction
set_option maxRecDepth 100000 in
set_option maxHeartbeats 8000000 in
theorem orderSame1 (n m:Bool) (x y:PE) (ka kb:Option Addr) (kc kd:Nat) (w:World)
 (H:∀ W,Below w.heap.size w W→Calls Tryz.prog 15 #[x.val (.slice ka x.kids.length kc),y.val (.slice kb y.kids.length kd)] W fun e w'=>e = .returned (.bool (eqB x y))∧Below W.heap.size W w') :
 Calls Tryz.prog 58 #[.agg #[.int .u8 (x.op:Int),.int .u8 (x.v.k:Int),.int .i64 x.v.n,.string x.v.s,.string x.t,.string x.m,.int .i64 x.n,.slice ka x.kids.length kc,.bool n],.agg #[.int .u8 (y.op:Int),.int .u8 (y.v.k:Int),.int .i64 y.v.n,.string y.v.s,.string y.t,.string y.m,.int .i64 y.n,.slice kb y.kids.length kd,.bool m]] w fun e w'=>e = .returned (.bool (eqB (x,n) (y,m)))∧Below w.heap.size w w':=by
 unfold PE.val at H
 have HH:=Lib.hid H
 clear H
 have hbA:Below w.heap.size w ((w.alloc (.cells #[.int .u8 (x.op:Int),.int .u8 (x.v.k:Int),.int .i64 x.v.n,.string x.v.s,.string x.t,.string x.m,.int .i64 x.n,.slice ka x.kids.length kc,.bool n] 114)).alloc (.cells #[.int .u8 (y.op:Int),.int .u8 (y.v.k:Int),.int .i64 y.v.n,.string y.v.s,.string y.t,.string y.m,.int .i64 y.n,.slice kb y.kids.length kd,.bool m] 114)):=((Below.refl _ _).alloc (Nat.le_refl _) _).alloc (by simp) _
 have HR0:=Lib.hid ((row_alloc w 114 #[.int .u8 (x.op:Int),.int .u8 (x.v.k:Int),.int .i64 x.v.n,.string x.v.s,.string x.t,.string x.m,.int .i64 x.n,.slice ka x.kids.length kc,.bool n]).later ((Below.refl _ _).alloc (Nat.le_refl _) (.cells #[.int .u8 (y.op:Int),.int .u8 (y.v.k:Int),.int .i64 y.v.n,.string y.v.s,.string y.t,.string y.m,.int .i64 y.n,.slice kb y.kids.length kd,.bool m] 114)))
 have HR1:=Lib.hid (row_alloc (w.alloc (.cells #[.int .u8 (x.op:Int),.int .u8 (x.v.k:Int),.int .i64 x.v.n,.string x.v.s,.string x.t,.string x.m,.int .i64 x.n,.slice ka x.kids.length kc,.bool n] 114)) 114 #[.int .u8 (y.op:Int),.int .u8 (y.v.k:Int),.int .i64 y.v.n,.string y.v.s,.string y.t,.string y.m,.int .i64 y.n,.slice kb y.kids.length kd,.bool m])
 have HS1:Hid ((w.alloc (.cells #[.int .u8 (x.op:Int),.int .u8 (x.v.k:Int),.int .i64 x.v.n,.string x.v.s,.string x.t,.string x.m,.int .i64 x.n,.slice ka x.kids.length kc,.bool n] 114)).heap.size=w.heap.size + 1):=Lib.hid (by simp)
 rw [HS1.out] at HR1
 go_enter Tryz.func58,Tryz.ntmps58
 go_upto_region 1 with fail
 have HBA:=Lib.hid hbA
 clear hbA HS1
 generalize (w.alloc (.cells #[.int .u8 (x.op:Int),.int .u8 (x.v.k:Int),.int .i64 x.v.n,.string x.v.s,.string x.t,.string x.m,.int .i64 x.n,.slice ka x.kids.length kc,.bool n] 114)).alloc (.cells #[.int .u8 (y.op:Int),.int .u8 (y.v.k:Int),.int .i64 y.v.n,.string y.v.s,.string y.t,.string y.m,.int .i64 y.n,.slice kb y.kids.length kd,.bool m] 114)=w2 at *
 have l0:=HR0.out.cell (i:=0) rfl
 have m0:=HR1.out.cell (i:=0) rfl
 have l1:=HR0.out.cell (i:=1) rfl
 have m1:=HR1.out.cell (i:=1) rfl
 have l2:=HR0.out.cell (i:=2) rfl
 have m2:=HR1.out.cell (i:=2) rfl
 have l3:=HR0.out.cell (i:=3) rfl
 have m3:=HR1.out.cell (i:=3) rfl
 have l4:=HR0.out.cell (i:=4) rfl
 have m4:=HR1.out.cell (i:=4) rfl
 have l5:=HR0.out.cell (i:=5) rfl
 have m5:=HR1.out.cell (i:=5) rfl
 have l6:=HR0.out.cell (i:=6) rfl
 have m6:=HR1.out.cell (i:=6) rfl
 have l7:=HR0.out.cell (i:=7) rfl
 have m7:=HR1.out.cell (i:=7) rfl
 have l8:=HR0.out.cell (i:=8) rfl
 have m8:=HR1.out.cell (i:=8) rfl
 by_cases hnm:n=m
 ·subst hnm
  have HE:Hid (eqB (x,n) (y,n)=eqB x y):=Lib.hid (by
   by_cases h:x=y
   ·rw [h,eqB_self,eqB_self]
   ·rw [eqB_false h];exact eqB_false fun e=>h (by cases e;rfl))
  go_wp2_with fail
  refine (HH.out _ HBA.out).mono ?_
  intro e w3 hr
  obtain ⟨rfl,hb3⟩:=hr
  have HB3:=Lib.hid (next HBA.out hb3)
  clear hb3 l0 m0 l1 m1 l2 m2 l3 m3 l4 m4 l5 m5 l6 m6 l7 m7 l8 m8
  go_wp2_with fail
  go_ret
  exact ⟨by rw [HE.out];rfl,HB3.out⟩
 ·have HE:Hid (eqB (x,n) (y,m)=false):=Lib.hid (eqB_false fun e=>hnm (by cases e;rfl))
  have hl:(n == m)=false:=by cases n <;> cases m <;> simp_all
  go_wp2_with fail
  all_goals first
   | (go_ret
      exact ⟨by rw [HE.out];rfl,HBA.out⟩)
   | contradiction
theorem eqB_src {x y:PSrc} (h0:x.table.toList=y.table.toList) (h1:x.as.toList=y.as.toList):eqB x y=eqB x.on y.on:=by
 have g0:=bytes_eq h0
 have g1:=bytes_eq h1
 clear h0 h1
 obtain ⟨a,b,c⟩:=x
 obtain ⟨a',b',c'⟩:=y
 simp only at g0 g1 ⊢
 subst g0;subst g1
 by_cases h:c=c'
 ·rw [h,eqB_self,eqB_self]
 ·rw [eqB_false h];exact eqB_false fun e=>h (by cases e;rfl)
set_option maxRecDepth 100000 in
set_option maxHeartbeats 8000000 in
theorem srcSame1 (x y:PSrc) (ka kb:Option Addr) (kc kd:Nat) (w:World)
 (H:∀ W,Below w.heap.size w W→Calls Tryz.prog 33 #[.slice ka x.on.length kc,.slice kb y.on.length kd,.func (.func 15) #[] #[]] W fun e w'=>e = .returned (.bool (eqB x.on y.on))∧Below W.heap.size W w') :
 Calls Tryz.prog 56 #[.agg #[.string x.table,.string x.as,.slice ka x.on.length kc],.agg #[.string y.table,.string y.as,.slice kb y.on.length kd]] w fun e w'=>e = .returned (.bool (eqB x y))∧Below w.heap.size w w':=by
 have HH:=Lib.hid H
 clear H
 have hbA:Below w.heap.size w ((w.alloc (.cells #[.string x.table,.string x.as,.slice ka x.on.length kc] 110)).alloc (.cells #[.string y.table,.string y.as,.slice kb y.on.length kd] 110)):=((Below.refl _ _).alloc (Nat.le_refl _) _).alloc (by simp) _
 have HR0:=Lib.hid ((row_alloc w 110 #[.string x.table,.string x.as,.slice ka x.on.length kc]).later ((Below.refl _ _).alloc (Nat.le_refl _) (.cells #[.string y.table,.string y.as,.slice kb y.on.length kd] 110)))
 have HR1:=Lib.hid (row_alloc (w.alloc (.cells #[.string x.table,.string x.as,.slice ka x.on.length kc] 110)) 110 #[.string y.table,.string y.as,.slice kb y.on.length kd])
 have HS1:Hid ((w.alloc (.cells #[.string x.table,.string x.as,.slice ka x.on.length kc] 110)).heap.size=w.heap.size + 1):=Lib.hid (by simp)
 rw [HS1.out] at HR1
 go_enter Tryz.func56,Tryz.ntmps56
 go_upto_region 1 with fail
 have HBA:=Lib.hid hbA
 clear hbA HS1
 generalize (w.alloc (.cells #[.string x.table,.string x.as,.slice ka x.on.length kc] 110)).alloc (.cells #[.string y.table,.string y.as,.slice kb y.on.length kd] 110)=w2 at *
 have l0:=HR0.out.cell (i:=0) rfl
 have m0:=HR1.out.cell (i:=0) rfl
 have l1:=HR0.out.cell (i:=1) rfl
 have m1:=HR1.out.cell (i:=1) rfl
 have l2:=HR0.out.cell (i:=2) rfl
 have m2:=HR1.out.cell (i:=2) rfl
 go_wp2_with fail
 all_goals first
  | (refine (HH.out _ HBA.out).mono ?_
     have HE:Hid (eqB x y=eqB x.on y.on):=Lib.hid (eqB_src (by assumption) (by assumption))
     intro e w3 hr
     obtain ⟨rfl,hb3⟩:=hr
     have HB3:=Lib.hid (next HBA.out hb3)
     clear hb3 l0 l1 l2 m0 m1 m2
     go_wp2_with fail
     go_ret
     exact ⟨by rw [HE.out];rfl,HB3.out⟩)
  | (have HE:Hid (eqB x y=false):=Lib.hid (eqB_false fun e=>by subst e;contradiction)
     go_ret
     exact ⟨by rw [HE.out];rfl,HBA.out⟩)
end Go.Proofs.YtmdogmpcmkfjpaaGreatDoor.Dt
