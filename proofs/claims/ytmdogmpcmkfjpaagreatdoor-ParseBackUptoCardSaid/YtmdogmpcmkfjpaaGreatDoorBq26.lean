import Derived.Test.YtmdogmpcmkfjpaaGreatDoorBq25
set_option maxRecDepth 100000
set_option maxHeartbeats 64000000
/- Part. -/
namespace Go.Proofs.YtmdogmpcmkfjpaaGreatDoor.Dt
open Go.RowKit Go.Proofs.YtmdogmpcmkfjpaaGreatDoor.By
theorem rowSame {xs ys:List PE} (hs:∀ x,x ∈ xs→Za5 x) (hl:xs.length ≤ 140737488351232) {va vb:Value} {w:World} (ha:Zbq w va xs) (hb:Zbq w vb ys) :
 Calls Tryz.prog 50 #[va,vb] w fun e w'=>e = .returned (.bool (eqB xs ys))∧Below w.heap.size w w':=by
 have HC:=Lh (Zjw hs hl ha hb)
 clear hs hl ha hb
 go_enter Tryz.func50,Tryz.ntmps50
 go_wp2_with fail
 refine HC.out.mono ?_
 intro e w3 hr
 obtain ⟨rfl,hb3⟩:=hr
 have HB3:=Lh hb3
 clear hb3 HC
 go_wp2_with fail
 go_ret
 exact ⟨rfl,HB3.out⟩
theorem setSame1 (n m:ByteArray) (x y:PE) (ka kb:Option Addr) (kc kd:Nat) (w:World)
 (H:∀ W,Below w.heap.size w W→Calls Tryz.prog 15 #[x.val (.slice ka x.kids.length kc),y.val (.slice kb y.kids.length kd)] W fun e w'=>e = .returned (.bool (eqB x y))∧Below W.heap.size W w') :
 Calls Tryz.prog 52 #[.agg #[.string n,.int .u8 (x.op:Int),.int .u8 (x.v.k:Int),.int .i64 x.v.n,.string x.v.s,.string x.t,.string x.m,.int .i64 x.n,.slice ka x.kids.length kc],.agg #[.string m,.int .u8 (y.op:Int),.int .u8 (y.v.k:Int),.int .i64 y.v.n,.string y.v.s,.string y.t,.string y.m,.int .i64 y.n,.slice kb y.kids.length kd]] w fun e w'=>e = .returned (.bool (eqB (n,x) (m,y)))∧Below w.heap.size w w':=by
 unfold PE.val at H
 have HH:=Lh H
 clear H
 have hbA:Below w.heap.size w ((w.alloc (.cells #[.string n,.int .u8 (x.op:Int),.int .u8 (x.v.k:Int),.int .i64 x.v.n,.string x.v.s,.string x.t,.string x.m,.int .i64 x.n,.slice ka x.kids.length kc] 94)).alloc (.cells #[.string m,.int .u8 (y.op:Int),.int .u8 (y.v.k:Int),.int .i64 y.v.n,.string y.v.s,.string y.t,.string y.m,.int .i64 y.n,.slice kb y.kids.length kd] 94)):=(bA).alloc kY _
 have HR0:=Lh ((Zc w 94 #[.string n,.int .u8 (x.op:Int),.int .u8 (x.v.k:Int),.int .i64 x.v.n,.string x.v.s,.string x.t,.string x.m,.int .i64 x.n,.slice ka x.kids.length kc]).later ((Below.refl _ _).alloc (Nat.le_refl _) (.cells #[.string m,.int .u8 (y.op:Int),.int .u8 (y.v.k:Int),.int .i64 y.v.n,.string y.v.s,.string y.t,.string y.m,.int .i64 y.n,.slice kb y.kids.length kd] 94)))
 have HR1:=Lh (Zc (w.alloc (.cells #[.string n,.int .u8 (x.op:Int),.int .u8 (x.v.k:Int),.int .i64 x.v.n,.string x.v.s,.string x.t,.string x.m,.int .i64 x.n,.slice ka x.kids.length kc] 94)) 94 #[.string m,.int .u8 (y.op:Int),.int .u8 (y.v.k:Int),.int .i64 y.v.n,.string y.v.s,.string y.t,.string y.m,.int .i64 y.n,.slice kb y.kids.length kd])
 have HS1:Hid ((w.alloc (.cells #[.string n,.int .u8 (x.op:Int),.int .u8 (x.v.k:Int),.int .i64 x.v.n,.string x.v.s,.string x.t,.string x.m,.int .i64 x.n,.slice ka x.kids.length kc] 94)).heap.size=w.heap.size + 1):=Lh kY
 rw [HS1.out] at HR1
 go_enter Tryz.func52,Tryz.ntmps52
 go_upto_region 1 with fail
 have HBA:=Lh hbA
 clear hbA HS1
 generalize (w.alloc (.cells #[.string n,.int .u8 (x.op:Int),.int .u8 (x.v.k:Int),.int .i64 x.v.n,.string x.v.s,.string x.t,.string x.m,.int .i64 x.n,.slice ka x.kids.length kc] 94)).alloc (.cells #[.string m,.int .u8 (y.op:Int),.int .u8 (y.v.k:Int),.int .i64 y.v.n,.string y.v.s,.string y.t,.string y.m,.int .i64 y.n,.slice kb y.kids.length kd] 94)=w2 at *
 have l0:=HR0.out.cell (i:=0) rfl
 have m0:=HR1.out.cell (i:=0) rfl
 have l1:=HR0.out.cell (i:=1) rfl
 have m1:=HR1.out.cell (i:=1) rfl
 have l2:=HR0.out.cell (i:=2) rfl
 have m2:=HR1.out.cell (i:=2) rfl
 have l3:=HR0.out.cell (i:=3) rfl
 have m3:=HR1.out.cell (i:=3) rfl
 have l4:=HR0.out.cell (i:=4) rfl
 have m4:=HR1.out.cell (i:=4) rfl
 have l5:=HR0.out.cell (i:=5) rfl
 have m5:=HR1.out.cell (i:=5) rfl
 have l6:=HR0.out.cell (i:=6) rfl
 have m6:=HR1.out.cell (i:=6) rfl
 have l7:=HR0.out.cell (i:=7) rfl
 have m7:=HR1.out.cell (i:=7) rfl
 have l8:=HR0.out.cell (i:=8) rfl
 have m8:=HR1.out.cell (i:=8) rfl
 by_cases hnm:n=m
 ·subst hnm
  have HE:Hid (eqB (n,x) (n,y)=eqB x y):=Lh (by
   by_cases h:x=y
   ·rw [h,Zch,Zch]
   ·rw [Zw h];exact Zw fun e=>h kb47)
  exact ks29
 have HE:Hid (eqB (n,x) (m,y)=false):=Lh (Zw fun e=>hnm kb47)
 exact ks50
theorem Zvg (n m:ByteArray) (x y:PE) (ka kb:Option Addr) (kc kd:Nat) (w:World)
 (H:∀ W,Below w.heap.size w W→Calls Tryz.prog 15 #[x.val (.slice ka x.kids.length kc),y.val (.slice kb y.kids.length kd)] W fun e w'=>e = .returned (.bool (eqB x y))∧Below W.heap.size W w') :
 Calls Tryz.prog 54 #[.agg #[.int .u8 (x.op:Int),.int .u8 (x.v.k:Int),.int .i64 x.v.n,.string x.v.s,.string x.t,.string x.m,.int .i64 x.n,.slice ka x.kids.length kc,.string n],.agg #[.int .u8 (y.op:Int),.int .u8 (y.v.k:Int),.int .i64 y.v.n,.string y.v.s,.string y.t,.string y.m,.int .i64 y.n,.slice kb y.kids.length kd,.string m]] w fun e w'=>e = .returned (.bool (eqB (x,n) (y,m)))∧Below w.heap.size w w':=by
 unfold PE.val at H
 have HH:=Lh H
 clear H
 have hbA:Below w.heap.size w ((w.alloc (.cells #[.int .u8 (x.op:Int),.int .u8 (x.v.k:Int),.int .i64 x.v.n,.string x.v.s,.string x.t,.string x.m,.int .i64 x.n,.slice ka x.kids.length kc,.string n] 106)).alloc (.cells #[.int .u8 (y.op:Int),.int .u8 (y.v.k:Int),.int .i64 y.v.n,.string y.v.s,.string y.t,.string y.m,.int .i64 y.n,.slice kb y.kids.length kd,.string m] 106)):=(bA).alloc kY _
 have HR0:=Lh ((Zc w 106 #[.int .u8 (x.op:Int),.int .u8 (x.v.k:Int),.int .i64 x.v.n,.string x.v.s,.string x.t,.string x.m,.int .i64 x.n,.slice ka x.kids.length kc,.string n]).later ((Below.refl _ _).alloc (Nat.le_refl _) (.cells #[.int .u8 (y.op:Int),.int .u8 (y.v.k:Int),.int .i64 y.v.n,.string y.v.s,.string y.t,.string y.m,.int .i64 y.n,.slice kb y.kids.length kd,.string m] 106)))
 have HR1:=Lh (Zc (w.alloc (.cells #[.int .u8 (x.op:Int),.int .u8 (x.v.k:Int),.int .i64 x.v.n,.string x.v.s,.string x.t,.string x.m,.int .i64 x.n,.slice ka x.kids.length kc,.string n] 106)) 106 #[.int .u8 (y.op:Int),.int .u8 (y.v.k:Int),.int .i64 y.v.n,.string y.v.s,.string y.t,.string y.m,.int .i64 y.n,.slice kb y.kids.length kd,.string m])
 have HS1:Hid ((w.alloc (.cells #[.int .u8 (x.op:Int),.int .u8 (x.v.k:Int),.int .i64 x.v.n,.string x.v.s,.string x.t,.string x.m,.int .i64 x.n,.slice ka x.kids.length kc,.string n] 106)).heap.size=w.heap.size + 1):=Lh kY
 rw [HS1.out] at HR1
 go_enter Tryz.func54,Tryz.ntmps54
 go_upto_region 1 with fail
 have HBA:=Lh hbA
 clear hbA HS1
 generalize (w.alloc (.cells #[.int .u8 (x.op:Int),.int .u8 (x.v.k:Int),.int .i64 x.v.n,.string x.v.s,.string x.t,.string x.m,.int .i64 x.n,.slice ka x.kids.length kc,.string n] 106)).alloc (.cells #[.int .u8 (y.op:Int),.int .u8 (y.v.k:Int),.int .i64 y.v.n,.string y.v.s,.string y.t,.string y.m,.int .i64 y.n,.slice kb y.kids.length kd,.string m] 106)=w2 at *
 have l0:=HR0.out.cell (i:=0) rfl
 have m0:=HR1.out.cell (i:=0) rfl
 have l1:=HR0.out.cell (i:=1) rfl
 have m1:=HR1.out.cell (i:=1) rfl
 have l2:=HR0.out.cell (i:=2) rfl
 have m2:=HR1.out.cell (i:=2) rfl
 have l3:=HR0.out.cell (i:=3) rfl
 have m3:=HR1.out.cell (i:=3) rfl
 have l4:=HR0.out.cell (i:=4) rfl
 have m4:=HR1.out.cell (i:=4) rfl
 have l5:=HR0.out.cell (i:=5) rfl
 have m5:=HR1.out.cell (i:=5) rfl
 have l6:=HR0.out.cell (i:=6) rfl
 have m6:=HR1.out.cell (i:=6) rfl
 have l7:=HR0.out.cell (i:=7) rfl
 have m7:=HR1.out.cell (i:=7) rfl
 have l8:=HR0.out.cell (i:=8) rfl
 have m8:=HR1.out.cell (i:=8) rfl
 by_cases hnm:n=m
 ·subst hnm
  exact ks85
 have HE:Hid (eqB (x,n) (y,m)=false):=Lh (Zw fun e=>hnm kb47)
 exact ks50
theorem Zsg (n m:Bool) (x y:PE) (ka kb:Option Addr) (kc kd:Nat) (w:World)
 (H:∀ W,Below w.heap.size w W→Calls Tryz.prog 15 #[x.val (.slice ka x.kids.length kc),y.val (.slice kb y.kids.length kd)] W fun e w'=>e = .returned (.bool (eqB x y))∧Below W.heap.size W w') :
 Calls Tryz.prog 58 #[.agg #[.int .u8 (x.op:Int),.int .u8 (x.v.k:Int),.int .i64 x.v.n,.string x.v.s,.string x.t,.string x.m,.int .i64 x.n,.slice ka x.kids.length kc,.bool n],.agg #[.int .u8 (y.op:Int),.int .u8 (y.v.k:Int),.int .i64 y.v.n,.string y.v.s,.string y.t,.string y.m,.int .i64 y.n,.slice kb y.kids.length kd,.bool m]] w fun e w'=>e = .returned (.bool (eqB (x,n) (y,m)))∧Below w.heap.size w w':=by
 unfold PE.val at H
 have HH:=Lh H
 clear H
 have hbA:Below w.heap.size w ((w.alloc (.cells #[.int .u8 (x.op:Int),.int .u8 (x.v.k:Int),.int .i64 x.v.n,.string x.v.s,.string x.t,.string x.m,.int .i64 x.n,.slice ka x.kids.length kc,.bool n] 114)).alloc (.cells #[.int .u8 (y.op:Int),.int .u8 (y.v.k:Int),.int .i64 y.v.n,.string y.v.s,.string y.t,.string y.m,.int .i64 y.n,.slice kb y.kids.length kd,.bool m] 114)):=(bA).alloc kY _
 have HR0:=Lh ((Zc w 114 #[.int .u8 (x.op:Int),.int .u8 (x.v.k:Int),.int .i64 x.v.n,.string x.v.s,.string x.t,.string x.m,.int .i64 x.n,.slice ka x.kids.length kc,.bool n]).later ((Below.refl _ _).alloc (Nat.le_refl _) (.cells #[.int .u8 (y.op:Int),.int .u8 (y.v.k:Int),.int .i64 y.v.n,.string y.v.s,.string y.t,.string y.m,.int .i64 y.n,.slice kb y.kids.length kd,.bool m] 114)))
 have HR1:=Lh (Zc (w.alloc (.cells #[.int .u8 (x.op:Int),.int .u8 (x.v.k:Int),.int .i64 x.v.n,.string x.v.s,.string x.t,.string x.m,.int .i64 x.n,.slice ka x.kids.length kc,.bool n] 114)) 114 #[.int .u8 (y.op:Int),.int .u8 (y.v.k:Int),.int .i64 y.v.n,.string y.v.s,.string y.t,.string y.m,.int .i64 y.n,.slice kb y.kids.length kd,.bool m])
 have HS1:Hid ((w.alloc (.cells #[.int .u8 (x.op:Int),.int .u8 (x.v.k:Int),.int .i64 x.v.n,.string x.v.s,.string x.t,.string x.m,.int .i64 x.n,.slice ka x.kids.length kc,.bool n] 114)).heap.size=w.heap.size + 1):=Lh kY
 rw [HS1.out] at HR1
 go_enter Tryz.func58,Tryz.ntmps58
 go_upto_region 1 with fail
 have HBA:=Lh hbA
 clear hbA HS1
 generalize (w.alloc (.cells #[.int .u8 (x.op:Int),.int .u8 (x.v.k:Int),.int .i64 x.v.n,.string x.v.s,.string x.t,.string x.m,.int .i64 x.n,.slice ka x.kids.length kc,.bool n] 114)).alloc (.cells #[.int .u8 (y.op:Int),.int .u8 (y.v.k:Int),.int .i64 y.v.n,.string y.v.s,.string y.t,.string y.m,.int .i64 y.n,.slice kb y.kids.length kd,.bool m] 114)=w2 at *
 have l0:=HR0.out.cell (i:=0) rfl
 have m0:=HR1.out.cell (i:=0) rfl
 have l1:=HR0.out.cell (i:=1) rfl
 have m1:=HR1.out.cell (i:=1) rfl
 have l2:=HR0.out.cell (i:=2) rfl
 have m2:=HR1.out.cell (i:=2) rfl
 have l3:=HR0.out.cell (i:=3) rfl
 have m3:=HR1.out.cell (i:=3) rfl
 have l4:=HR0.out.cell (i:=4) rfl
 have m4:=HR1.out.cell (i:=4) rfl
 have l5:=HR0.out.cell (i:=5) rfl
 have m5:=HR1.out.cell (i:=5) rfl
 have l6:=HR0.out.cell (i:=6) rfl
 have m6:=HR1.out.cell (i:=6) rfl
 have l7:=HR0.out.cell (i:=7) rfl
 have m7:=HR1.out.cell (i:=7) rfl
 have l8:=HR0.out.cell (i:=8) rfl
 have m8:=HR1.out.cell (i:=8) rfl
 by_cases hnm:n=m
 ·subst hnm
  exact ks85
 have HE:Hid (eqB (x,n) (y,m)=false):=Lh (Zw fun e=>hnm kb47)
 have hl:(n == m)=false:=by cases n <;> cases m <;> simp_all
 go_wp2_with fail
 all_goals first
  | (go_ret
     exact ⟨by rw [HE.out];rfl,HBA.out⟩)
  | contradiction
theorem eqB_src {x y:Zec} (h0:x.table.toList=y.table.toList) (h1:x.as.toList=y.as.toList):eqB x y=eqB x.on y.on:=by
 have g0:=Zd8 h0
 have g1:=Zd8 h1
 clear h0 h1
 obtain ⟨a,b,c⟩:=x
 obtain ⟨a',b',c'⟩:=y
 simp only at g0 g1 ⊢
 subst g0;subst g1
 by_cases h:c=c'
 ·rw [h,Zch,Zch]
 rw [Zw h];exact Zw fun e=>h kb47
theorem srcSame1 (x y:Zec) (ka kb:Option Addr) (kc kd:Nat) (w:World)
 (H:∀ W,Below w.heap.size w W→Calls Tryz.prog 33 #[.slice ka x.on.length kc,.slice kb y.on.length kd,.func (.func 15) #[] #[]] W fun e w'=>e = .returned (.bool (eqB x.on y.on))∧Below W.heap.size W w') :
 Calls Tryz.prog 56 #[.agg #[.string x.table,.string x.as,.slice ka x.on.length kc],.agg #[.string y.table,.string y.as,.slice kb y.on.length kd]] w fun e w'=>e = .returned (.bool (eqB x y))∧Below w.heap.size w w':=by
 have HH:=Lh H
 clear H
 have hbA:Below w.heap.size w ((w.alloc (.cells #[.string x.table,.string x.as,.slice ka x.on.length kc] 110)).alloc (.cells #[.string y.table,.string y.as,.slice kb y.on.length kd] 110)):=(bA).alloc kY _
 have HR0:=Lh ((Zc w 110 #[.string x.table,.string x.as,.slice ka x.on.length kc]).later ((Below.refl _ _).alloc (Nat.le_refl _) (.cells #[.string y.table,.string y.as,.slice kb y.on.length kd] 110)))
 have HR1:=Lh (Zc (w.alloc (.cells #[.string x.table,.string x.as,.slice ka x.on.length kc] 110)) 110 #[.string y.table,.string y.as,.slice kb y.on.length kd])
 have HS1:Hid ((w.alloc (.cells #[.string x.table,.string x.as,.slice ka x.on.length kc] 110)).heap.size=w.heap.size + 1):=Lh kY
 rw [HS1.out] at HR1
 go_enter Tryz.func56,Tryz.ntmps56
 go_upto_region 1 with fail
 have HBA:=Lh hbA
 clear hbA HS1
 generalize (w.alloc (.cells #[.string x.table,.string x.as,.slice ka x.on.length kc] 110)).alloc (.cells #[.string y.table,.string y.as,.slice kb y.on.length kd] 110)=w2 at *
 have l0:=HR0.out.cell (i:=0) rfl
 have m0:=HR1.out.cell (i:=0) rfl
 have l1:=HR0.out.cell (i:=1) rfl
 have m1:=HR1.out.cell (i:=1) rfl
 have l2:=HR0.out.cell (i:=2) rfl
 have m2:=HR1.out.cell (i:=2) rfl
 go_wp2_with fail
 all_goals first
  | (refine (HH.out _ HBA.out).mono ?_
     have HE:Hid (eqB x y=eqB x.on y.on):=Lh (eqB_src kb8 kb8)
     intro e w3 hr
     obtain ⟨rfl,hb3⟩:=hr
     have HB3:=Lh (next HBA.out hb3)
     clear hb3 l0 l1 l2 m0 m1 m2
     go_wp2_with fail
     go_ret
     exact ⟨by rw [HE.out];rfl,HB3.out⟩)
  | (have HE:Hid (eqB x y=false):=Lh (Zw fun e=>by subst e;contradiction)
     go_ret
     exact ⟨by rw [HE.out];rfl,HBA.out⟩)
theorem Zfb {w w':World} {c:List Value} {x:ByteArray × PE} (hb:Below w.heap.size w w') (h:Zm3 w c x):Zm3 w' c x:=by
 obtain ⟨ec,e,h⟩:=h
 exact ⟨ec,e,Zfj h hb⟩
theorem Zfs {w w':World} {c:List Value} {x:PE × ByteArray} (hb:Below w.heap.size w w') (h:Zfl w c x):Zfl w' c x:=by
 obtain ⟨ec,e,h⟩:=h
 exact ⟨ec,e,Zfj h hb⟩
theorem Zev {w w':World} {c:List Value} {x:PE × Bool} (hb:Below w.heap.size w w') (h:Zdl w c x):Zdl w' c x:=by
 obtain ⟨ec,e,h⟩:=h
 exact ⟨ec,e,Zfj h hb⟩
theorem Ze9 {w w':World} {c:List Value} {x:Zec} (hb:Below w.heap.size w w') (h:Zo2 w c x):Zo2 w' c x:=by
 obtain ⟨v,e,h⟩:=h
 exact ⟨v,e,Zg h hb⟩
theorem Zfd {w w':World} {c:List Value} {x:List PE} (hb:Below w.heap.size w w') (h:Zo3 w c x):Zo3 w' c x:=by
 obtain ⟨v,e,h⟩:=h
 exact ⟨v,e,Zg h hb⟩
theorem Zqp {w:World} {a:Option Addr} {n c k:Nat} {l:List (ByteArray × PE)} {x:(ByteArray × PE)} (h:SlR 9 Zm3 w (.slice a n c) l) (hk:l[k]? = some x):∃ b o kv,a=some ⟨b,o,none⟩∧Zbq w kv x.2.kids∧w.cell? ⟨b,o + k * 9,none⟩=some (.string x.1)∧w.cell? ⟨b,o + k * 9 + 1,none⟩=some (.int .u8 (x.2.op:Int))∧w.cell? ⟨b,o + k * 9 + 2,none⟩=some (.int .u8 (x.2.v.k:Int))∧w.cell? ⟨b,o + k * 9 + 3,none⟩=some (.int .i64 x.2.v.n)∧w.cell? ⟨b,o + k * 9 + 4,none⟩=some (.string x.2.v.s)∧w.cell? ⟨b,o + k * 9 + 5,none⟩=some (.string x.2.t)∧w.cell? ⟨b,o + k * 9 + 6,none⟩=some (.string x.2.m)∧w.cell? ⟨b,o + k * 9 + 7,none⟩=some (.int .i64 x.2.n)∧w.cell? ⟨b,o + k * 9 + 8,none⟩=some (kv):=by
 exact ks35
theorem Zp2 {w:World} {a:Option Addr} {n c k:Nat} {l:List (PE × ByteArray)} {x:(PE × ByteArray)} (h:SlR 9 Zfl w (.slice a n c) l) (hk:l[k]? = some x):∃ b o kv,a=some ⟨b,o,none⟩∧Zbq w kv x.1.kids∧w.cell? ⟨b,o + k * 9,none⟩=some (.int .u8 (x.1.op:Int))∧w.cell? ⟨b,o + k * 9 + 1,none⟩=some (.int .u8 (x.1.v.k:Int))∧w.cell? ⟨b,o + k * 9 + 2,none⟩=some (.int .i64 x.1.v.n)∧w.cell? ⟨b,o + k * 9 + 3,none⟩=some (.string x.1.v.s)∧w.cell? ⟨b,o + k * 9 + 4,none⟩=some (.string x.1.t)∧w.cell? ⟨b,o + k * 9 + 5,none⟩=some (.string x.1.m)∧w.cell? ⟨b,o + k * 9 + 6,none⟩=some (.int .i64 x.1.n)∧w.cell? ⟨b,o + k * 9 + 7,none⟩=some (kv)∧w.cell? ⟨b,o + k * 9 + 8,none⟩=some (.string x.2):=by
 exact ks35
theorem Zmk {w:World} {a:Option Addr} {n c k:Nat} {l:List (PE × Bool)} {x:(PE × Bool)} (h:SlR 9 Zdl w (.slice a n c) l) (hk:l[k]? = some x):∃ b o kv,a=some ⟨b,o,none⟩∧Zbq w kv x.1.kids∧w.cell? ⟨b,o + k * 9,none⟩=some (.int .u8 (x.1.op:Int))∧w.cell? ⟨b,o + k * 9 + 1,none⟩=some (.int .u8 (x.1.v.k:Int))∧w.cell? ⟨b,o + k * 9 + 2,none⟩=some (.int .i64 x.1.v.n)∧w.cell? ⟨b,o + k * 9 + 3,none⟩=some (.string x.1.v.s)∧w.cell? ⟨b,o + k * 9 + 4,none⟩=some (.string x.1.t)∧w.cell? ⟨b,o + k * 9 + 5,none⟩=some (.string x.1.m)∧w.cell? ⟨b,o + k * 9 + 6,none⟩=some (.int .i64 x.1.n)∧w.cell? ⟨b,o + k * 9 + 7,none⟩=some (kv)∧w.cell? ⟨b,o + k * 9 + 8,none⟩=some (.bool x.2):=by
 exact ks35
theorem Zqo {w:World} {a:Option Addr} {n c k:Nat} {l:List Zec} {x:Zec} (h:SlR 3 Zo2 w (.slice a n c) l) (hk:l[k]? = some x):∃ b o kv,a=some ⟨b,o,none⟩∧Zbq w kv x.on∧w.cell? ⟨b,o + k * 3,none⟩=some (.string x.table)∧w.cell? ⟨b,o + k * 3 + 1,none⟩=some (.string x.as)∧w.cell? ⟨b,o + k * 3 + 2,none⟩=some (kv):=by
 obtain ⟨b,o,cs,rfl,_,hx,hc⟩:=h.get hk
 obtain ⟨kv,rfl,hkids⟩:=hx
 exact ⟨b,o,kv,rfl,hkids,hc 0 _ rfl,hc 1 _ rfl,hc 2 _ rfl⟩
theorem Zmj {w:World} {a:Option Addr} {n c k:Nat} {l:List (List PE)} {x:(List PE)} (h:SlR 1 Zo3 w (.slice a n c) l) (hk:l[k]? = some x):∃ b o kv,a=some ⟨b,o,none⟩∧Zbq w kv x∧w.cell? ⟨b,o + k,none⟩=some (kv):=by
 obtain ⟨b,o,cs,rfl,_,hx,hc⟩:=h.get hk
 obtain ⟨kv,rfl,hkids⟩:=hx
 have:=hc 0 _ rfl
 rw [Nat.mul_one] at this
 exact ⟨b,o,kv,rfl,hkids,this⟩
theorem alikeRow (xs ys:List (List PE)) (va vb:Value) (w:World) (ha:SlR 1 Zo3 w va xs) (hb:SlR 1 Zo3 w vb ys) (hla:xs.length ≤ 140737488351232)
 (H:∀ x,x ∈ xs→(∀ e,e ∈ x→Za5 e)∧x.length ≤ 140737488351232) :
 Calls Tryz.prog 49 #[va,vb,.func (.func 50) #[] #[]] w fun e w'=>e = .returned (.bool (eqB xs ys))∧Below w.heap.size w w':=by
 obtain ⟨aa,ac,rfl,hac⟩:=ha.shape
 obtain ⟨ba,bc,rfl,hbc⟩:=hb.shape
 have HA:=Lh ha
 have HB:=Lh hb
 have HH:=Lh H
 by_cases hlen:xs.length=ys.length
 ·have e1:((xs.length:Int) != (ys.length:Int))=false:=by simp [hlen]
  have HLEN:=Lh hlen
  clear ha hb H hac hbc hlen
  go_enter Tryz.func49,Tryz.ntmps49
  go_wp2_with fail
  go_loopg [15] xs.length (fun gk iv wr=>∃ (i:Nat),iv = .int .i64 (i:Int)∧gk=xs.length - i∧i ≤ xs.length∧Hid (Below w.heap.size w wr)∧Hid (xs.take i=ys.take i))
  case atStart=>exact ⟨0,rfl,rfl,Nat.zero_le _,Lh (Below.refl _ _),Lh rfl⟩
  case round=>
   obtain ⟨i,rfl,rfl,hi,HBL,HT⟩:=hrel
   by_cases hlt:i < xs.length
   ·obtain ⟨x,hx⟩:∃ x,xs[i]? = some x:=⟨xs[i],by simp⟩
    obtain ⟨y,hy⟩:∃ y,ys[i]? = some y:=⟨ys[i]'kb20,by simp⟩
    have hwa:=SlR.below HA.out HBL.out fun _ _=>Zfd HBL.out
    have hwb:=SlR.below HB.out HBL.out fun _ _=>Zfd HBL.out
    obtain ⟨b1,o1,k1,rfl,hk1,p0⟩:=Zmj hwa hx
    obtain ⟨b2,o2,k2,rfl,hk2,q0⟩:=Zmj hwb hy
    obtain ⟨ka,kc,rfl,_⟩:=hk1.shape
    obtain ⟨ja,jc,rfl,_⟩:=hk2.shape
    have HC:Hid (∀ W,Below wr.heap.size wr W→Calls Tryz.prog 50 #[.slice ka x.length kc,.slice ja y.length jc] W fun e w'=>e = .returned (.bool (eqB x y))∧Below W.heap.size W w'):=Lh (fun W hW=>rowSame (HH.out x (List.mem_of_getElem? hx)).1 (HH.out x (List.mem_of_getElem? hx)).2 (Zg hk1 hW) (Zg hk2 hW))
    have HX:=Lh hx
    have HY:=Lh hy
    have ilt:(i:Int) < (xs.length:Int):=kW
    have ilt2:(i:Int) < (ys.length:Int):=by have:=HLEN.out;omega
    have ige:(0:Int) ≤ (i:Int):=kW
    have HLT:=Lh hlt
    clear hx hy hwa hwb hk1 hk2 hlt
    go_upto_region 6 with fail
    have l0:=Zb p0
    have m0:=Zb q0
    refine Zj kR kR ?_
    repeat (go_big_quiet_step (exact Zcn (HC.out _ (Zdr _ _))))
    refine wpQuiet_nil ?_
    refine Zu (fun w2 hb2=>?_)
    have HB2:=Lh (next HBL.out hb2)
    clear l0 m0 p0 q0 hb2
    exact ks3
   exact ks11
 have e1:((xs.length:Int) != (ys.length:Int))=true:=kQ
 have HE:Hid (eqB xs ys=false):=Lh (Zw fun e=>hlen Zvc)
 clear ha hb H hac hbc hlen
 go_enter Tryz.func49,Tryz.ntmps49
 go_wp2_with fail
 go_ret
 exact ⟨by rw [HE.out];rfl,Below.refl _ _⟩
theorem alikeSet (xs ys:List (ByteArray × PE)) (va vb:Value) (w:World) (ha:SlR 9 Zm3 w va xs) (hb:SlR 9 Zm3 w vb ys) (hla:xs.length ≤ 140737488351232)
 (H:∀ x,x ∈ xs→Za5 x.2) :
 Calls Tryz.prog 51 #[va,vb,.func (.func 52) #[] #[]] w fun e w'=>e = .returned (.bool (eqB xs ys))∧Below w.heap.size w w':=by
 obtain ⟨aa,ac,rfl,hac⟩:=ha.shape
 obtain ⟨ba,bc,rfl,hbc⟩:=hb.shape
 have HA:=Lh ha
 have HB:=Lh hb
 have HH:=Lh H
 by_cases hlen:xs.length=ys.length
 ·have e1:((xs.length:Int) != (ys.length:Int))=false:=by simp [hlen]
  have HLEN:=Lh hlen
  clear ha hb H hac hbc hlen
  go_enter Tryz.func51,Tryz.ntmps51
  go_wp2_with fail
  go_loopg [15] xs.length (fun gk iv wr=>∃ (i:Nat),iv = .int .i64 (i:Int)∧gk=xs.length - i∧i ≤ xs.length∧Hid (Below w.heap.size w wr)∧Hid (xs.take i=ys.take i))
  case atStart=>exact ⟨0,rfl,rfl,Nat.zero_le _,Lh (Below.refl _ _),Lh rfl⟩
  case round=>
   obtain ⟨i,rfl,rfl,hi,HBL,HT⟩:=hrel
   by_cases hlt:i < xs.length
   ·obtain ⟨x,hx⟩:∃ x,xs[i]? = some x:=⟨xs[i],by simp⟩
    obtain ⟨y,hy⟩:∃ y,ys[i]? = some y:=⟨ys[i]'kb20,by simp⟩
    have hwa:=SlR.below HA.out HBL.out fun _ _=>Zfb HBL.out
    have hwb:=SlR.below HB.out HBL.out fun _ _=>Zfb HBL.out
    obtain ⟨b1,o1,k1,rfl,hk1,p0,p1,p2,p3,p4,p5,p6,p7,p8⟩:=Zqp hwa hx
    obtain ⟨b2,o2,k2,rfl,hk2,q0,q1,q2,q3,q4,q5,q6,q7,q8⟩:=Zqp hwb hy
    obtain ⟨ka,kc,rfl,_⟩:=hk1.shape
    obtain ⟨ja,jc,rfl,_⟩:=hk2.shape
    have HC:Hid (∀ W,Below wr.heap.size wr W→Calls Tryz.prog 52 #[.agg #[.string x.1,.int .u8 (x.2.op:Int),.int .u8 (x.2.v.k:Int),.int .i64 x.2.v.n,.string x.2.v.s,.string x.2.t,.string x.2.m,.int .i64 x.2.n,.slice ka x.2.kids.length kc],.agg #[.string y.1,.int .u8 (y.2.op:Int),.int .u8 (y.2.v.k:Int),.int .i64 y.2.v.n,.string y.2.v.s,.string y.2.t,.string y.2.m,.int .i64 y.2.n,.slice ja y.2.kids.length jc]] W fun e w'=>e = .returned (.bool (eqB x y))∧Below W.heap.size W w'):=Lh (fun W hW=>setSame1 x.1 y.1 x.2 y.2 ka ja kc jc W (fun W2 hb=>Znz (HH.out x (List.mem_of_getElem? hx)) y.2 _ _ W2 (Zg (Zg hk1 hW) hb) (Zg (Zg hk2 hW) hb)))
    exact ks78
   exact ks11
 have e1:((xs.length:Int) != (ys.length:Int))=true:=kQ
 have HE:Hid (eqB xs ys=false):=Lh (Zw fun e=>hlen Zvc)
 clear ha hb H hac hbc hlen
 go_enter Tryz.func51,Tryz.ntmps51
 go_wp2_with fail
 go_ret
 exact ⟨by rw [HE.out];rfl,Below.refl _ _⟩
theorem kf3 {p:Prop} (h:p:=by
 obtain ⟨aa,ac,rfl,hac⟩:=ha.shape
 obtain ⟨ba,bc,rfl,hbc⟩:=hb.shape
 have HA:=Lh ha
 have HB:=Lh hb
 have HH:=Lh H
 by_cases hlen:xs.length=ys.length
 ·have e1:((xs.length:Int) != (ys.length:Int))=false:=by simp [hlen]
  have HLEN:=Lh hlen
  clear ha hb H hac hbc hlen
  go_enter q3_0,q3_1
  go_wp2_with fail
  go_loopg [15] xs.length (fun gk iv wr=>∃ (i:Nat),iv = .int .i64 (i:Int)∧gk=xs.length - i∧i ≤ xs.length∧Hid (Below w.heap.size w wr)∧Hid (xs.take i=ys.take i))
  case atStart=>exact ⟨0,rfl,rfl,Nat.zero_le _,Lh (Below.refl _ _),Lh rfl⟩
  case round=>
   obtain ⟨i,rfl,rfl,hi,HBL,HT⟩:=hrel
   by_cases hlt:i < xs.length
   ·obtain ⟨x,hx⟩:∃ x,xs[i]? = some x:=⟨xs[i],by simp⟩
    obtain ⟨y,hy⟩:∃ y,ys[i]? = some y:=⟨ys[i]'kb20,by simp⟩
    have hwa:=SlR.below HA.out HBL.out fun _ _=>q3_2 HBL.out
    have hwb:=SlR.below HB.out HBL.out fun _ _=>q3_2 HBL.out
    obtain ⟨b1,o1,k1,rfl,hk1,p0,p1,p2,p3,p4,p5,p6,p7,p8⟩:=q3_3 hwa hx
    obtain ⟨b2,o2,k2,rfl,hk2,q0,q1,q2,q3,q4,q5,q6,q7,q8⟩:=q3_3 hwb hy
    obtain ⟨ka,kc,rfl,_⟩:=hk1.shape
    obtain ⟨ja,jc,rfl,_⟩:=hk2.shape
    have HC:Hid (∀ W,Below wr.heap.size wr W→Calls Tryz.prog q3_4 #[.agg #[.int .u8 (x.1.op:Int),.int .u8 (x.1.v.k:Int),.int .i64 x.1.v.n,.string x.1.v.s,.string x.1.t,.string x.1.m,.int .i64 x.1.n,.slice ka x.1.kids.length kc,q3_5 x.2],.agg #[.int .u8 (y.1.op:Int),.int .u8 (y.1.v.k:Int),.int .i64 y.1.v.n,.string y.1.v.s,.string y.1.t,.string y.1.m,.int .i64 y.1.n,.slice ja y.1.kids.length jc,q3_5 y.2]] W fun e w'=>e = .returned (.bool (eqB x y))∧Below W.heap.size W w'):=Lh (fun W hW=>q3_6 x.2 y.2 x.1 y.1 ka ja kc jc W (fun W2 hb=>Znz (HH.out x (List.mem_of_getElem? hx)) y.1 _ _ W2 (Zg (Zg hk1 hW) hb) (Zg (Zg hk2 hW) hb)))
    exact ks78
   exact ks11
 have e1:((xs.length:Int) != (ys.length:Int))=true:=kQ
 have HE:Hid (eqB xs ys=false):=Lh (Zw fun e=>hlen Zvc)
 clear ha hb H hac hbc hlen
 go_enter q3_0,q3_1
 go_wp2_with fail
 go_ret
 exact ⟨by rw [HE.out];rfl,Below.refl _ _⟩):p:=h
namespace n3_0
abbrev q3_0:=@Tryz.func53
abbrev q3_1:=@Tryz.ntmps53
abbrev q3_2:=@Zfs
abbrev q3_3:=@Zp2
abbrev q3_4:Nat:=54
abbrev q3_5:=@Value.string
abbrev q3_6:=@Zvg
end n3_0
open n3_0 in
theorem Zwr (xs ys:List (PE × ByteArray)) (va vb:Value) (w:World) (ha:SlR 9 Zfl w va xs) (hb:SlR 9 Zfl w vb ys) (hla:xs.length ≤ 140737488351232)
 (H:∀ x,x ∈ xs→Za5 x.1) :
 Calls Tryz.prog 53 #[va,vb,.func (.func 54) #[] #[]] w fun e w'=>e = .returned (.bool (eqB xs ys))∧Below w.heap.size w w':=by exact kf3
theorem alikeSrc (xs ys:List Zec) (va vb:Value) (w:World) (ha:SlR 3 Zo2 w va xs) (hb:SlR 3 Zo2 w vb ys) (hla:xs.length ≤ 140737488351232)
 (H:∀ x,x ∈ xs→(∀ e,e ∈ x.on→Za5 e)∧x.on.length ≤ 140737488351232) :
 Calls Tryz.prog 55 #[va,vb,.func (.func 56) #[] #[]] w fun e w'=>e = .returned (.bool (eqB xs ys))∧Below w.heap.size w w':=by
 obtain ⟨aa,ac,rfl,hac⟩:=ha.shape
 obtain ⟨ba,bc,rfl,hbc⟩:=hb.shape
 have HA:=Lh ha
 have HB:=Lh hb
 have HH:=Lh H
 by_cases hlen:xs.length=ys.length
 ·have e1:((xs.length:Int) != (ys.length:Int))=false:=by simp [hlen]
  have HLEN:=Lh hlen
  clear ha hb H hac hbc hlen
  go_enter Tryz.func55,Tryz.ntmps55
  go_wp2_with fail
  go_loopg [15] xs.length (fun gk iv wr=>∃ (i:Nat),iv = .int .i64 (i:Int)∧gk=xs.length - i∧i ≤ xs.length∧Hid (Below w.heap.size w wr)∧Hid (xs.take i=ys.take i))
  case atStart=>exact ⟨0,rfl,rfl,Nat.zero_le _,Lh (Below.refl _ _),Lh rfl⟩
  case round=>
   obtain ⟨i,rfl,rfl,hi,HBL,HT⟩:=hrel
   by_cases hlt:i < xs.length
   ·obtain ⟨x,hx⟩:∃ x,xs[i]? = some x:=⟨xs[i],by simp⟩
    obtain ⟨y,hy⟩:∃ y,ys[i]? = some y:=⟨ys[i]'kb20,by simp⟩
    have hwa:=SlR.below HA.out HBL.out fun _ _=>Ze9 HBL.out
    have hwb:=SlR.below HB.out HBL.out fun _ _=>Ze9 HBL.out
    obtain ⟨b1,o1,k1,rfl,hk1,p0,p1,p2⟩:=Zqo hwa hx
    obtain ⟨b2,o2,k2,rfl,hk2,q0,q1,q2⟩:=Zqo hwb hy
    obtain ⟨ka,kc,rfl,_⟩:=hk1.shape
    obtain ⟨ja,jc,rfl,_⟩:=hk2.shape
    have HC:Hid (∀ W,Below wr.heap.size wr W→Calls Tryz.prog 56 #[.agg #[.string x.table,.string x.as,.slice ka x.on.length kc],.agg #[.string y.table,.string y.as,.slice ja y.on.length jc]] W fun e w'=>e = .returned (.bool (eqB x y))∧Below W.heap.size W w'):=Lh (fun W hW=>srcSame1 x y ka ja kc jc W (fun W2 hb=>Zjw (HH.out x (List.mem_of_getElem? hx)).1 (HH.out x (List.mem_of_getElem? hx)).2 (Zg (Zg hk1 hW) hb) (Zg (Zg hk2 hW) hb)))
    have HX:=Lh hx
    have HY:=Lh hy
    have ilt:(i:Int) < (xs.length:Int):=kW
    have ilt2:(i:Int) < (ys.length:Int):=by have:=HLEN.out;omega
    have ige:(0:Int) ≤ (i:Int):=kW
    have HLT:=Lh hlt
    clear hx hy hwa hwb hk1 hk2 hlt
    go_upto_region 6 with fail
    have l0:=Zb p0;have l1:=Zb p1;have l2:=Zb p2
    have m0:=Zb q0;have m1:=Zb q1;have m2:=Zb q2
    refine Zj kR kR ?_
    repeat (go_big_quiet_step (exact Zcn (HC.out _ (Zdr _ _))))
    exact ks86
   exact ks11
 have e1:((xs.length:Int) != (ys.length:Int))=true:=kQ
 have HE:Hid (eqB xs ys=false):=Lh (Zw fun e=>hlen Zvc)
 clear ha hb H hac hbc hlen
 go_enter Tryz.func55,Tryz.ntmps55
 go_wp2_with fail
 go_ret
 exact ⟨by rw [HE.out];rfl,Below.refl _ _⟩
namespace n3_1
abbrev q3_0:=@Tryz.func57
abbrev q3_1:=@Tryz.ntmps57
abbrev q3_2:=@Zev
abbrev q3_3:=@Zmk
abbrev q3_4:Nat:=58
abbrev q3_5:=@Value.bool
abbrev q3_6:=@Zsg
end n3_1
open n3_1 in
theorem Zsy (xs ys:List (PE × Bool)) (va vb:Value) (w:World) (ha:SlR 9 Zdl w va xs) (hb:SlR 9 Zdl w vb ys) (hla:xs.length ≤ 140737488351232)
 (H:∀ x,x ∈ xs→Za5 x.1) :
 Calls Tryz.prog 57 #[va,vb,.func (.func 58) #[] #[]] w fun e w'=>e = .returned (.bool (eqB xs ys))∧Below w.heap.size w w':=by exact kf3
end Go.Proofs.YtmdogmpcmkfjpaaGreatDoor.Dt
