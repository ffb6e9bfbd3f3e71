import Derived.Deep.DeepCutAuto
import Derived.Test.YtmdogmpcmkfjpaaGreatDoorBn34
import Derived.Test.YtmdogmpcmkfjpaaGreatDoorBn18
/- Part of the proof (merged). -/
namespace Go.Proofs.YtmdogmpcmkfjpaaGreatDoor.Dt
open Go.RowKit Go.Proofs.YtmdogmpcmkfjpaaGreatDoor.By
def TxtR (_:World) (c:List Value) (x:ByteArray):Prop:=c = [.string x]
theorem txt_at {w:World} {a:Option Addr} {n c k:Nat} {l:List ByteArray} {x:ByteArray} (h:SlR 1 TxtR w (.slice a n c) l) (hk:l[k]? = some x):∃ b o,a=some ⟨b,o,none⟩∧w.cell? ⟨b,o + k,none⟩=some (.string x):=by
 obtain ⟨b,o,cs,rfl,_,rfl,hc⟩:=h.get hk
 have:=hc 0 _ rfl
 rw [Nat.mul_one] at this
 exact ⟨b,o,rfl,this⟩
theorem col_at {w:World} {a:Option Addr} {n c k:Nat} {l:List PCol} {x:PCol} (h:SlR 3 ColR w (.slice a n c) l) (hk:l[k]? = some x):∃ b o,a=some ⟨b,o,none⟩∧w.cell? ⟨b,o + k * 3,none⟩=some (.string x.name)∧w.cell? ⟨b,o + k * 3 + 1,none⟩=some (.int .u8 (x.ty:Int))∧w.cell? ⟨b,o + k * 3 + 2,none⟩=some (.bool x.nn):=by
 obtain ⟨b,o,cs,rfl,_,rfl,hc⟩:=h.get hk
 exact ⟨b,o,rfl,hc 0 _ rfl,hc 1 _ rfl,hc 2 _ rfl⟩
set_option maxRecDepth 100000 in
set_option maxHeartbeats 4000000 in
theorem txtSame (x y:ByteArray) (w:World):Calls Tryz.prog 45 #[.string x,.string y] w fun e w'=>e = .returned (.bool (eqB x y))∧Below w.heap.size w w':=by
 by_cases h:x=y
 ·subst h
  have HE:Hid (eqB x x=true):=Lib.hid (eqB_self x)
  go_enter Tryz.func45,Tryz.ntmps45
  go_wp2_with fail
  all_goals first | (go_ret;exact ⟨by rw [HE.out];rfl,Below.refl _ _⟩) | contradiction
 ·have HE:Hid (eqB x y=false):=Lib.hid (eqB_false h)
  have hl:(x.toList == y.toList)=false:=(str_eq x y).trans (decide_eq_false h)
  clear h
  go_enter Tryz.func45,Tryz.ntmps45
  go_wp2_with fail
  all_goals first | (go_ret;exact ⟨by rw [HE.out];rfl,Below.refl _ _⟩) | simp_all
theorem eqB_col {x y:PCol} (h0:x.name.toList=y.name.toList) (h1:(x.ty:Int)=(y.ty:Int)) (h2:x.nn=y.nn):eqB x y=true:=by
 have g0:=bytes_eq h0
 clear h0
 obtain ⟨a,b,c⟩:=x
 obtain ⟨a',b',c'⟩:=y
 simp only at g0 h1 h2
 obtain rfl:b=b':=by omega
 subst g0;subst h2
 exact eqB_self _
set_option maxRecDepth 100000 in
set_option maxHeartbeats 4000000 in
theorem colSame (x y:PCol) (w:World):Calls Tryz.prog 47 #[.agg #[.string x.name,.int .u8 (x.ty:Int),.bool x.nn],.agg #[.string y.name,.int .u8 (y.ty:Int),.bool y.nn]] w fun e w'=>e = .returned (.bool (eqB x y))∧Below w.heap.size w w':=by
 have hbA:Below w.heap.size w ((w.alloc (.cells #[.string x.name,.int .u8 (x.ty:Int),.bool x.nn] 89)).alloc (.cells #[.string y.name,.int .u8 (y.ty:Int),.bool y.nn] 89)):=((Below.refl _ _).alloc (Nat.le_refl _) _).alloc (by simp) _
 have HR0:=Lib.hid ((row_alloc w 89 #[.string x.name,.int .u8 (x.ty:Int),.bool x.nn]).later ((Below.refl _ _).alloc (Nat.le_refl _) (.cells #[.string y.name,.int .u8 (y.ty:Int),.bool y.nn] 89)))
 have HR1:=Lib.hid (row_alloc (w.alloc (.cells #[.string x.name,.int .u8 (x.ty:Int),.bool x.nn] 89)) 89 #[.string y.name,.int .u8 (y.ty:Int),.bool y.nn])
 have HS1:Hid ((w.alloc (.cells #[.string x.name,.int .u8 (x.ty:Int),.bool x.nn] 89)).heap.size=w.heap.size + 1):=Lib.hid (by simp)
 rw [HS1.out] at HR1
 go_enter Tryz.func47,Tryz.ntmps47
 go_upto_region 1 with fail
 have HBA:=Lib.hid hbA
 clear hbA HS1
 generalize (w.alloc (.cells #[.string x.name,.int .u8 (x.ty:Int),.bool x.nn] 89)).alloc (.cells #[.string y.name,.int .u8 (y.ty:Int),.bool y.nn] 89)=w2 at *
 have l0:=HR0.out.cell (i:=0) rfl
 have m0:=HR1.out.cell (i:=0) rfl
 have l1:=HR0.out.cell (i:=1) rfl
 have m1:=HR1.out.cell (i:=1) rfl
 have l2:=HR0.out.cell (i:=2) rfl
 have m2:=HR1.out.cell (i:=2) rfl
 go_wp2_with fail
 all_goals first
  | (have HE:Hid (eqB x y=true):=Lib.hid (eqB_col (by assumption) (by assumption) (by assumption))
     go_ret
     exact ⟨by rw [HE.out];rfl,HBA.out⟩)
  | (have HE:Hid (eqB x y=false):=Lib.hid (eqB_false fun e=>by subst e;contradiction)
     go_ret
     exact ⟨by rw [HE.out];rfl,HBA.out⟩)
set_option maxRecDepth 100000 in
set_option maxHeartbeats 16000000 in
theorem alikeTxt (xs ys:List ByteArray) (va vb:Value) (w:World) (ha:SlR 1 TxtR w va xs) (hb:SlR 1 TxtR w vb ys) (hla:xs.length ≤ 140737488351232) :
 Calls Tryz.prog 48 #[va,vb,.func (.func 45) #[] #[]] w fun e w'=>e = .returned (.bool (eqB xs ys))∧Below w.heap.size w w':=by
 obtain ⟨aa,ac,rfl,hac⟩:=ha.shape
 obtain ⟨ba,bc,rfl,hbc⟩:=hb.shape
 have HA:=Lib.hid ha
 have HB:=Lib.hid hb
 by_cases hlen:xs.length=ys.length
 ·have e1:((xs.length:Int) != (ys.length:Int))=false:=by simp [hlen]
  have HLEN:=Lib.hid hlen
  clear ha hb hac hbc hlen
  go_enter Tryz.func48,Tryz.ntmps48
  go_wp2_with fail
  go_loopg [15] xs.length (fun gk iv wr=>∃ (i:Nat),iv = .int .i64 (i:Int)∧gk=xs.length - i∧i ≤ xs.length∧Hid (Below w.heap.size w wr)∧Hid (xs.take i=ys.take i))
  case atStart=>exact ⟨0,rfl,rfl,Nat.zero_le _,Lib.hid (Below.refl _ _),Lib.hid rfl⟩
  case round=>
   obtain ⟨i,rfl,rfl,hi,HBL,HT⟩:=hrel
   by_cases hlt:i < xs.length
   ·obtain ⟨x,hx⟩:∃ x,xs[i]? = some x:=⟨xs[i],by simp⟩
    obtain ⟨y,hy⟩:∃ y,ys[i]? = some y:=⟨ys[i]'(by have:=HLEN.out;omega),by simp⟩
    have hwa:=SlR.below HA.out HBL.out fun _ _ h=>h
    have hwb:=SlR.below HB.out HBL.out fun _ _ h=>h
    obtain ⟨b1,o1,rfl,p0⟩:=txt_at hwa hx
    obtain ⟨b2,o2,rfl,q0⟩:=txt_at hwb hy
    have HC:Hid (∀ W,Calls Tryz.prog 45 #[.string x,.string y] W fun e w'=>e = .returned (.bool (eqB x y))∧Below W.heap.size W w'):=Lib.hid (fun W=>txtSame x y W)
    have HX:=Lib.hid hx
    have HY:=Lib.hid hy
    have ilt:(i:Int) < (xs.length:Int):=by omega
    have ilt2:(i:Int) < (ys.length:Int):=by have:=HLEN.out;omega
    have ige:(0:Int) ≤ (i:Int):=by omega
    have HLT:=Lib.hid hlt
    clear hx hy hwa hwb hlt
    go_upto_region 6 with fail
    have l0:=lat_cell p0
    have m0:=lat_cell q0
    refine wp_region_later (by kernel_rfl) (by kernel_rfl) ?_
    repeat (go_big_quiet_step (exact lat_calls (HC.out _)))
    refine wpQuiet_nil ?_
    refine later_out (fun w2 hb2=>?_)
    have HB2:=Lib.hid (next HBL.out hb2)
    clear l0 m0 p0 q0 hb2
    by_cases hxy:x=y
    ·have e2:eqB x y=true:=eqB_true.2 hxy
     have HT2:Hid (xs.take (i + 1)=ys.take (i + 1)):=Lib.hid (by
      rw [List.take_add_one,List.take_add_one,HT.out,HX.out,HY.out,hxy])
     rw [e2]
     clear e2 hxy
     go_wp2_with fail
     go_roundg (xs.length - (i + 1))
     case measure=>exact Nat.sub_lt_sub_left HLT.out (Nat.lt_succ_self _)
     case rel=>exact ⟨i + 1,by go_num,rfl,HLT.out,HB2,HT2⟩
    ·have e2:eqB x y=false:=eqB_false hxy
     have HE:Hid (eqB xs ys=false):=Lib.hid (eqB_false fun e=>hxy (by have h1:=HX.out;have h2:=HY.out;rw [e,h2] at h1;cases h1;rfl))
     rw [e2]
     clear e2 hxy
     go_wp2_with fail
     go_ret
     exact ⟨by rw [HE.out];rfl,HB2.out⟩
   ·obtain rfl:i=xs.length:=by omega
    have HE:Hid (eqB xs ys=true):=Lib.hid (eqB_true.2 (by have h1:=HT.out;have h2:=HLEN.out;rw [List.take_length,h2,List.take_length] at h1;exact h1))
    clear hlt hi
    go_wp2_with fail
    go_ret
    exact ⟨by rw [HE.out];rfl,HBL.out⟩
 ·have e1:((xs.length:Int) != (ys.length:Int))=true:=by simp;omega
  have HE:Hid (eqB xs ys=false):=Lib.hid (eqB_false fun e=>hlen (by rw [e]))
  clear ha hb hac hbc hlen
  go_enter Tryz.func48,Tryz.ntmps48
  go_wp2_with fail
  go_ret
  exact ⟨by rw [HE.out];rfl,Below.refl _ _⟩
set_option maxRecDepth 100000 in
set_option maxHeartbeats 16000000 in
theorem alikeCol (xs ys:List PCol) (va vb:Value) (w:World) (ha:SlR 3 ColR w va xs) (hb:SlR 3 ColR w vb ys) (hla:xs.length ≤ 140737488351232) :
 Calls Tryz.prog 46 #[va,vb,.func (.func 47) #[] #[]] w fun e w'=>e = .returned (.bool (eqB xs ys))∧Below w.heap.size w w':=by
 obtain ⟨aa,ac,rfl,hac⟩:=ha.shape
 obtain ⟨ba,bc,rfl,hbc⟩:=hb.shape
 have HA:=Lib.hid ha
 have HB:=Lib.hid hb
 by_cases hlen:xs.length=ys.length
 ·have e1:((xs.length:Int) != (ys.length:Int))=false:=by simp [hlen]
  have HLEN:=Lib.hid hlen
  clear ha hb hac hbc hlen
  go_enter Tryz.func46,Tryz.ntmps46
  go_wp2_with fail
  go_loopg [15] xs.length (fun gk iv wr=>∃ (i:Nat),iv = .int .i64 (i:Int)∧gk=xs.length - i∧i ≤ xs.length∧Hid (Below w.heap.size w wr)∧Hid (xs.take i=ys.take i))
  case atStart=>exact ⟨0,rfl,rfl,Nat.zero_le _,Lib.hid (Below.refl _ _),Lib.hid rfl⟩
  case round=>
   obtain ⟨i,rfl,rfl,hi,HBL,HT⟩:=hrel
   by_cases hlt:i < xs.length
   ·obtain ⟨x,hx⟩:∃ x,xs[i]? = some x:=⟨xs[i],by simp⟩
    obtain ⟨y,hy⟩:∃ y,ys[i]? = some y:=⟨ys[i]'(by have:=HLEN.out;omega),by simp⟩
    have hwa:=SlR.below HA.out HBL.out fun _ _ h=>h
    have hwb:=SlR.below HB.out HBL.out fun _ _ h=>h
    obtain ⟨b1,o1,rfl,p0,p1,p2⟩:=col_at hwa hx
    obtain ⟨b2,o2,rfl,q0,q1,q2⟩:=col_at hwb hy
    have HC:Hid (∀ W,Calls Tryz.prog 47 #[.agg #[.string x.name,.int .u8 (x.ty:Int),.bool x.nn],.agg #[.string y.name,.int .u8 (y.ty:Int),.bool y.nn]] W fun e w'=>e = .returned (.bool (eqB x y))∧Below W.heap.size W w'):=Lib.hid (fun W=>colSame x y W)
    have HX:=Lib.hid hx
    have HY:=Lib.hid hy
    have ilt:(i:Int) < (xs.length:Int):=by omega
    have ilt2:(i:Int) < (ys.length:Int):=by have:=HLEN.out;omega
    have ige:(0:Int) ≤ (i:Int):=by omega
    have HLT:=Lib.hid hlt
    clear hx hy hwa hwb hlt
    go_upto_region 6 with fail
    have l0:=lat_cell p0;have l1:=lat_cell p1;have l2:=lat_cell p2
    have m0:=lat_cell q0;have m1:=lat_cell q1;have m2:=lat_cell q2
    refine wp_region_later (by kernel_rfl) (by kernel_rfl) ?_
    repeat (go_big_quiet_step (exact lat_calls (HC.out _)))
    refine wpQuiet_nil ?_
    refine later_out (fun w2 hb2=>?_)
    have HB2:=Lib.hid (next HBL.out hb2)
    clear l0 l1 l2 m0 m1 m2 p0 p1 p2 q0 q1 q2 hb2
    by_cases hxy:x=y
    ·have e2:eqB x y=true:=eqB_true.2 hxy
     have HT2:Hid (xs.take (i + 1)=ys.take (i + 1)):=Lib.hid (by
      rw [List.take_add_one,List.take_add_one,HT.out,HX.out,HY.out,hxy])
     rw [e2]
     clear e2 hxy
     go_wp2_with fail
     go_roundg (xs.length - (i + 1))
     case measure=>exact Nat.sub_lt_sub_left HLT.out (Nat.lt_succ_self _)
     case rel=>exact ⟨i + 1,by go_num,rfl,HLT.out,HB2,HT2⟩
    ·have e2:eqB x y=false:=eqB_false hxy
     have HE:Hid (eqB xs ys=false):=Lib.hid (eqB_false fun e=>hxy (by have h1:=HX.out;have h2:=HY.out;rw [e,h2] at h1;cases h1;rfl))
     rw [e2]
     clear e2 hxy
     go_wp2_with fail
     go_ret
     exact ⟨by rw [HE.out];rfl,HB2.out⟩
   ·obtain rfl:i=xs.length:=by omega
    have HE:Hid (eqB xs ys=true):=Lib.hid (eqB_true.2 (by have h1:=HT.out;have h2:=HLEN.out;rw [List.take_length,h2,List.take_length] at h1;exact h1))
    clear hlt hi
    go_wp2_with fail
    go_ret
    exact ⟨by rw [HE.out];rfl,HBL.out⟩
 ·have e1:((xs.length:Int) != (ys.length:Int))=true:=by simp;omega
  have HE:Hid (eqB xs ys=false):=Lib.hid (eqB_false fun e=>hlen (by rw [e]))
  clear ha hb hac hbc hlen
  go_enter Tryz.func46,Tryz.ntmps46
  go_wp2_with fail
  go_ret
  exact ⟨by rw [HE.out];rfl,Below.refl _ _⟩
set_option maxRecDepth 100000 in
set_option maxHeartbeats 4000000 in
theorem rowSame {xs ys:List PE} (hs:∀ x,x ∈ xs→Short x) (hl:xs.length ≤ 140737488351232) {va vb:Value} {w:World} (ha:ExsR w va xs) (hb:ExsR w vb ys) :
 Calls Tryz.prog 50 #[va,vb] w fun e w'=>e = .returned (.bool (eqB xs ys))∧Below w.heap.size w w':=by
 have HC:=Lib.hid (sameExs hs hl ha hb)
 clear hs hl ha hb
 go_enter Tryz.func50,Tryz.ntmps50
 go_wp2_with fail
 refine HC.out.mono ?_
 intro e w3 hr
 obtain ⟨rfl,hb3⟩:=hr
 have HB3:=Lib.hid hb3
 clear hb3 HC
 go_wp2_with fail
 go_ret
 exact ⟨rfl,HB3.out⟩
set_option maxRecDepth 100000 in
set_option maxHeartbeats 8000000 in
theorem setSame1 (n m:ByteArray) (x y:PE) (ka kb:Option Addr) (kc kd:Nat) (w:World)
 (H:∀ W,Below w.heap.size w W→Calls Tryz.prog 15 #[x.val (.slice ka x.kids.length kc),y.val (.slice kb y.kids.length kd)] W fun e w'=>e = .returned (.bool (eqB x y))∧Below W.heap.size W w') :
 Calls Tryz.prog 52 #[.agg #[.string n,.int .u8 (x.op:Int),.int .u8 (x.v.k:Int),.int .i64 x.v.n,.string x.v.s,.string x.t,.string x.m,.int .i64 x.n,.slice ka x.kids.length kc],.agg #[.string m,.int .u8 (y.op:Int),.int .u8 (y.v.k:Int),.int .i64 y.v.n,.string y.v.s,.string y.t,.string y.m,.int .i64 y.n,.slice kb y.kids.length kd]] w fun e w'=>e = .returned (.bool (eqB (n,x) (m,y)))∧Below w.heap.size w w':=by
 unfold PE.val at H
 have HH:=Lib.hid H
 clear H
 have hbA:Below w.heap.size w ((w.alloc (.cells #[.string n,.int .u8 (x.op:Int),.int .u8 (x.v.k:Int),.int .i64 x.v.n,.string x.v.s,.string x.t,.string x.m,.int .i64 x.n,.slice ka x.kids.length kc] 94)).alloc (.cells #[.string m,.int .u8 (y.op:Int),.int .u8 (y.v.k:Int),.int .i64 y.v.n,.string y.v.s,.string y.t,.string y.m,.int .i64 y.n,.slice kb y.kids.length kd] 94)):=((Below.refl _ _).alloc (Nat.le_refl _) _).alloc (by simp) _
 have HR0:=Lib.hid ((row_alloc w 94 #[.string n,.int .u8 (x.op:Int),.int .u8 (x.v.k:Int),.int .i64 x.v.n,.string x.v.s,.string x.t,.string x.m,.int .i64 x.n,.slice ka x.kids.length kc]).later ((Below.refl _ _).alloc (Nat.le_refl _) (.cells #[.string m,.int .u8 (y.op:Int),.int .u8 (y.v.k:Int),.int .i64 y.v.n,.string y.v.s,.string y.t,.string y.m,.int .i64 y.n,.slice kb y.kids.length kd] 94)))
 have HR1:=Lib.hid (row_alloc (w.alloc (.cells #[.string n,.int .u8 (x.op:Int),.int .u8 (x.v.k:Int),.int .i64 x.v.n,.string x.v.s,.string x.t,.string x.m,.int .i64 x.n,.slice ka x.kids.length kc] 94)) 94 #[.string m,.int .u8 (y.op:Int),.int .u8 (y.v.k:Int),.int .i64 y.v.n,.string y.v.s,.string y.t,.string y.m,.int .i64 y.n,.slice kb y.kids.length kd])
 have HS1:Hid ((w.alloc (.cells #[.string n,.int .u8 (x.op:Int),.int .u8 (x.v.k:Int),.int .i64 x.v.n,.string x.v.s,.string x.t,.string x.m,.int .i64 x.n,.slice ka x.kids.length kc] 94)).heap.size=w.heap.size + 1):=Lib.hid (by simp)
 rw [HS1.out] at HR1
 go_enter Tryz.func52,Tryz.ntmps52
 go_upto_region 1 with fail
 have HBA:=Lib.hid hbA
 clear hbA HS1
 generalize (w.alloc (.cells #[.string n,.int .u8 (x.op:Int),.int .u8 (x.v.k:Int),.int .i64 x.v.n,.string x.v.s,.string x.t,.string x.m,.int .i64 x.n,.slice ka x.kids.length kc] 94)).alloc (.cells #[.string m,.int .u8 (y.op:Int),.int .u8 (y.v.k:Int),.int .i64 y.v.n,.string y.v.s,.string y.t,.string y.m,.int .i64 y.n,.slice kb y.kids.length kd] 94)=w2 at *
 have l0:=HR0.out.cell (i:=0) rfl
 have m0:=HR1.out.cell (i:=0) rfl
 have l1:=HR0.out.cell (i:=1) rfl
 have m1:=HR1.out.cell (i:=1) rfl
 have l2:=HR0.out.cell (i:=2) rfl
 have m2:=HR1.out.cell (i:=2) rfl
 have l3:=HR0.out.cell (i:=3) rfl
 have m3:=HR1.out.cell (i:=3) rfl
 have l4:=HR0.out.cell (i:=4) rfl
 have m4:=HR1.out.cell (i:=4) rfl
 have l5:=HR0.out.cell (i:=5) rfl
 have m5:=HR1.out.cell (i:=5) rfl
 have l6:=HR0.out.cell (i:=6) rfl
 have m6:=HR1.out.cell (i:=6) rfl
 have l7:=HR0.out.cell (i:=7) rfl
 have m7:=HR1.out.cell (i:=7) rfl
 have l8:=HR0.out.cell (i:=8) rfl
 have m8:=HR1.out.cell (i:=8) rfl
 by_cases hnm:n=m
 ·subst hnm
  have HE:Hid (eqB (n,x) (n,y)=eqB x y):=Lib.hid (by
   by_cases h:x=y
   ·rw [h,eqB_self,eqB_self]
   ·rw [eqB_false h];exact eqB_false fun e=>h (by cases e;rfl))
  go_wp2_with fail
  refine (HH.out _ HBA.out).mono ?_
  intro e w3 hr
  obtain ⟨rfl,hb3⟩:=hr
  have HB3:=Lib.hid (next HBA.out hb3)
  clear hb3 l0 m0 l1 m1 l2 m2 l3 m3 l4 m4 l5 m5 l6 m6 l7 m7 l8 m8
  go_wp2_with fail
  go_ret
  exact ⟨by rw [HE.out];rfl,HB3.out⟩
 ·have HE:Hid (eqB (n,x) (m,y)=false):=Lib.hid (eqB_false fun e=>hnm (by cases e;rfl))
  have hl:(n.toList == m.toList)=false:=(str_eq n m).trans (decide_eq_false hnm)
  have hl2:¬ n.toList=m.toList:=fun e=>hnm (bytes_eq e)
  go_wp2_with fail
  all_goals first
   | (go_ret
      exact ⟨by rw [HE.out];rfl,HBA.out⟩)
   | contradiction
set_option maxRecDepth 100000 in
set_option maxHeartbeats 8000000 in
theorem itemSame1 (n m:ByteArray) (x y:PE) (ka kb:Option Addr) (kc kd:Nat) (w:World)
 (H:∀ W,Below w.heap.size w W→Calls Tryz.prog 15 #[x.val (.slice ka x.kids.length kc),y.val (.slice kb y.kids.length kd)] W fun e w'=>e = .returned (.bool (eqB x y))∧Below W.heap.size W w') :
 Calls Tryz.prog 54 #[.agg #[.int .u8 (x.op:Int),.int .u8 (x.v.k:Int),.int .i64 x.v.n,.string x.v.s,.string x.t,.string x.m,.int .i64 x.n,.slice ka x.kids.length kc,.string n],.agg #[.int .u8 (y.op:Int),.int .u8 (y.v.k:Int),.int .i64 y.v.n,.string y.v.s,.string y.t,.string y.m,.int .i64 y.n,.slice kb y.kids.length kd,.string m]] w fun e w'=>e = .returned (.bool (eqB (x,n) (y,m)))∧Below w.heap.size w w':=by
 unfold PE.val at H
 have HH:=Lib.hid H
 clear H
 have hbA:Below w.heap.size w ((w.alloc (.cells #[.int .u8 (x.op:Int),.int .u8 (x.v.k:Int),.int .i64 x.v.n,.string x.v.s,.string x.t,.string x.m,.int .i64 x.n,.slice ka x.kids.length kc,.string n] 106)).alloc (.cells #[.int .u8 (y.op:Int),.int .u8 (y.v.k:Int),.int .i64 y.v.n,.string y.v.s,.string y.t,.string y.m,.int .i64 y.n,.slice kb y.kids.length kd,.string m] 106)):=((Below.refl _ _).alloc (Nat.le_refl _) _).alloc (by simp) _
 have HR0:=Lib.hid ((row_alloc w 106 #[.int .u8 (x.op:Int),.int .u8 (x.v.k:Int),.int .i64 x.v.n,.string x.v.s,.string x.t,.string x.m,.int .i64 x.n,.slice ka x.kids.length kc,.string n]).later ((Below.refl _ _).alloc (Nat.le_refl _) (.cells #[.int .u8 (y.op:Int),.int .u8 (y.v.k:Int),.int .i64 y.v.n,.string y.v.s,.string y.t,.string y.m,.int .i64 y.n,.slice kb y.kids.length kd,.string m] 106)))
 have HR1:=Lib.hid (row_alloc (w.alloc (.cells #[.int .u8 (x.op:Int),.int .u8 (x.v.k:Int),.int .i64 x.v.n,.string x.v.s,.string x.t,.string x.m,.int .i64 x.n,.slice ka x.kids.length kc,.string n] 106)) 106 #[.int .u8 (y.op:Int),.int .u8 (y.v.k:Int),.int .i64 y.v.n,.string y.v.s,.string y.t,.string y.m,.int .i64 y.n,.slice kb y.kids.length kd,.string m])
 have HS1:Hid ((w.alloc (.cells #[.int .u8 (x.op:Int),.int .u8 (x.v.k:Int),.int .i64 x.v.n,.string x.v.s,.string x.t,.string x.m,.int .i64 x.n,.slice ka x.kids.length kc,.string n] 106)).heap.size=w.heap.size + 1):=Lib.hid (by simp)
 rw [HS1.out] at HR1
 go_enter Tryz.func54,Tryz.ntmps54
 go_upto_region 1 with fail
 have HBA:=Lib.hid hbA
 clear hbA HS1
 generalize (w.alloc (.cells #[.int .u8 (x.op:Int),.int .u8 (x.v.k:Int),.int .i64 x.v.n,.string x.v.s,.string x.t,.string x.m,.int .i64 x.n,.slice ka x.kids.length kc,.string n] 106)).alloc (.cells #[.int .u8 (y.op:Int),.int .u8 (y.v.k:Int),.int .i64 y.v.n,.string y.v.s,.string y.t,.string y.m,.int .i64 y.n,.slice kb y.kids.length kd,.string m] 106)=w2 at *
 have l0:=HR0.out.cell (i:=0) rfl
 have m0:=HR1.out.cell (i:=0) rfl
 have l1:=HR0.out.cell (i:=1) rfl
 have m1:=HR1.out.cell (i:=1) rfl
 have l2:=HR0.out.cell (i:=2) rfl
 have m2:=HR1.out.cell (i:=2) rfl
 have l3:=HR0.out.cell (i:=3) rfl
 have m3:=HR1.out.cell (i:=3) rfl
 have l4:=HR0.out.cell (i:=4) rfl
 have m4:=HR1.out.cell (i:=4) rfl
 have l5:=HR0.out.cell (i:=5) rfl
 have m5:=HR1.out.cell (i:=5) rfl
 have l6:=HR0.out.cell (i:=6) rfl
 have m6:=HR1.out.cell (i:=6) rfl
 have l7:=HR0.out.cell (i:=7) rfl
 have m7:=HR1.out.cell (i:=7) rfl
 have l8:=HR0.out.cell (i:=8) rfl
 have m8:=HR1.out.cell (i:=8) rfl
 by_cases hnm:n=m
 ·subst hnm
  have HE:Hid (eqB (x,n) (y,n)=eqB x y):=Lib.hid (by
   by_cases h:x=y
   ·rw [h,eqB_self,eqB_self]
   ·rw [eqB_false h];exact eqB_false fun e=>h (by cases e;rfl))
  go_wp2_with fail
  refine (HH.out _ HBA.out).mono ?_
  intro e w3 hr
  obtain ⟨rfl,hb3⟩:=hr
  have HB3:=Lib.hid (next HBA.out hb3)
  clear hb3 l0 m0 l1 m1 l2 m2 l3 m3 l4 m4 l5 m5 l6 m6 l7 m7 l8 m8
  go_wp2_with fail
  go_ret
  exact ⟨by rw [HE.out];rfl,HB3.out⟩
 ·have HE:Hid (eqB (x,n) (y,m)=false):=Lib.hid (eqB_false fun e=>hnm (by cases e;rfl))
  have hl:(n.toList == m.toList)=false:=(str_eq n m).trans (decide_eq_false hnm)
  have hl2:¬ n.toList=m.toList:=fun e=>hnm (bytes_eq e)
  go_wp2_with fail
  all_goals first
   | (go_ret
      exact ⟨by rw [HE.out];rfl,HBA.out⟩)
   | contradiction
set_option maxRecDepth 100000 in
set_option maxHeartbeats 8000000 in
theorem orderSame1 (n m:Bool) (x y:PE) (ka kb:Option Addr) (kc kd:Nat) (w:World)
 (H:∀ W,Below w.heap.size w W→Calls Tryz.prog 15 #[x.val (.slice ka x.kids.length kc),y.val (.slice kb y.kids.length kd)] W fun e w'=>e = .returned (.bool (eqB x y))∧Below W.heap.size W w') :
 Calls Tryz.prog 58 #[.agg #[.int .u8 (x.op:Int),.int .u8 (x.v.k:Int),.int .i64 x.v.n,.string x.v.s,.string x.t,.string x.m,.int .i64 x.n,.slice ka x.kids.length kc,.bool n],.agg #[.int .u8 (y.op:Int),.int .u8 (y.v.k:Int),.int .i64 y.v.n,.string y.v.s,.string y.t,.string y.m,.int .i64 y.n,.slice kb y.kids.length kd,.bool m]] w fun e w'=>e = .returned (.bool (eqB (x,n) (y,m)))∧Below w.heap.size w w':=by
 unfold PE.val at H
 have HH:=Lib.hid H
 clear H
 have hbA:Below w.heap.size w ((w.alloc (.cells #[.int .u8 (x.op:Int),.int .u8 (x.v.k:Int),.int .i64 x.v.n,.string x.v.s,.string x.t,.string x.m,.int .i64 x.n,.slice ka x.kids.length kc,.bool n] 114)).alloc (.cells #[.int .u8 (y.op:Int),.int .u8 (y.v.k:Int),.int .i64 y.v.n,.string y.v.s,.string y.t,.string y.m,.int .i64 y.n,.slice kb y.kids.length kd,.bool m] 114)):=((Below.refl _ _).alloc (Nat.le_refl _) _).alloc (by simp) _
 have HR0:=Lib.hid ((row_alloc w 114 #[.int .u8 (x.op:Int),.int .u8 (x.v.k:Int),.int .i64 x.v.n,.string x.v.s,.string x.t,.string x.m,.int .i64 x.n,.slice ka x.kids.length kc,.bool n]).later ((Below.refl _ _).alloc (Nat.le_refl _) (.cells #[.int .u8 (y.op:Int),.int .u8 (y.v.k:Int),.int .i64 y.v.n,.string y.v.s,.string y.t,.string y.m,.int .i64 y.n,.slice kb y.kids.length kd,.bool m] 114)))
 have HR1:=Lib.hid (row_alloc (w.alloc (.cells #[.int .u8 (x.op:Int),.int .u8 (x.v.k:Int),.int .i64 x.v.n,.string x.v.s,.string x.t,.string x.m,.int .i64 x.n,.slice ka x.kids.length kc,.bool n] 114)) 114 #[.int .u8 (y.op:Int),.int .u8 (y.v.k:Int),.int .i64 y.v.n,.string y.v.s,.string y.t,.string y.m,.int .i64 y.n,.slice kb y.kids.length kd,.bool m])
 have HS1:Hid ((w.alloc (.cells #[.int .u8 (x.op:Int),.int .u8 (x.v.k:Int),.int .i64 x.v.n,.string x.v.s,.string x.t,.string x.m,.int .i64 x.n,.slice ka x.kids.length kc,.bool n] 114)).heap.size=w.heap.size + 1):=Lib.hid (by simp)
 rw [HS1.out] at HR1
 go_enter Tryz.func58,Tryz.ntmps58
 go_upto_region 1 with fail
 have HBA:=Lib.hid hbA
 clear hbA HS1
 generalize (w.alloc (.cells #[.int .u8 (x.op:Int),.int .u8 (x.v.k:Int),.int .i64 x.v.n,.string x.v.s,.string x.t,.string x.m,.int .i64 x.n,.slice ka x.kids.length kc,.bool n] 114)).alloc (.cells #[.int .u8 (y.op:Int),.int .u8 (y.v.k:Int),.int .i64 y.v.n,.string y.v.s,.string y.t,.string y.m,.int .i64 y.n,.slice kb y.kids.length kd,.bool m] 114)=w2 at *
 have l0:=HR0.out.cell (i:=0) rfl
 have m0:=HR1.out.cell (i:=0) rfl
 have l1:=HR0.out.cell (i:=1) rfl
 have m1:=HR1.out.cell (i:=1) rfl
 have l2:=HR0.out.cell (i:=2) rfl
 have m2:=HR1.out.cell (i:=2) rfl
 have l3:=HR0.out.cell (i:=3) rfl
 have m3:=HR1.out.cell (i:=3) rfl
 have l4:=HR0.out.cell (i:=4) rfl
 have m4:=HR1.out.cell (i:=4) rfl
 have l5:=HR0.out.cell (i:=5) rfl
 have m5:=HR1.out.cell (i:=5) rfl
 have l6:=HR0.out.cell (i:=6) rfl
 have m6:=HR1.out.cell (i:=6) rfl
 have l7:=HR0.out.cell (i:=7) rfl
 have m7:=HR1.out.cell (i:=7) rfl
 have l8:=HR0.out.cell (i:=8) rfl
 have m8:=HR1.out.cell (i:=8) rfl
 by_cases hnm:n=m
 ·subst hnm
  have HE:Hid (eqB (x,n) (y,n)=eqB x y):=Lib.hid (by
   by_cases h:x=y
   ·rw [h,eqB_self,eqB_self]
   ·rw [eqB_false h];exact eqB_false fun e=>h (by cases e;rfl))
  go_wp2_with fail
  refine (HH.out _ HBA.out).mono ?_
  intro e w3 hr
  obtain ⟨rfl,hb3⟩:=hr
  have HB3:=Lib.hid (next HBA.out hb3)
  clear hb3 l0 m0 l1 m1 l2 m2 l3 m3 l4 m4 l5 m5 l6 m6 l7 m7 l8 m8
  go_wp2_with fail
  go_ret
  exact ⟨by rw [HE.out];rfl,HB3.out⟩
 ·have HE:Hid (eqB (x,n) (y,m)=false):=Lib.hid (eqB_false fun e=>hnm (by cases e;rfl))
  have hl:(n == m)=false:=by cases n <;> cases m <;> simp_all
  go_wp2_with fail
  all_goals first
   | (go_ret
      exact ⟨by rw [HE.out];rfl,HBA.out⟩)
   | contradiction
theorem eqB_src {x y:PSrc} (h0:x.table.toList=y.table.toList) (h1:x.as.toList=y.as.toList):eqB x y=eqB x.on y.on:=by
 have g0:=bytes_eq h0
 have g1:=bytes_eq h1
 clear h0 h1
 obtain ⟨a,b,c⟩:=x
 obtain ⟨a',b',c'⟩:=y
 simp only at g0 g1 ⊢
 subst g0;subst g1
 by_cases h:c=c'
 ·rw [h,eqB_self,eqB_self]
 ·rw [eqB_false h];exact eqB_false fun e=>h (by cases e;rfl)
set_option maxRecDepth 100000 in
set_option maxHeartbeats 8000000 in
theorem srcSame1 (x y:PSrc) (ka kb:Option Addr) (kc kd:Nat) (w:World)
 (H:∀ W,Below w.heap.size w W→Calls Tryz.prog 33 #[.slice ka x.on.length kc,.slice kb y.on.length kd,.func (.func 15) #[] #[]] W fun e w'=>e = .returned (.bool (eqB x.on y.on))∧Below W.heap.size W w') :
 Calls Tryz.prog 56 #[.agg #[.string x.table,.string x.as,.slice ka x.on.length kc],.agg #[.string y.table,.string y.as,.slice kb y.on.length kd]] w fun e w'=>e = .returned (.bool (eqB x y))∧Below w.heap.size w w':=by
 have HH:=Lib.hid H
 clear H
 have hbA:Below w.heap.size w ((w.alloc (.cells #[.string x.table,.string x.as,.slice ka x.on.length kc] 110)).alloc (.cells #[.string y.table,.string y.as,.slice kb y.on.length kd] 110)):=((Below.refl _ _).alloc (Nat.le_refl _) _).alloc (by simp) _
 have HR0:=Lib.hid ((row_alloc w 110 #[.string x.table,.string x.as,.slice ka x.on.length kc]).later ((Below.refl _ _).alloc (Nat.le_refl _) (.cells #[.string y.table,.string y.as,.slice kb y.on.length kd] 110)))
 have HR1:=Lib.hid (row_alloc (w.alloc (.cells #[.string x.table,.string x.as,.slice ka x.on.length kc] 110)) 110 #[.string y.table,.string y.as,.slice kb y.on.length kd])
 have HS1:Hid ((w.alloc (.cells #[.string x.table,.string x.as,.slice ka x.on.length kc] 110)).heap.size=w.heap.size + 1):=Lib.hid (by simp)
 rw [HS1.out] at HR1
 go_enter Tryz.func56,Tryz.ntmps56
 go_upto_region 1 with fail
 have HBA:=Lib.hid hbA
 clear hbA HS1
 generalize (w.alloc (.cells #[.string x.table,.string x.as,.slice ka x.on.length kc] 110)).alloc (.cells #[.string y.table,.string y.as,.slice kb y.on.length kd] 110)=w2 at *
 have l0:=HR0.out.cell (i:=0) rfl
 have m0:=HR1.out.cell (i:=0) rfl
 have l1:=HR0.out.cell (i:=1) rfl
 have m1:=HR1.out.cell (i:=1) rfl
 have l2:=HR0.out.cell (i:=2) rfl
 have m2:=HR1.out.cell (i:=2) rfl
 go_wp2_with fail
 all_goals first
  | (refine (HH.out _ HBA.out).mono ?_
     have HE:Hid (eqB x y=eqB x.on y.on):=Lib.hid (eqB_src (by assumption) (by assumption))
     intro e w3 hr
     obtain ⟨rfl,hb3⟩:=hr
     have HB3:=Lib.hid (next HBA.out hb3)
     clear hb3 l0 l1 l2 m0 m1 m2
     go_wp2_with fail
     go_ret
     exact ⟨by rw [HE.out];rfl,HB3.out⟩)
  | (have HE:Hid (eqB x y=false):=Lib.hid (eqB_false fun e=>by subst e;contradiction)
     go_ret
     exact ⟨by rw [HE.out];rfl,HBA.out⟩)
end Go.Proofs.YtmdogmpcmkfjpaaGreatDoor.Dt
