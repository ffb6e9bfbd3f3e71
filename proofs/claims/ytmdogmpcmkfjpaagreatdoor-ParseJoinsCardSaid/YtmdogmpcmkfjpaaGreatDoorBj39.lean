import Derived.Deep.DeepCutAuto
import Derived.Test.YtmdogmpcmkfjpaaGreatDoorBj15
import Derived.Test.YtmdogmpcmkfjpaaGreatDoorBj08
import Derived.Test.YtmdogmpcmkfjpaaGreatDoorBj11
import Derived.Test.YtmdogmpcmkfjpaaGreatDoorBj22
/- Part of the proof (merged). -/
namespace Go.Proofs.YtmdogmpcmkfjpaaGreatDoor.Dt
open Go.RowKit Go.Proofs.YtmdogmpcmkfjpaaGreatDoor.By
theorem exR_below {w w':World} {cs:List Value} {x:PE} (h:ExR w cs x) (hb:Below w.heap.size w w'):ExR w' cs x:=by
 induction h with
 | mk x kv cs h hl h8 _ ih=>exact .mk x kv cs (h.below hb) hl h8 fun i c y hc hy=>ih i c y hc hy
theorem SlR.below {α:Type} {size:Nat} {R:World→List Value→α→Prop} {w w':World} {v:Value} {l:List α} (h:SlR size R w v l) (hb:Below w.heap.size w w') (hR:∀ c x,R w c x→R w' c x):SlR size R w' v l:=by
 obtain ⟨cs,hs,hl,he⟩:=h
 exact ⟨cs,hs.below hb,hl,fun i c x hc hx=>⟨(he i c x hc hx).1,hR c x (he i c x hc hx).2⟩⟩
theorem exsR_below {w w':World} {v:Value} {l:List PE} (h:ExsR w v l) (hb:Below w.heap.size w w'):ExsR w' v l:=SlR.below h hb fun _ _ h=>exR_below h hb
def PE.val (x:PE) (kv:Value):Value:=.agg #[.int .u8 (x.op:Int),.int .u8 (x.v.k:Int),.int .i64 x.v.n,.string x.v.s,.string x.t,.string x.m,.int .i64 x.n,kv]
theorem exs_at {w:World} {a:Option Addr} {n c k:Nat} {l:List PE} {x:PE} (h:ExsR w (.slice a n c) l) (hk:l[k]? = some x):∃ b o kv,a=some ⟨b,o,none⟩∧ExsR w kv x.kids ∧
 w.cell? ⟨b,o + k * 8,none⟩=some (.int .u8 (x.op:Int))∧w.cell? ⟨b,o + k * 8 + 1,none⟩=some (.int .u8 (x.v.k:Int))∧w.cell? ⟨b,o + k * 8 + 2,none⟩=some (.int .i64 x.v.n)∧w.cell? ⟨b,o + k * 8 + 3,none⟩=some (.string x.v.s) ∧
 w.cell? ⟨b,o + k * 8 + 4,none⟩=some (.string x.t)∧w.cell? ⟨b,o + k * 8 + 5,none⟩=some (.string x.m)∧w.cell? ⟨b,o + k * 8 + 6,none⟩=some (.int .i64 x.n)∧w.cell? ⟨b,o + k * 8 + 7,none⟩=some kv:=by
 obtain ⟨b,o,cs,rfl,_,hx,hc⟩:=h.get hk
 obtain ⟨kv,rfl,hkids⟩:=exR_iff.1 hx
 exact ⟨b,o,kv,rfl,hkids,hc 0 _ rfl,hc 1 _ rfl,hc 2 _ rfl,hc 3 _ rfl,hc 4 _ rfl,hc 5 _ rfl,hc 6 _ rfl,hc 7 _ rfl⟩
noncomputable def eqB {α:Type} (a b:α):Bool:=@decide (a=b) (Classical.propDecidable _)
theorem eqB_true {α:Type} {a b:α} : eqB a b=true ↔ a=b:=@decide_eq_true_iff _ (Classical.propDecidable _)
theorem eqB_self {α:Type} (a:α):eqB a a=true:=eqB_true.2 rfl
theorem eqB_false {α:Type} {a b:α} (h:a ≠ b):eqB a b=false:=Bool.eq_false_iff.2 fun e=>h (eqB_true.1 e)
set_option maxRecDepth 100000 in
set_option maxHeartbeats 16000000 in
theorem alikeEx (xs ys:List PE) (va vb:Value) (w:World) (ha:ExsR w va xs) (hb:ExsR w vb ys) (hla:xs.length ≤ 140737488351232)
 (H:∀ (i:Nat) (x y:PE),xs[i]? = some x→ys[i]? = some y→∀ (kx ky:Value) (W:World),ExsR W kx x.kids→ExsR W ky y.kids→Calls Tryz.prog 15 #[x.val kx,y.val ky] W fun e w'=>e = .returned (.bool (eqB x y))∧Below W.heap.size W w') :
 Calls Tryz.prog 33 #[va,vb,.func (.func 15) #[] #[]] w fun e w'=>e = .returned (.bool (eqB xs ys))∧Below w.heap.size w w':=by
 obtain ⟨aa,ac,rfl,hac⟩:=ha.shape
 obtain ⟨ba,bc,rfl,hbc⟩:=hb.shape
 have HA:=Lib.hid ha
 have HB:=Lib.hid hb
 have HH:=Lib.hid H
 by_cases hlen:xs.length=ys.length
 ·have e1:((xs.length:Int) != (ys.length:Int))=false:=by simp [hlen]
  have HLEN:=Lib.hid hlen
  clear ha hb H hac hbc hlen
  go_enter Tryz.func33,Tryz.ntmps33
  go_wp2_with fail
  go_loopg [15] xs.length (fun gk iv wr=>∃ (i:Nat),iv = .int .i64 (i:Int)∧gk=xs.length - i∧i ≤ xs.length∧Hid (Below w.heap.size w wr)∧Hid (xs.take i=ys.take i))
  case atStart=>exact ⟨0,rfl,rfl,Nat.zero_le _,Lib.hid (Below.refl _ _),Lib.hid rfl⟩
  case round=>
   obtain ⟨i,rfl,rfl,hi,HBL,HT⟩:=hrel
   by_cases hlt:i < xs.length
   ·obtain ⟨x,hx⟩:∃ x,xs[i]? = some x:=⟨xs[i],by simp⟩
    obtain ⟨y,hy⟩:∃ y,ys[i]? = some y:=⟨ys[i]'(by have:=HLEN.out;omega),by simp⟩
    have hwa:=exsR_below HA.out HBL.out
    have hwb:=exsR_below HB.out HBL.out
    obtain ⟨b1,o1,k1,rfl,hk1,p0,p1,p2,p3,p4,p5,p6,p7⟩:=exs_at hwa hx
    obtain ⟨b2,o2,k2,rfl,hk2,q0,q1,q2,q3,q4,q5,q6,q7⟩:=exs_at hwb hy
    obtain ⟨ka,kc,rfl,_⟩:=hk1.shape
    obtain ⟨ja,jc,rfl,_⟩:=hk2.shape
    have HC:Hid (∀ W,Below wr.heap.size wr W→Calls Tryz.prog 15 #[x.val (.slice ka x.kids.length kc),y.val (.slice ja y.kids.length jc)] W fun e w'=>e = .returned (.bool (eqB x y))∧Below W.heap.size W w'):=Lib.hid (fun W hW=>HH.out i x y hx hy _ _ W (exsR_below hk1 hW) (exsR_below hk2 hW))
    have HX:=Lib.hid hx
    have HY:=Lib.hid hy
    have ilt:(i:Int) < (xs.length:Int):=by omega
    have ilt2:(i:Int) < (ys.length:Int):=by have:=HLEN.out;omega
    have ige:(0:Int) ≤ (i:Int):=by omega
    have HLT:=Lib.hid hlt
    unfold PE.val at HC
    clear hx hy hwa hwb hk1 hk2 hlt
    go_upto_region 6 with fail
    have l0:=lat_cell p0;have l1:=lat_cell p1;have l2:=lat_cell p2;have l3:=lat_cell p3;have l4:=lat_cell p4;have l5:=lat_cell p5;have l6:=lat_cell p6;have l7:=lat_cell p7
    have m0:=lat_cell q0;have m1:=lat_cell q1;have m2:=lat_cell q2;have m3:=lat_cell q3;have m4:=lat_cell q4;have m5:=lat_cell q5;have m6:=lat_cell q6;have m7:=lat_cell q7
    refine wp_region_later (by kernel_rfl) (by kernel_rfl) ?_
    repeat (go_big_quiet_step (exact lat_calls (HC.out _ (lat_below _ _))))
    refine wpQuiet_nil ?_
    refine later_out (fun w2 hb2=>?_)
    have HB2:=Lib.hid (next HBL.out hb2)
    clear l0 l1 l2 l3 l4 l5 l6 l7 m0 m1 m2 m3 m4 m5 m6 m7 p0 p1 p2 p3 p4 p5 p6 p7 q0 q1 q2 q3 q4 q5 q6 q7 hb2
    by_cases hxy:x=y
    ·have e2:eqB x y=true:=eqB_true.2 hxy
     have HT2:Hid (xs.take (i + 1)=ys.take (i + 1)):=Lib.hid (by
      rw [List.take_add_one,List.take_add_one,HT.out,HX.out,HY.out,hxy])
     rw [e2]
     clear e2 hxy
     go_wp2_with fail
     go_roundg (xs.length - (i + 1))
     case measure=>exact Nat.sub_lt_sub_left HLT.out (Nat.lt_succ_self _)
     case rel=>exact ⟨i + 1,by go_num,rfl,HLT.out,HB2,HT2⟩
    ·have e2:eqB x y=false:=eqB_false hxy
     have HE:Hid (eqB xs ys=false):=Lib.hid (eqB_false fun e=>hxy (by have h1:=HX.out;have h2:=HY.out;rw [e,h2] at h1;cases h1;rfl))
     rw [e2]
     clear e2 hxy
     go_wp2_with fail
     go_ret
     exact ⟨by rw [HE.out];rfl,HB2.out⟩
   ·obtain rfl:i=xs.length:=by omega
    have HE:Hid (eqB xs ys=true):=Lib.hid (eqB_true.2 (by have h1:=HT.out;have h2:=HLEN.out;rw [List.take_length,h2,List.take_length] at h1;exact h1))
    clear hlt hi
    go_wp2_with fail
    go_ret
    exact ⟨by rw [HE.out];rfl,HBL.out⟩
 ·have e1:((xs.length:Int) != (ys.length:Int))=true:=by simp;omega
  have HE:Hid (eqB xs ys=false):=Lib.hid (eqB_false fun e=>hlen (by rw [e]))
  clear ha hb H hac hbc hlen
  go_enter Tryz.func33,Tryz.ntmps33
  go_wp2_with fail
  go_ret
  exact ⟨by rw [HE.out];rfl,Below.refl _ _⟩
theorem bytes_eq {a b:ByteArray} (h:a.toList=b.toList):a=b:=
 of_decide_eq_true ((str_eq a b).symm.trans (by rw [h];exact beq_self_eq_true _))
theorem eqB_kids {x y:PE} (h0:(x.op:Int)=(y.op:Int)) (h1:(x.v.k:Int)=(y.v.k:Int)) (h2:x.v.n=y.v.n) (h3:x.v.s.toList=y.v.s.toList) (h4:x.t.toList=y.t.toList) (h5:x.m.toList=y.m.toList) (h6:x.n=y.n) :
 eqB x y=eqB x.kids y.kids:=by
 have h3:=bytes_eq h3
 have h4:=bytes_eq h4
 have h5:=bytes_eq h5
 obtain ⟨o,⟨k,i,s⟩,t,m,n,l⟩:=x
 obtain ⟨o',⟨k',i',s'⟩,t',m',n',l'⟩:=y
 simp only [PE.op,PE.v,PE.t,PE.m,PE.n,PE.kids] at *
 obtain rfl:o=o':=by omega
 obtain rfl:k=k':=by omega
 subst h2;subst h3;subst h4;subst h5;subst h6
 by_cases h:l=l'
 ·rw [eqB_true.2 h,h];exact eqB_self _
 ·rw [eqB_false h];exact eqB_false fun e=>h (by cases e;rfl)
set_option maxRecDepth 100000 in
set_option maxHeartbeats 16000000 in
theorem sameEx1 (x y:PE) (ka kb:Option Addr) (kc kd:Nat) (w:World)
 (H:∀ W,Below w.heap.size w W→Calls Tryz.prog 33 #[.slice ka x.kids.length kc,.slice kb y.kids.length kd,.func (.func 15) #[] #[]] W fun e w'=>e = .returned (.bool (eqB x.kids y.kids))∧Below W.heap.size W w') :
 Calls Tryz.prog 15 #[x.val (.slice ka x.kids.length kc),y.val (.slice kb y.kids.length kd)] w fun e w'=>e = .returned (.bool (eqB x y))∧Below w.heap.size w w':=by
 have HH:=Lib.hid H
 clear H
 unfold PE.val
 have hbA:Below w.heap.size w ((w.alloc (.cells #[.int .u8 (x.op:Int),.int .u8 (x.v.k:Int),.int .i64 x.v.n,.string x.v.s,.string x.t,.string x.m,.int .i64 x.n,.slice ka x.kids.length kc] 48)).alloc (.cells #[.int .u8 (y.op:Int),.int .u8 (y.v.k:Int),.int .i64 y.v.n,.string y.v.s,.string y.t,.string y.m,.int .i64 y.n,.slice kb y.kids.length kd] 48)):=((Below.refl _ _).alloc (Nat.le_refl _) _).alloc (by simp) _
 have HR0:=Lib.hid ((row_alloc w 48 #[.int .u8 (x.op:Int),.int .u8 (x.v.k:Int),.int .i64 x.v.n,.string x.v.s,.string x.t,.string x.m,.int .i64 x.n,.slice ka x.kids.length kc]).later ((Below.refl _ _).alloc (Nat.le_refl _) (.cells #[.int .u8 (y.op:Int),.int .u8 (y.v.k:Int),.int .i64 y.v.n,.string y.v.s,.string y.t,.string y.m,.int .i64 y.n,.slice kb y.kids.length kd] 48)))
 have HR1:=Lib.hid (row_alloc (w.alloc (.cells #[.int .u8 (x.op:Int),.int .u8 (x.v.k:Int),.int .i64 x.v.n,.string x.v.s,.string x.t,.string x.m,.int .i64 x.n,.slice ka x.kids.length kc] 48)) 48 #[.int .u8 (y.op:Int),.int .u8 (y.v.k:Int),.int .i64 y.v.n,.string y.v.s,.string y.t,.string y.m,.int .i64 y.n,.slice kb y.kids.length kd])
 have HS1:Hid ((w.alloc (.cells #[.int .u8 (x.op:Int),.int .u8 (x.v.k:Int),.int .i64 x.v.n,.string x.v.s,.string x.t,.string x.m,.int .i64 x.n,.slice ka x.kids.length kc] 48)).heap.size=w.heap.size + 1):=Lib.hid (by simp)
 rw [HS1.out] at HR1
 go_enter Tryz.func15,Tryz.ntmps15
 go_upto_region 1 with fail
 have HBA:=Lib.hid hbA
 clear hbA HS1
 generalize (w.alloc (.cells #[.int .u8 (x.op:Int),.int .u8 (x.v.k:Int),.int .i64 x.v.n,.string x.v.s,.string x.t,.string x.m,.int .i64 x.n,.slice ka x.kids.length kc] 48)).alloc (.cells #[.int .u8 (y.op:Int),.int .u8 (y.v.k:Int),.int .i64 y.v.n,.string y.v.s,.string y.t,.string y.m,.int .i64 y.n,.slice kb y.kids.length kd] 48)=w2 at *
 have l0:=(HR0.out.cell (i:=0) rfl)
 have m0:=(HR1.out.cell (i:=0) rfl)
 have l1:=(HR0.out.cell (i:=1) rfl)
 have m1:=(HR1.out.cell (i:=1) rfl)
 have l2:=(HR0.out.cell (i:=2) rfl)
 have m2:=(HR1.out.cell (i:=2) rfl)
 have l3:=(HR0.out.cell (i:=3) rfl)
 have m3:=(HR1.out.cell (i:=3) rfl)
 have l4:=(HR0.out.cell (i:=4) rfl)
 have m4:=(HR1.out.cell (i:=4) rfl)
 have l5:=(HR0.out.cell (i:=5) rfl)
 have m5:=(HR1.out.cell (i:=5) rfl)
 have l6:=(HR0.out.cell (i:=6) rfl)
 have m6:=(HR1.out.cell (i:=6) rfl)
 have l7:=(HR0.out.cell (i:=7) rfl)
 have m7:=(HR1.out.cell (i:=7) rfl)
 go_wp2_with fail
 all_goals first
  | (refine (HH.out _ HBA.out).mono ?_
     have HE:Hid (eqB x y=eqB x.kids y.kids):=Lib.hid (eqB_kids (by assumption) (by assumption) (by assumption) (by assumption) (by assumption) (by assumption) (by assumption))
     intro e w3 hr
     obtain ⟨rfl,hb3⟩:=hr
     have HB3:=Lib.hid (next HBA.out hb3)
     clear hb3 l0 l1 l2 l3 l4 l5 l6 l7 m0 m1 m2 m3 m4 m5 m6 m7
     go_wp2_with fail
     go_ret
     exact ⟨by rw [HE.out];rfl,HB3.out⟩)
  | (have HE:Hid (eqB x y=false):=Lib.hid (eqB_false fun e=>by subst e;contradiction)
     go_ret
     exact ⟨by rw [HE.out];rfl,HBA.out⟩)
inductive Short:PE→Prop
 | mk (x:PE):x.kids.length ≤ 140737488351232→(∀ y,y ∈ x.kids→Short y)→Short x
theorem sameEx {x:PE} (h:Short x):∀ (y:PE) (kx ky:Value) (W:World),ExsR W kx x.kids→ExsR W ky y.kids →
 Calls Tryz.prog 15 #[x.val kx,y.val ky] W fun e w'=>e = .returned (.bool (eqB x y))∧Below W.heap.size W w':=by
 induction h with
 | mk x hl _ ih=>
  intro y kx ky W hx hy
  obtain ⟨ka,kc,rfl,_⟩:=hx.shape
  obtain ⟨kb,kd,rfl,_⟩:=hy.shape
  exact sameEx1 x y ka kb kc kd W fun W2 hb=>alikeEx x.kids y.kids _ _ W2 (exsR_below hx hb) (exsR_below hy hb) hl fun _ a b ha _ kx ky W3 h1 h2=>ih a (List.mem_of_getElem? ha) b kx ky W3 h1 h2
theorem sameExs {xs ys:List PE} (hs:∀ x,x ∈ xs→Short x) (hl:xs.length ≤ 140737488351232) {va vb:Value} {w:World} (ha:ExsR w va xs) (hb:ExsR w vb ys) :
 Calls Tryz.prog 33 #[va,vb,.func (.func 15) #[] #[]] w fun e w'=>e = .returned (.bool (eqB xs ys))∧Below w.heap.size w w':=
 alikeEx xs ys va vb w ha hb hl fun _ a b hi _ kx ky W h1 h2=>sameEx (hs a (List.mem_of_getElem? hi)) b kx ky W h1 h2
def TxtR (_:World) (c:List Value) (x:ByteArray):Prop:=c = [.string x]
theorem txt_at {w:World} {a:Option Addr} {n c k:Nat} {l:List ByteArray} {x:ByteArray} (h:SlR 1 TxtR w (.slice a n c) l) (hk:l[k]? = some x):∃ b o,a=some ⟨b,o,none⟩∧w.cell? ⟨b,o + k,none⟩=some (.string x):=by
 obtain ⟨b,o,cs,rfl,_,rfl,hc⟩:=h.get hk
 have:=hc 0 _ rfl
 rw [Nat.mul_one] at this
 exact ⟨b,o,rfl,this⟩
theorem col_at {w:World} {a:Option Addr} {n c k:Nat} {l:List PCol} {x:PCol} (h:SlR 3 ColR w (.slice a n c) l) (hk:l[k]? = some x):∃ b o,a=some ⟨b,o,none⟩∧w.cell? ⟨b,o + k * 3,none⟩=some (.string x.name)∧w.cell? ⟨b,o + k * 3 + 1,none⟩=some (.int .u8 (x.ty:Int))∧w.cell? ⟨b,o + k * 3 + 2,none⟩=some (.bool x.nn):=by
 obtain ⟨b,o,cs,rfl,_,rfl,hc⟩:=h.get hk
 exact ⟨b,o,rfl,hc 0 _ rfl,hc 1 _ rfl,hc 2 _ rfl⟩
set_option maxRecDepth 100000 in
set_option maxHeartbeats 4000000 in
theorem txtSame (x y:ByteArray) (w:World):Calls Tryz.prog 45 #[.string x,.string y] w fun e w'=>e = .returned (.bool (eqB x y))∧Below w.heap.size w w':=by
 by_cases h:x=y
 ·subst h
  have HE:Hid (eqB x x=true):=Lib.hid (eqB_self x)
  go_enter Tryz.func45,Tryz.ntmps45
  go_wp2_with fail
  all_goals first | (go_ret;exact ⟨by rw [HE.out];rfl,Below.refl _ _⟩) | contradiction
 ·have HE:Hid (eqB x y=false):=Lib.hid (eqB_false h)
  have hl:(x.toList == y.toList)=false:=(str_eq x y).trans (decide_eq_false h)
  clear h
  go_enter Tryz.func45,Tryz.ntmps45
  go_wp2_with fail
  all_goals first | (go_ret;exact ⟨by rw [HE.out];rfl,Below.refl _ _⟩) | simp_all
theorem eqB_col {x y:PCol} (h0:x.name.toList=y.name.toList) (h1:(x.ty:Int)=(y.ty:Int)) (h2:x.nn=y.nn):eqB x y=true:=by
 have g0:=bytes_eq h0
 clear h0
 obtain ⟨a,b,c⟩:=x
 obtain ⟨a',b',c'⟩:=y
 simp only at g0 h1 h2
 obtain rfl:b=b':=by omega
 subst g0;subst h2
 exact eqB_self _
set_option maxRecDepth 100000 in
set_option maxHeartbeats 4000000 in
theorem colSame (x y:PCol) (w:World):Calls Tryz.prog 47 #[.agg #[.string x.name,.int .u8 (x.ty:Int),.bool x.nn],.agg #[.string y.name,.int .u8 (y.ty:Int),.bool y.nn]] w fun e w'=>e = .returned (.bool (eqB x y))∧Below w.heap.size w w':=by
 have hbA:Below w.heap.size w ((w.alloc (.cells #[.string x.name,.int .u8 (x.ty:Int),.bool x.nn] 89)).alloc (.cells #[.string y.name,.int .u8 (y.ty:Int),.bool y.nn] 89)):=((Below.refl _ _).alloc (Nat.le_refl _) _).alloc (by simp) _
 have HR0:=Lib.hid ((row_alloc w 89 #[.string x.name,.int .u8 (x.ty:Int),.bool x.nn]).later ((Below.refl _ _).alloc (Nat.le_refl _) (.cells #[.string y.name,.int .u8 (y.ty:Int),.bool y.nn] 89)))
 have HR1:=Lib.hid (row_alloc (w.alloc (.cells #[.string x.name,.int .u8 (x.ty:Int),.bool x.nn] 89)) 89 #[.string y.name,.int .u8 (y.ty:Int),.bool y.nn])
 have HS1:Hid ((w.alloc (.cells #[.string x.name,.int .u8 (x.ty:Int),.bool x.nn] 89)).heap.size=w.heap.size + 1):=Lib.hid (by simp)
 rw [HS1.out] at HR1
 go_enter Tryz.func47,Tryz.ntmps47
 go_upto_region 1 with fail
 have HBA:=Lib.hid hbA
 clear hbA HS1
 generalize (w.alloc (.cells #[.string x.name,.int .u8 (x.ty:Int),.bool x.nn] 89)).alloc (.cells #[.string y.name,.int .u8 (y.ty:Int),.bool y.nn] 89)=w2 at *
 have l0:=HR0.out.cell (i:=0) rfl
 have m0:=HR1.out.cell (i:=0) rfl
 have l1:=HR0.out.cell (i:=1) rfl
 have m1:=HR1.out.cell (i:=1) rfl
 have l2:=HR0.out.cell (i:=2) rfl
 have m2:=HR1.out.cell (i:=2) rfl
 go_wp2_with fail
 all_goals first
  | (have HE:Hid (eqB x y=true):=Lib.hid (eqB_col (by assumption) (by assumption) (by assumption))
     go_ret
     exact ⟨by rw [HE.out];rfl,HBA.out⟩)
  | (have HE:Hid (eqB x y=false):=Lib.hid (eqB_false fun e=>by subst e;contradiction)
     go_ret
     exact ⟨by rw [HE.out];rfl,HBA.out⟩)
set_option maxRecDepth 100000 in
set_option maxHeartbeats 16000000 in
theorem alikeTxt (xs ys:List ByteArray) (va vb:Value) (w:World) (ha:SlR 1 TxtR w va xs) (hb:SlR 1 TxtR w vb ys) (hla:xs.length ≤ 140737488351232) :
 Calls Tryz.prog 48 #[va,vb,.func (.func 45) #[] #[]] w fun e w'=>e = .returned (.bool (eqB xs ys))∧Below w.heap.size w w':=by
 obtain ⟨aa,ac,rfl,hac⟩:=ha.shape
 obtain ⟨ba,bc,rfl,hbc⟩:=hb.shape
 have HA:=Lib.hid ha
 have HB:=Lib.hid hb
 by_cases hlen:xs.length=ys.length
 ·have e1:((xs.length:Int) != (ys.length:Int))=false:=by simp [hlen]
  have HLEN:=Lib.hid hlen
  clear ha hb hac hbc hlen
  go_enter Tryz.func48,Tryz.ntmps48
  go_wp2_with fail
  go_loopg [15] xs.length (fun gk iv wr=>∃ (i:Nat),iv = .int .i64 (i:Int)∧gk=xs.length - i∧i ≤ xs.length∧Hid (Below w.heap.size w wr)∧Hid (xs.take i=ys.take i))
  case atStart=>exact ⟨0,rfl,rfl,Nat.zero_le _,Lib.hid (Below.refl _ _),Lib.hid rfl⟩
  case round=>
   obtain ⟨i,rfl,rfl,hi,HBL,HT⟩:=hrel
   by_cases hlt:i < xs.length
   ·obtain ⟨x,hx⟩:∃ x,xs[i]? = some x:=⟨xs[i],by simp⟩
    obtain ⟨y,hy⟩:∃ y,ys[i]? = some y:=⟨ys[i]'(by have:=HLEN.out;omega),by simp⟩
    have hwa:=SlR.below HA.out HBL.out fun _ _ h=>h
    have hwb:=SlR.below HB.out HBL.out fun _ _ h=>h
    obtain ⟨b1,o1,rfl,p0⟩:=txt_at hwa hx
    obtain ⟨b2,o2,rfl,q0⟩:=txt_at hwb hy
    have HC:Hid (∀ W,Calls Tryz.prog 45 #[.string x,.string y] W fun e w'=>e = .returned (.bool (eqB x y))∧Below W.heap.size W w'):=Lib.hid (fun W=>txtSame x y W)
    have HX:=Lib.hid hx
    have HY:=Lib.hid hy
    have ilt:(i:Int) < (xs.length:Int):=by omega
    have ilt2:(i:Int) < (ys.length:Int):=by have:=HLEN.out;omega
    have ige:(0:Int) ≤ (i:Int):=by omega
    have HLT:=Lib.hid hlt
    clear hx hy hwa hwb hlt
    go_upto_region 6 with fail
    have l0:=lat_cell p0
    have m0:=lat_cell q0
    refine wp_region_later (by kernel_rfl) (by kernel_rfl) ?_
    repeat (go_big_quiet_step (exact lat_calls (HC.out _)))
    refine wpQuiet_nil ?_
    refine later_out (fun w2 hb2=>?_)
    have HB2:=Lib.hid (next HBL.out hb2)
    clear l0 m0 p0 q0 hb2
    by_cases hxy:x=y
    ·have e2:eqB x y=true:=eqB_true.2 hxy
     have HT2:Hid (xs.take (i + 1)=ys.take (i + 1)):=Lib.hid (by
      rw [List.take_add_one,List.take_add_one,HT.out,HX.out,HY.out,hxy])
     rw [e2]
     clear e2 hxy
     go_wp2_with fail
     go_roundg (xs.length - (i + 1))
     case measure=>exact Nat.sub_lt_sub_left HLT.out (Nat.lt_succ_self _)
     case rel=>exact ⟨i + 1,by go_num,rfl,HLT.out,HB2,HT2⟩
    ·have e2:eqB x y=false:=eqB_false hxy
     have HE:Hid (eqB xs ys=false):=Lib.hid (eqB_false fun e=>hxy (by have h1:=HX.out;have h2:=HY.out;rw [e,h2] at h1;cases h1;rfl))
     rw [e2]
     clear e2 hxy
     go_wp2_with fail
     go_ret
     exact ⟨by rw [HE.out];rfl,HB2.out⟩
   ·obtain rfl:i=xs.length:=by omega
    have HE:Hid (eqB xs ys=true):=Lib.hid (eqB_true.2 (by have h1:=HT.out;have h2:=HLEN.out;rw [List.take_length,h2,List.take_length] at h1;exact h1))
    clear hlt hi
    go_wp2_with fail
    go_ret
    exact ⟨by rw [HE.out];rfl,HBL.out⟩
 ·have e1:((xs.length:Int) != (ys.length:Int))=true:=by simp;omega
  have HE:Hid (eqB xs ys=false):=Lib.hid (eqB_false fun e=>hlen (by rw [e]))
  clear ha hb hac hbc hlen
  go_enter Tryz.func48,Tryz.ntmps48
  go_wp2_with fail
  go_ret
  exact ⟨by rw [HE.out];rfl,Below.refl _ _⟩
set_option maxRecDepth 100000 in
set_option maxHeartbeats 16000000 in
theorem alikeCol (xs ys:List PCol) (va vb:Value) (w:World) (ha:SlR 3 ColR w va xs) (hb:SlR 3 ColR w vb ys) (hla:xs.length ≤ 140737488351232) :
 Calls Tryz.prog 46 #[va,vb,.func (.func 47) #[] #[]] w fun e w'=>e = .returned (.bool (eqB xs ys))∧Below w.heap.size w w':=by
 obtain ⟨aa,ac,rfl,hac⟩:=ha.shape
 obtain ⟨ba,bc,rfl,hbc⟩:=hb.shape
 have HA:=Lib.hid ha
 have HB:=Lib.hid hb
 by_cases hlen:xs.length=ys.length
 ·have e1:((xs.length:Int) != (ys.length:Int))=false:=by simp [hlen]
  have HLEN:=Lib.hid hlen
  clear ha hb hac hbc hlen
  go_enter Tryz.func46,Tryz.ntmps46
  go_wp2_with fail
  go_loopg [15] xs.length (fun gk iv wr=>∃ (i:Nat),iv = .int .i64 (i:Int)∧gk=xs.length - i∧i ≤ xs.length∧Hid (Below w.heap.size w wr)∧Hid (xs.take i=ys.take i))
  case atStart=>exact ⟨0,rfl,rfl,Nat.zero_le _,Lib.hid (Below.refl _ _),Lib.hid rfl⟩
  case round=>
   obtain ⟨i,rfl,rfl,hi,HBL,HT⟩:=hrel
   by_cases hlt:i < xs.length
   ·obtain ⟨x,hx⟩:∃ x,xs[i]? = some x:=⟨xs[i],by simp⟩
    obtain ⟨y,hy⟩:∃ y,ys[i]? = some y:=⟨ys[i]'(by have:=HLEN.out;omega),by simp⟩
    have hwa:=SlR.below HA.out HBL.out fun _ _ h=>h
    have hwb:=SlR.below HB.out HBL.out fun _ _ h=>h
    obtain ⟨b1,o1,rfl,p0,p1,p2⟩:=col_at hwa hx
    obtain ⟨b2,o2,rfl,q0,q1,q2⟩:=col_at hwb hy
    have HC:Hid (∀ W,Calls Tryz.prog 47 #[.agg #[.string x.name,.int .u8 (x.ty:Int),.bool x.nn],.agg #[.string y.name,.int .u8 (y.ty:Int),.bool y.nn]] W fun e w'=>e = .returned (.bool (eqB x y))∧Below W.heap.size W w'):=Lib.hid (fun W=>colSame x y W)
    have HX:=Lib.hid hx
    have HY:=Lib.hid hy
    have ilt:(i:Int) < (xs.length:Int):=by omega
    have ilt2:(i:Int) < (ys.length:Int):=by have:=HLEN.out;omega
    have ige:(0:Int) ≤ (i:Int):=by omega
    have HLT:=Lib.hid hlt
    clear hx hy hwa hwb hlt
    go_upto_region 6 with fail
    have l0:=lat_cell p0;have l1:=lat_cell p1;have l2:=lat_cell p2
    have m0:=lat_cell q0;have m1:=lat_cell q1;have m2:=lat_cell q2
    refine wp_region_later (by kernel_rfl) (by kernel_rfl) ?_
    repeat (go_big_quiet_step (exact lat_calls (HC.out _)))
    refine wpQuiet_nil ?_
    refine later_out (fun w2 hb2=>?_)
    have HB2:=Lib.hid (next HBL.out hb2)
    clear l0 l1 l2 m0 m1 m2 p0 p1 p2 q0 q1 q2 hb2
    by_cases hxy:x=y
    ·have e2:eqB x y=true:=eqB_true.2 hxy
     have HT2:Hid (xs.take (i + 1)=ys.take (i + 1)):=Lib.hid (by
      rw [List.take_add_one,List.take_add_one,HT.out,HX.out,HY.out,hxy])
     rw [e2]
     clear e2 hxy
     go_wp2_with fail
     go_roundg (xs.length - (i + 1))
     case measure=>exact Nat.sub_lt_sub_left HLT.out (Nat.lt_succ_self _)
     case rel=>exact ⟨i + 1,by go_num,rfl,HLT.out,HB2,HT2⟩
    ·have e2:eqB x y=false:=eqB_false hxy
     have HE:Hid (eqB xs ys=false):=Lib.hid (eqB_false fun e=>hxy (by have h1:=HX.out;have h2:=HY.out;rw [e,h2] at h1;cases h1;rfl))
     rw [e2]
     clear e2 hxy
     go_wp2_with fail
     go_ret
     exact ⟨by rw [HE.out];rfl,HB2.out⟩
   ·obtain rfl:i=xs.length:=by omega
    have HE:Hid (eqB xs ys=true):=Lib.hid (eqB_true.2 (by have h1:=HT.out;have h2:=HLEN.out;rw [List.take_length,h2,List.take_length] at h1;exact h1))
    clear hlt hi
    go_wp2_with fail
    go_ret
    exact ⟨by rw [HE.out];rfl,HBL.out⟩
 ·have e1:((xs.length:Int) != (ys.length:Int))=true:=by simp;omega
  have HE:Hid (eqB xs ys=false):=Lib.hid (eqB_false fun e=>hlen (by rw [e]))
  clear ha hb hac hbc hlen
  go_enter Tryz.func46,Tryz.ntmps46
  go_wp2_with fail
  go_ret
  exact ⟨by rw [HE.out];rfl,Below.refl _ _⟩
end Go.Proofs.YtmdogmpcmkfjpaaGreatDoor.Dt
