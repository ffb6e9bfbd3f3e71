import Derived.Deep.DeepCutAuto
import Derived.Test.YtmdogmpcmkfjpaaGreatDoorBn35
/- Part of the proof (merged). -/
namespace Go.Proofs.YtmdogmpcmkfjpaaGreatDoor.Dt
open Go.RowKit Go.Proofs.YtmdogmpcmkfjpaaGreatDoor.By
theorem setR_below {w w':World} {c:List Value} {x:ByteArray × PE} (hb:Below w.heap.size w w') (h:SetR w c x):SetR w' c x:=by
 obtain ⟨ec,e,h⟩:=h
 exact ⟨ec,e,exR_below h hb⟩
theorem itemR_below {w w':World} {c:List Value} {x:PE × ByteArray} (hb:Below w.heap.size w w') (h:ItemR w c x):ItemR w' c x:=by
 obtain ⟨ec,e,h⟩:=h
 exact ⟨ec,e,exR_below h hb⟩
theorem orderR_below {w w':World} {c:List Value} {x:PE × Bool} (hb:Below w.heap.size w w') (h:OrderR w c x):OrderR w' c x:=by
 obtain ⟨ec,e,h⟩:=h
 exact ⟨ec,e,exR_below h hb⟩
theorem srcR_below {w w':World} {c:List Value} {x:PSrc} (hb:Below w.heap.size w w') (h:SrcR w c x):SrcR w' c x:=by
 obtain ⟨v,e,h⟩:=h
 exact ⟨v,e,exsR_below h hb⟩
theorem rowR_below {w w':World} {c:List Value} {x:List PE} (hb:Below w.heap.size w w') (h:RowR w c x):RowR w' c x:=by
 obtain ⟨v,e,h⟩:=h
 exact ⟨v,e,exsR_below h hb⟩
theorem set_at {w:World} {a:Option Addr} {n c k:Nat} {l:List (ByteArray × PE)} {x:(ByteArray × PE)} (h:SlR 9 SetR w (.slice a n c) l) (hk:l[k]? = some x):∃ b o kv,a=some ⟨b,o,none⟩∧ExsR w kv x.2.kids∧w.cell? ⟨b,o + k * 9,none⟩=some (.string x.1)∧w.cell? ⟨b,o + k * 9 + 1,none⟩=some (.int .u8 (x.2.op:Int))∧w.cell? ⟨b,o + k * 9 + 2,none⟩=some (.int .u8 (x.2.v.k:Int))∧w.cell? ⟨b,o + k * 9 + 3,none⟩=some (.int .i64 x.2.v.n)∧w.cell? ⟨b,o + k * 9 + 4,none⟩=some (.string x.2.v.s)∧w.cell? ⟨b,o + k * 9 + 5,none⟩=some (.string x.2.t)∧w.cell? ⟨b,o + k * 9 + 6,none⟩=some (.string x.2.m)∧w.cell? ⟨b,o + k * 9 + 7,none⟩=some (.int .i64 x.2.n)∧w.cell? ⟨b,o + k * 9 + 8,none⟩=some (kv):=by
 obtain ⟨b,o,cs,rfl,_,hx,hc⟩:=h.get hk
 obtain ⟨ec,rfl,hx⟩:=hx
 obtain ⟨kv,rfl,hkids⟩:=exR_iff.1 hx
 exact ⟨b,o,kv,rfl,hkids,hc 0 _ rfl,hc 1 _ rfl,hc 2 _ rfl,hc 3 _ rfl,hc 4 _ rfl,hc 5 _ rfl,hc 6 _ rfl,hc 7 _ rfl,hc 8 _ rfl⟩
theorem item_at {w:World} {a:Option Addr} {n c k:Nat} {l:List (PE × ByteArray)} {x:(PE × ByteArray)} (h:SlR 9 ItemR w (.slice a n c) l) (hk:l[k]? = some x):∃ b o kv,a=some ⟨b,o,none⟩∧ExsR w kv x.1.kids∧w.cell? ⟨b,o + k * 9,none⟩=some (.int .u8 (x.1.op:Int))∧w.cell? ⟨b,o + k * 9 + 1,none⟩=some (.int .u8 (x.1.v.k:Int))∧w.cell? ⟨b,o + k * 9 + 2,none⟩=some (.int .i64 x.1.v.n)∧w.cell? ⟨b,o + k * 9 + 3,none⟩=some (.string x.1.v.s)∧w.cell? ⟨b,o + k * 9 + 4,none⟩=some (.string x.1.t)∧w.cell? ⟨b,o + k * 9 + 5,none⟩=some (.string x.1.m)∧w.cell? ⟨b,o + k * 9 + 6,none⟩=some (.int .i64 x.1.n)∧w.cell? ⟨b,o + k * 9 + 7,none⟩=some (kv)∧w.cell? ⟨b,o + k * 9 + 8,none⟩=some (.string x.2):=by
 obtain ⟨b,o,cs,rfl,_,hx,hc⟩:=h.get hk
 obtain ⟨ec,rfl,hx⟩:=hx
 obtain ⟨kv,rfl,hkids⟩:=exR_iff.1 hx
 exact ⟨b,o,kv,rfl,hkids,hc 0 _ rfl,hc 1 _ rfl,hc 2 _ rfl,hc 3 _ rfl,hc 4 _ rfl,hc 5 _ rfl,hc 6 _ rfl,hc 7 _ rfl,hc 8 _ rfl⟩
theorem order_at {w:World} {a:Option Addr} {n c k:Nat} {l:List (PE × Bool)} {x:(PE × Bool)} (h:SlR 9 OrderR w (.slice a n c) l) (hk:l[k]? = some x):∃ b o kv,a=some ⟨b,o,none⟩∧ExsR w kv x.1.kids∧w.cell? ⟨b,o + k * 9,none⟩=some (.int .u8 (x.1.op:Int))∧w.cell? ⟨b,o + k * 9 + 1,none⟩=some (.int .u8 (x.1.v.k:Int))∧w.cell? ⟨b,o + k * 9 + 2,none⟩=some (.int .i64 x.1.v.n)∧w.cell? ⟨b,o + k * 9 + 3,none⟩=some (.string x.1.v.s)∧w.cell? ⟨b,o + k * 9 + 4,none⟩=some (.string x.1.t)∧w.cell? ⟨b,o + k * 9 + 5,none⟩=some (.string x.1.m)∧w.cell? ⟨b,o + k * 9 + 6,none⟩=some (.int .i64 x.1.n)∧w.cell? ⟨b,o + k * 9 + 7,none⟩=some (kv)∧w.cell? ⟨b,o + k * 9 + 8,none⟩=some (.bool x.2):=by
 obtain ⟨b,o,cs,rfl,_,hx,hc⟩:=h.get hk
 obtain ⟨ec,rfl,hx⟩:=hx
 obtain ⟨kv,rfl,hkids⟩:=exR_iff.1 hx
 exact ⟨b,o,kv,rfl,hkids,hc 0 _ rfl,hc 1 _ rfl,hc 2 _ rfl,hc 3 _ rfl,hc 4 _ rfl,hc 5 _ rfl,hc 6 _ rfl,hc 7 _ rfl,hc 8 _ rfl⟩
theorem src_at {w:World} {a:Option Addr} {n c k:Nat} {l:List PSrc} {x:PSrc} (h:SlR 3 SrcR w (.slice a n c) l) (hk:l[k]? = some x):∃ b o kv,a=some ⟨b,o,none⟩∧ExsR w kv x.on∧w.cell? ⟨b,o + k * 3,none⟩=some (.string x.table)∧w.cell? ⟨b,o + k * 3 + 1,none⟩=some (.string x.as)∧w.cell? ⟨b,o + k * 3 + 2,none⟩=some (kv):=by
 obtain ⟨b,o,cs,rfl,_,hx,hc⟩:=h.get hk
 obtain ⟨kv,rfl,hkids⟩:=hx
 exact ⟨b,o,kv,rfl,hkids,hc 0 _ rfl,hc 1 _ rfl,hc 2 _ rfl⟩
theorem rowl_at {w:World} {a:Option Addr} {n c k:Nat} {l:List (List PE)} {x:(List PE)} (h:SlR 1 RowR w (.slice a n c) l) (hk:l[k]? = some x):∃ b o kv,a=some ⟨b,o,none⟩∧ExsR w kv x∧w.cell? ⟨b,o + k,none⟩=some (kv):=by
 obtain ⟨b,o,cs,rfl,_,hx,hc⟩:=h.get hk
 obtain ⟨kv,rfl,hkids⟩:=hx
 have:=hc 0 _ rfl
 rw [Nat.mul_one] at this
 exact ⟨b,o,kv,rfl,hkids,this⟩
set_option maxRecDepth 100000 in
set_option maxHeartbeats 16000000 in
theorem alikeRow (xs ys:List (List PE)) (va vb:Value) (w:World) (ha:SlR 1 RowR w va xs) (hb:SlR 1 RowR w vb ys) (hla:xs.length ≤ 140737488351232)
 (H:∀ x,x ∈ xs→(∀ e,e ∈ x→Short e)∧x.length ≤ 140737488351232) :
 Calls Tryz.prog 49 #[va,vb,.func (.func 50) #[] #[]] w fun e w'=>e = .returned (.bool (eqB xs ys))∧Below w.heap.size w w':=by
 obtain ⟨aa,ac,rfl,hac⟩:=ha.shape
 obtain ⟨ba,bc,rfl,hbc⟩:=hb.shape
 have HA:=Lib.hid ha
 have HB:=Lib.hid hb
 have HH:=Lib.hid H
 by_cases hlen:xs.length=ys.length
 ·have e1:((xs.length:Int) != (ys.length:Int))=false:=by simp [hlen]
  have HLEN:=Lib.hid hlen
  clear ha hb H hac hbc hlen
  go_enter Tryz.func49,Tryz.ntmps49
  go_wp2_with fail
  go_loopg [15] xs.length (fun gk iv wr=>∃ (i:Nat),iv = .int .i64 (i:Int)∧gk=xs.length - i∧i ≤ xs.length∧Hid (Below w.heap.size w wr)∧Hid (xs.take i=ys.take i))
  case atStart=>exact ⟨0,rfl,rfl,Nat.zero_le _,Lib.hid (Below.refl _ _),Lib.hid rfl⟩
  case round=>
   obtain ⟨i,rfl,rfl,hi,HBL,HT⟩:=hrel
   by_cases hlt:i < xs.length
   ·obtain ⟨x,hx⟩:∃ x,xs[i]? = some x:=⟨xs[i],by simp⟩
    obtain ⟨y,hy⟩:∃ y,ys[i]? = some y:=⟨ys[i]'(by have:=HLEN.out;omega),by simp⟩
    have hwa:=SlR.below HA.out HBL.out fun _ _=>rowR_below HBL.out
    have hwb:=SlR.below HB.out HBL.out fun _ _=>rowR_below HBL.out
    obtain ⟨b1,o1,k1,rfl,hk1,p0⟩:=rowl_at hwa hx
    obtain ⟨b2,o2,k2,rfl,hk2,q0⟩:=rowl_at hwb hy
    obtain ⟨ka,kc,rfl,_⟩:=hk1.shape
    obtain ⟨ja,jc,rfl,_⟩:=hk2.shape
    have HC:Hid (∀ W,Below wr.heap.size wr W→Calls Tryz.prog 50 #[.slice ka x.length kc,.slice ja y.length jc] W fun e w'=>e = .returned (.bool (eqB x y))∧Below W.heap.size W w'):=Lib.hid (fun W hW=>rowSame (HH.out x (List.mem_of_getElem? hx)).1 (HH.out x (List.mem_of_getElem? hx)).2 (exsR_below hk1 hW) (exsR_below hk2 hW))
    have HX:=Lib.hid hx
    have HY:=Lib.hid hy
    have ilt:(i:Int) < (xs.length:Int):=by omega
    have ilt2:(i:Int) < (ys.length:Int):=by have:=HLEN.out;omega
    have ige:(0:Int) ≤ (i:Int):=by omega
    have HLT:=Lib.hid hlt
    clear hx hy hwa hwb hk1 hk2 hlt
    go_upto_region 6 with fail
    have l0:=lat_cell p0
    have m0:=lat_cell q0
    refine wp_region_later (by kernel_rfl) (by kernel_rfl) ?_
    repeat (go_big_quiet_step (exact lat_calls (HC.out _ (lat_below _ _))))
    refine wpQuiet_nil ?_
    refine later_out (fun w2 hb2=>?_)
    have HB2:=Lib.hid (next HBL.out hb2)
    clear l0 m0 p0 q0 hb2
    by_cases hxy:x=y
    ·have e2:eqB x y=true:=eqB_true.2 hxy
     have HT2:Hid (xs.take (i + 1)=ys.take (i + 1)):=Lib.hid (by
      rw [List.take_add_one,List.take_add_one,HT.out,HX.out,HY.out,hxy])
     rw [e2]
     clear e2 hxy
     go_wp2_with fail
     go_roundg (xs.length - (i + 1))
     case measure=>exact Nat.sub_lt_sub_left HLT.out (Nat.lt_succ_self _)
     case rel=>exact ⟨i + 1,by go_num,rfl,HLT.out,HB2,HT2⟩
    ·have e2:eqB x y=false:=eqB_false hxy
     have HE:Hid (eqB xs ys=false):=Lib.hid (eqB_false fun e=>hxy (by have h1:=HX.out;have h2:=HY.out;rw [e,h2] at h1;cases h1;rfl))
     rw [e2]
     clear e2 hxy
     go_wp2_with fail
     go_ret
     exact ⟨by rw [HE.out];rfl,HB2.out⟩
   ·obtain rfl:i=xs.length:=by omega
    have HE:Hid (eqB xs ys=true):=Lib.hid (eqB_true.2 (by have h1:=HT.out;have h2:=HLEN.out;rw [List.take_length,h2,List.take_length] at h1;exact h1))
    clear hlt hi
    go_wp2_with fail
    go_ret
    exact ⟨by rw [HE.out];rfl,HBL.out⟩
 ·have e1:((xs.length:Int) != (ys.length:Int))=true:=by simp;omega
  have HE:Hid (eqB xs ys=false):=Lib.hid (eqB_false fun e=>hlen (by rw [e]))
  clear ha hb H hac hbc hlen
  go_enter Tryz.func49,Tryz.ntmps49
  go_wp2_with fail
  go_ret
  exact ⟨by rw [HE.out];rfl,Below.refl _ _⟩
set_option maxRecDepth 100000 in
set_option maxHeartbeats 16000000 in
theorem alikeSet (xs ys:List (ByteArray × PE)) (va vb:Value) (w:World) (ha:SlR 9 SetR w va xs) (hb:SlR 9 SetR w vb ys) (hla:xs.length ≤ 140737488351232)
 (H:∀ x,x ∈ xs→Short x.2) :
 Calls Tryz.prog 51 #[va,vb,.func (.func 52) #[] #[]] w fun e w'=>e = .returned (.bool (eqB xs ys))∧Below w.heap.size w w':=by
 obtain ⟨aa,ac,rfl,hac⟩:=ha.shape
 obtain ⟨ba,bc,rfl,hbc⟩:=hb.shape
 have HA:=Lib.hid ha
 have HB:=Lib.hid hb
 have HH:=Lib.hid H
 by_cases hlen:xs.length=ys.length
 ·have e1:((xs.length:Int) != (ys.length:Int))=false:=by simp [hlen]
  have HLEN:=Lib.hid hlen
  clear ha hb H hac hbc hlen
  go_enter Tryz.func51,Tryz.ntmps51
  go_wp2_with fail
  go_loopg [15] xs.length (fun gk iv wr=>∃ (i:Nat),iv = .int .i64 (i:Int)∧gk=xs.length - i∧i ≤ xs.length∧Hid (Below w.heap.size w wr)∧Hid (xs.take i=ys.take i))
  case atStart=>exact ⟨0,rfl,rfl,Nat.zero_le _,Lib.hid (Below.refl _ _),Lib.hid rfl⟩
  case round=>
   obtain ⟨i,rfl,rfl,hi,HBL,HT⟩:=hrel
   by_cases hlt:i < xs.length
   ·obtain ⟨x,hx⟩:∃ x,xs[i]? = some x:=⟨xs[i],by simp⟩
    obtain ⟨y,hy⟩:∃ y,ys[i]? = some y:=⟨ys[i]'(by have:=HLEN.out;omega),by simp⟩
    have hwa:=SlR.below HA.out HBL.out fun _ _=>setR_below HBL.out
    have hwb:=SlR.below HB.out HBL.out fun _ _=>setR_below HBL.out
    obtain ⟨b1,o1,k1,rfl,hk1,p0,p1,p2,p3,p4,p5,p6,p7,p8⟩:=set_at hwa hx
    obtain ⟨b2,o2,k2,rfl,hk2,q0,q1,q2,q3,q4,q5,q6,q7,q8⟩:=set_at hwb hy
    obtain ⟨ka,kc,rfl,_⟩:=hk1.shape
    obtain ⟨ja,jc,rfl,_⟩:=hk2.shape
    have HC:Hid (∀ W,Below wr.heap.size wr W→Calls Tryz.prog 52 #[.agg #[.string x.1,.int .u8 (x.2.op:Int),.int .u8 (x.2.v.k:Int),.int .i64 x.2.v.n,.string x.2.v.s,.string x.2.t,.string x.2.m,.int .i64 x.2.n,.slice ka x.2.kids.length kc],.agg #[.string y.1,.int .u8 (y.2.op:Int),.int .u8 (y.2.v.k:Int),.int .i64 y.2.v.n,.string y.2.v.s,.string y.2.t,.string y.2.m,.int .i64 y.2.n,.slice ja y.2.kids.length jc]] W fun e w'=>e = .returned (.bool (eqB x y))∧Below W.heap.size W w'):=Lib.hid (fun W hW=>setSame1 x.1 y.1 x.2 y.2 ka ja kc jc W (fun W2 hb=>sameEx (HH.out x (List.mem_of_getElem? hx)) y.2 _ _ W2 (exsR_below (exsR_below hk1 hW) hb) (exsR_below (exsR_below hk2 hW) hb)))
    have HX:=Lib.hid hx
    have HY:=Lib.hid hy
    have ilt:(i:Int) < (xs.length:Int):=by omega
    have ilt2:(i:Int) < (ys.length:Int):=by have:=HLEN.out;omega
    have ige:(0:Int) ≤ (i:Int):=by omega
    have HLT:=Lib.hid hlt
    clear hx hy hwa hwb hk1 hk2 hlt
    go_upto_region 6 with fail
    have l0:=lat_cell p0;have l1:=lat_cell p1;have l2:=lat_cell p2;have l3:=lat_cell p3;have l4:=lat_cell p4;have l5:=lat_cell p5;have l6:=lat_cell p6;have l7:=lat_cell p7;have l8:=lat_cell p8
    have m0:=lat_cell q0;have m1:=lat_cell q1;have m2:=lat_cell q2;have m3:=lat_cell q3;have m4:=lat_cell q4;have m5:=lat_cell q5;have m6:=lat_cell q6;have m7:=lat_cell q7;have m8:=lat_cell q8
    refine wp_region_later (by kernel_rfl) (by kernel_rfl) ?_
    repeat (go_big_quiet_step (exact lat_calls (HC.out _ (lat_below _ _))))
    refine wpQuiet_nil ?_
    refine later_out (fun w2 hb2=>?_)
    have HB2:=Lib.hid (next HBL.out hb2)
    clear l0 l1 l2 l3 l4 l5 l6 l7 l8 m0 m1 m2 m3 m4 m5 m6 m7 m8 p0 p1 p2 p3 p4 p5 p6 p7 p8 q0 q1 q2 q3 q4 q5 q6 q7 q8 hb2
    by_cases hxy:x=y
    ·have e2:eqB x y=true:=eqB_true.2 hxy
     have HT2:Hid (xs.take (i + 1)=ys.take (i + 1)):=Lib.hid (by
      rw [List.take_add_one,List.take_add_one,HT.out,HX.out,HY.out,hxy])
     rw [e2]
     clear e2 hxy
     go_wp2_with fail
     go_roundg (xs.length - (i + 1))
     case measure=>exact Nat.sub_lt_sub_left HLT.out (Nat.lt_succ_self _)
     case rel=>exact ⟨i + 1,by go_num,rfl,HLT.out,HB2,HT2⟩
    ·have e2:eqB x y=false:=eqB_false hxy
     have HE:Hid (eqB xs ys=false):=Lib.hid (eqB_false fun e=>hxy (by have h1:=HX.out;have h2:=HY.out;rw [e,h2] at h1;cases h1;rfl))
     rw [e2]
     clear e2 hxy
     go_wp2_with fail
     go_ret
     exact ⟨by rw [HE.out];rfl,HB2.out⟩
   ·obtain rfl:i=xs.length:=by omega
    have HE:Hid (eqB xs ys=true):=Lib.hid (eqB_true.2 (by have h1:=HT.out;have h2:=HLEN.out;rw [List.take_length,h2,List.take_length] at h1;exact h1))
    clear hlt hi
    go_wp2_with fail
    go_ret
    exact ⟨by rw [HE.out];rfl,HBL.out⟩
 ·have e1:((xs.length:Int) != (ys.length:Int))=true:=by simp;omega
  have HE:Hid (eqB xs ys=false):=Lib.hid (eqB_false fun e=>hlen (by rw [e]))
  clear ha hb H hac hbc hlen
  go_enter Tryz.func51,Tryz.ntmps51
  go_wp2_with fail
  go_ret
  exact ⟨by rw [HE.out];rfl,Below.refl _ _⟩
set_option maxRecDepth 100000 in
set_option maxHeartbeats 16000000 in
theorem alikeItem (xs ys:List (PE × ByteArray)) (va vb:Value) (w:World) (ha:SlR 9 ItemR w va xs) (hb:SlR 9 ItemR w vb ys) (hla:xs.length ≤ 140737488351232)
 (H:∀ x,x ∈ xs→Short x.1) :
 Calls Tryz.prog 53 #[va,vb,.func (.func 54) #[] #[]] w fun e w'=>e = .returned (.bool (eqB xs ys))∧Below w.heap.size w w':=by
 obtain ⟨aa,ac,rfl,hac⟩:=ha.shape
 obtain ⟨ba,bc,rfl,hbc⟩:=hb.shape
 have HA:=Lib.hid ha
 have HB:=Lib.hid hb
 have HH:=Lib.hid H
 by_cases hlen:xs.length=ys.length
 ·have e1:((xs.length:Int) != (ys.length:Int))=false:=by simp [hlen]
  have HLEN:=Lib.hid hlen
  clear ha hb H hac hbc hlen
  go_enter Tryz.func53,Tryz.ntmps53
  go_wp2_with fail
  go_loopg [15] xs.length (fun gk iv wr=>∃ (i:Nat),iv = .int .i64 (i:Int)∧gk=xs.length - i∧i ≤ xs.length∧Hid (Below w.heap.size w wr)∧Hid (xs.take i=ys.take i))
  case atStart=>exact ⟨0,rfl,rfl,Nat.zero_le _,Lib.hid (Below.refl _ _),Lib.hid rfl⟩
  case round=>
   obtain ⟨i,rfl,rfl,hi,HBL,HT⟩:=hrel
   by_cases hlt:i < xs.length
   ·obtain ⟨x,hx⟩:∃ x,xs[i]? = some x:=⟨xs[i],by simp⟩
    obtain ⟨y,hy⟩:∃ y,ys[i]? = some y:=⟨ys[i]'(by have:=HLEN.out;omega),by simp⟩
    have hwa:=SlR.below HA.out HBL.out fun _ _=>itemR_below HBL.out
    have hwb:=SlR.below HB.out HBL.out fun _ _=>itemR_below HBL.out
    obtain ⟨b1,o1,k1,rfl,hk1,p0,p1,p2,p3,p4,p5,p6,p7,p8⟩:=item_at hwa hx
    obtain ⟨b2,o2,k2,rfl,hk2,q0,q1,q2,q3,q4,q5,q6,q7,q8⟩:=item_at hwb hy
    obtain ⟨ka,kc,rfl,_⟩:=hk1.shape
    obtain ⟨ja,jc,rfl,_⟩:=hk2.shape
    have HC:Hid (∀ W,Below wr.heap.size wr W→Calls Tryz.prog 54 #[.agg #[.int .u8 (x.1.op:Int),.int .u8 (x.1.v.k:Int),.int .i64 x.1.v.n,.string x.1.v.s,.string x.1.t,.string x.1.m,.int .i64 x.1.n,.slice ka x.1.kids.length kc,.string x.2],.agg #[.int .u8 (y.1.op:Int),.int .u8 (y.1.v.k:Int),.int .i64 y.1.v.n,.string y.1.v.s,.string y.1.t,.string y.1.m,.int .i64 y.1.n,.slice ja y.1.kids.length jc,.string y.2]] W fun e w'=>e = .returned (.bool (eqB x y))∧Below W.heap.size W w'):=Lib.hid (fun W hW=>itemSame1 x.2 y.2 x.1 y.1 ka ja kc jc W (fun W2 hb=>sameEx (HH.out x (List.mem_of_getElem? hx)) y.1 _ _ W2 (exsR_below (exsR_below hk1 hW) hb) (exsR_below (exsR_below hk2 hW) hb)))
    have HX:=Lib.hid hx
    have HY:=Lib.hid hy
    have ilt:(i:Int) < (xs.length:Int):=by omega
    have ilt2:(i:Int) < (ys.length:Int):=by have:=HLEN.out;omega
    have ige:(0:Int) ≤ (i:Int):=by omega
    have HLT:=Lib.hid hlt
    clear hx hy hwa hwb hk1 hk2 hlt
    go_upto_region 6 with fail
    have l0:=lat_cell p0;have l1:=lat_cell p1;have l2:=lat_cell p2;have l3:=lat_cell p3;have l4:=lat_cell p4;have l5:=lat_cell p5;have l6:=lat_cell p6;have l7:=lat_cell p7;have l8:=lat_cell p8
    have m0:=lat_cell q0;have m1:=lat_cell q1;have m2:=lat_cell q2;have m3:=lat_cell q3;have m4:=lat_cell q4;have m5:=lat_cell q5;have m6:=lat_cell q6;have m7:=lat_cell q7;have m8:=lat_cell q8
    refine wp_region_later (by kernel_rfl) (by kernel_rfl) ?_
    repeat (go_big_quiet_step (exact lat_calls (HC.out _ (lat_below _ _))))
    refine wpQuiet_nil ?_
    refine later_out (fun w2 hb2=>?_)
    have HB2:=Lib.hid (next HBL.out hb2)
    clear l0 l1 l2 l3 l4 l5 l6 l7 l8 m0 m1 m2 m3 m4 m5 m6 m7 m8 p0 p1 p2 p3 p4 p5 p6 p7 p8 q0 q1 q2 q3 q4 q5 q6 q7 q8 hb2
    by_cases hxy:x=y
    ·have e2:eqB x y=true:=eqB_true.2 hxy
     have HT2:Hid (xs.take (i + 1)=ys.take (i + 1)):=Lib.hid (by
      rw [List.take_add_one,List.take_add_one,HT.out,HX.out,HY.out,hxy])
     rw [e2]
     clear e2 hxy
     go_wp2_with fail
     go_roundg (xs.length - (i + 1))
     case measure=>exact Nat.sub_lt_sub_left HLT.out (Nat.lt_succ_self _)
     case rel=>exact ⟨i + 1,by go_num,rfl,HLT.out,HB2,HT2⟩
    ·have e2:eqB x y=false:=eqB_false hxy
     have HE:Hid (eqB xs ys=false):=Lib.hid (eqB_false fun e=>hxy (by have h1:=HX.out;have h2:=HY.out;rw [e,h2] at h1;cases h1;rfl))
     rw [e2]
     clear e2 hxy
     go_wp2_with fail
     go_ret
     exact ⟨by rw [HE.out];rfl,HB2.out⟩
   ·obtain rfl:i=xs.length:=by omega
    have HE:Hid (eqB xs ys=true):=Lib.hid (eqB_true.2 (by have h1:=HT.out;have h2:=HLEN.out;rw [List.take_length,h2,List.take_length] at h1;exact h1))
    clear hlt hi
    go_wp2_with fail
    go_ret
    exact ⟨by rw [HE.out];rfl,HBL.out⟩
 ·have e1:((xs.length:Int) != (ys.length:Int))=true:=by simp;omega
  have HE:Hid (eqB xs ys=false):=Lib.hid (eqB_false fun e=>hlen (by rw [e]))
  clear ha hb H hac hbc hlen
  go_enter Tryz.func53,Tryz.ntmps53
  go_wp2_with fail
  go_ret
  exact ⟨by rw [HE.out];rfl,Below.refl _ _⟩
set_option maxRecDepth 100000 in
set_option maxHeartbeats 16000000 in
theorem alikeSrc (xs ys:List PSrc) (va vb:Value) (w:World) (ha:SlR 3 SrcR w va xs) (hb:SlR 3 SrcR w vb ys) (hla:xs.length ≤ 140737488351232)
 (H:∀ x,x ∈ xs→(∀ e,e ∈ x.on→Short e)∧x.on.length ≤ 140737488351232) :
 Calls Tryz.prog 55 #[va,vb,.func (.func 56) #[] #[]] w fun e w'=>e = .returned (.bool (eqB xs ys))∧Below w.heap.size w w':=by
 obtain ⟨aa,ac,rfl,hac⟩:=ha.shape
 obtain ⟨ba,bc,rfl,hbc⟩:=hb.shape
 have HA:=Lib.hid ha
 have HB:=Lib.hid hb
 have HH:=Lib.hid H
 by_cases hlen:xs.length=ys.length
 ·have e1:((xs.length:Int) != (ys.length:Int))=false:=by simp [hlen]
  have HLEN:=Lib.hid hlen
  clear ha hb H hac hbc hlen
  go_enter Tryz.func55,Tryz.ntmps55
  go_wp2_with fail
  go_loopg [15] xs.length (fun gk iv wr=>∃ (i:Nat),iv = .int .i64 (i:Int)∧gk=xs.length - i∧i ≤ xs.length∧Hid (Below w.heap.size w wr)∧Hid (xs.take i=ys.take i))
  case atStart=>exact ⟨0,rfl,rfl,Nat.zero_le _,Lib.hid (Below.refl _ _),Lib.hid rfl⟩
  case round=>
   obtain ⟨i,rfl,rfl,hi,HBL,HT⟩:=hrel
   by_cases hlt:i < xs.length
   ·obtain ⟨x,hx⟩:∃ x,xs[i]? = some x:=⟨xs[i],by simp⟩
    obtain ⟨y,hy⟩:∃ y,ys[i]? = some y:=⟨ys[i]'(by have:=HLEN.out;omega),by simp⟩
    have hwa:=SlR.below HA.out HBL.out fun _ _=>srcR_below HBL.out
    have hwb:=SlR.below HB.out HBL.out fun _ _=>srcR_below HBL.out
    obtain ⟨b1,o1,k1,rfl,hk1,p0,p1,p2⟩:=src_at hwa hx
    obtain ⟨b2,o2,k2,rfl,hk2,q0,q1,q2⟩:=src_at hwb hy
    obtain ⟨ka,kc,rfl,_⟩:=hk1.shape
    obtain ⟨ja,jc,rfl,_⟩:=hk2.shape
    have HC:Hid (∀ W,Below wr.heap.size wr W→Calls Tryz.prog 56 #[.agg #[.string x.table,.string x.as,.slice ka x.on.length kc],.agg #[.string y.table,.string y.as,.slice ja y.on.length jc]] W fun e w'=>e = .returned (.bool (eqB x y))∧Below W.heap.size W w'):=Lib.hid (fun W hW=>srcSame1 x y ka ja kc jc W (fun W2 hb=>sameExs (HH.out x (List.mem_of_getElem? hx)).1 (HH.out x (List.mem_of_getElem? hx)).2 (exsR_below (exsR_below hk1 hW) hb) (exsR_below (exsR_below hk2 hW) hb)))
    have HX:=Lib.hid hx
    have HY:=Lib.hid hy
    have ilt:(i:Int) < (xs.length:Int):=by omega
    have ilt2:(i:Int) < (ys.length:Int):=by have:=HLEN.out;omega
    have ige:(0:Int) ≤ (i:Int):=by omega
    have HLT:=Lib.hid hlt
    clear hx hy hwa hwb hk1 hk2 hlt
    go_upto_region 6 with fail
    have l0:=lat_cell p0;have l1:=lat_cell p1;have l2:=lat_cell p2
    have m0:=lat_cell q0;have m1:=lat_cell q1;have m2:=lat_cell q2
    refine wp_region_later (by kernel_rfl) (by kernel_rfl) ?_
    repeat (go_big_quiet_step (exact lat_calls (HC.out _ (lat_below _ _))))
    refine wpQuiet_nil ?_
    refine later_out (fun w2 hb2=>?_)
    have HB2:=Lib.hid (next HBL.out hb2)
    clear l0 l1 l2 m0 m1 m2 p0 p1 p2 q0 q1 q2 hb2
    by_cases hxy:x=y
    ·have e2:eqB x y=true:=eqB_true.2 hxy
     have HT2:Hid (xs.take (i + 1)=ys.take (i + 1)):=Lib.hid (by
      rw [List.take_add_one,List.take_add_one,HT.out,HX.out,HY.out,hxy])
     rw [e2]
     clear e2 hxy
     go_wp2_with fail
     go_roundg (xs.length - (i + 1))
     case measure=>exact Nat.sub_lt_sub_left HLT.out (Nat.lt_succ_self _)
     case rel=>exact ⟨i + 1,by go_num,rfl,HLT.out,HB2,HT2⟩
    ·have e2:eqB x y=false:=eqB_false hxy
     have HE:Hid (eqB xs ys=false):=Lib.hid (eqB_false fun e=>hxy (by have h1:=HX.out;have h2:=HY.out;rw [e,h2] at h1;cases h1;rfl))
     rw [e2]
     clear e2 hxy
     go_wp2_with fail
     go_ret
     exact ⟨by rw [HE.out];rfl,HB2.out⟩
   ·obtain rfl:i=xs.length:=by omega
    have HE:Hid (eqB xs ys=true):=Lib.hid (eqB_true.2 (by have h1:=HT.out;have h2:=HLEN.out;rw [List.take_length,h2,List.take_length] at h1;exact h1))
    clear hlt hi
    go_wp2_with fail
    go_ret
    exact ⟨by rw [HE.out];rfl,HBL.out⟩
 ·have e1:((xs.length:Int) != (ys.length:Int))=true:=by simp;omega
  have HE:Hid (eqB xs ys=false):=Lib.hid (eqB_false fun e=>hlen (by rw [e]))
  clear ha hb H hac hbc hlen
  go_enter Tryz.func55,Tryz.ntmps55
  go_wp2_with fail
  go_ret
  exact ⟨by rw [HE.out];rfl,Below.refl _ _⟩
set_option maxRecDepth 100000 in
set_option maxHeartbeats 16000000 in
theorem alikeOrder (xs ys:List (PE × Bool)) (va vb:Value) (w:World) (ha:SlR 9 OrderR w va xs) (hb:SlR 9 OrderR w vb ys) (hla:xs.length ≤ 140737488351232)
 (H:∀ x,x ∈ xs→Short x.1) :
 Calls Tryz.prog 57 #[va,vb,.func (.func 58) #[] #[]] w fun e w'=>e = .returned (.bool (eqB xs ys))∧Below w.heap.size w w':=by
 obtain ⟨aa,ac,rfl,hac⟩:=ha.shape
 obtain ⟨ba,bc,rfl,hbc⟩:=hb.shape
 have HA:=Lib.hid ha
 have HB:=Lib.hid hb
 have HH:=Lib.hid H
 by_cases hlen:xs.length=ys.length
 ·have e1:((xs.length:Int) != (ys.length:Int))=false:=by simp [hlen]
  have HLEN:=Lib.hid hlen
  clear ha hb H hac hbc hlen
  go_enter Tryz.func57,Tryz.ntmps57
  go_wp2_with fail
  go_loopg [15] xs.length (fun gk iv wr=>∃ (i:Nat),iv = .int .i64 (i:Int)∧gk=xs.length - i∧i ≤ xs.length∧Hid (Below w.heap.size w wr)∧Hid (xs.take i=ys.take i))
  case atStart=>exact ⟨0,rfl,rfl,Nat.zero_le _,Lib.hid (Below.refl _ _),Lib.hid rfl⟩
  case round=>
   obtain ⟨i,rfl,rfl,hi,HBL,HT⟩:=hrel
   by_cases hlt:i < xs.length
   ·obtain ⟨x,hx⟩:∃ x,xs[i]? = some x:=⟨xs[i],by simp⟩
    obtain ⟨y,hy⟩:∃ y,ys[i]? = some y:=⟨ys[i]'(by have:=HLEN.out;omega),by simp⟩
    have hwa:=SlR.below HA.out HBL.out fun _ _=>orderR_below HBL.out
    have hwb:=SlR.below HB.out HBL.out fun _ _=>orderR_below HBL.out
    obtain ⟨b1,o1,k1,rfl,hk1,p0,p1,p2,p3,p4,p5,p6,p7,p8⟩:=order_at hwa hx
    obtain ⟨b2,o2,k2,rfl,hk2,q0,q1,q2,q3,q4,q5,q6,q7,q8⟩:=order_at hwb hy
    obtain ⟨ka,kc,rfl,_⟩:=hk1.shape
    obtain ⟨ja,jc,rfl,_⟩:=hk2.shape
    have HC:Hid (∀ W,Below wr.heap.size wr W→Calls Tryz.prog 58 #[.agg #[.int .u8 (x.1.op:Int),.int .u8 (x.1.v.k:Int),.int .i64 x.1.v.n,.string x.1.v.s,.string x.1.t,.string x.1.m,.int .i64 x.1.n,.slice ka x.1.kids.length kc,.bool x.2],.agg #[.int .u8 (y.1.op:Int),.int .u8 (y.1.v.k:Int),.int .i64 y.1.v.n,.string y.1.v.s,.string y.1.t,.string y.1.m,.int .i64 y.1.n,.slice ja y.1.kids.length jc,.bool y.2]] W fun e w'=>e = .returned (.bool (eqB x y))∧Below W.heap.size W w'):=Lib.hid (fun W hW=>orderSame1 x.2 y.2 x.1 y.1 ka ja kc jc W (fun W2 hb=>sameEx (HH.out x (List.mem_of_getElem? hx)) y.1 _ _ W2 (exsR_below (exsR_below hk1 hW) hb) (exsR_below (exsR_below hk2 hW) hb)))
    have HX:=Lib.hid hx
    have HY:=Lib.hid hy
    have ilt:(i:Int) < (xs.length:Int):=by omega
    have ilt2:(i:Int) < (ys.length:Int):=by have:=HLEN.out;omega
    have ige:(0:Int) ≤ (i:Int):=by omega
    have HLT:=Lib.hid hlt
    clear hx hy hwa hwb hk1 hk2 hlt
    go_upto_region 6 with fail
    have l0:=lat_cell p0;have l1:=lat_cell p1;have l2:=lat_cell p2;have l3:=lat_cell p3;have l4:=lat_cell p4;have l5:=lat_cell p5;have l6:=lat_cell p6;have l7:=lat_cell p7;have l8:=lat_cell p8
    have m0:=lat_cell q0;have m1:=lat_cell q1;have m2:=lat_cell q2;have m3:=lat_cell q3;have m4:=lat_cell q4;have m5:=lat_cell q5;have m6:=lat_cell q6;have m7:=lat_cell q7;have m8:=lat_cell q8
    refine wp_region_later (by kernel_rfl) (by kernel_rfl) ?_
    repeat (go_big_quiet_step (exact lat_calls (HC.out _ (lat_below _ _))))
    refine wpQuiet_nil ?_
    refine later_out (fun w2 hb2=>?_)
    have HB2:=Lib.hid (next HBL.out hb2)
    clear l0 l1 l2 l3 l4 l5 l6 l7 l8 m0 m1 m2 m3 m4 m5 m6 m7 m8 p0 p1 p2 p3 p4 p5 p6 p7 p8 q0 q1 q2 q3 q4 q5 q6 q7 q8 hb2
    by_cases hxy:x=y
    ·have e2:eqB x y=true:=eqB_true.2 hxy
     have HT2:Hid (xs.take (i + 1)=ys.take (i + 1)):=Lib.hid (by
      rw [List.take_add_one,List.take_add_one,HT.out,HX.out,HY.out,hxy])
     rw [e2]
     clear e2 hxy
     go_wp2_with fail
     go_roundg (xs.length - (i + 1))
     case measure=>exact Nat.sub_lt_sub_left HLT.out (Nat.lt_succ_self _)
     case rel=>exact ⟨i + 1,by go_num,rfl,HLT.out,HB2,HT2⟩
    ·have e2:eqB x y=false:=eqB_false hxy
     have HE:Hid (eqB xs ys=false):=Lib.hid (eqB_false fun e=>hxy (by have h1:=HX.out;have h2:=HY.out;rw [e,h2] at h1;cases h1;rfl))
     rw [e2]
     clear e2 hxy
     go_wp2_with fail
     go_ret
     exact ⟨by rw [HE.out];rfl,HB2.out⟩
   ·obtain rfl:i=xs.length:=by omega
    have HE:Hid (eqB xs ys=true):=Lib.hid (eqB_true.2 (by have h1:=HT.out;have h2:=HLEN.out;rw [List.take_length,h2,List.take_length] at h1;exact h1))
    clear hlt hi
    go_wp2_with fail
    go_ret
    exact ⟨by rw [HE.out];rfl,HBL.out⟩
 ·have e1:((xs.length:Int) != (ys.length:Int))=true:=by simp;omega
  have HE:Hid (eqB xs ys=false):=Lib.hid (eqB_false fun e=>hlen (by rw [e]))
  clear ha hb H hac hbc hlen
  go_enter Tryz.func57,Tryz.ntmps57
  go_wp2_with fail
  go_ret
  exact ⟨by rw [HE.out];rfl,Below.refl _ _⟩
end Go.Proofs.YtmdogmpcmkfjpaaGreatDoor.Dt
