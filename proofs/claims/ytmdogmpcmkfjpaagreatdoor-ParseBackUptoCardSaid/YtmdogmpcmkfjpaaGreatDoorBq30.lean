import Derived.Test.YtmdogmpcmkfjpaaGreatDoorBq29
import Derived.Test.YtmdogmpcmkfjpaaGreatDoorBq26
import Derived.Test.YtmdogmpcmkfjpaaGreatDoorBq10
set_option maxRecDepth 100000
set_option maxHeartbeats 64000000
/- Part. -/
namespace Go.Proofs.YtmdogmpcmkfjpaaGreatDoor.Dt
open Go.RowKit Go.Proofs.YtmdogmpcmkfjpaaGreatDoor.By
theorem Zow (w:List UInt8) (xs:List PE) (x:PE) (a:List UInt8):Z8 w (xs ++ [x]) a=wrE x (Ze [w] (Z8 w xs a)):=by
 induction xs generalizing a with
 | nil=>rfl
 | cons y l ih=>exact ih _
theorem Zqb (w:List UInt8) (xs ys:List PE) (a:List UInt8):Z8 w (xs ++ ys) a=Z8 w ys (Z8 w xs a):=by
 induction xs generalizing a with
 | nil=>rfl
 | cons y l ih=>exact ih _
theorem Zbn (w:List UInt8) (xs:List PE) (a:List UInt8):a.length ≤ (Z8 w xs a).length:=by
 induction xs generalizing a with
 | nil=>exact Nat.le_refl _
 | cons y l ih=>exact Nat.le_trans (Nat.le_trans (Zk _ _) (Zdg _ _)) (ih _)
theorem Zko (w1:World) (b:Nat) (word:ByteArray) (xs:List PE) (hE:∀ x,x ∈ xs→EXW w1 b x) (l:List UInt8) (w:World) (va:Value) (h:WS w1 b l w) (hs:Zbq w1 va xs) (hlen:(Z8 (W1 word) xs l).length ≤ 140737488355328) (hn:xs.length ≤ 140737488351232) :
 Calls Tryz.prog 67 #[pV b,.string word,va] w (Zbg w1 b (Z8 (W1 word) xs l) w):=by
 obtain ⟨ka,kc,rfl,_⟩:=hs.shape
 have HW:=Lh h
 have HK:=Lh hs
 have HLN:=Lh hlen
 have HE:=Lh hE
 clear h hs hlen hE
 go_enter Tryz.func67,Tryz.ntmps67
 go_wp2_with fail
 go_loopg [10] xs.length (fun gk iv wr=>∃ (i:Nat),iv = .int .i64 (i:Int)∧gk=xs.length - i∧i ≤ xs.length∧Hid (WS w1 b (Z8 (W1 word) (xs.take i) l) wr)∧Hid (Za6 b w wr))
 case atStart=>exact ⟨0,rfl,rfl,Nat.zero_le _,HW,Lh (Za6.refl _ _)⟩
 case round=>
  obtain ⟨i,rfl,rfl,hi,HS,HKE⟩:=hrel
  by_cases hlt:i < xs.length
  ·obtain ⟨x,hx⟩:∃ x,xs[i]? = some x:=⟨xs[i],by simp⟩
   have hsn:Z8 (W1 word) (xs.take (i + 1)) l=wrE x (Ze [W1 word] (Z8 (W1 word) (xs.take i) l)):=by
    rw [List.take_add_one,hx]
    exact Zow _ _ _ _
   have HLE:Hid ((wrE x (Ze [W1 word] (Z8 (W1 word) (xs.take i) l))).length ≤ 140737488355328):=Lh (by
    have e:xs=xs.take (i + 1) ++ xs.drop (i + 1):=(List.take_append_drop _ _).symm
    have h1:=HLN.out
    rw [e,Zqb] at h1
    rw [← hsn]
    exact Nat.le_trans (Zbn _ _ _) h1)
   have HSN:=Lh hsn
   obtain ⟨kq,ko,kv,rfl,HKV,p0,p1,p2,p3,p4,p5,p6,p7⟩:=Zix HS.out HK.out hx
   obtain ⟨ja,jc,rfl,_⟩:=HKV.shape
   have HKV:=Lh HKV
   have HEX:=Lh (HE.out x (List.mem_of_getElem? hx))
   have ilt:(i:Int) < (xs.length:Int):=kW
   have ige:(0:Int) ≤ (i:Int):=kW
   have HLT:=Lh hlt
   generalize Z8 (W1 word) (xs.take i) l=L0 at *
   have HXB:=Lh (HS.out.box 48 (eA x ja jc))
   have HW1:=Lh (HS.out.alloc (.cells (eA x ja jc) 48))
   have HK1:=Lh (HKE.out.trans (HS.out.keepAlloc (.cells (eA x ja jc) 48)))
   clear hx hsn hlt
   go_upto_region 3 with fail
   clear p0 p1 p2 p3 p4 p5 p6 p7
   generalize wr.alloc (.cells (eA x ja jc) 48)=wa at *
   generalize wr.heap.size=q at *
   have HP:=Lh (Zas [word] w1 b L0 wa HW1.out (Nat.le_trans (Zdg _ _) HLE.out) kY)
   go_wp2_with fail
   refine HP.out.mono ?_
   rintro e2 w2 ⟨rfl,hs2,hk2⟩
   have HX2:=Lh (HXB.out.keep hk2)
   have HK2:=Lh (HK1.out.trans hk2)
   have hc:=HEX.out _ w2 _ hs2 HKV.out HLE.out
   unfold PE.val at hc
   have HC:=Lh hc
   clear hs2 hk2 hc HP
   obtain ⟨b0,b1,b2,b3,b4,b5,b6,b7⟩:=eC HX2.out.row
   go_wp2_with fail
   refine HC.out.mono ?_
   rintro e3 w3 ⟨rfl,hs3,hk3⟩
   have HS3:Hid (WS w1 b (Z8 (W1 word) (xs.take (i + 1)) l) w3):=Lh kb9
   have HK3:=Lh (HK2.out.trans hk3)
   clear hs3 hk3 HC b0 b1 b2 b3 b4 b5 b6 b7
   exact ks4
  obtain rfl:i=xs.length:=kW
  have HSF:Hid (WS w1 b (Z8 (W1 word) xs l) wr):=Lh kb5
  clear hlt hi
  go_wp2_with fail
  go_end0
  exact ⟨rfl,HSF.out,HKE.out⟩
theorem Zkj {α:Type} (one:α→List UInt8→List UInt8) (x:α):∀ (xs:List α) (f:Bool) (a:List UInt8),Zm one f (xs ++ [x]) a=one x (if f && xs.isEmpty then Zm one f xs a else Ze [W1 Zy] (Zm one f xs a))
 | [],true,a=>rfl
 | [],false,a=>rfl
 | y :: l,f,a=>by
  show Zm one false (l ++ [x]) _=_
  rw [Zkj one x l false]
  simp only [Bool.false_and,Bool.false_eq_true,if_false,List.isEmpty_cons,Bool.and_false]
  rfl
theorem Za8 {α:Type} {one:α→List UInt8→List UInt8} (h:∀ x a,a.length ≤ (one x a).length):∀ (xs:List α) (f:Bool) (a:List UInt8),a.length ≤ (Zm one f xs a).length
 | [],f,a=>Nat.le_refl _
 | y :: l,f,a=>by
  refine Nat.le_trans ?_ (Za8 h l false _)
  refine Nat.le_trans ?_ (h _ _)
  split
  ·exact Nat.le_refl _
  ·exact Zk _ _
theorem Zls {α:Type} (one:α→List UInt8→List UInt8):∀ (xs ys:List α) (f:Bool) (a:List UInt8),Zm one f (xs ++ ys) a=Zm one (f && xs.isEmpty) ys (Zm one f xs a)
 | [],ys,f,a=>by simp [Zm]
 | x :: l,ys,f,a=>by
  show Zm one false (l ++ ys) _=_
  rw [Zls one l ys false]
  simp only [Bool.false_and,List.isEmpty_cons,Bool.and_false]
  rfl
theorem Zwj (w1:World) (b qf:Nat) (one:ByteArray→List UInt8→List UInt8) (hmono:∀ x a,a.length ≤ (one x a).length) (xs:List ByteArray) (l:List UInt8) (w:World) (va:Value) (h:WS w1 b l w) (hs:SlR 1 Zqc w1 va xs)
 (hq:BX b qf 61 #[pV b] w)
 (HO:∀ (x:ByteArray) (l:List UInt8) (w:World),x ∈ xs→WS w1 b l w→BX b qf 61 #[pV b] w→(one x l).length ≤ 140737488355328→Calls Tryz.prog 99 #[.string x,pV qf] w (Zbg w1 b (one x l) w))
 (hlen:(Zm one true xs l).length ≤ 140737488355328) (hn:xs.length ≤ 140737488351232) :
 Calls Tryz.prog 98 #[pV b,va,.func (.func 99) #[] #[pV qf]] w (Zbg w1 b (Zm one true xs l) w):=by
 obtain ⟨ka,kc,rfl,_⟩:=hs.shape
 have HW:=Lh h
 have HK:=Lh hs
 have HQ:=Lh hq
 have HLN:=Lh hlen
 have HONE:=Lh HO
 clear h hs hlen hq HO
 go_enter Tryz.func98,Tryz.ntmps98
 go_wp2_with fail
 go_loopg [10] xs.length (fun gk iv wr=>∃ (i:Nat),iv = .int .i64 (i:Int)∧gk=xs.length - i∧i ≤ xs.length∧Hid (WS w1 b (Zm one true (xs.take i) l) wr)∧Hid (Za6 b w wr))
 case atStart=>exact ⟨0,rfl,rfl,Nat.zero_le _,HW,Lh (Za6.refl _ _)⟩
 case round=>
  obtain ⟨i,rfl,rfl,hi,HS,HKE⟩:=hrel
  by_cases hlt:i < xs.length
  ·obtain ⟨x,hx⟩:∃ x,xs[i]? = some x:=⟨xs[i],by simp⟩
   have hsn:Zm one true (xs.take (i + 1)) l=one x (if i=0 then Zm one true (xs.take i) l else Ze [W1 Zy] (Zm one true (xs.take i) l)):=by
    exact ks8
   have HLE:Hid ((Zm one true (xs.take (i + 1)) l).length ≤ 140737488355328):=Lh (by
    exact ks19)
   have HSN:=Lh hsn
   obtain ⟨kq,ko,rfl,g0⟩:=Zk6 HK.out hx
   have p0:=(HS.out.low.cell (Zd g0)).trans g0
   clear g0
   have ilt:(i:Int) < (xs.length:Int):=kW
   have ige:(0:Int) ≤ (i:Int):=kW
   have HLT:=Lh hlt
   have HM:=Lh (List.mem_of_getElem? hx)
   have HQ1:=Lh (HQ.out.keep HKE.out)
   generalize Zm one true (xs.take i) l=L0 at *
   clear hx hsn hlt
   by_cases h0:i=0
   ·have ig:¬ (0:Int) < (i:Int):=kW
    have HSN:Hid (Zm one true (xs.take (i + 1)) l=one x L0):=Lh kb43
    rw [HSN.out] at HLE
    have HC:=Lh (HONE.out x L0 wr HM.out HS.out HQ1.out HLE.out)
    exact ks83
   have ig:(0:Int) < (i:Int):=kW
   have HSN:Hid (Zm one true (xs.take (i + 1)) l=one x (Ze [W1 Zy] L0)):=Lh kb44
   rw [HSN.out] at HLE
   have HP:=Lh (Zas [Zy] w1 b L0 wr HS.out (Nat.le_trans (hmono _ _) HLE.out) kY)
   clear h0
   go_wp2_with fail
   refine HP.out.mono ?_
   rintro e2 w2 ⟨rfl,hs2,hk2⟩
   have HK2:=Lh (HKE.out.trans hk2)
   have HC:=Lh (HONE.out x _ w2 HM.out hs2 (HQ1.out.keep hk2) HLE.out)
   exact ks82
  exact ks31
theorem Zrr (w1:World) (b qf:Nat) (one:PE→List UInt8→List UInt8) (hmono:∀ x a,a.length ≤ (one x a).length) (xs:List PE) (l:List UInt8) (w:World) (va:Value) (h:WS w1 b l w) (hs:SlR 8 ExR w1 va xs)
 (hq:BX b qf 61 #[pV b] w)
 (HO:∀ (x:PE) (l:List UInt8) (w:World) (kv:Value),x ∈ xs→WS w1 b l w→BX b qf 61 #[pV b] w→(one x l).length ≤ 140737488355328→Zbq w1 kv x.kids→Calls Tryz.prog 34 #[pV b,.agg #[.int .u8 (x.op:Int),.int .u8 (x.v.k:Int),.int .i64 x.v.n,.string x.v.s,.string x.t,.string x.m,.int .i64 x.n,kv]] w (Zbg w1 b (one x l) w))
 (hlen:(Zm one true xs l).length ≤ 140737488355328) (hn:xs.length ≤ 140737488351232) :
 Calls Tryz.prog 64 #[pV b,va,.func (.func 34) #[pV b] #[]] w (Zbg w1 b (Zm one true xs l) w):=by
 obtain ⟨ka,kc,rfl,_⟩:=hs.shape
 have HW:=Lh h
 have HK:=Lh hs
 have HQ:=Lh hq
 have HLN:=Lh hlen
 have HONE:=Lh HO
 clear h hs hlen hq HO
 go_enter Tryz.func64,Tryz.ntmps64
 go_wp2_with fail
 go_loopg [10] xs.length (fun gk iv wr=>∃ (i:Nat),iv = .int .i64 (i:Int)∧gk=xs.length - i∧i ≤ xs.length∧Hid (WS w1 b (Zm one true (xs.take i) l) wr)∧Hid (Za6 b w wr))
 case atStart=>exact ⟨0,rfl,rfl,Nat.zero_le _,HW,Lh (Za6.refl _ _)⟩
 case round=>
  obtain ⟨i,rfl,rfl,hi,HS,HKE⟩:=hrel
  by_cases hlt:i < xs.length
  ·obtain ⟨x,hx⟩:∃ x,xs[i]? = some x:=⟨xs[i],by simp⟩
   have hsn:Zm one true (xs.take (i + 1)) l=one x (if i=0 then Zm one true (xs.take i) l else Ze [W1 Zy] (Zm one true (xs.take i) l)):=by
    exact ks8
   have HLE:Hid ((Zm one true (xs.take (i + 1)) l).length ≤ 140737488355328):=Lh (by
    exact ks19)
   have HSN:=Lh hsn
   obtain ⟨kq,ko,kv,rfl,HKV,g0,g1,g2,g3,g4,g5,g6,g7⟩:=Zgu HK.out hx
   have p0:=(HS.out.low.cell (Zd g0)).trans g0
   have p1:=(HS.out.low.cell (Zd g1)).trans g1
   have p2:=(HS.out.low.cell (Zd g2)).trans g2
   have p3:=(HS.out.low.cell (Zd g3)).trans g3
   have p4:=(HS.out.low.cell (Zd g4)).trans g4
   have p5:=(HS.out.low.cell (Zd g5)).trans g5
   have p6:=(HS.out.low.cell (Zd g6)).trans g6
   have p7:=(HS.out.low.cell (Zd g7)).trans g7
   clear g0 g1 g2 g3 g4 g5 g6 g7
   obtain ⟨ja,jc,rfl,_⟩:=HKV.shape
   have HKV:=Lh HKV
   have ilt:(i:Int) < (xs.length:Int):=kW
   have ige:(0:Int) ≤ (i:Int):=kW
   have HLT:=Lh hlt
   have HM:=Lh (List.mem_of_getElem? hx)
   have HQ1:=Lh (HQ.out.keep HKE.out)
   generalize Zm one true (xs.take i) l=L0 at *
   clear hx hsn hlt
   have HXB:=Lh (HS.out.box 48 (eA x ja jc))
   have HW1:=Lh (HS.out.alloc (.cells (eA x ja jc) 48))
   have HK1:=Lh (HKE.out.trans (HS.out.keepAlloc (.cells (eA x ja jc) 48)))
   have HQA:=Lh (HQ.out.keep HK1.out)
   go_upto_region 3 with fail
   clear p0 p1 p2 p3 p4 p5 p6 p7
   generalize wr.alloc (.cells (eA x ja jc) 48)=wa at *
   generalize wr.heap.size=q at *
   by_cases h0:i=0
   ·have ig:¬ (0:Int) < (i:Int):=kW
    have HSN:Hid (Zm one true (xs.take (i + 1)) l=one x L0):=Lh kb43
    rw [HSN.out] at HLE
    have HC:=Lh (HONE.out x L0 wa _ HM.out HW1.out HQA.out HLE.out HKV.out)
    obtain ⟨b0,b1,b2,b3,b4,b5,b6,b7⟩:=eC HXB.out.row
    clear h0
    go_wp2_with fail
    refine HC.out.mono ?_
    rintro e3 w3 ⟨rfl,hs3,hk3⟩
    have HS3:Hid (WS w1 b (Zm one true (xs.take (i + 1)) l) w3):=Lh kb9
    have HK3:=Lh (HK1.out.trans hk3)
    clear hs3 hk3 HC b0 b1 b2 b3 b4 b5 b6 b7
    exact ks4
   have ig:(0:Int) < (i:Int):=kW
   have HSN:Hid (Zm one true (xs.take (i + 1)) l=one x (Ze [W1 Zy] L0)):=Lh kb44
   rw [HSN.out] at HLE
   have HP:=Lh (Zas [Zy] w1 b L0 wa HW1.out (Nat.le_trans (hmono _ _) HLE.out) kY)
   clear h0
   go_wp2_with fail
   refine HP.out.mono ?_
   rintro e2 w2 ⟨rfl,hs2,hk2⟩
   have HX2:=Lh (HXB.out.keep hk2)
   have HK2:=Lh (HK1.out.trans hk2)
   have HC:=Lh (HONE.out x _ w2 _ HM.out hs2 (HQA.out.keep hk2) HLE.out HKV.out)
   clear hs2 hk2 HP
   obtain ⟨b0,b1,b2,b3,b4,b5,b6,b7⟩:=eC HX2.out.row
   go_wp2_with fail
   refine HC.out.mono ?_
   rintro e3 w3 ⟨rfl,hs3,hk3⟩
   have HS3:Hid (WS w1 b (Zm one true (xs.take (i + 1)) l) w3):=Lh kb9
   have HK3:=Lh (HK2.out.trans hk3)
   clear hs3 hk3 HC b0 b1 b2 b3 b4 b5 b6 b7
   exact ks4
  exact ks31
theorem Zwl (w1:World) (b qf:Nat) (one:(List PE)→List UInt8→List UInt8) (hmono:∀ x a,a.length ≤ (one x a).length) (xs:List (List PE)) (l:List UInt8) (w:World) (va:Value) (h:WS w1 b l w) (hs:SlR 1 Zo3 w1 va xs)
 (hq:BX b qf 61 #[pV b] w)
 (HO:∀ (x:(List PE)) (l:List UInt8) (w:World) (kv:Value),x ∈ xs→WS w1 b l w→BX b qf 61 #[pV b] w→(one x l).length ≤ 140737488355328→Zbq w1 kv x→Calls Tryz.prog 63 #[kv,pV qf] w (Zbg w1 b (one x l) w))
 (hlen:(Zm one true xs l).length ≤ 140737488355328) (hn:xs.length ≤ 140737488351232) :
 Calls Tryz.prog 62 #[pV b,va,.func (.func 63) #[] #[pV qf]] w (Zbg w1 b (Zm one true xs l) w):=by
 obtain ⟨ka,kc,rfl,_⟩:=hs.shape
 have HW:=Lh h
 have HK:=Lh hs
 have HQ:=Lh hq
 have HLN:=Lh hlen
 have HONE:=Lh HO
 clear h hs hlen hq HO
 go_enter Tryz.func62,Tryz.ntmps62
 go_wp2_with fail
 go_loopg [10] xs.length (fun gk iv wr=>∃ (i:Nat),iv = .int .i64 (i:Int)∧gk=xs.length - i∧i ≤ xs.length∧Hid (WS w1 b (Zm one true (xs.take i) l) wr)∧Hid (Za6 b w wr))
 case atStart=>exact ⟨0,rfl,rfl,Nat.zero_le _,HW,Lh (Za6.refl _ _)⟩
 case round=>
  obtain ⟨i,rfl,rfl,hi,HS,HKE⟩:=hrel
  by_cases hlt:i < xs.length
  ·obtain ⟨x,hx⟩:∃ x,xs[i]? = some x:=⟨xs[i],by simp⟩
   have hsn:Zm one true (xs.take (i + 1)) l=one x (if i=0 then Zm one true (xs.take i) l else Ze [W1 Zy] (Zm one true (xs.take i) l)):=by
    exact ks8
   have HLE:Hid ((Zm one true (xs.take (i + 1)) l).length ≤ 140737488355328):=Lh (by
    exact ks19)
   have HSN:=Lh hsn
   obtain ⟨kq,ko,kv,rfl,HKV,g0⟩:=Zmj HK.out hx
   have p0:=(HS.out.low.cell (Zd g0)).trans g0
   clear g0
   obtain ⟨ja,jc,rfl,_⟩:=HKV.shape
   have HKV:=Lh HKV
   have ilt:(i:Int) < (xs.length:Int):=kW
   have ige:(0:Int) ≤ (i:Int):=kW
   have HLT:=Lh hlt
   have HM:=Lh (List.mem_of_getElem? hx)
   have HQ1:=Lh (HQ.out.keep HKE.out)
   generalize Zm one true (xs.take i) l=L0 at *
   clear hx hsn hlt
   by_cases h0:i=0
   ·have ig:¬ (0:Int) < (i:Int):=kW
    have HSN:Hid (Zm one true (xs.take (i + 1)) l=one x L0):=Lh kb43
    rw [HSN.out] at HLE
    have HC:=Lh (HONE.out x L0 wr _ HM.out HS.out HQ1.out HLE.out HKV.out)
    exact ks83
   have ig:(0:Int) < (i:Int):=kW
   have HSN:Hid (Zm one true (xs.take (i + 1)) l=one x (Ze [W1 Zy] L0)):=Lh kb44
   rw [HSN.out] at HLE
   have HP:=Lh (Zas [Zy] w1 b L0 wr HS.out (Nat.le_trans (hmono _ _) HLE.out) kY)
   clear h0
   go_wp2_with fail
   refine HP.out.mono ?_
   rintro e2 w2 ⟨rfl,hs2,hk2⟩
   have HK2:=Lh (HKE.out.trans hk2)
   have HC:=Lh (HONE.out x _ w2 _ HM.out hs2 (HQ1.out.keep hk2) HLE.out HKV.out)
   exact ks82
  exact ks31
theorem Zwk (w1:World) (b qf:Nat) (one:(ByteArray × PE)→List UInt8→List UInt8) (hmono:∀ x a,a.length ≤ (one x a).length) (xs:List (ByteArray × PE)) (l:List UInt8) (w:World) (va:Value) (h:WS w1 b l w) (hs:SlR 9 Zm3 w1 va xs)
 (hq:BX b qf 61 #[pV b] w)
 (HO:∀ (x:(ByteArray × PE)) (l:List UInt8) (w:World) (kv:Value),x ∈ xs→WS w1 b l w→BX b qf 61 #[pV b] w→(one x l).length ≤ 140737488355328→Zbq w1 kv x.2.kids→Calls Tryz.prog 66 #[.agg #[.string x.1,.int .u8 (x.2.op:Int),.int .u8 (x.2.v.k:Int),.int .i64 x.2.v.n,.string x.2.v.s,.string x.2.t,.string x.2.m,.int .i64 x.2.n,kv],pV qf] w (Zbg w1 b (one x l) w))
 (hlen:(Zm one true xs l).length ≤ 140737488355328) (hn:xs.length ≤ 140737488351232) :
 Calls Tryz.prog 65 #[pV b,va,.func (.func 66) #[] #[pV qf]] w (Zbg w1 b (Zm one true xs l) w):=by
 obtain ⟨ka,kc,rfl,_⟩:=hs.shape
 have HW:=Lh h
 have HK:=Lh hs
 have HQ:=Lh hq
 have HLN:=Lh hlen
 have HONE:=Lh HO
 clear h hs hlen hq HO
 go_enter Tryz.func65,Tryz.ntmps65
 go_wp2_with fail
 go_loopg [10] xs.length (fun gk iv wr=>∃ (i:Nat),iv = .int .i64 (i:Int)∧gk=xs.length - i∧i ≤ xs.length∧Hid (WS w1 b (Zm one true (xs.take i) l) wr)∧Hid (Za6 b w wr))
 case atStart=>exact ⟨0,rfl,rfl,Nat.zero_le _,HW,Lh (Za6.refl _ _)⟩
 case round=>
  obtain ⟨i,rfl,rfl,hi,HS,HKE⟩:=hrel
  by_cases hlt:i < xs.length
  ·obtain ⟨x,hx⟩:∃ x,xs[i]? = some x:=⟨xs[i],by simp⟩
   have hsn:Zm one true (xs.take (i + 1)) l=one x (if i=0 then Zm one true (xs.take i) l else Ze [W1 Zy] (Zm one true (xs.take i) l)):=by
    exact ks8
   have HLE:Hid ((Zm one true (xs.take (i + 1)) l).length ≤ 140737488355328):=Lh (by
    exact ks19)
   have HSN:=Lh hsn
   obtain ⟨kq,ko,kv,rfl,HKV,g0,g1,g2,g3,g4,g5,g6,g7,g8⟩:=Zqp HK.out hx
   have p0:=(HS.out.low.cell (Zd g0)).trans g0
   have p1:=(HS.out.low.cell (Zd g1)).trans g1
   have p2:=(HS.out.low.cell (Zd g2)).trans g2
   have p3:=(HS.out.low.cell (Zd g3)).trans g3
   have p4:=(HS.out.low.cell (Zd g4)).trans g4
   have p5:=(HS.out.low.cell (Zd g5)).trans g5
   have p6:=(HS.out.low.cell (Zd g6)).trans g6
   have p7:=(HS.out.low.cell (Zd g7)).trans g7
   have p8:=(HS.out.low.cell (Zd g8)).trans g8
   clear g0 g1 g2 g3 g4 g5 g6 g7 g8
   obtain ⟨ja,jc,rfl,_⟩:=HKV.shape
   have HKV:=Lh HKV
   have ilt:(i:Int) < (xs.length:Int):=kW
   have ige:(0:Int) ≤ (i:Int):=kW
   have HLT:=Lh hlt
   have HM:=Lh (List.mem_of_getElem? hx)
   have HQ1:=Lh (HQ.out.keep HKE.out)
   generalize Zm one true (xs.take i) l=L0 at *
   clear hx hsn hlt
   have HXB:=Lh (HS.out.box 94 #[.string x.1,.int .u8 (x.2.op:Int),.int .u8 (x.2.v.k:Int),.int .i64 x.2.v.n,.string x.2.v.s,.string x.2.t,.string x.2.m,.int .i64 x.2.n,.slice ja x.2.kids.length jc])
   have HW1:=Lh (HS.out.alloc (.cells #[.string x.1,.int .u8 (x.2.op:Int),.int .u8 (x.2.v.k:Int),.int .i64 x.2.v.n,.string x.2.v.s,.string x.2.t,.string x.2.m,.int .i64 x.2.n,.slice ja x.2.kids.length jc] 94))
   have HK1:=Lh (HKE.out.trans (HS.out.keepAlloc (.cells #[.string x.1,.int .u8 (x.2.op:Int),.int .u8 (x.2.v.k:Int),.int .i64 x.2.v.n,.string x.2.v.s,.string x.2.t,.string x.2.m,.int .i64 x.2.n,.slice ja x.2.kids.length jc] 94)))
   have HQA:=Lh (HQ.out.keep HK1.out)
   go_upto_region 3 with fail
   clear p0 p1 p2 p3 p4 p5 p6 p7 p8
   generalize wr.alloc (.cells #[.string x.1,.int .u8 (x.2.op:Int),.int .u8 (x.2.v.k:Int),.int .i64 x.2.v.n,.string x.2.v.s,.string x.2.t,.string x.2.m,.int .i64 x.2.n,.slice ja x.2.kids.length jc] 94)=wa at *
   generalize wr.heap.size=q at *
   by_cases h0:i=0
   ·have ig:¬ (0:Int) < (i:Int):=kW
    have HSN:Hid (Zm one true (xs.take (i + 1)) l=one x L0):=Lh kb43
    rw [HSN.out] at HLE
    have HC:=Lh (HONE.out x L0 wa _ HM.out HW1.out HQA.out HLE.out HKV.out)
    have b0:=HXB.out.row.cell (i:=0) (v:=.string x.1) rfl
    have b1:=HXB.out.row.cell (i:=1) (v:=.int .u8 (x.2.op:Int)) rfl
    have b2:=HXB.out.row.cell (i:=2) (v:=.int .u8 (x.2.v.k:Int)) rfl
    have b3:=HXB.out.row.cell (i:=3) (v:=.int .i64 x.2.v.n) rfl
    have b4:=HXB.out.row.cell (i:=4) (v:=.string x.2.v.s) rfl
    have b5:=HXB.out.row.cell (i:=5) (v:=.string x.2.t) rfl
    have b6:=HXB.out.row.cell (i:=6) (v:=.string x.2.m) rfl
    have b7:=HXB.out.row.cell (i:=7) (v:=.int .i64 x.2.n) rfl
    have b8:=HXB.out.row.cell (i:=8) (v:=.slice ja x.2.kids.length jc) rfl
    exact ks80
   have ig:(0:Int) < (i:Int):=kW
   have HSN:Hid (Zm one true (xs.take (i + 1)) l=one x (Ze [W1 Zy] L0)):=Lh kb44
   rw [HSN.out] at HLE
   have HP:=Lh (Zas [Zy] w1 b L0 wa HW1.out (Nat.le_trans (hmono _ _) HLE.out) kY)
   clear h0
   go_wp2_with fail
   refine HP.out.mono ?_
   rintro e2 w2 ⟨rfl,hs2,hk2⟩
   have HX2:=Lh (HXB.out.keep hk2)
   have HK2:=Lh (HK1.out.trans hk2)
   have HC:=Lh (HONE.out x _ w2 _ HM.out hs2 (HQA.out.keep hk2) HLE.out HKV.out)
   clear hs2 hk2 HP
   have b0:=HX2.out.row.cell (i:=0) (v:=.string x.1) rfl
   have b1:=HX2.out.row.cell (i:=1) (v:=.int .u8 (x.2.op:Int)) rfl
   have b2:=HX2.out.row.cell (i:=2) (v:=.int .u8 (x.2.v.k:Int)) rfl
   have b3:=HX2.out.row.cell (i:=3) (v:=.int .i64 x.2.v.n) rfl
   have b4:=HX2.out.row.cell (i:=4) (v:=.string x.2.v.s) rfl
   have b5:=HX2.out.row.cell (i:=5) (v:=.string x.2.t) rfl
   have b6:=HX2.out.row.cell (i:=6) (v:=.string x.2.m) rfl
   have b7:=HX2.out.row.cell (i:=7) (v:=.int .i64 x.2.n) rfl
   have b8:=HX2.out.row.cell (i:=8) (v:=.slice ja x.2.kids.length jc) rfl
   exact ks81
  exact ks31
theorem kf6 {p:Prop} (h:p:=by
 obtain ⟨ka,kc,rfl,_⟩:=hs.shape
 have HW:=Lh h
 have HK:=Lh hs
 have HQ:=Lh hq
 have HLN:=Lh hlen
 have HONE:=Lh HO
 clear h hs hlen hq HO
 go_enter q6_0,q6_1
 go_wp2_with fail
 go_loopg [10] xs.length (fun gk iv wr=>∃ (i:Nat),iv = .int .i64 (i:Int)∧gk=xs.length - i∧i ≤ xs.length∧Hid (WS w1 b (Zm one true (xs.take i) l) wr)∧Hid (Za6 b w wr))
 case atStart=>exact ⟨0,rfl,rfl,Nat.zero_le _,HW,Lh (Za6.refl _ _)⟩
 case round=>
  obtain ⟨i,rfl,rfl,hi,HS,HKE⟩:=hrel
  by_cases hlt:i < xs.length
  ·obtain ⟨x,hx⟩:∃ x,xs[i]? = some x:=⟨xs[i],by simp⟩
   have hsn:Zm one true (xs.take (i + 1)) l=one x (if i=0 then Zm one true (xs.take i) l else Ze [W1 Zy] (Zm one true (xs.take i) l)):=by
    exact ks8
   have HLE:Hid ((Zm one true (xs.take (i + 1)) l).length ≤ 140737488355328):=Lh (by
    exact ks19)
   have HSN:=Lh hsn
   obtain ⟨kq,ko,kv,rfl,HKV,g0,g1,g2,g3,g4,g5,g6,g7,g8⟩:=q6_2 HK.out hx
   have p0:=(HS.out.low.cell (Zd g0)).trans g0
   have p1:=(HS.out.low.cell (Zd g1)).trans g1
   have p2:=(HS.out.low.cell (Zd g2)).trans g2
   have p3:=(HS.out.low.cell (Zd g3)).trans g3
   have p4:=(HS.out.low.cell (Zd g4)).trans g4
   have p5:=(HS.out.low.cell (Zd g5)).trans g5
   have p6:=(HS.out.low.cell (Zd g6)).trans g6
   have p7:=(HS.out.low.cell (Zd g7)).trans g7
   have p8:=(HS.out.low.cell (Zd g8)).trans g8
   clear g0 g1 g2 g3 g4 g5 g6 g7 g8
   obtain ⟨ja,jc,rfl,_⟩:=HKV.shape
   have HKV:=Lh HKV
   have ilt:(i:Int) < (xs.length:Int):=kW
   have ige:(0:Int) ≤ (i:Int):=kW
   have HLT:=Lh hlt
   have HM:=Lh (List.mem_of_getElem? hx)
   have HQ1:=Lh (HQ.out.keep HKE.out)
   generalize Zm one true (xs.take i) l=L0 at *
   clear hx hsn hlt
   have HXB:=Lh (HS.out.box q6_3 #[.int .u8 (x.1.op:Int),.int .u8 (x.1.v.k:Int),.int .i64 x.1.v.n,.string x.1.v.s,.string x.1.t,.string x.1.m,.int .i64 x.1.n,.slice ja x.1.kids.length jc,q6_4 x.2])
   have HW1:=Lh (HS.out.alloc (.cells #[.int .u8 (x.1.op:Int),.int .u8 (x.1.v.k:Int),.int .i64 x.1.v.n,.string x.1.v.s,.string x.1.t,.string x.1.m,.int .i64 x.1.n,.slice ja x.1.kids.length jc,q6_4 x.2] q6_3))
   have HK1:=Lh (HKE.out.trans (HS.out.keepAlloc (.cells #[.int .u8 (x.1.op:Int),.int .u8 (x.1.v.k:Int),.int .i64 x.1.v.n,.string x.1.v.s,.string x.1.t,.string x.1.m,.int .i64 x.1.n,.slice ja x.1.kids.length jc,q6_4 x.2] q6_3)))
   have HQA:=Lh (HQ.out.keep HK1.out)
   go_upto_region 3 with fail
   clear p0 p1 p2 p3 p4 p5 p6 p7 p8
   generalize wr.alloc (.cells #[.int .u8 (x.1.op:Int),.int .u8 (x.1.v.k:Int),.int .i64 x.1.v.n,.string x.1.v.s,.string x.1.t,.string x.1.m,.int .i64 x.1.n,.slice ja x.1.kids.length jc,q6_4 x.2] q6_3)=wa at *
   generalize wr.heap.size=q at *
   by_cases h0:i=0
   ·have ig:¬ (0:Int) < (i:Int):=kW
    have HSN:Hid (Zm one true (xs.take (i + 1)) l=one x L0):=Lh kb43
    rw [HSN.out] at HLE
    have HC:=Lh (HONE.out x L0 wa _ HM.out HW1.out HQA.out HLE.out HKV.out)
    have b0:=HXB.out.row.cell (i:=0) (v:=.int .u8 (x.1.op:Int)) rfl
    have b1:=HXB.out.row.cell (i:=1) (v:=.int .u8 (x.1.v.k:Int)) rfl
    have b2:=HXB.out.row.cell (i:=2) (v:=.int .i64 x.1.v.n) rfl
    have b3:=HXB.out.row.cell (i:=3) (v:=.string x.1.v.s) rfl
    have b4:=HXB.out.row.cell (i:=4) (v:=.string x.1.t) rfl
    have b5:=HXB.out.row.cell (i:=5) (v:=.string x.1.m) rfl
    have b6:=HXB.out.row.cell (i:=6) (v:=.int .i64 x.1.n) rfl
    have b7:=HXB.out.row.cell (i:=7) (v:=.slice ja x.1.kids.length jc) rfl
    have b8:=HXB.out.row.cell (i:=8) (v:=q6_4 x.2) rfl
    exact ks80
   have ig:(0:Int) < (i:Int):=kW
   have HSN:Hid (Zm one true (xs.take (i + 1)) l=one x (Ze [W1 Zy] L0)):=Lh kb44
   rw [HSN.out] at HLE
   have HP:=Lh (Zas [Zy] w1 b L0 wa HW1.out (Nat.le_trans (hmono _ _) HLE.out) kY)
   clear h0
   go_wp2_with fail
   refine HP.out.mono ?_
   rintro e2 w2 ⟨rfl,hs2,hk2⟩
   have HX2:=Lh (HXB.out.keep hk2)
   have HK2:=Lh (HK1.out.trans hk2)
   have HC:=Lh (HONE.out x _ w2 _ HM.out hs2 (HQA.out.keep hk2) HLE.out HKV.out)
   clear hs2 hk2 HP
   have b0:=HX2.out.row.cell (i:=0) (v:=.int .u8 (x.1.op:Int)) rfl
   have b1:=HX2.out.row.cell (i:=1) (v:=.int .u8 (x.1.v.k:Int)) rfl
   have b2:=HX2.out.row.cell (i:=2) (v:=.int .i64 x.1.v.n) rfl
   have b3:=HX2.out.row.cell (i:=3) (v:=.string x.1.v.s) rfl
   have b4:=HX2.out.row.cell (i:=4) (v:=.string x.1.t) rfl
   have b5:=HX2.out.row.cell (i:=5) (v:=.string x.1.m) rfl
   have b6:=HX2.out.row.cell (i:=6) (v:=.int .i64 x.1.n) rfl
   have b7:=HX2.out.row.cell (i:=7) (v:=.slice ja x.1.kids.length jc) rfl
   have b8:=HX2.out.row.cell (i:=8) (v:=q6_4 x.2) rfl
   exact ks81
  obtain rfl:i=xs.length:=kW
  have HSF:Hid (WS w1 b (Zm one true xs l) wr):=Lh kb5
  clear hlt hi
  go_wp2_with fail
  go_end0
  exact ⟨rfl,HSF.out,HKE.out⟩):p:=h
namespace n6_0
abbrev q6_0:=@Tryz.func100
abbrev q6_1:=@Tryz.ntmps100
abbrev q6_2:=@Zp2
abbrev q6_3:Nat:=106
abbrev q6_4:=@Value.string
end n6_0
open n6_0 in
theorem Zsp (w1:World) (b qf:Nat) (one:(PE × ByteArray)→List UInt8→List UInt8) (hmono:∀ x a,a.length ≤ (one x a).length) (xs:List (PE × ByteArray)) (l:List UInt8) (w:World) (va:Value) (h:WS w1 b l w) (hs:SlR 9 Zfl w1 va xs)
 (hq:BX b qf 61 #[pV b] w)
 (HO:∀ (x:(PE × ByteArray)) (l:List UInt8) (w:World) (kv:Value),x ∈ xs→WS w1 b l w→BX b qf 61 #[pV b] w→(one x l).length ≤ 140737488355328→Zbq w1 kv x.1.kids→Calls Tryz.prog 101 #[.agg #[.int .u8 (x.1.op:Int),.int .u8 (x.1.v.k:Int),.int .i64 x.1.v.n,.string x.1.v.s,.string x.1.t,.string x.1.m,.int .i64 x.1.n,kv,.string x.2],pV qf] w (Zbg w1 b (one x l) w))
 (hlen:(Zm one true xs l).length ≤ 140737488355328) (hn:xs.length ≤ 140737488351232) :
 Calls Tryz.prog 100 #[pV b,va,.func (.func 101) #[] #[pV qf]] w (Zbg w1 b (Zm one true xs l) w):=by exact kf6
namespace n6_1
abbrev q6_0:=@Tryz.func103
abbrev q6_1:=@Tryz.ntmps103
abbrev q6_2:=@Zmk
abbrev q6_3:Nat:=114
abbrev q6_4:=@Value.bool
end n6_1
open n6_1 in
theorem Zp7 (w1:World) (b qf:Nat) (one:(PE × Bool)→List UInt8→List UInt8) (hmono:∀ x a,a.length ≤ (one x a).length) (xs:List (PE × Bool)) (l:List UInt8) (w:World) (va:Value) (h:WS w1 b l w) (hs:SlR 9 Zdl w1 va xs)
 (hq:BX b qf 61 #[pV b] w)
 (HO:∀ (x:(PE × Bool)) (l:List UInt8) (w:World) (kv:Value),x ∈ xs→WS w1 b l w→BX b qf 61 #[pV b] w→(one x l).length ≤ 140737488355328→Zbq w1 kv x.1.kids→Calls Tryz.prog 104 #[.agg #[.int .u8 (x.1.op:Int),.int .u8 (x.1.v.k:Int),.int .i64 x.1.v.n,.string x.1.v.s,.string x.1.t,.string x.1.m,.int .i64 x.1.n,kv,.bool x.2],pV qf] w (Zbg w1 b (one x l) w))
 (hlen:(Zm one true xs l).length ≤ 140737488355328) (hn:xs.length ≤ 140737488351232) :
 Calls Tryz.prog 103 #[pV b,va,.func (.func 104) #[] #[pV qf]] w (Zbg w1 b (Zm one true xs l) w):=by exact kf6
theorem Zkp (s:ByteArray) (a:List UInt8):a.length ≤ (asT s a).length:=by
 unfold asT
 split
 ·exact Nat.le_refl _
 exact Zk _ _
theorem asW (w1:World) (b:Nat) (s:ByteArray) (l:List UInt8) (w:World) (h:WS w1 b l w) (hlen:(asT s l).length ≤ 140737488355328) :
 Calls Tryz.prog 102 #[pV b,.string s] w (Zbg w1 b (asT s l) w):=by
 have HW:=Lh h
 by_cases hs:s=⟨#[]⟩
 ·subst hs
  have HT:Hid (asT ⟨#[]⟩ l=l):=Lh (by unfold asT;rw [if_pos rfl])
  have he1:(⟨#[]⟩:ByteArray).toList.isEmpty=true:=by rw [ByteArray.toList_eq];rfl
  have he2:(!(⟨#[]⟩:ByteArray).toList.isEmpty)=false:=by rw [he1];rfl
  clear h hlen
  go_enter Tryz.func102,Tryz.ntmps102
  go_wp2_with fail
  go_end0
  exact ⟨rfl,by rw [HT.out];exact HW.out,Za6.refl _ _⟩
 have HT:Hid (asT s l=Ze [W1 WAS,W1 s] l):=Lh (by unfold asT;rw [if_neg hs])
 rw [HT.out] at hlen
 have hne1:s.toList.isEmpty=false:=by
  cases he:s.toList.isEmpty with
  | false=>rfl
  | true=>
   refine absurd ?_ hs
   have h1:=List.isEmpty_iff.1 he
   rw [ByteArray.toList_eq] at h1
   exact ByteArray.ext (Array.toList_inj.1 (by rw [h1]))
 have hne2:(!s.toList.isEmpty)=true:=by rw [hne1];rfl
 have HP:=Lh (Zas [WAS,s] w1 b l w h hlen kY)
 clear h hlen hs
 go_enter Tryz.func102,Tryz.ntmps102
 go_wp2_with fail
 refine HP.out.mono ?_
 rintro e2 w2 ⟨rfl,hs2,hk2⟩
 have HS2:=Lh hs2
 have HK2:=Lh hk2
 clear hs2 hk2 HP
 go_wp2_with fail
 go_end0
 exact ⟨rfl,by rw [HT.out];exact HS2.out,HK2.out⟩
theorem nameOneW (w1:World) (b q:Nat) (s:ByteArray) (l:List UInt8) (w:World) (h:WS w1 b l w) (hq:BX b q 61 #[pV b] w) (hlen:(Ze [W1 s] l).length ≤ 140737488355328) :
 Calls Tryz.prog 99 #[.string s,pV q] w (Zbg w1 b (Ze [W1 s] l) w):=by
 have HP:=Lh (Zas [s] w1 b l w h hlen kY)
 have c0:=hq.row.cell (i:=0) (v:=pV b) rfl
 clear h hlen hq
 go_enter Tryz.func99,Tryz.ntmps99
 go_wp2_with fail
 refine HP.out.mono ?_
 rintro e2 w2 ⟨rfl,hs2,hk2⟩
 have HS2:=Lh hs2
 have HK2:=Lh hk2
 clear hs2 hk2 HP c0
 go_wp2_with fail
 go_end0
 exact ⟨rfl,HS2.out,HK2.out⟩
theorem Zfh (l:List ByteArray) (a:List UInt8):a.length ≤ (Zdz l a).length:=by
 unfold Zdz
 exact Nat.le_trans (Nat.le_trans (Zk _ _) (Za8 (fun x a=>Zk _ _) _ _ _)) (Zk _ _)
theorem Zpi (w1:World) (b:Nat) (xs:List ByteArray) (l:List UInt8) (w:World) (va:Value) (h:WS w1 b l w) (hs:SlR 1 Zqc w1 va xs) (hlen:(Zdz xs l).length ≤ 140737488355328) (hn:xs.length ≤ 140737488351232) :
 Calls Tryz.prog 61 #[pV b,va] w (Zbg w1 b (Zdz xs l) w):=by
 obtain ⟨ka,kc,rfl,_⟩:=hs.shape
 unfold Zdz at hlen ⊢
 have HK:=Lh hs
 have HLN:=Lh hlen
 have HN:=Lh hn
 have HQ:=Lh (h.box 61 #[pV b])
 have HW:=Lh (h.alloc (.cells #[pV b] 61))
 have HK0:=Lh (h.keepAlloc (.cells #[pV b] 61))
 clear h hs hlen hn
 go_enter Tryz.func61,Tryz.ntmps61
 go_upto_region 1 with fail
 generalize w.alloc (.cells #[pV b] 61)=wa at *
 generalize w.heap.size=q at *
 have c0:=HQ.out.row.cell (i:=0) (v:=pV b) rfl
 have HP:=Lh (Zas [Z9] w1 b l wa HW.out (Nat.le_trans (Nat.le_trans (Za8 (fun x a=>Zk _ _) _ _ _) (Zk _ _)) HLN.out) kY)
 go_wp2_with fail
 refine HP.out.mono ?_
 rintro e2 w2 ⟨rfl,hs2,hk2⟩
 have HQ2:=Lh (HQ.out.keep hk2)
 have HK2:=Lh (HK0.out.trans hk2)
 have HC:=Lh (Zwj w1 b q (fun s=>Ze [W1 s]) (fun x a=>Zk _ _) xs _ w2 _ hs2 HK.out HQ2.out (fun x l w _ h hq hl=>nameOneW w1 b q x l w h hq hl) (Nat.le_trans (Zk _ _) HLN.out) HN.out)
 exact ks26
end Go.Proofs.YtmdogmpcmkfjpaaGreatDoor.Dt
