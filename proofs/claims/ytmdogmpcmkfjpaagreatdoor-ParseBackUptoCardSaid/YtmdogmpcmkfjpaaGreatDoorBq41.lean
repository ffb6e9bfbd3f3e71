import Derived.Test.YtmdogmpcmkfjpaaGreatDoorBq31
import Derived.Test.YtmdogmpcmkfjpaaGreatDoorBq09
import Derived.Test.YtmdogmpcmkfjpaaGreatDoorBq40
import Derived.Test.YtmdogmpcmkfjpaaGreatDoorBq32
set_option maxRecDepth 100000
set_option maxHeartbeats 64000000
/- Part. -/
namespace Go.Proofs.YtmdogmpcmkfjpaaGreatDoor.Dt
open Go.RowKit Go.Proofs.YtmdogmpcmkfjpaaGreatDoor.By
theorem Zmb:∀ (l:List Zec) (f:Bool) (m:List Zec) (a:List UInt8),Ziz f (l ++ m) a=Ziz (f && l.isEmpty) m (Ziz f l a)
 | [],f,m,a=>by simp [Ziz]
 | s :: l,f,m,a=>by
  show Ziz false (l ++ m) _=_
  rw [Zmb l false m]
  simp [Ziz]
theorem Zma:∀ (l:List Zec) (f:Bool) (a:List UInt8),a.length ≤ (Ziz f l a).length
 | [],_,_=>Nat.le_refl _
 | s :: l,f,a=>by
  refine Nat.le_trans ?_ (Zma l false _)
  refine Nat.le_trans ?_ (Zbn _ _ _)
  refine Nat.le_trans ?_ (Zkp _ _)
  split
  ·exact Zk _ _
  ·exact Zk _ _
theorem Zll (x:PE × ByteArray) (a:List UInt8):a.length ≤ (Zk1 x a).length:=Nat.le_trans (Zdg _ _) (Zkp _ _)
theorem Zg1 (x:PE × Bool) (a:List UInt8):a.length ≤ (Zdq x a).length:=by
 unfold Zdq
 split
 ·exact Nat.le_trans (Zdg _ _) (Zk _ _)
 exact Zdg _ _
def Zsz (b q:Nat) (n:Int) (S:ByteArray):Nat→Value→World→Prop
 | 0,v,_=>v = pV b
 | 1,v,_=>v = .pointer (some ⟨q,15,none⟩)
 | 2,v,_=>v = .int .i64 n
 | 3,v,_=>v = .string S
 | 4,v,w=>∃ g,v = .slice (some ⟨g,0,none⟩) 2 2∧BX b g 9 #[.string Zdv,.string S] w∧b < w.heap.size
 | _,_,_=>True
theorem Zsz.later {b q:Nat} {n:Int} {S:ByteArray} : ∀ (j:Nat) (v:Value) (w1 w2:World),Zsz b q n S j v w1→Below w1.heap.size w1 w2→Zsz b q n S j v w2
 | 0,_,_,_,h,_=>h
 | 1,_,_,_,h,_=>h
 | 2,_,_,_,h,_=>h
 | 3,_,_,_,h,_=>h
 | 4,_,_,_,⟨g,e,h1,h2⟩,hb=>⟨g,e,h1.later hb h2,Nat.lt_of_lt_of_le h2 hb.size⟩
 | _ + 5,_,_,_,_,_=>trivial
theorem chooseWr (w1:World) (b:Nat) (x:PSt) (hx:LX w1) (hI:∀ e,e ∈ x.items→EXW w1 b e.1) (hF:∀ s,s ∈ x.src→(∀ e,e ∈ s.on→EXW w1 b e)∧s.on.length ≤ 140737488351232) (hE:∀ e,e ∈ x.wh→EXW w1 b e) (hG:∀ e,e ∈ x.group→EXW w1 b e)
 (hV:∀ e,e ∈ x.having→EXW w1 b e) (hO:∀ e,e ∈ x.order→EXW w1 b e.1) (a4 a5 a6 a7 a8 a9 a10 a11 a12 a13 a14:Option Addr) (n4 n5 n6 n7 n8 n9 n10 n11 n12 n13 n14:Nat) (l:List UInt8) (w:World) (h:WS w1 b l w)
 (s9:SlR 9 Zfl w1 (.slice a9 x.items.length n9) x.items) (s10:SlR 3 Zo2 w1 (.slice a10 x.src.length n10) x.src) (s11:Zbq w1 (.slice a11 x.wh.length n11) x.wh) (s12:Zbq w1 (.slice a12 x.group.length n12) x.group) (s13:Zbq w1 (.slice a13 x.having.length n13) x.having)
 (s14:SlR 9 Zdl w1 (.slice a14 x.order.length n14) x.order) (hn:x.items.length ≤ 140737488351232∧x.src.length ≤ 140737488351232∧x.wh.length ≤ 140737488351232∧x.group.length ≤ 140737488351232∧x.having.length ≤ 140737488351232∧x.order.length ≤ 140737488351232)
 (hli:-9223372036854775808 ≤ x.limit∧x.limit ≤ 9223372036854775807) (hlen:(Zfw x l).length ≤ 140737488355328) :
 Calls Tryz.prog 68 #[pV b,.agg (sA x a4 n4 a5 n5 a6 n6 a7 n7 a8 n8 a9 n9 a10 n10 a11 n11 a12 n12 a13 n13 a14 n14)] w (Zbg w1 b (Zfw x l) w):=by
 have H9:=Lh s9
 have H10:=Lh s10
 have H11:=Lh s11
 have H12:=Lh s12
 have H13:=Lh s13
 have H14:=Lh s14
 have HI:=Lh hI
 have HF:=Lh hF
 have HE:=Lh hE
 have HG:=Lh hG
 have HV:=Lh hV
 have HO:=Lh hO
 have HN:=Lh hn
 have HLI:=Lh hli
 have HLX:=Lh hx
 obtain ⟨A0,hA0⟩:∃ z,z=Ze [W1 Zb9] l:=⟨_,rfl⟩
 obtain ⟨A1,hA1⟩:∃ z,z=if x.items.isEmpty then Ze [W1 Zao] A0 else A0:=⟨_,rfl⟩
 obtain ⟨A2,hA2⟩:∃ z,z=Zm Zk1 true x.items A1:=⟨_,rfl⟩
 obtain ⟨A3,hA3⟩:∃ z,z=Ziz true x.src A2:=⟨_,rfl⟩
 obtain ⟨A4,hA4⟩:∃ z,z=Z8 (W1 Z6) x.wh A3:=⟨_,rfl⟩
 obtain ⟨A5,hA5⟩:∃ z,z=if x.group.isEmpty then A4 else Zm wrE true x.group (Ze [W1 Zbp,W1 WBY] A4):=⟨_,rfl⟩
 obtain ⟨A6,hA6⟩:∃ z,z=Z8 (W1 Zbi) x.having A5:=⟨_,rfl⟩
 obtain ⟨A7,hA7⟩:∃ z,z=if x.order.isEmpty then A6 else Zm Zdq true x.order (Ze [W1 Zbz,W1 WBY] A6):=⟨_,rfl⟩
 obtain ⟨A8,hA8⟩:∃ z,z=if 0 ≤ x.limit then Ze [W1 Zdv,Lib.decDigits x.limit.toNat] A7 else A7:=⟨_,rfl⟩
 have hT:Zfw x l=A8:=by rw [hA8,hA7,hA6,hA5,hA4,hA3,hA2,hA1,hA0];rfl
 rw [hT] at hlen ⊢
 have g7:A7.length ≤ 140737488355328:=Nat.le_trans (by rw [hA8];split;exact Zk _ _;exact Nat.le_refl _) hlen
 have g6:A6.length ≤ 140737488355328:=Nat.le_trans (by rw [hA7];split;exact Nat.le_refl _;exact Nat.le_trans (Zk _ _) (Za8 Zg1 _ _ _)) g7
 have g5:A5.length ≤ 140737488355328:=Nat.le_trans (by rw [hA6];exact Zbn _ _ _) g6
 have g4:A4.length ≤ 140737488355328:=Nat.le_trans (by rw [hA5];split;exact Nat.le_refl _;exact Nat.le_trans (Zk _ _) (Za8 Zdg _ _ _)) g5
 have g3:A3.length ≤ 140737488355328:=Nat.le_trans (by rw [hA4];exact Zbn _ _ _) g4
 have g2:A2.length ≤ 140737488355328:=Nat.le_trans (by rw [hA3];exact Zma _ _ _) g3
 have g1:A1.length ≤ 140737488355328:=Nat.le_trans (by rw [hA2];exact Za8 Zll _ _ _) g2
 have g0:A0.length ≤ 140737488355328:=Nat.le_trans (by rw [hA1];split;exact Zk _ _;exact Nat.le_refl _) g1
 have G8:=Lh hlen
 have G7:=Lh g7
 have G6:=Lh g6
 have G5:=Lh g5
 have G4:=Lh g4
 have G3:=Lh g3
 have G2:=Lh g2
 have G1:=Lh g1
 have G0:=Lh g0
 have E0:=Lh hA0
 have E1:=Lh hA1
 have E2:=Lh hA2
 have E3:=Lh hA3
 have E4:=Lh hA4
 have E5:=Lh hA5
 have E6:=Lh hA6
 have E7:=Lh hA7
 have E8:=Lh hA8
 have HQ:=Lh ((h.box 61 #[pV b]).keep ((h.alloc (.cells #[pV b] 61)).keepAlloc (.cells (sA x a4 n4 a5 n5 a6 n6 a7 n7 a8 n8 a9 n9 a10 n10 a11 n11 a12 n12 a13 n13 a14 n14) 31)))
 have hx0:=(h.alloc (.cells #[pV b] 61)).box 31 (sA x a4 n4 a5 n5 a6 n6 a7 n7 a8 n8 a9 n9 a10 n10 a11 n11 a12 n12 a13 n13 a14 n14)
 have hz:(w.alloc (.cells #[pV b] 61)).heap.size=w.heap.size + 1:=kY
 rw [hz] at hx0
 have HX:=Lh hx0
 have HW:=Lh ((h.alloc (.cells #[pV b] 61)).alloc (.cells (sA x a4 n4 a5 n5 a6 n6 a7 n7 a8 n8 a9 n9 a10 n10 a11 n11 a12 n12 a13 n13 a14 n14) 31))
 have HK0:=Lh ((h.keepAlloc (.cells #[pV b] 61)).trans ((h.alloc (.cells #[pV b] 61)).keepAlloc (.cells (sA x a4 n4 a5 n5 a6 n6 a7 n7 a8 n8 a9 n9 a10 n10 a11 n11 a12 n12 a13 n13 a14 n14) 31)))
 clear h hlen hx0 hz s9 s10 s11 s12 s13 s14 hI hF hE hG hV hO hn hli hx hT g0 g1 g2 g3 g4 g5 g6 g7 hA0 hA1 hA2 hA3 hA4 hA5 hA6 hA7 hA8
 go_enter Tryz.func68,Tryz.ntmps68
 go_upto_region 1 with fail
 generalize (w.alloc (.cells #[pV b] 61)).alloc (.cells (sA x a4 n4 a5 n5 a6 n6 a7 n7 a8 n8 a9 n9 a10 n10 a11 n11 a12 n12 a13 n13 a14 n14) 31)=wa at *
 generalize w.heap.size=q at *
 have c:=HQ.out.row.cell (i:=0) (v:=pV b) rfl
 have HP:=Lh (Zas [Zb9] w1 b l wa HW.out (by have h:=G0.out;rw [E0.out] at h;exact h) kY)
 go_wp2_with fail
 refine HP.out.mono ?_
 rintro e2 w2 ⟨rfl,hs,hk⟩
 have HW2:Hid (WS w1 b A0 w2):=Lh (by rw [E0.out];exact hs)
 have HK2:=Lh (HK0.out.trans hk)
 have HQ2:=Lh (HQ.out.keep hk)
 have HX2:=Lh (HX.out.keep hk)
 clear hs hk HP c
 clear HW HQ HX HK0
 have c:=HQ2.out.row.cell (i:=0) (v:=pV b) rfl
 have p9:=HX2.out.row.cell (i:=9) (v:=.slice a9 x.items.length n9) rfl
 obtain ⟨B9,hB9,hB9'⟩:∃ B:Bool,((x.items.length:Int) == 0)=B∧x.items.isEmpty=B:=⟨_,rfl,by cases x.items <;> simp <;> omega⟩
 have HB9:=Lh hB9'
 clear hB9'
 go_upto_if 12 with fail
 go_cut [] (fun wx=>Hid (WS w1 b A1 wx)∧Hid (Za6 b w2 wx))
 case first=>
  cases B9 with
  | true=>
   have e1:A1=Ze [W1 Zao] A0:=by rw [E1.out,HB9.out];rfl
   have HP:=Lh (Zas [Zao] w1 b A0 w2 HW2.out (by have h:=G1.out;rw [e1] at h;exact h) kY)
   have EE:=Lh e1
   clear e1 p9 hB9
   go_wp2_with fail
   refine HP.out.mono ?_
   rintro e3 w3 ⟨rfl,hs,hk⟩
   clear HP
   go_wp2_with fail
   go_meet
   exact ⟨Lh (by rw [EE.out];exact hs),Lh hk⟩
  | false=>
   have e1:A1=A0:=by rw [E1.out,HB9.out];rfl
   go_wp2_with fail
   go_meet
   exact ⟨by rw [e1];exact HW2,Lh (Za6.refl _ _)⟩
 obtain ⟨HW3,HKc⟩:=hcut
 have HK3:=Lh (HK2.out.trans HKc.out)
 have HQ3:=Lh (HQ2.out.keep HKc.out)
 have HX3:=Lh (HX2.out.keep HKc.out)
 clear HKc HW2 HK2 HQ2 HX2 c p9 hB9 HB9
 generalize wc=w3 at *
 have c:=HQ3.out.row.cell (i:=0) (v:=pV b) rfl
 have p9:=HX3.out.row.cell (i:=9) (v:=.slice a9 x.items.length n9) rfl
 have HC:=Lh (Zsp w1 b q Zk1 Zll x.items _ w3 _ HW3.out H9.out HQ3.out (fun e l w kv he hws2 hq2 hl hk2=>itemOneW w1 b q e (HI.out e he) l w kv hws2 hq2 hk2 hl) (by have h:=G2.out;rw [E2.out] at h;exact h) HN.out.1)
 go_wp2_with fail
 refine HC.out.mono ?_
 rintro e4 w4 ⟨rfl,hs,hk⟩
 have HW4:Hid (WS w1 b A2 w4):=Lh (by rw [E2.out];exact hs)
 have HK4:=Lh (HK3.out.trans hk)
 have HQ4:=Lh (HQ3.out.keep hk)
 have HX4:=Lh (HX3.out.keep hk)
 clear hs hk HC c p9 HW3 HK3 HQ3 HX3
 have c:=HQ4.out.row.cell (i:=0) (v:=pV b) rfl
 have p10:=HX4.out.row.cell (i:=10) (v:=.slice a10 x.src.length n10) rfl
 go_wp2_with fail
 clear p10 c
 go_loopg [24] x.src.length (fun gk iv wr=>∃ (i:Nat),iv = .int .i64 (i:Int)∧gk=x.src.length - i∧i ≤ x.src.length∧Hid (WS w1 b (Ziz true (x.src.take i) A2) wr)∧Hid (Za6 b w4 wr))
 case atStart=>exact ⟨0,rfl,rfl,Nat.zero_le _,HW4,Lh (Za6.refl _ _)⟩
 case round=>
  obtain ⟨i,rfl,rfl,hi,HS,HKE⟩:=hrel
  by_cases hlt:i < x.src.length
  ·obtain ⟨s,hx⟩:∃ z,x.src[i]? = some z:=⟨x.src[i],by simp⟩
   have hsn:Ziz true (x.src.take (i + 1)) A2=Ziz (true && (x.src.take i).isEmpty) [s] (Ziz true (x.src.take i) A2):=by rw [List.take_add_one,hx];exact Zmb _ _ _ _
   have HLE:Hid ((Ziz (true && (x.src.take i).isEmpty) [s] (Ziz true (x.src.take i) A2)).length ≤ 140737488355328):=Lh (by
    have h1:=G3.out
    rw [E3.out,show x.src=x.src.take (i + 1) ++ x.src.drop (i + 1) from (List.take_append_drop _ _).symm,Zmb] at h1
    rw [← hsn]
    exact Nat.le_trans (Zma _ _ _) h1)
   have HSN:=Lh hsn
   obtain ⟨kq,ko,kv,rfl,hkv,g0,g1,g2⟩:=Zqo H10.out hx
   obtain ⟨ja,jc,rfl,_⟩:=hkv.shape
   have HKV:=Lh hkv
   have p0:=(HS.out.low.cell (Zd g0)).trans g0
   have p1:=(HS.out.low.cell (Zd g1)).trans g1
   have p2:=(HS.out.low.cell (Zd g2)).trans g2
   have ilt:(i:Int) < (x.src.length:Int):=kW
   have ige:(0:Int) ≤ (i:Int):=kW
   have HLT:=Lh hlt
   have HM:=Lh (HF.out s (List.mem_of_getElem? hx))
   have HIE:Hid ((x.src.take i).isEmpty=decide (i=0)):=Lh (by
    cases hl:x.src with
    | nil=>rw [hl] at hlt;simp at hlt
    | cons y ys=>cases i <;> simp)
   generalize Ziz true (x.src.take i) A2=L1 at *
   have HB:=Lh (HS.out.box 110 #[.string s.table,.string s.as,.slice ja s.on.length jc])
   have HS1:=Lh (HS.out.alloc (.cells #[.string s.table,.string s.as,.slice ja s.on.length jc] 110))
   have HKA:=Lh (HKE.out.trans (HS.out.keepAlloc (.cells #[.string s.table,.string s.as,.slice ja s.on.length jc] 110)))
   have HQ5:=Lh (HQ4.out.keep HKA.out)
   clear hx hsn hlt g0 g1 g2 hkv
   go_upto_region 8 with fail
   clear p0 p1 p2
   generalize wr.alloc (.cells #[.string s.table,.string s.as,.slice ja s.on.length jc] 110)=wx at *
   generalize wr.heap.size=q1 at *
   have c:=HQ5.out.row.cell (i:=0) (v:=pV b) rfl
   have m0:=HB.out.row.cell (i:=0) (v:=.string s.table) rfl
   rw [HIE.out] at HLE HSN
   by_cases h0:i=0
   ·have hz:((i:Int) == 0)=true:=kQ
    have hd:(true && decide (i=0))=true:=kQ
    have HSE:Hid (Ziz (true && decide (i=0)) [s] L1=Z8 (W1 WON) s.on (asT s.as (Ze [W1 Zck,W1 s.table] L1))):=Lh (by rw [hd];rfl)
    rw [HSE.out] at HLE HSN
    have HP:=Lh (Zas [Zck,s.table] w1 b L1 wx HS1.out (Nat.le_trans (Nat.le_trans (Zkp _ _) (Zbn _ _ _)) HLE.out) kY)
    exact ks7
   have hz:((i:Int) == 0)=false:=kQ
   have hd:(true && decide (i=0))=false:=kQ
   have HSE:Hid (Ziz (true && decide (i=0)) [s] L1=Z8 (W1 WON) s.on (asT s.as (Ze [W1 Zfy,W1 s.table] L1))):=Lh (by rw [hd];rfl)
   rw [HSE.out] at HLE HSN
   have HP:=Lh (Zas [Zfy,s.table] w1 b L1 wx HS1.out (Nat.le_trans (Nat.le_trans (Zkp _ _) (Zbn _ _ _)) HLE.out) kY)
   exact ks7
  obtain rfl:i=x.src.length:=kW
  have HW5:Hid (WS w1 b A3 wr):=Lh (by have h1:=HS.out;rw [List.take_length] at h1;rw [E3.out];exact h1)
  have HK5:=Lh (HK4.out.trans HKE.out)
  have HQ5:=Lh (HQ4.out.keep HKE.out)
  have HX5:=Lh (HX4.out.keep HKE.out)
  clear hlt hi HS HW4 HK4 HQ4 HX4 HKE
  generalize wr=w5 at *
  have c:=HQ5.out.row.cell (i:=0) (v:=pV b) rfl
  have p11:=HX5.out.row.cell (i:=11) (v:=.slice a11 x.wh.length n11) rfl
  have HC:=Lh (Zko w1 b Z6 x.wh HE.out _ w5 _ HW5.out H11.out (by have h:=G4.out;rw [E4.out] at h;exact h) HN.out.2.2.1)
  go_wp2_with fail
  refine HC.out.mono ?_
  rintro e6 w6 ⟨rfl,hs,hk⟩
  have HW6:Hid (WS w1 b A4 w6):=Lh (by rw [E4.out];exact hs)
  have HK6:=Lh (HK5.out.trans hk)
  have HQ6:=Lh (HQ5.out.keep hk)
  have HX6:=Lh (HX5.out.keep hk)
  clear hs hk HC c p11 HW5 HK5 HQ5 HX5
  have c:=HQ6.out.row.cell (i:=0) (v:=pV b) rfl
  have p12:=HX6.out.row.cell (i:=12) (v:=.slice a12 x.group.length n12) rfl
  go_upto_if 57 with fail
  go_cut [] (fun wx=>Hid (WS w1 b A5 wx)∧Hid (Za6 b w6 wx))
  case first=>
   by_cases h0:0 < x.group.length
   ·have hB9:(0:Int) < (x.group.length:Int):=kW
    have HB9:Hid (x.group.isEmpty=false):=Lh (by cases hl:x.group with
     | nil=>rw [hl] at h0;simp at h0
     | cons y ys=>rfl)
    clear h0
    have e1:A5=Zm wrE true x.group (Ze [W1 Zbp,W1 WBY] A4):=by rw [E5.out,HB9.out];rfl
    have EE:=Lh e1
    have HLL:Hid ((Zm wrE true x.group (Ze [W1 Zbp,W1 WBY] A4)).length ≤ 140737488355328):=Lh (by have h:=G5.out;rw [e1] at h;exact h)
    have HP:=Lh (Zas [Zbp,WBY] w1 b A4 w6 HW6.out (Nat.le_trans (Za8 Zdg _ _ _) HLL.out) kY)
    clear e1 p12
    go_wp2_with fail
    refine HP.out.mono ?_
    rintro e8 u8 ⟨rfl,hs,hk⟩
    have HW8:=Lh hs
    have HK8:=Lh hk
    have HQ8:=Lh (HQ6.out.keep hk)
    have HX8:=Lh (HX6.out.keep hk)
    clear hs hk HP c hB9
    have c:=HQ8.out.row.cell (i:=0) (v:=pV b) rfl
    have p12:=HX8.out.row.cell (i:=12) (v:=.slice a12 x.group.length n12) rfl
    have HC:=Lh (Zrr w1 b _ wrE Zdg x.group _ u8 _ HW8.out H12.out HQ8.out (fun e l w kv he hws2 hq2 hl hk2=>HG.out e he l w kv hws2 hk2 hl) HLL.out HN.out.2.2.2.1)
    exact ks67
   have hB9:¬ (0:Int) < (x.group.length:Int):=kW
   have HB9:Hid (x.group.isEmpty=true):=Lh (by cases hl:x.group with
    | nil=>rfl
    | cons y ys=>rw [hl] at h0;simp at h0)
   clear h0
   have e1:A5=A4:=by rw [E5.out,HB9.out];rfl
   go_wp2_with fail
   go_meet
   exact ⟨by rw [e1];exact HW6,Lh (Za6.refl _ _)⟩
  obtain ⟨HW7,HKc⟩:=hcut
  have HK7:=Lh (HK6.out.trans HKc.out)
  have HQ7:=Lh (HQ6.out.keep HKc.out)
  have HX7:=Lh (HX6.out.keep HKc.out)
  clear HKc HW6 HK6 HQ6 HX6 c p12
  generalize wc=w7 at *
  have c:=HQ7.out.row.cell (i:=0) (v:=pV b) rfl
  have p13:=HX7.out.row.cell (i:=13) (v:=.slice a13 x.having.length n13) rfl
  have HC:=Lh (Zko w1 b Zbi x.having HV.out _ w7 _ HW7.out H13.out (by have h:=G6.out;rw [E6.out] at h;exact h) HN.out.2.2.2.2.1)
  go_wp2_with fail
  refine HC.out.mono ?_
  rintro e9 w9 ⟨rfl,hs,hk⟩
  have HW9:Hid (WS w1 b A6 w9):=Lh (by rw [E6.out];exact hs)
  have HK9:=Lh (HK7.out.trans hk)
  have HQ9:=Lh (HQ7.out.keep hk)
  have HX9:=Lh (HX7.out.keep hk)
  clear hs hk HC c p13 HW7 HK7 HQ7 HX7
  have c:=HQ9.out.row.cell (i:=0) (v:=pV b) rfl
  have p14:=HX9.out.row.cell (i:=14) (v:=.slice a14 x.order.length n14) rfl
  go_upto_if 74 with fail
  go_cut [] (fun wx=>Hid (WS w1 b A7 wx)∧Hid (Za6 b w9 wx))
  case first=>
   by_cases h0:0 < x.order.length
   ·have hB9:(0:Int) < (x.order.length:Int):=kW
    have HB9:Hid (x.order.isEmpty=false):=Lh (by cases hl:x.order with
     | nil=>rw [hl] at h0;simp at h0
     | cons y ys=>rfl)
    clear h0
    have e1:A7=Zm Zdq true x.order (Ze [W1 Zbz,W1 WBY] A6):=by rw [E7.out,HB9.out];rfl
    have EE:=Lh e1
    have HLL:Hid ((Zm Zdq true x.order (Ze [W1 Zbz,W1 WBY] A6)).length ≤ 140737488355328):=Lh (by have h:=G7.out;rw [e1] at h;exact h)
    have HP:=Lh (Zas [Zbz,WBY] w1 b A6 w9 HW9.out (Nat.le_trans (Za8 Zg1 _ _ _) HLL.out) kY)
    clear e1 p14
    go_wp2_with fail
    refine HP.out.mono ?_
    rintro e8 u8 ⟨rfl,hs,hk⟩
    have HW8:=Lh hs
    have HK8:=Lh hk
    have HQ8:=Lh (HQ9.out.keep hk)
    have HX8:=Lh (HX9.out.keep hk)
    clear hs hk HP c hB9
    have c:=HQ8.out.row.cell (i:=0) (v:=pV b) rfl
    have p14:=HX8.out.row.cell (i:=14) (v:=.slice a14 x.order.length n14) rfl
    have HC:=Lh (Zp7 w1 b q Zdq Zg1 x.order _ u8 _ HW8.out H14.out HQ8.out (fun e l w kv he hws2 hq2 hl hk2=>Zus w1 b q e (HO.out e he) l w kv hws2 hq2 hk2 hl) HLL.out HN.out.2.2.2.2.2)
    exact ks67
   have hB9:¬ (0:Int) < (x.order.length:Int):=kW
   have HB9:Hid (x.order.isEmpty=true):=Lh (by cases hl:x.order with
    | nil=>rfl
    | cons y ys=>rw [hl] at h0;simp at h0)
   clear h0
   have e1:A7=A6:=by rw [E7.out,HB9.out];rfl
   go_wp2_with fail
   go_meet
   exact ⟨by rw [e1];exact HW9,Lh (Za6.refl _ _)⟩
  obtain ⟨HW10,HKc⟩:=hcut
  have HK10:=Lh (HK9.out.trans HKc.out)
  have HQ10:=Lh (HQ9.out.keep HKc.out)
  have HX10:=Lh (HX9.out.keep HKc.out)
  clear HKc HW9 HK9 HQ9 HX9 c p14
  generalize wc=w10 at *
  have c:=HQ10.out.row.cell (i:=0) (v:=pV b) rfl
  have p15:=HX10.out.row.cell (i:=15) (v:=.int .i64 x.limit) rfl
  by_cases hli:0 ≤ x.limit
  ·have i1:decide ((0:Int) ≤ x.limit)=true:=decide_eq_true hli
   have e1:A8=Ze [W1 Zdv,Lib.decDigits x.limit.toNat] A7:=by rw [E8.out,if_pos hli]
   have EE:=Lh e1
   obtain ⟨S,hS⟩:∃ z:ByteArray,z=⟨(Lib.itoa x.limit).toArray⟩:=⟨_,rfl⟩
   have hW:W1 S=Lib.decDigits x.limit.toNat:=by rw [hS];show (Lib.itoa x.limit).toArray.toList=_;rw [Zre,if_neg kW]
   have HSW:=Lh hW
   have HIT:Hid (∀ W,LX W→Calls Tryz.prog 105 #[.int .i64 x.limit] W fun e w'=>e = .returned (.string S)∧Below W.heap.size W w'):=Lh (fun W hL=>by
    refine (Tryz.strconv_Itoa x.limit HLI.out.1 HLI.out.2 W hL.tab).mono ?_
    rintro e w' ⟨rfl,kk,os,rfl⟩
    exact ⟨by rw [hS],Lib.below_grow _ _ (Nat.le_refl _) _ _⟩)
   clear e1 hS hW hli
   go_upto_region 23 with fail
   clear c p15 i1
   refine Zex 5 (Zsz b (q + 1) x.limit S) 92 kY kR kR Zsz.later ?_ ?_
   ·intro i hi A W hother hbW hd
    match i,hi with
    | 0,hi=>
     have h2:=Zt (show A.eval (.tmp 2) = pV q from hother 2 kR)
     have c:=(HQ10.out.later hbW HW10.out.lt).row.cell (i:=0) (v:=pV b) rfl
     clear hother hd hi
     exact Zh rfl (Zf rfl) (pV b) kb0 rfl
    | 1,hi=>
     have h3:=Zt (show A.eval (.tmp 3) = .pointer (some ⟨q + 1,0,none⟩) from hother 3 kR)
     clear hother hd hi
     exact Zh rfl (Zf rfl) (.pointer (some ⟨q + 1,15,none⟩)) kb0 rfl
    | 2,hi=>
     have h87:=(hd _ rfl ⟨1,.data⟩ kY rfl).t (.pointer (some ⟨q + 1,15,none⟩)) 87
     have p15:=(HX10.out.later hbW HW10.out.lt).row.cell (i:=15) (v:=.int .i64 x.limit) rfl
     clear hother hd hi
     exact Zh rfl (Zf rfl) (.int .i64 x.limit) kb0 rfl
    | 3,hi=>
     have h88:=(hd _ rfl ⟨2,.data⟩ kY rfl).t (.int .i64 x.limit) 88
     clear hother hd hi
     exact Zct rfl (Zf rfl) 105 #[.int .i64 x.limit] kb0 ((HIT.out W (HLX.out.later (HW10.out.later hbW).low)).mono fun e w2 hh=>⟨⟨_,hh.1,rfl⟩,hh.2⟩)
    | 4,hi=>
     have h89:=(hd _ rfl ⟨3,.data⟩ kY rfl).t (.string S) 89
     clear hother hd hi
     exact Zg4 rfl (Zf rfl) (.slice (some ⟨W.heap.size,0,none⟩) 2 2) (W.alloc (.cells #[.string Zdv,.string S] 9)) kb0 (bA) ⟨_,rfl,(HW10.out.later hbW).box _ _,((HW10.out.later hbW).alloc _).lt⟩
    | n + 5,hi=>omega
   intro us w11 hb3 hk3
   have h0:us 0 = pV b:=hk3 0 kD
   have h1:us 1 = .pointer (some ⟨q + 1,15,none⟩):=hk3 1 kD
   have h2:us 2 = .int .i64 x.limit:=hk3 2 kD
   have h3:us 3 = .string S:=hk3 3 kD
   obtain ⟨g,h4,hbx,_⟩:Zsz b (q + 1) x.limit S 4 (us 4) w11:=hk3 4 kD
   have HW11:=Lh (HW10.out.later hb3)
   have HK11:=Lh (HK10.out.trans (Za6.below hb3 HW10.out.lt))
   have HP:=Lh (putsW [Zdv,S] w1 b A7 g w11 HW11.out hbx (by have h:=G8.out;rw [EE.out] at h;show (Ze [W1 Zdv,W1 S] A7).length ≤ _;rw [HSW.out];exact h) kY)
   clear hb3 hk3 hbx
   simp only [Z1,Z7,List.getElem?_toArray,List.getElem?_cons_zero,List.getElem?_cons_succ,Option.bind_some,Act.put,h0,h1,h2,h3,h4,List.drop_succ_cons,List.drop_zero]
   clear h0 h1 h2 h3 h4
   simp only [List.setIfInBounds_toArray,List.set_cons_zero,List.set_cons_succ]
   go_wp2_with fail
   refine HP.out.mono ?_
   rintro e12 w12 ⟨rfl,hs,hk⟩
   have HW12:Hid (WS w1 b A8 w12):=Lh (by rw [EE.out,← HSW.out];exact hs)
   have HK12:=Lh (HK11.out.trans hk)
   clear hs hk HP
   go_wp2_with fail
   go_end0
   exact ⟨rfl,HW12.out,HK12.out⟩
  have i1:decide ((0:Int) ≤ x.limit)=false:=decide_eq_false hli
  have e1:A8=A7:=by rw [E8.out,if_neg hli]
  have EE:=Lh e1
  clear e1 hli
  go_wp2_with fail
  go_end0
  exact ⟨rfl,by rw [EE.out];exact HW10.out,HK10.out⟩
namespace nr684
theorem qR0 {p:Prop} (h:p:=by
 rw [hk] at p0
 have HT:Hid (Zb3 x l=Zco x l):=Lh kb7
 rw [HT.out] at HLN
 obtain ⟨-,p1,p2,p3,p4,p5,p6,p7,p8,p9,p10,p11,p12,p13,p14,p15⟩:=sC HX.out.row
 have hc:Calls Tryz.prog 59 #[pV b,.agg (sA x a4 n4 a5 n5 a6 n6 a7 n7 a8 n8 a9 n9 a10 n10 a11 n11 a12 n12 a13 n13 a14 n14)] wa (Zbg w1 b (Zco x l) wa):=by
  by_cases hu:x.uniq=true
  ·exact Zmx w1 b x H_k (Lh hu) a4 a5 a6 a7 a8 a9 a10 a11 a12 a13 a14 n4 n5 n6 n7 n8 n9 n10 n11 n12 n13 n14 l wa HW.out hwk hn5 HLN.out
  ·exact Zk2 w1 b x H_k (Lh kb34) a4 a5 a6 a7 a8 a9 a10 a11 a12 a13 a14 n4 n5 n6 n7 n8 n9 n10 n11 n12 n13 n14 l wa HW.out hwk hn5 HLN.out
 unfold sA at hc
 rw [hk,show ((3:Nat):Int)=3 from rfl] at hc
 have HC:=Lh hc
 clear hc
 go_wp2_with fail
 refine HC.out.mono ?_
 rintro e3 w3 ⟨rfl,hs3,hk3⟩
 have HW3:=Lh hs3
 have HK3:=Lh (HK0.out.trans hk3)
 clear hs3 hk3 HC c p0 p1 p2 p3 p4 p5 p6 p7 p8 p9 p10 p11 p12 p13 p14 p15
 go_wp2_with fail
 go_end0
 exact ⟨rfl,by rw [HT.out];exact HW3.out,HK3.out⟩):p:=h
end nr684
open nr684 in
theorem stmtIx (w1:World) (b:Nat) (x:PSt) (H_k:Hid (x.kind=3))  (a4 a5 a6 a7 a8 a9 a10 a11 a12 a13 a14:Option Addr) (n4 n5 n6 n7 n8 n9 n10 n11 n12 n13 n14:Nat) (l:List UInt8) (w:World) (h:WS w1 b l w) (hwk:SlR 1 Zqc w1 (.slice a5 x.key.length n5) x.key) (hn5:x.key.length ≤ 140737488351232) (hlen:(Zb3 x l).length ≤ 140737488355328) :
 Calls Tryz.prog 24 #[pV b,.agg (sA x a4 n4 a5 n5 a6 n6 a7 n7 a8 n8 a9 n9 a10 n10 a11 n11 a12 n12 a13 n13 a14 n14)] w (Zbg w1 b (Zb3 x l) w):=by exact kp4
namespace nr685
theorem qR0 {p:Prop} (h:p:=by
 rw [hk] at p0
 have HT:Hid (Zb3 x l=Zfw x l):=Lh kb7
 rw [HT.out] at HLN
 obtain ⟨-,p1,p2,p3,p4,p5,p6,p7,p8,p9,p10,p11,p12,p13,p14,p15⟩:=sC HX.out.row
 have hc:=chooseWr w1 b x hx hI hF hE hG hV hO a4 a5 a6 a7 a8 a9 a10 a11 a12 a13 a14 n4 n5 n6 n7 n8 n9 n10 n11 n12 n13 n14 l wa HW.out s9 s10 s11 s12 s13 s14 hn hli HLN.out
 unfold sA at hc
 rw [hk,show ((8:Nat):Int)=8 from rfl] at hc
 have HC:=Lh hc
 clear hc
 go_wp2_with fail
 refine HC.out.mono ?_
 rintro e3 w3 ⟨rfl,hs3,hk3⟩
 have HW3:=Lh hs3
 have HK3:=Lh (HK0.out.trans hk3)
 clear hs3 hk3 HC c p0 p1 p2 p3 p4 p5 p6 p7 p8 p9 p10 p11 p12 p13 p14 p15
 go_wp2_with fail
 go_end0
 exact ⟨rfl,by rw [HT.out];exact HW3.out,HK3.out⟩):p:=h
end nr685
open nr685 in
theorem stmtSel (w1:World) (b:Nat) (x:PSt) (H_k:Hid (x.kind=8)) (hx:LX w1) (hI:∀ e,e ∈ x.items→EXW w1 b e.1) (hF:∀ s,s ∈ x.src→(∀ e,e ∈ s.on→EXW w1 b e)∧s.on.length ≤ 140737488351232) (hE:∀ e,e ∈ x.wh→EXW w1 b e) (hG:∀ e,e ∈ x.group→EXW w1 b e) (hV:∀ e,e ∈ x.having→EXW w1 b e) (hO:∀ e,e ∈ x.order→EXW w1 b e.1) (a4 a5 a6 a7 a8 a9 a10 a11 a12 a13 a14:Option Addr) (n4 n5 n6 n7 n8 n9 n10 n11 n12 n13 n14:Nat) (l:List UInt8) (w:World) (h:WS w1 b l w) (s9:SlR 9 Zfl w1 (.slice a9 x.items.length n9) x.items) (s10:SlR 3 Zo2 w1 (.slice a10 x.src.length n10) x.src) (s11:Zbq w1 (.slice a11 x.wh.length n11) x.wh) (s12:Zbq w1 (.slice a12 x.group.length n12) x.group) (s13:Zbq w1 (.slice a13 x.having.length n13) x.having) (s14:SlR 9 Zdl w1 (.slice a14 x.order.length n14) x.order) (hn:x.items.length ≤ 140737488351232∧x.src.length ≤ 140737488351232∧x.wh.length ≤ 140737488351232∧x.group.length ≤ 140737488351232∧x.having.length ≤ 140737488351232∧x.order.length ≤ 140737488351232) (hli:-9223372036854775808 ≤ x.limit∧x.limit ≤ 9223372036854775807) (hlen:(Zb3 x l).length ≤ 140737488355328) :
 Calls Tryz.prog 24 #[pV b,.agg (sA x a4 n4 a5 n5 a6 n6 a7 n7 a8 n8 a9 n9 a10 n10 a11 n11 a12 n12 a13 n13 a14 n14)] w (Zbg w1 b (Zb3 x l) w):=by exact kp4
structure SEx (w1:World) (b:Nat) (x:PSt):Prop where
 rows:∀ r ∈ x.rows,∀ e ∈ r,EXW w1 b e
 sets:∀ s ∈ x.sets,EXW w1 b s.2
 items:∀ s ∈ x.items,EXW w1 b s.1
 src:∀ s ∈ x.src,∀ e ∈ s.on,EXW w1 b e
 wh:∀ e ∈ x.wh,EXW w1 b e
 group:∀ e ∈ x.group,EXW w1 b e
 having:∀ e ∈ x.having,EXW w1 b e
 order:∀ s ∈ x.order,EXW w1 b s.1
theorem stwAll {w1:World} (b:Nat) (x:PSt) (hx:LX w1) (hs:Zgk x) (he:SEx w1 b x) (hty:∀ c ∈ x.cols,c.ty < 256) (hli:-9223372036854775808 ≤ x.limit∧x.limit ≤ 9223372036854775807):STW w1 b x:=fun cs l w h hr hlen=>by
 obtain ⟨c4,c5,c6,c7,c8,c9,c10,c11,c12,c13,c14,rfl,h4,h5,h6,h7,h8,h9,h10,h11,h12,h13,h14⟩:=hr
 obtain ⟨a4,n4,rfl,_⟩:=h4.shape
 obtain ⟨a5,n5,rfl,_⟩:=h5.shape
 obtain ⟨a6,n6,rfl,_⟩:=h6.shape
 obtain ⟨a7,n7,rfl,_⟩:=h7.shape
 obtain ⟨a8,n8,rfl,_⟩:=h8.shape
 obtain ⟨a9,n9,rfl,_⟩:=h9.shape
 obtain ⟨a10,n10,rfl,_⟩:=h10.shape
 obtain ⟨a11,n11,rfl,_⟩:=h11.shape
 obtain ⟨a12,n12,rfl,_⟩:=h12.shape
 obtain ⟨a13,n13,rfl,_⟩:=h13.shape
 obtain ⟨a14,n14,rfl,_⟩:=h14.shape
 by_cases k0:x.kind=0 ∨ 14 < x.kind
 ·exact stmtNone w1 b x (Lh k0) a4 a5 a6 a7 a8 a9 a10 a11 a12 a13 a14 n4 n5 n6 n7 n8 n9 n10 n11 n12 n13 n14 l w h hlen
 rcases (by omega:x.kind=1 ∨ x.kind=2 ∨ x.kind=3 ∨ x.kind=4 ∨ x.kind=5 ∨ x.kind=6 ∨ x.kind=7 ∨ x.kind=8 ∨ x.kind=9 ∨ x.kind=10 ∨ x.kind=11 ∨ x.kind=12 ∨ x.kind=13 ∨ x.kind=14) with hk | hk | hk | hk | hk | hk | hk | hk | hk | hk | hk | hk | hk | hk
 ·exact stmtTb w1 b x (Lh hk) a4 a5 a6 a7 a8 a9 a10 a11 a12 a13 a14 n4 n5 n6 n7 n8 n9 n10 n11 n12 n13 n14 l w h h5 hs.key h4 hs.cols hty hlen
 ·exact stmtDrop w1 b x (Lh hk) a4 a5 a6 a7 a8 a9 a10 a11 a12 a13 a14 n4 n5 n6 n7 n8 n9 n10 n11 n12 n13 n14 l w h hlen
 ·exact stmtIx w1 b x (Lh hk) a4 a5 a6 a7 a8 a9 a10 a11 a12 a13 a14 n4 n5 n6 n7 n8 n9 n10 n11 n12 n13 n14 l w h h5 hs.key hlen
 ·exact Zr5 w1 b x (Lh hk) a4 a5 a6 a7 a8 a9 a10 a11 a12 a13 a14 n4 n5 n6 n7 n8 n9 n10 n11 n12 n13 n14 l w h hlen
 ·exact Zr4 w1 b x (Lh hk) (fun r hr=>⟨fun e hee=>he.rows r hr e hee,(hs.rows.2 r hr).2⟩) a4 a5 a6 a7 a8 a9 a10 a11 a12 a13 a14 n4 n5 n6 n7 n8 n9 n10 n11 n12 n13 n14 l w h h6 hs.names h7 hs.rows.1 hlen
 ·exact Zr3 w1 b x (Lh hk) he.wh he.sets a4 a5 a6 a7 a8 a9 a10 a11 a12 a13 a14 n4 n5 n6 n7 n8 n9 n10 n11 n12 n13 n14 l w h h11 hs.wh.1 h8 hs.sets.1 hlen
 ·exact Zt0 w1 b x (Lh hk) he.wh a4 a5 a6 a7 a8 a9 a10 a11 a12 a13 a14 n4 n5 n6 n7 n8 n9 n10 n11 n12 n13 n14 l w h h11 hs.wh.1 hlen
 ·exact stmtSel w1 b x (Lh hk) hx he.items (fun s hss=>⟨fun e hee=>he.src s hss e hee,(hs.src.2 s hss).2⟩) he.wh he.group he.having he.order a4 a5 a6 a7 a8 a9 a10 a11 a12 a13 a14 n4 n5 n6 n7 n8 n9 n10 n11 n12 n13 n14 l w h h9 h10 h11 h12 h13 h14 ⟨hs.items.1,hs.src.1,hs.wh.1,hs.group.1,hs.having.1,hs.order.1⟩ hli hlen
 ·exact Zt1 w1 b x (Lh hk) a4 a5 a6 a7 a8 a9 a10 a11 a12 a13 a14 n4 n5 n6 n7 n8 n9 n10 n11 n12 n13 n14 l w h hlen
 ·exact Zr6 w1 b x (Lh hk) a4 a5 a6 a7 a8 a9 a10 a11 a12 a13 a14 n4 n5 n6 n7 n8 n9 n10 n11 n12 n13 n14 l w h hlen
 ·exact stmtRoll w1 b x (Lh hk) a4 a5 a6 a7 a8 a9 a10 a11 a12 a13 a14 n4 n5 n6 n7 n8 n9 n10 n11 n12 n13 n14 l w h hlen
 ·exact stmtSave w1 b x (Lh hk) a4 a5 a6 a7 a8 a9 a10 a11 a12 a13 a14 n4 n5 n6 n7 n8 n9 n10 n11 n12 n13 n14 l w h hlen
 ·exact Zr7 w1 b x (Lh hk) a4 a5 a6 a7 a8 a9 a10 a11 a12 a13 a14 n4 n5 n6 n7 n8 n9 n10 n11 n12 n13 n14 l w h hlen
 ·exact Zpn w1 b x (Lh hk) a4 a5 a6 a7 a8 a9 a10 a11 a12 a13 a14 n4 n5 n6 n7 n8 n9 n10 n11 n12 n13 n14 l w h hlen
end Go.Proofs.YtmdogmpcmkfjpaaGreatDoor.Dt
