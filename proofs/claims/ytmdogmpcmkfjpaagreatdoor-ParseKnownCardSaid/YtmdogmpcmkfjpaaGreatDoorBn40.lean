import Derived.Deep.DeepCutAuto
import Derived.Test.YtmdogmpcmkfjpaaGreatDoorBn39
import Derived.Test.YtmdogmpcmkfjpaaGreatDoorBn36
import Derived.Test.YtmdogmpcmkfjpaaGreatDoorBn12
/- Part of the proof (merged). -/
namespace Go.Proofs.YtmdogmpcmkfjpaaGreatDoor.Dt
open Go.RowKit Go.Proofs.YtmdogmpcmkfjpaaGreatDoor.By
theorem commaT_snoc {α:Type} (one:α→List UInt8→List UInt8) (x:α):∀ (xs:List α) (f:Bool) (a:List UInt8),commaT one f (xs ++ [x]) a=one x (if f && xs.isEmpty then commaT one f xs a else putsL [W1 BCOMMA] (commaT one f xs a))
 | [],true,a=>rfl
 | [],false,a=>rfl
 | y :: l,f,a=>by
  show commaT one false (l ++ [x]) _=_
  rw [commaT_snoc one x l false]
  simp only [Bool.false_and,Bool.false_eq_true,if_false,List.isEmpty_cons,Bool.and_false]
  rfl
theorem commaT_len {α:Type} {one:α→List UInt8→List UInt8} (h:∀ x a,a.length ≤ (one x a).length):∀ (xs:List α) (f:Bool) (a:List UInt8),a.length ≤ (commaT one f xs a).length
 | [],f,a=>Nat.le_refl _
 | y :: l,f,a=>by
  refine Nat.le_trans ?_ (commaT_len h l false _)
  refine Nat.le_trans ?_ (h _ _)
  split
  ·exact Nat.le_refl _
  ·exact putsL_len _ _
theorem commaT_app {α:Type} (one:α→List UInt8→List UInt8):∀ (xs ys:List α) (f:Bool) (a:List UInt8),commaT one f (xs ++ ys) a=commaT one (f && xs.isEmpty) ys (commaT one f xs a)
 | [],ys,f,a=>by simp [commaT]
 | x :: l,ys,f,a=>by
  show commaT one false (l ++ ys) _=_
  rw [commaT_app one l ys false]
  simp only [Bool.false_and,List.isEmpty_cons,Bool.and_false]
  rfl
set_option maxRecDepth 100000 in
set_option maxHeartbeats 16000000 in
theorem commasTxt (w1:World) (b qf:Nat) (one:ByteArray→List UInt8→List UInt8) (hmono:∀ x a,a.length ≤ (one x a).length) (xs:List ByteArray) (l:List UInt8) (w:World) (va:Value) (h:WS w1 b l w) (hs:SlR 1 TxtR w1 va xs)
 (hq:BX b qf 61 #[.pointer (some ⟨b,0,none⟩)] w)
 (HO:∀ (x:ByteArray) (l:List UInt8) (w:World),x ∈ xs→WS w1 b l w→BX b qf 61 #[.pointer (some ⟨b,0,none⟩)] w→(one x l).length ≤ 140737488355328→Calls Tryz.prog 99 #[.string x,.pointer (some ⟨qf,0,none⟩)] w (WPost w1 b (one x l) w))
 (hlen:(commaT one true xs l).length ≤ 140737488355328) (hn:xs.length ≤ 140737488351232) :
 Calls Tryz.prog 98 #[.pointer (some ⟨b,0,none⟩),va,.func (.func 99) #[] #[.pointer (some ⟨qf,0,none⟩)]] w (WPost w1 b (commaT one true xs l) w):=by
 obtain ⟨ka,kc,rfl,_⟩:=hs.shape
 have HW:=Lib.hid h
 have HK:=Lib.hid hs
 have HQ:=Lib.hid hq
 have HLN:=Lib.hid hlen
 have HONE:=Lib.hid HO
 clear h hs hlen hq HO
 go_enter Tryz.func98,Tryz.ntmps98
 go_wp2_with fail
 go_loopg [10] xs.length (fun gk iv wr=>∃ (i:Nat),iv = .int .i64 (i:Int)∧gk=xs.length - i∧i ≤ xs.length∧Hid (WS w1 b (commaT one true (xs.take i) l) wr)∧Hid (KeepW b w wr))
 case atStart=>exact ⟨0,rfl,rfl,Nat.zero_le _,HW,Lib.hid (KeepW.refl _ _)⟩
 case round=>
  obtain ⟨i,rfl,rfl,hi,HS,HKE⟩:=hrel
  by_cases hlt:i < xs.length
  ·obtain ⟨x,hx⟩:∃ x,xs[i]? = some x:=⟨xs[i],by simp⟩
   have hsn:commaT one true (xs.take (i + 1)) l=one x (if i=0 then commaT one true (xs.take i) l else putsL [W1 BCOMMA] (commaT one true (xs.take i) l)):=by
    rw [List.take_add_one,hx]
    refine (commaT_snoc one x _ true l).trans ?_
    congr 1
    by_cases h0:i=0
    ·subst h0;rfl
    ·rw [if_neg h0,if_neg]
     have:(xs.take i).isEmpty=false:=by
      cases hxs:xs with
      | nil=>rw [hxs] at hlt;simp at hlt
      | cons y m=>
       cases i with
       | zero=>exact absurd rfl h0
       | succ j=>rfl
     simp [this]
   have HLE:Hid ((commaT one true (xs.take (i + 1)) l).length ≤ 140737488355328):=Lib.hid (by
    have e:xs=xs.take (i + 1) ++ xs.drop (i + 1):=(List.take_append_drop _ _).symm
    have h1:=HLN.out
    rw [e,commaT_app] at h1
    exact Nat.le_trans (commaT_len hmono _ _ _) h1)
   have HSN:=Lib.hid hsn
   obtain ⟨kq,ko,rfl,g0⟩:=txt_at HK.out hx
   have p0:=(HS.out.low.cell (cell_lt g0)).trans g0
   clear g0
   have ilt:(i:Int) < (xs.length:Int):=by omega
   have ige:(0:Int) ≤ (i:Int):=by omega
   have HLT:=Lib.hid hlt
   have HM:=Lib.hid (List.mem_of_getElem? hx)
   have HQ1:=Lib.hid (HQ.out.keep HKE.out)
   generalize commaT one true (xs.take i) l=L0 at *
   clear hx hsn hlt
   by_cases h0:i=0
   ·have ig:¬ (0:Int) < (i:Int):=by omega
    have HSN:Hid (commaT one true (xs.take (i + 1)) l=one x L0):=Lib.hid (by rw [HSN.out,if_pos h0])
    rw [HSN.out] at HLE
    have HC:=Lib.hid (HONE.out x L0 wr HM.out HS.out HQ1.out HLE.out)
    clear h0
    go_wp2_with fail
    refine HC.out.mono ?_
    rintro e3 w3 ⟨rfl,hs3,hk3⟩
    have HS3:Hid (WS w1 b (commaT one true (xs.take (i + 1)) l) w3):=Lib.hid (by rw [HSN.out];exact hs3)
    have HK3:=Lib.hid (HKE.out.trans hk3)
    clear hs3 hk3 HC p0
    go_wp2_with fail
    go_roundg (xs.length - (i + 1))
    case measure=>exact Nat.sub_lt_sub_left HLT.out (Nat.lt_succ_self _)
    case rel=>exact ⟨i + 1,by have h2:=HLT.out;go_num,rfl,HLT.out,HS3,HK3⟩
   ·have ig:(0:Int) < (i:Int):=by omega
    have HSN:Hid (commaT one true (xs.take (i + 1)) l=one x (putsL [W1 BCOMMA] L0)):=Lib.hid (by rw [HSN.out,if_neg h0])
    rw [HSN.out] at HLE
    have HP:=Lib.hid (putsN [BCOMMA] w1 b L0 wr HS.out (Nat.le_trans (hmono _ _) HLE.out) (by simp))
    clear h0
    go_wp2_with fail
    refine HP.out.mono ?_
    rintro e2 w2 ⟨rfl,hs2,hk2⟩
    have HK2:=Lib.hid (HKE.out.trans hk2)
    have HC:=Lib.hid (HONE.out x _ w2 HM.out hs2 (HQ1.out.keep hk2) HLE.out)
    clear hs2 hk2 HP p0
    go_wp2_with fail
    refine HC.out.mono ?_
    rintro e3 w3 ⟨rfl,hs3,hk3⟩
    have HS3:Hid (WS w1 b (commaT one true (xs.take (i + 1)) l) w3):=Lib.hid (by rw [HSN.out];exact hs3)
    have HK3:=Lib.hid (HK2.out.trans hk3)
    clear hs3 hk3 HC
    go_wp2_with fail
    go_roundg (xs.length - (i + 1))
    case measure=>exact Nat.sub_lt_sub_left HLT.out (Nat.lt_succ_self _)
    case rel=>exact ⟨i + 1,by have h2:=HLT.out;go_num,rfl,HLT.out,HS3,HK3⟩
  ·obtain rfl:i=xs.length:=by omega
   have HSF:Hid (WS w1 b (commaT one true xs l) wr):=Lib.hid (by have h1:=HS.out;rw [List.take_length] at h1;exact h1)
   clear hlt hi
   go_wp2_with fail
   go_end0
   exact ⟨rfl,HSF.out,HKE.out⟩
set_option maxRecDepth 100000 in
set_option maxHeartbeats 4000000 in
theorem nameOneW (w1:World) (b q:Nat) (s:ByteArray) (l:List UInt8) (w:World) (h:WS w1 b l w) (hq:BX b q 61 #[.pointer (some ⟨b,0,none⟩)] w) (hlen:(putsL [W1 s] l).length ≤ 140737488355328) :
 Calls Tryz.prog 99 #[.string s,.pointer (some ⟨q,0,none⟩)] w (WPost w1 b (putsL [W1 s] l) w):=by
 have HP:=Lib.hid (putsN [s] w1 b l w h hlen (by simp))
 have c0:=hq.row.cell (i:=0) (v:=.pointer (some ⟨b,0,none⟩)) rfl
 clear h hlen hq
 go_enter Tryz.func99,Tryz.ntmps99
 go_wp2_with fail
 refine HP.out.mono ?_
 rintro e2 w2 ⟨rfl,hs2,hk2⟩
 have HS2:=Lib.hid hs2
 have HK2:=Lib.hid hk2
 clear hs2 hk2 HP c0
 go_wp2_with fail
 go_end0
 exact ⟨rfl,HS2.out,HK2.out⟩
theorem namesT_len (l:List ByteArray) (a:List UInt8):a.length ≤ (namesT l a).length:=by
 unfold namesT
 exact Nat.le_trans (Nat.le_trans (putsL_len _ _) (commaT_len (fun x a=>putsL_len _ _) _ _ _)) (putsL_len _ _)
set_option maxRecDepth 100000 in
set_option maxHeartbeats 8000000 in
theorem wnamesW (w1:World) (b:Nat) (xs:List ByteArray) (l:List UInt8) (w:World) (va:Value) (h:WS w1 b l w) (hs:SlR 1 TxtR w1 va xs) (hlen:(namesT xs l).length ≤ 140737488355328) (hn:xs.length ≤ 140737488351232) :
 Calls Tryz.prog 61 #[.pointer (some ⟨b,0,none⟩),va] w (WPost w1 b (namesT xs l) w):=by
 obtain ⟨ka,kc,rfl,_⟩:=hs.shape
 unfold namesT at hlen ⊢
 have HK:=Lib.hid hs
 have HLN:=Lib.hid hlen
 have HN:=Lib.hid hn
 have HQ:=Lib.hid (h.box 61 #[.pointer (some ⟨b,0,none⟩)])
 have HW:=Lib.hid (h.alloc (.cells #[.pointer (some ⟨b,0,none⟩)] 61))
 have HK0:=Lib.hid (h.keepAlloc (.cells #[.pointer (some ⟨b,0,none⟩)] 61))
 clear h hs hlen hn
 go_enter Tryz.func61,Tryz.ntmps61
 go_upto_region 1 with fail
 generalize w.alloc (.cells #[.pointer (some ⟨b,0,none⟩)] 61)=wa at *
 generalize w.heap.size=q at *
 have c0:=HQ.out.row.cell (i:=0) (v:=.pointer (some ⟨b,0,none⟩)) rfl
 have HP:=Lib.hid (putsN [BOPEN] w1 b l wa HW.out (Nat.le_trans (Nat.le_trans (commaT_len (fun x a=>putsL_len _ _) _ _ _) (putsL_len _ _)) HLN.out) (by simp))
 go_wp2_with fail
 refine HP.out.mono ?_
 rintro e2 w2 ⟨rfl,hs2,hk2⟩
 have HQ2:=Lib.hid (HQ.out.keep hk2)
 have HK2:=Lib.hid (HK0.out.trans hk2)
 have HC:=Lib.hid (commasTxt w1 b q (fun s=>putsL [W1 s]) (fun x a=>putsL_len _ _) xs _ w2 _ hs2 HK.out HQ2.out (fun x l w _ h hq hl=>nameOneW w1 b q x l w h hq hl) (Nat.le_trans (putsL_len _ _) HLN.out) HN.out)
 clear hs2 hk2 HP c0
 have c0:=HQ2.out.row.cell (i:=0) (v:=.pointer (some ⟨b,0,none⟩)) rfl
 go_wp2_with fail
 refine HC.out.mono ?_
 rintro e3 w3 ⟨rfl,hs3,hk3⟩
 have HQ3:=Lib.hid (HQ2.out.keep hk3)
 have HK3:=Lib.hid (HK2.out.trans hk3)
 have HP3:=Lib.hid (putsN [BCLOSE] w1 b _ w3 hs3 HLN.out (by simp))
 clear hs3 hk3 HC c0
 have c0:=HQ3.out.row.cell (i:=0) (v:=.pointer (some ⟨b,0,none⟩)) rfl
 go_wp2_with fail
 refine HP3.out.mono ?_
 rintro e4 w4 ⟨rfl,hs4,hk4⟩
 have HS4:=Lib.hid hs4
 have HK4:=Lib.hid (HK3.out.trans hk4)
 clear hs4 hk4 HP3 c0
 go_wp2_with fail
 go_end0
 exact ⟨rfl,HS4.out,HK4.out⟩
set_option maxRecDepth 100000 in
set_option maxHeartbeats 16000000 in
theorem stmtDel (w1:World) (b:Nat) (x:PSt) (H_k:Hid (x.kind=7)) (hE:∀ e,e ∈ x.wh→EXW w1 b e) (a4 a5 a6 a7 a8 a9 a10 a11 a12 a13 a14:Option Addr) (n4 n5 n6 n7 n8 n9 n10 n11 n12 n13 n14:Nat) (l:List UInt8) (w:World) (h:WS w1 b l w) (hw:ExsR w1 (.slice a11 x.wh.length n11) x.wh) (hn:x.wh.length ≤ 140737488351232) (hlen:(wrSt x l).length ≤ 140737488355328) :
 Calls Tryz.prog 24 #[.pointer (some ⟨b,0,none⟩),.agg #[.int .u8 (x.kind:Int),.string x.table,.string x.name,.bool x.uniq,.slice a4 x.cols.length n4,.slice a5 x.key.length n5,.slice a6 x.names.length n6,.slice a7 x.rows.length n7,.slice a8 x.sets.length n8,.slice a9 x.items.length n9,.slice a10 x.src.length n10,.slice a11 x.wh.length n11,.slice a12 x.group.length n12,.slice a13 x.having.length n13,.slice a14 x.order.length n14,.int .i64 x.limit]] w (WPost w1 b (wrSt x l) w):=by
 have HLN:=Lib.hid hlen
 have HQ:=Lib.hid ((h.box 61 #[.pointer (some ⟨b,0,none⟩)]).keep ((h.alloc (.cells #[.pointer (some ⟨b,0,none⟩)] 61)).keepAlloc (.cells #[.int .u8 (x.kind:Int),.string x.table,.string x.name,.bool x.uniq,.slice a4 x.cols.length n4,.slice a5 x.key.length n5,.slice a6 x.names.length n6,.slice a7 x.rows.length n7,.slice a8 x.sets.length n8,.slice a9 x.items.length n9,.slice a10 x.src.length n10,.slice a11 x.wh.length n11,.slice a12 x.group.length n12,.slice a13 x.having.length n13,.slice a14 x.order.length n14,.int .i64 x.limit] 31)))
 have hx0:=(h.alloc (.cells #[.pointer (some ⟨b,0,none⟩)] 61)).box 31 #[.int .u8 (x.kind:Int),.string x.table,.string x.name,.bool x.uniq,.slice a4 x.cols.length n4,.slice a5 x.key.length n5,.slice a6 x.names.length n6,.slice a7 x.rows.length n7,.slice a8 x.sets.length n8,.slice a9 x.items.length n9,.slice a10 x.src.length n10,.slice a11 x.wh.length n11,.slice a12 x.group.length n12,.slice a13 x.having.length n13,.slice a14 x.order.length n14,.int .i64 x.limit]
 have hz:(w.alloc (.cells #[.pointer (some ⟨b,0,none⟩)] 61)).heap.size=w.heap.size + 1:=by simp
 rw [hz] at hx0
 have HX:=Lib.hid hx0
 have HW:=Lib.hid ((h.alloc (.cells #[.pointer (some ⟨b,0,none⟩)] 61)).alloc (.cells #[.int .u8 (x.kind:Int),.string x.table,.string x.name,.bool x.uniq,.slice a4 x.cols.length n4,.slice a5 x.key.length n5,.slice a6 x.names.length n6,.slice a7 x.rows.length n7,.slice a8 x.sets.length n8,.slice a9 x.items.length n9,.slice a10 x.src.length n10,.slice a11 x.wh.length n11,.slice a12 x.group.length n12,.slice a13 x.having.length n13,.slice a14 x.order.length n14,.int .i64 x.limit] 31))
 have HK0:=Lib.hid ((h.keepAlloc (.cells #[.pointer (some ⟨b,0,none⟩)] 61)).trans ((h.alloc (.cells #[.pointer (some ⟨b,0,none⟩)] 61)).keepAlloc (.cells #[.int .u8 (x.kind:Int),.string x.table,.string x.name,.bool x.uniq,.slice a4 x.cols.length n4,.slice a5 x.key.length n5,.slice a6 x.names.length n6,.slice a7 x.rows.length n7,.slice a8 x.sets.length n8,.slice a9 x.items.length n9,.slice a10 x.src.length n10,.slice a11 x.wh.length n11,.slice a12 x.group.length n12,.slice a13 x.having.length n13,.slice a14 x.order.length n14,.int .i64 x.limit] 31)))
 clear h hlen hx0 hz
 go_enter Tryz.func24,Tryz.ntmps24
 go_upto_region 1 with fail
 generalize (w.alloc (.cells #[.pointer (some ⟨b,0,none⟩)] 61)).alloc (.cells #[.int .u8 (x.kind:Int),.string x.table,.string x.name,.bool x.uniq,.slice a4 x.cols.length n4,.slice a5 x.key.length n5,.slice a6 x.names.length n6,.slice a7 x.rows.length n7,.slice a8 x.sets.length n8,.slice a9 x.items.length n9,.slice a10 x.src.length n10,.slice a11 x.wh.length n11,.slice a12 x.group.length n12,.slice a13 x.having.length n13,.slice a14 x.order.length n14,.int .i64 x.limit] 31)=wa at *
 generalize w.heap.size=q at *
 have hk:=H_k.out
 have c:=HQ.out.row.cell (i:=0) (v:=.pointer (some ⟨b,0,none⟩)) rfl
 have p0:=HX.out.row.cell (i:=0) (v:=.int .u8 (x.kind:Int)) rfl
 rw [hk] at p0
 have HT:Hid (wrSt x l=behindT (W1 WWHERE) x.wh (putsL [W1 WDELETE,W1 WFROM,W1 x.table] l)):=Lib.hid (by unfold wrSt;rw [hk];rfl)
 rw [HT.out] at HLN
 have p1:=HX.out.row.cell (i:=1) (v:=.string x.table) rfl
 have HP2:=Lib.hid (putsN [WDELETE,WFROM,x.table] w1 b l wa HW.out (Nat.le_trans (behindT_len _ _ _) HLN.out) (by simp))
 go_wp2_with fail
 refine HP2.out.mono ?_
 rintro e2 w2 ⟨rfl,hs2,hk2⟩
 have HW2:=Lib.hid hs2
 have HK2:=Lib.hid (HK0.out.trans hk2)
 have HQ2:=Lib.hid (HQ.out.keep hk2)
 have HX2:=Lib.hid (HX.out.keep hk2)
 clear hs2 hk2 HP2 c p0 p1
 have c:=HQ2.out.row.cell (i:=0) (v:=.pointer (some ⟨b,0,none⟩)) rfl
 have p11:=HX2.out.row.cell (i:=11) (v:=.slice a11 x.wh.length n11) rfl
 have HC:=Lib.hid (behindW w1 b WWHERE x.wh hE _ w2 _ HW2.out hw HLN.out hn)
 go_wp2_with fail
 refine HC.out.mono ?_
 rintro e3 w3 ⟨rfl,hs3,hk3⟩
 have HW3:=Lib.hid hs3
 have HK3:=Lib.hid (HK2.out.trans hk3)
 clear hs3 hk3 HC c p11
 go_wp2_with fail
 go_end0
 exact ⟨rfl,by rw [HT.out];exact HW3.out,HK3.out⟩
set_option maxRecDepth 100000 in
set_option maxHeartbeats 64000000 in
theorem exprTwo6 (w1:World) (b:Nat) (x:PE) (hv:VFit x.v) (hx:LX w1) (hkid:∀ y,y ∈ x.kids→EXW w1 b y) (H_hop:Hid (x.op=6)) (H_hn:Hid (x.kids.length=2)):EXW w1 b x:=by
 intro l w kv h hk hlen
 obtain ⟨ka,kc,rfl,hkc⟩:=hk.shape
 have HK:=Lib.hid hk
 have HLN:=Lib.hid hlen
 have HV:=Lib.hid hv
 have HLX:=Lib.hid hx
 have HKID:=Lib.hid hkid
 unfold PE.val
 have hok:=ex_ok x ka x.kids.length kc
 have HX:=Lib.hid (h.box 48 #[.int .u8 (x.op:Int),.int .u8 (x.v.k:Int),.int .i64 x.v.n,.string x.v.s,.string x.t,.string x.m,.int .i64 x.n,.slice ka x.kids.length kc])
 have HW:=Lib.hid (h.alloc (.cells #[.int .u8 (x.op:Int),.int .u8 (x.v.k:Int),.int .i64 x.v.n,.string x.v.s,.string x.t,.string x.m,.int .i64 x.n,.slice ka x.kids.length kc] 48))
 have HK0:=Lib.hid (h.keepAlloc (.cells #[.int .u8 (x.op:Int),.int .u8 (x.v.k:Int),.int .i64 x.v.n,.string x.v.s,.string x.t,.string x.m,.int .i64 x.n,.slice ka x.kids.length kc] 48))
 clear h hk hlen hv hx hkid hkc
 go_enter Tryz.func34,Tryz.ntmps34
 go_upto_region 1 with fail
 clear hok
 generalize w.alloc (.cells #[.int .u8 (x.op:Int),.int .u8 (x.v.k:Int),.int .i64 x.v.n,.string x.v.s,.string x.t,.string x.m,.int .i64 x.n,.slice ka x.kids.length kc] 48)=wa at *
 generalize w.heap.size=q at *
 have HL:=Lib.hid (writerLen w1.heap.size b l wa HW.out.bld)
 go_wp2_with fail
 refine HL.out.mono ?_
 rintro e2 w2 ⟨rfl,rfl⟩
 clear HL
 by_cases hlong:32768 < l.length
 ·have i1:(32768:Int) < (l.length:Int):=by omega
  have HT:Hid (wrE x l=l):=Lib.hid (wr_long hlong)
  clear hlong
  go_wp2_with fail
  go_end0
  exact ⟨rfl,by rw [HT.out];exact HW.out,HK0.out⟩
 have i1:¬ (32768:Int) < (l.length:Int):=by omega
 have HNL:=Lib.hid hlong
 have c0:=HX.out.row.cell (i:=0) (v:=.int .u8 (x.op:Int)) rfl
 have c1:=HX.out.row.cell (i:=1) (v:=.int .u8 (x.v.k:Int)) rfl
 have c2:=HX.out.row.cell (i:=2) (v:=.int .i64 x.v.n) rfl
 have c3:=HX.out.row.cell (i:=3) (v:=.string x.v.s) rfl
 have c4:=HX.out.row.cell (i:=4) (v:=.string x.t) rfl
 have c5:=HX.out.row.cell (i:=5) (v:=.string x.m) rfl
 have c7:=HX.out.row.cell (i:=7) (v:=.slice ka x.kids.length kc) rfl
 clear hlong
 go_upto_region 4 with fail
 have hop:=H_hop.out
 have hn:=H_hn.out
 have o1:((x.op:Int) == 1)=false:=by simp;omega
 have o2:((x.op:Int) == 2)=false:=by simp;omega
 have o3:((x.op:Int) == 3)=false:=by simp;omega
 have o4:((x.op:Int) == 4)=false:=by simp;omega
 have o5:((x.op:Int) == 5)=false:=by simp;omega
 have o20:((x.op:Int) == 20)=false:=by simp;omega
 have g6:  (6:Int) ≤ (x.op:Int):=by omega
 have g20:¬ (20:Int) ≤ (x.op:Int):=by omega
 have l19:  (x.op:Int) ≤ 19:=by omega
 have l23:  (x.op:Int) ≤ 23:=by omega
 have n0:((x.kids.length:Int) == 0)=false:=by simp [hn]
 have n1:((x.kids.length:Int) == 1)=false:=by simp [hn]
 have n2:((x.kids.length:Int) == 2)=true:=by simp [hn]
 obtain ⟨y,z,hkids⟩:=len_two hn
 have HY:Hid (y ∈ x.kids):=Lib.hid (by rw [hkids];simp)
 have HZ:Hid (z ∈ x.kids):=Lib.hid (by rw [hkids];simp)
 have HT:Hid (wrE x l=kidT (wrE z) z.op true (putsL [W1 BPLUS] (kidT (wrE y) y.op true l))):=Lib.hid (by
  have hg:(sgnT[6 - 6]?).getD []=W1 BPLUS:=rfl
  rw [wr_two HNL.out (by omega) hkids,hop,hg])
 rw [HT.out] at HLN
 obtain ⟨kq,ko,kv,rfl,HKV,p0,p1,p2,p3,p4,p5,p6,p7⟩:=kid_at HW.out HK.out (k:=0) (y:=y) (by rw [hkids];rfl)
 simp only [Nat.zero_mul,Nat.add_zero] at p0 p1 p2 p3 p4 p5 p6 p7
 obtain ⟨ja,jc,rfl,_⟩:=HKV.shape
 have HKV:=Lib.hid HKV
 have hc3:=kidW w1 b y (HKID.out y HY.out) true l w2 _ HW.out HKV.out (Nat.le_trans (putsL_len _ _) (Nat.le_trans (kidT_len (wrE_le z) _ _ _) HLN.out))
 unfold PE.val at hc3
 have HC3:=Lib.hid hc3
 clear hc3
 go_wp2_with fail
 refine HC3.out.mono ?_
 rintro e3 w3 ⟨rfl,hs3,hk3⟩
 have HW3:=Lib.hid hs3
 have HX3:=Lib.hid (HX.out.keep hk3)
 have HK3:=Lib.hid (HK0.out.trans hk3)
 clear hs3 hk3 HC3
 clear c0 c1 c2 c3 c4 c5 c7 p0 p1 p2 p3 p4 p5 p6 p7
 generalize kidT (wrE y) y.op true l=l3 at *
 go_upto_region 21 with fail
 go_cut [] (fun wx=>WS w1 b (putsL [W1 BPLUS] l3) wx∧KeepW b w3 wx)
 case first=>
  have hbd:Below w3.heap.size w3 w3.drew:=Below.drew (Below.refl _ _)
  have hba:Below w3.heap.size w3 (w3.drew.alloc (.cells #[.string BPLUS,.string BMINUS,.string BSTAR,.string BDIV,.string BMOD,.string BJOIN,.string BEQ,.string BNE,.string BLT,.string BLE,.string BGT,.string BGE,.string WAND,.string WOR] 9)):=hbd.trans ((Below.refl _ w3.drew).alloc (Nat.le_refl _) _)
  have HA:=Lib.hid (HW3.out.later hba)
  have HXD:=Lib.hid (HX3.out.later hbd HW3.out.lt)
  have HXA:=Lib.hid (HX3.out.later hba HW3.out.lt)
  have HRA:=Lib.hid (row_alloc w3.drew 9 #[.string BPLUS,.string BMINUS,.string BSTAR,.string BDIV,.string BMOD,.string BJOIN,.string BEQ,.string BNE,.string BLT,.string BLE,.string BGT,.string BGE,.string WAND,.string WOR])
  have HKA:Hid (KeepW b w3 (w3.drew.alloc (.cells #[.string BPLUS,.string BMINUS,.string BSTAR,.string BDIV,.string BMOD,.string BJOIN,.string BEQ,.string BNE,.string BLT,.string BLE,.string BGT,.string BGE,.string WAND,.string WOR] 9))):=Lib.hid (KeepW.below hba HW3.out.lt)
  have d0:=HXD.out.row.cell (i:=0) (v:=.int .u8 (x.op:Int)) rfl
  have d1:=HXA.out.row.cell (i:=0) (v:=.int .u8 (x.op:Int)) rfl
  rw [hop] at d0 d1
  have d2:(w3.drew.alloc (.cells #[.string BPLUS,.string BMINUS,.string BSTAR,.string BDIV,.string BMOD,.string BJOIN,.string BEQ,.string BNE,.string BLT,.string BLE,.string BGT,.string BGE,.string WAND,.string WOR] 9)).cell? ⟨w3.heap.size,0,none⟩=some (.string BPLUS):=HRA.out.cell (i:=0) (v:=.string BPLUS) rfl
  have d1b:(w3.alloc (.cells #[.string BPLUS,.string BMINUS,.string BSTAR,.string BDIV,.string BMOD,.string BJOIN,.string BEQ,.string BNE,.string BLT,.string BLE,.string BGT,.string BGE,.string WAND,.string WOR] 9)).drew.cell? ⟨q,0,none⟩=some (.int .u8 6):=d1
  have d2b:(w3.alloc (.cells #[.string BPLUS,.string BMINUS,.string BSTAR,.string BDIV,.string BMOD,.string BJOIN,.string BEQ,.string BNE,.string BLT,.string BLE,.string BGT,.string BGE,.string WAND,.string WOR] 9)).drew.cell? ⟨w3.heap.size,0,none⟩=some (.string BPLUS):=d2
  have d1c:(w3.alloc (.cells #[.string BPLUS,.string BMINUS,.string BSTAR,.string BDIV,.string BMOD,.string BJOIN,.string BEQ,.string BNE,.string BLT,.string BLE,.string BGT,.string BGE,.string WAND,.string WOR] 9)).cell? ⟨q,0,none⟩=some (.int .u8 6):=d1
  have d2c:(w3.alloc (.cells #[.string BPLUS,.string BMINUS,.string BSTAR,.string BDIV,.string BMOD,.string BJOIN,.string BEQ,.string BNE,.string BLT,.string BLE,.string BGT,.string BGE,.string WAND,.string WOR] 9)).cell? ⟨w3.heap.size,0,none⟩=some (.string BPLUS):=d2
  have d0c:w3.cell? ⟨q,0,none⟩=some (.int .u8 6):=d0
  have hp5:=putsN [BPLUS] w1 b l3 _ HA.out (Nat.le_trans (kidT_len (wrE_le z) _ _ _) HLN.out) (by simp)
  have hz5:(w3.drew.alloc (.cells #[.string BPLUS,.string BMINUS,.string BSTAR,.string BDIV,.string BMOD,.string BJOIN,.string BEQ,.string BNE,.string BLT,.string BLE,.string BGT,.string BGE,.string WAND,.string WOR] 9)).heap.size=w3.heap.size + 1:=by simp
  rw [hz5] at hp5
  have hp5b:Calls Tryz.prog 60 #[.pointer (some ⟨b,0,none⟩),.slice (some ⟨w3.heap.size + 1,0,none⟩) 1 1] ((w3.alloc (.cells #[.string BPLUS,.string BMINUS,.string BSTAR,.string BDIV,.string BMOD,.string BJOIN,.string BEQ,.string BNE,.string BLT,.string BLE,.string BGT,.string BGE,.string WAND,.string WOR] 9)).alloc (.cells #[.string BPLUS] 9)).drew (WPost w1 b (putsL [W1 BPLUS] l3) (w3.drew.alloc (.cells #[.string BPLUS,.string BMINUS,.string BSTAR,.string BDIV,.string BMOD,.string BJOIN,.string BEQ,.string BNE,.string BLT,.string BLE,.string BGT,.string BGE,.string WAND,.string WOR] 9))):=hp5
  have HP5:=Lib.hid hp5b
  clear hp5 hz5 hbd hba hp5b
  go_region_with (first | (refine (signsW _).mono ?_;rintro e5 w5 ⟨rfl,rfl⟩) | (refine HP5.out.mono ?_;rintro e6 w6 ⟨rfl,hs6,hk6⟩))
  all_goals (go_wp2_with fail;go_meet;exact ⟨hs6,HKA.out.trans hk6⟩)
 case rest=>
  rename World=>w5
  obtain ⟨hs5,hk5⟩:=hcut
  have HW5:=Lib.hid hs5
  have HK5:=Lib.hid (HK3.out.trans hk5)
  have HX5:=Lib.hid (HX3.out.keep hk5)
  clear hs5 hk5
  have c7:=HX5.out.row.cell (i:=7) (v:=.slice (some ⟨kq,ko,none⟩) x.kids.length kc) rfl
  obtain ⟨kq2,ko2,kv,hka,HKV,p0,p1,p2,p3,p4,p5,p6,p7⟩:=kid_at HW5.out HK.out (k:=1) (y:=z) (by rw [hkids];rfl)
  obtain ⟨rfl,rfl⟩:kq=kq2∧ko=ko2:=by cases hka;exact ⟨rfl,rfl⟩
  simp only [Nat.one_mul] at p0 p1 p2 p3 p4 p5 p6 p7
  obtain ⟨ja,jc,rfl,_⟩:=HKV.shape
  have HKV:=Lib.hid HKV
  have hc6:=kidW w1 b z (HKID.out z HZ.out) true (putsL [W1 BPLUS] l3) w5 _ HW5.out HKV.out (HLN.out)
  unfold PE.val at hc6
  have HC6:=Lib.hid hc6
  clear hc6
  go_wp2_with fail
  refine HC6.out.mono ?_
  rintro e6 w6 ⟨rfl,hs6,hk6⟩
  have HW6:=Lib.hid hs6
  have HK6:=Lib.hid (HK5.out.trans hk6)
  clear hs6 hk6 HC6
  clear c7 p0 p1 p2 p3 p4 p5 p6 p7
  go_wp2_with fail
  go_end0
  exact ⟨rfl,by rw [HT.out];exact HW6.out,HK6.out⟩
set_option maxRecDepth 100000 in
set_option maxHeartbeats 64000000 in
theorem exprTwo8 (w1:World) (b:Nat) (x:PE) (hv:VFit x.v) (hx:LX w1) (hkid:∀ y,y ∈ x.kids→EXW w1 b y) (H_hop:Hid (x.op=8)) (H_hn:Hid (x.kids.length=2)):EXW w1 b x:=by
 intro l w kv h hk hlen
 obtain ⟨ka,kc,rfl,hkc⟩:=hk.shape
 have HK:=Lib.hid hk
 have HLN:=Lib.hid hlen
 have HV:=Lib.hid hv
 have HLX:=Lib.hid hx
 have HKID:=Lib.hid hkid
 unfold PE.val
 have hok:=ex_ok x ka x.kids.length kc
 have HX:=Lib.hid (h.box 48 #[.int .u8 (x.op:Int),.int .u8 (x.v.k:Int),.int .i64 x.v.n,.string x.v.s,.string x.t,.string x.m,.int .i64 x.n,.slice ka x.kids.length kc])
 have HW:=Lib.hid (h.alloc (.cells #[.int .u8 (x.op:Int),.int .u8 (x.v.k:Int),.int .i64 x.v.n,.string x.v.s,.string x.t,.string x.m,.int .i64 x.n,.slice ka x.kids.length kc] 48))
 have HK0:=Lib.hid (h.keepAlloc (.cells #[.int .u8 (x.op:Int),.int .u8 (x.v.k:Int),.int .i64 x.v.n,.string x.v.s,.string x.t,.string x.m,.int .i64 x.n,.slice ka x.kids.length kc] 48))
 clear h hk hlen hv hx hkid hkc
 go_enter Tryz.func34,Tryz.ntmps34
 go_upto_region 1 with fail
 clear hok
 generalize w.alloc (.cells #[.int .u8 (x.op:Int),.int .u8 (x.v.k:Int),.int .i64 x.v.n,.string x.v.s,.string x.t,.string x.m,.int .i64 x.n,.slice ka x.kids.length kc] 48)=wa at *
 generalize w.heap.size=q at *
 have HL:=Lib.hid (writerLen w1.heap.size b l wa HW.out.bld)
 go_wp2_with fail
 refine HL.out.mono ?_
 rintro e2 w2 ⟨rfl,rfl⟩
 clear HL
 by_cases hlong:32768 < l.length
 ·have i1:(32768:Int) < (l.length:Int):=by omega
  have HT:Hid (wrE x l=l):=Lib.hid (wr_long hlong)
  clear hlong
  go_wp2_with fail
  go_end0
  exact ⟨rfl,by rw [HT.out];exact HW.out,HK0.out⟩
 have i1:¬ (32768:Int) < (l.length:Int):=by omega
 have HNL:=Lib.hid hlong
 have c0:=HX.out.row.cell (i:=0) (v:=.int .u8 (x.op:Int)) rfl
 have c1:=HX.out.row.cell (i:=1) (v:=.int .u8 (x.v.k:Int)) rfl
 have c2:=HX.out.row.cell (i:=2) (v:=.int .i64 x.v.n) rfl
 have c3:=HX.out.row.cell (i:=3) (v:=.string x.v.s) rfl
 have c4:=HX.out.row.cell (i:=4) (v:=.string x.t) rfl
 have c5:=HX.out.row.cell (i:=5) (v:=.string x.m) rfl
 have c7:=HX.out.row.cell (i:=7) (v:=.slice ka x.kids.length kc) rfl
 clear hlong
 go_upto_region 4 with fail
 have hop:=H_hop.out
 have hn:=H_hn.out
 have o1:((x.op:Int) == 1)=false:=by simp;omega
 have o2:((x.op:Int) == 2)=false:=by simp;omega
 have o3:((x.op:Int) == 3)=false:=by simp;omega
 have o4:((x.op:Int) == 4)=false:=by simp;omega
 have o5:((x.op:Int) == 5)=false:=by simp;omega
 have o20:((x.op:Int) == 20)=false:=by simp;omega
 have g6:  (6:Int) ≤ (x.op:Int):=by omega
 have g20:¬ (20:Int) ≤ (x.op:Int):=by omega
 have l19:  (x.op:Int) ≤ 19:=by omega
 have l23:  (x.op:Int) ≤ 23:=by omega
 have n0:((x.kids.length:Int) == 0)=false:=by simp [hn]
 have n1:((x.kids.length:Int) == 1)=false:=by simp [hn]
 have n2:((x.kids.length:Int) == 2)=true:=by simp [hn]
 obtain ⟨y,z,hkids⟩:=len_two hn
 have HY:Hid (y ∈ x.kids):=Lib.hid (by rw [hkids];simp)
 have HZ:Hid (z ∈ x.kids):=Lib.hid (by rw [hkids];simp)
 have HT:Hid (wrE x l=kidT (wrE z) z.op true (putsL [W1 BSTAR] (kidT (wrE y) y.op true l))):=Lib.hid (by
  have hg:(sgnT[8 - 6]?).getD []=W1 BSTAR:=rfl
  rw [wr_two HNL.out (by omega) hkids,hop,hg])
 rw [HT.out] at HLN
 obtain ⟨kq,ko,kv,rfl,HKV,p0,p1,p2,p3,p4,p5,p6,p7⟩:=kid_at HW.out HK.out (k:=0) (y:=y) (by rw [hkids];rfl)
 simp only [Nat.zero_mul,Nat.add_zero] at p0 p1 p2 p3 p4 p5 p6 p7
 obtain ⟨ja,jc,rfl,_⟩:=HKV.shape
 have HKV:=Lib.hid HKV
 have hc3:=kidW w1 b y (HKID.out y HY.out) true l w2 _ HW.out HKV.out (Nat.le_trans (putsL_len _ _) (Nat.le_trans (kidT_len (wrE_le z) _ _ _) HLN.out))
 unfold PE.val at hc3
 have HC3:=Lib.hid hc3
 clear hc3
 go_wp2_with fail
 refine HC3.out.mono ?_
 rintro e3 w3 ⟨rfl,hs3,hk3⟩
 have HW3:=Lib.hid hs3
 have HX3:=Lib.hid (HX.out.keep hk3)
 have HK3:=Lib.hid (HK0.out.trans hk3)
 clear hs3 hk3 HC3
 clear c0 c1 c2 c3 c4 c5 c7 p0 p1 p2 p3 p4 p5 p6 p7
 generalize kidT (wrE y) y.op true l=l3 at *
 go_upto_region 21 with fail
 go_cut [] (fun wx=>WS w1 b (putsL [W1 BSTAR] l3) wx∧KeepW b w3 wx)
 case first=>
  have hbd:Below w3.heap.size w3 w3.drew:=Below.drew (Below.refl _ _)
  have hba:Below w3.heap.size w3 (w3.drew.alloc (.cells #[.string BPLUS,.string BMINUS,.string BSTAR,.string BDIV,.string BMOD,.string BJOIN,.string BEQ,.string BNE,.string BLT,.string BLE,.string BGT,.string BGE,.string WAND,.string WOR] 9)):=hbd.trans ((Below.refl _ w3.drew).alloc (Nat.le_refl _) _)
  have HA:=Lib.hid (HW3.out.later hba)
  have HXD:=Lib.hid (HX3.out.later hbd HW3.out.lt)
  have HXA:=Lib.hid (HX3.out.later hba HW3.out.lt)
  have HRA:=Lib.hid (row_alloc w3.drew 9 #[.string BPLUS,.string BMINUS,.string BSTAR,.string BDIV,.string BMOD,.string BJOIN,.string BEQ,.string BNE,.string BLT,.string BLE,.string BGT,.string BGE,.string WAND,.string WOR])
  have HKA:Hid (KeepW b w3 (w3.drew.alloc (.cells #[.string BPLUS,.string BMINUS,.string BSTAR,.string BDIV,.string BMOD,.string BJOIN,.string BEQ,.string BNE,.string BLT,.string BLE,.string BGT,.string BGE,.string WAND,.string WOR] 9))):=Lib.hid (KeepW.below hba HW3.out.lt)
  have d0:=HXD.out.row.cell (i:=0) (v:=.int .u8 (x.op:Int)) rfl
  have d1:=HXA.out.row.cell (i:=0) (v:=.int .u8 (x.op:Int)) rfl
  rw [hop] at d0 d1
  have d2:(w3.drew.alloc (.cells #[.string BPLUS,.string BMINUS,.string BSTAR,.string BDIV,.string BMOD,.string BJOIN,.string BEQ,.string BNE,.string BLT,.string BLE,.string BGT,.string BGE,.string WAND,.string WOR] 9)).cell? ⟨w3.heap.size,2,none⟩=some (.string BSTAR):=HRA.out.cell (i:=2) (v:=.string BSTAR) rfl
  have d1b:(w3.alloc (.cells #[.string BPLUS,.string BMINUS,.string BSTAR,.string BDIV,.string BMOD,.string BJOIN,.string BEQ,.string BNE,.string BLT,.string BLE,.string BGT,.string BGE,.string WAND,.string WOR] 9)).drew.cell? ⟨q,0,none⟩=some (.int .u8 8):=d1
  have d2b:(w3.alloc (.cells #[.string BPLUS,.string BMINUS,.string BSTAR,.string BDIV,.string BMOD,.string BJOIN,.string BEQ,.string BNE,.string BLT,.string BLE,.string BGT,.string BGE,.string WAND,.string WOR] 9)).drew.cell? ⟨w3.heap.size,2,none⟩=some (.string BSTAR):=d2
  have d1c:(w3.alloc (.cells #[.string BPLUS,.string BMINUS,.string BSTAR,.string BDIV,.string BMOD,.string BJOIN,.string BEQ,.string BNE,.string BLT,.string BLE,.string BGT,.string BGE,.string WAND,.string WOR] 9)).cell? ⟨q,0,none⟩=some (.int .u8 8):=d1
  have d2c:(w3.alloc (.cells #[.string BPLUS,.string BMINUS,.string BSTAR,.string BDIV,.string BMOD,.string BJOIN,.string BEQ,.string BNE,.string BLT,.string BLE,.string BGT,.string BGE,.string WAND,.string WOR] 9)).cell? ⟨w3.heap.size,2,none⟩=some (.string BSTAR):=d2
  have d0c:w3.cell? ⟨q,0,none⟩=some (.int .u8 8):=d0
  have hp5:=putsN [BSTAR] w1 b l3 _ HA.out (Nat.le_trans (kidT_len (wrE_le z) _ _ _) HLN.out) (by simp)
  have hz5:(w3.drew.alloc (.cells #[.string BPLUS,.string BMINUS,.string BSTAR,.string BDIV,.string BMOD,.string BJOIN,.string BEQ,.string BNE,.string BLT,.string BLE,.string BGT,.string BGE,.string WAND,.string WOR] 9)).heap.size=w3.heap.size + 1:=by simp
  rw [hz5] at hp5
  have hp5b:Calls Tryz.prog 60 #[.pointer (some ⟨b,0,none⟩),.slice (some ⟨w3.heap.size + 1,0,none⟩) 1 1] ((w3.alloc (.cells #[.string BPLUS,.string BMINUS,.string BSTAR,.string BDIV,.string BMOD,.string BJOIN,.string BEQ,.string BNE,.string BLT,.string BLE,.string BGT,.string BGE,.string WAND,.string WOR] 9)).alloc (.cells #[.string BSTAR] 9)).drew (WPost w1 b (putsL [W1 BSTAR] l3) (w3.drew.alloc (.cells #[.string BPLUS,.string BMINUS,.string BSTAR,.string BDIV,.string BMOD,.string BJOIN,.string BEQ,.string BNE,.string BLT,.string BLE,.string BGT,.string BGE,.string WAND,.string WOR] 9))):=hp5
  have HP5:=Lib.hid hp5b
  clear hp5 hz5 hbd hba hp5b
  go_region_with (first | (refine (signsW _).mono ?_;rintro e5 w5 ⟨rfl,rfl⟩) | (refine HP5.out.mono ?_;rintro e6 w6 ⟨rfl,hs6,hk6⟩))
  all_goals (go_wp2_with fail;go_meet;exact ⟨hs6,HKA.out.trans hk6⟩)
 case rest=>
  rename World=>w5
  obtain ⟨hs5,hk5⟩:=hcut
  have HW5:=Lib.hid hs5
  have HK5:=Lib.hid (HK3.out.trans hk5)
  have HX5:=Lib.hid (HX3.out.keep hk5)
  clear hs5 hk5
  have c7:=HX5.out.row.cell (i:=7) (v:=.slice (some ⟨kq,ko,none⟩) x.kids.length kc) rfl
  obtain ⟨kq2,ko2,kv,hka,HKV,p0,p1,p2,p3,p4,p5,p6,p7⟩:=kid_at HW5.out HK.out (k:=1) (y:=z) (by rw [hkids];rfl)
  obtain ⟨rfl,rfl⟩:kq=kq2∧ko=ko2:=by cases hka;exact ⟨rfl,rfl⟩
  simp only [Nat.one_mul] at p0 p1 p2 p3 p4 p5 p6 p7
  obtain ⟨ja,jc,rfl,_⟩:=HKV.shape
  have HKV:=Lib.hid HKV
  have hc6:=kidW w1 b z (HKID.out z HZ.out) true (putsL [W1 BSTAR] l3) w5 _ HW5.out HKV.out (HLN.out)
  unfold PE.val at hc6
  have HC6:=Lib.hid hc6
  clear hc6
  go_wp2_with fail
  refine HC6.out.mono ?_
  rintro e6 w6 ⟨rfl,hs6,hk6⟩
  have HW6:=Lib.hid hs6
  have HK6:=Lib.hid (HK5.out.trans hk6)
  clear hs6 hk6 HC6
  clear c7 p0 p1 p2 p3 p4 p5 p6 p7
  go_wp2_with fail
  go_end0
  exact ⟨rfl,by rw [HT.out];exact HW6.out,HK6.out⟩
end Go.Proofs.YtmdogmpcmkfjpaaGreatDoor.Dt
