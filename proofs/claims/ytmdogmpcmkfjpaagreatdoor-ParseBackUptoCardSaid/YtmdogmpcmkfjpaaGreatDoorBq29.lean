import Derived.Test.YtmdogmpcmkfjpaaGreatDoorBq14
import Derived.Test.YtmdogmpcmkfjpaaGreatDoorBq25
set_option maxRecDepth 100000
set_option maxHeartbeats 64000000
/- Part. -/
namespace Go.Proofs.YtmdogmpcmkfjpaaGreatDoor.Dt
open Go.RowKit Go.Proofs.YtmdogmpcmkfjpaaGreatDoor.By
theorem Zpd {x:PE} {a:List UInt8} (h:32768 < a.length):wrE x a=a:=by cases x;unfold wrE;rw [if_pos h]
theorem Ztc {x:PE} {a:List UInt8} (h:¬ 32768 < a.length) (h1:x.op=1) (hk:x.kids = []):wrE x a=Ze [Znl x.v] a:=by
 obtain ⟨op,v,t,m,n,kids⟩:=x
 simp only [PE.op,PE.kids,PE.v] at *
 subst h1 hk
 unfold wrE;rw [if_neg h];rfl
theorem Ztg {x:PE} {a:List UInt8} (h:¬ 32768 < a.length) (h1:x.op=2) (hk:x.kids = []):wrE x a=Ze [W1 x.m] (if x.t=⟨#[]⟩ then a else Ze [W1 x.t,W1 Zpb] a):=by
 obtain ⟨op,v,t,m,n,kids⟩:=x
 simp only [PE.op,PE.kids,PE.m,PE.t] at *
 subst h1 hk
 unfold wrE;rw [if_neg h];rfl
theorem Zlz {x:PE} {a:List UInt8} (h:¬ 32768 < a.length) (h1:x.op=20) (hk:x.kids = []):wrE x a=Ze [W1 Za7,W1 Z9,W1 Zao,W1 Zp] a:=by
 obtain ⟨op,v,t,m,n,kids⟩:=x
 simp only [PE.op,PE.kids] at *
 subst h1 hk
 unfold wrE;rw [if_neg h];rfl
theorem Ztf {x y:PE} {a:List UInt8} (h:¬ 32768 < a.length) (h1:x.op=3) (hk:x.kids = [y]):wrE x a=Zgd (wrE y) y.op (decide (y.op ≠ 1)) (Ze [W1 Zad] a):=by
 exact ks61
theorem Zte {x y:PE} {a:List UInt8} (h:¬ 32768 < a.length) (h1:x.op=4) (hk:x.kids = [y]):wrE x a=Zgd (wrE y) y.op true (Ze [W1 Zfx] a):=by
 exact ks61
theorem Zpc {x y:PE} {a:List UInt8} (h:¬ 32768 < a.length) (h1:x.op=5) (hk:x.kids = [y]):wrE x a=Ze [W1 WIS,W1 Zbr] (Zgd (wrE y) y.op true a):=by
 exact ks61
theorem Ztd {x y z:PE} {a:List UInt8} (h:¬ 32768 < a.length) (h1:6 ≤ x.op∧x.op ≤ 19) (hk:x.kids = [y,z]):wrE x a=Zgd (wrE z) z.op true (Ze [(sgnT[x.op - 6]?).getD []] (Zgd (wrE y) y.op true a)):=by
 obtain ⟨op,v,t,m,n,kids⟩:=x
 simp only [PE.op,PE.kids] at h1 hk ⊢
 subst hk
 rw [wrE,if_neg h,if_pos h1];rfl
theorem Zqf {x y:PE} {a:List UInt8} (h:¬ 32768 < a.length) (h1:20 ≤ x.op∧x.op ≤ 23) (hk:x.kids = [y]):wrE x a=Zgd (wrE y) y.op false (Ze [(grpT[x.op - 20]?).getD []] a):=by
 obtain ⟨op,v,t,m,n,kids⟩:=x
 simp only [PE.op,PE.kids] at h1 hk ⊢
 subst hk
 rw [wrE,if_neg h]
 rw [if_neg kW,if_neg kW,if_neg kW,if_pos h1];rfl
theorem Zed {x:PE} {a:List UInt8} (h:¬ 32768 < a.length) (h1:¬ (x.op=1∧x.kids.length=0)) (h2:¬ (x.op=2∧x.kids.length=0)) (h3:¬ (x.op=3∧x.kids.length=1)) (h4:¬ (x.op=4∧x.kids.length=1)) (h5:¬ (x.op=5∧x.kids.length=1))
 (h6:¬ ((6 ≤ x.op∧x.op ≤ 19)∧x.kids.length=2)) (h7:¬ (x.op=20∧x.kids.length=0)) (h8:¬ ((20 ≤ x.op∧x.op ≤ 23)∧x.kids.length=1)):wrE x a=Ze [[63]] a:=by
 obtain ⟨op,v,t,m,n,kids⟩:=x
 simp only [PE.op,PE.kids] at *
 match kids with
 | []=>
  simp only [List.length_nil,and_true] at *
  unfold wrE;rw [if_neg h];simp only
  rw [if_neg h1,if_neg h2,if_neg h7]
 | [y]=>
  simp only [List.length_singleton,and_true] at *
  rw [wrE,if_neg h]
  rw [if_neg h3,if_neg h4,if_neg h5,if_neg h8]
 | [y,z]=>
  simp only [List.length_cons,List.length_nil,and_true] at *
  rw [wrE,if_neg h,if_neg (by simpa using h6)]
 | _ :: _ :: _ :: _=>rw [wrE,if_neg h] <;> simp
theorem Zp1 {α:Type} {l:List α} (h:l.length=2):∃ a b,l = [a,b]:=by
 match l,h with
 | [a,b],_=>exact ⟨a,b,rfl⟩
theorem Zc8 {w:List UInt8→List UInt8} (hw:∀ a,a.length ≤ (w a).length) (op:Nat) (b:Bool) (a:List UInt8):a.length ≤ (Zgd w op b a).length:=by
 unfold Zgd
 split
 ·exact hw a
 exact Nat.le_trans (Nat.le_trans (Zk _ _) (hw _)) (Zk _ _)
inductive Zg9:PE→Prop
 | mk (x:PE):Ze2 x.v→(∀ y,y ∈ x.kids→Zg9 y)→Zg9 x
theorem Zg9.v {x:PE} (h:Zg9 x):Ze2 x.v:=by cases h;assumption
theorem Zth:∀ (n:Nat) (x:PE),SizeOf.sizeOf x ≤ n→∀ a:List UInt8,a.length ≤ (wrE x a).length
 | 0,x,h,a=>by cases x;simp at h
 | n + 1,x,hn,a=>by
  by_cases h:32768 < a.length
  ·rw [Zpd h];exact Nat.le_refl _
  have kid:∀ y,y ∈ x.kids→∀ a:List UInt8,a.length ≤ (wrE y a).length:=fun y hy a=>Zth n y (by
   cases x
   have:=List.sizeOf_lt_of_mem hy
   simp only [PE.kids] at this
   simp only [PE.mk.sizeOf_spec] at hn
   omega) a
  by_cases h1:x.op=1∧x.kids.length=0
  ·rw [Ztc h h1.1 (List.eq_nil_of_length_eq_zero h1.2)];exact Zk _ _
  by_cases h2:x.op=2∧x.kids.length=0
  ·rw [Ztg h h2.1 (List.eq_nil_of_length_eq_zero h2.2)]
   refine Nat.le_trans ?_ (Zk _ _)
   split
   ·exact Nat.le_refl _
   ·exact Zk _ _
  by_cases h3:x.op=3∧x.kids.length=1
  ·obtain ⟨y,hy⟩:=List.length_eq_one_iff.1 h3.2
   rw [Ztf h h3.1 hy]
   exact Nat.le_trans (Zk _ _) (Zc8 (kid y Zs4) _ _ _)
  by_cases h4:x.op=4∧x.kids.length=1
  ·obtain ⟨y,hy⟩:=List.length_eq_one_iff.1 h4.2
   rw [Zte h h4.1 hy]
   exact Nat.le_trans (Zk _ _) (Zc8 (kid y Zs4) _ _ _)
  by_cases h5:x.op=5∧x.kids.length=1
  ·obtain ⟨y,hy⟩:=List.length_eq_one_iff.1 h5.2
   rw [Zpc h h5.1 hy]
   exact Nat.le_trans (Zc8 (kid y Zs4) _ _ _) (Zk _ _)
  by_cases h6:(6 ≤ x.op∧x.op ≤ 19)∧x.kids.length=2
  ·obtain ⟨y,z,hy⟩:∃ y z,x.kids = [y,z]:=Zp1 h6.2
   rw [Ztd h h6.1 hy]
   exact Nat.le_trans (Zc8 (kid y Zs4) _ _ _) (Nat.le_trans (Zk _ _) (Zc8 (kid z Zs4) _ _ _))
  by_cases h7:x.op=20∧x.kids.length=0
  ·rw [Zlz h h7.1 (List.eq_nil_of_length_eq_zero h7.2)];exact Zk _ _
  by_cases h8:(20 ≤ x.op∧x.op ≤ 23)∧x.kids.length=1
  ·obtain ⟨y,hy⟩:=List.length_eq_one_iff.1 h8.2
   rw [Zqf h h8.1 hy]
   exact Nat.le_trans (Zk _ _) (Zc8 (kid y Zs4) _ _ _)
  rw [Zed h h1 h2 h3 h4 h5 h6 h7 h8]
  exact Zk _ _
theorem Zdg (x:PE) (a:List UInt8):a.length ≤ (wrE x a).length:=Zth _ x (Nat.le_refl _) a
def EXW (w1:World) (b:Nat) (x:PE):Prop:=∀ (l:List UInt8) (w:World) (kv:Value),WS w1 b l w→Zbq w1 kv x.kids→(wrE x l).length ≤ 140737488355328→Calls Tryz.prog 34 #[pV b,x.val kv] w (Zbg w1 b (wrE x l) w)
theorem ex_ok (x:PE) (ka:Option Addr) (n kc:Nat):Zav 8 #[.int .u8 (x.op:Int),.int .u8 (x.v.k:Int),.int .i64 x.v.n,.string x.v.s,.string x.t,.string x.m,.int .i64 x.n,.slice ka n kc]=true:=by rw [Zfg];rfl
section
attribute [local go_sem ↓] Zbv Zcb
attribute [local go_sem] Zc6 Zbx Zc7
theorem kidW (w1:World) (b:Nat) (x:PE) (hE:EXW w1 b x) (B:Bool) (l:List UInt8) (w:World) (kv:Value) (h:WS w1 b l w) (hk:Zbq w1 kv x.kids) (hlen:(Zgd (wrE x) x.op B l).length ≤ 140737488355328) :
 Calls Tryz.prog 91 #[pV b,x.val kv,.bool B] w (Zbg w1 b (Zgd (wrE x) x.op B l) w):=by
 obtain ⟨ka,kc,rfl,_⟩:=hk.shape
 have HE:=Lh hE
 have HK:=Lh hk
 have HLN:=Lh hlen
 have HW0:=Lh h
 unfold PE.val
 have hok:=ex_ok x ka x.kids.length kc
 have HX:=Lh (h.box 48 (eA x ka kc))
 have HW:=Lh (h.alloc (.cells (eA x ka kc) 48))
 have HK0:=Lh (h.keepAlloc (.cells (eA x ka kc) 48))
 clear h hk hE hlen
 go_enter Tryz.func91,Tryz.ntmps91
 go_upto_region 1 with fail
 clear hok
 generalize w.alloc (.cells (eA x ka kc) 48)=wa at *
 generalize w.heap.size=q at *
 have c0:=HX.out.row.cell (i:=0) (v:=.int .u8 (x.op:Int)) rfl
 have hb:=HX.out.row.b (n:=8) rfl
 have ho:=HX.out.row.of
 cases B
 ·have HT:Hid (Zgd (wrE x) x.op false l=Ze [W1 Zp] (wrE x (Ze [W1 Z9] l))):=Lh (by unfold Zgd;rw [if_neg kY])
  exact ks10
 by_cases hop:x.op ≤ 2 ∨ 20 ≤ x.op
 ·have HT:Hid (Zgd (wrE x) x.op true l=wrE x l):=Lh (by unfold Zgd;rw [if_pos (by simp [hop])])
  rw [HT.out] at HLN
  have HC:=Lh (HE.out l wa _ HW.out HK.out HLN.out)
  unfold PE.val at HC
  by_cases h2:x.op ≤ 2
  ·have e1:((x.op:Int) ≤ 2):=kW
   exact ks49
  have e1:¬ ((x.op:Int) ≤ 2):=kW
  have e2:(20:Int) ≤ (x.op:Int):=kW
  exact ks49
 have HT:Hid (Zgd (wrE x) x.op true l=Ze [W1 Zp] (wrE x (Ze [W1 Z9] l))):=Lh (by unfold Zgd;rw [if_neg (by simp [hop])])
 have e1:¬ ((x.op:Int) ≤ 2):=kW
 have e2:¬ ((20:Int) ≤ (x.op:Int)):=kW
 clear hop
 exact ks10
end
theorem w1_str (l:List UInt8):W1 ⟨l.toArray⟩=l:=by simp [W1]
theorem Zix {w1 w:World} {b:Nat} {l:List UInt8} {ka:Option Addr} {kc k:Nat} {xs:List PE} {y:PE} (h:WS w1 b l w) (hk:Zbq w1 (.slice ka xs.length kc) xs) (hy:xs[k]? = some y):∃ q o kv,ka=some ⟨q,o,none⟩∧Zbq w1 kv y.kids ∧
 w.cell? ⟨q,o + k * 8,none⟩=some (.int .u8 (y.op:Int))∧w.cell? ⟨q,o + k * 8 + 1,none⟩=some (.int .u8 (y.v.k:Int))∧w.cell? ⟨q,o + k * 8 + 2,none⟩=some (.int .i64 y.v.n)∧w.cell? ⟨q,o + k * 8 + 3,none⟩=some (.string y.v.s) ∧
 w.cell? ⟨q,o + k * 8 + 4,none⟩=some (.string y.t)∧w.cell? ⟨q,o + k * 8 + 5,none⟩=some (.string y.m)∧w.cell? ⟨q,o + k * 8 + 6,none⟩=some (.int .i64 y.n)∧w.cell? ⟨q,o + k * 8 + 7,none⟩=some kv:=by
 obtain ⟨q,o,kv,e,hkids,h0,h1,h2,h3,h4,h5,h6,h7⟩:=Zgu hk hy
 exact ⟨q,o,kv,e,hkids,(h.low.cell (Zd h0)).trans h0,(h.low.cell (Zd h1)).trans h1,(h.low.cell (Zd h2)).trans h2,(h.low.cell (Zd h3)).trans h3,(h.low.cell (Zd h4)).trans h4,(h.low.cell (Zd h5)).trans h5,(h.low.cell (Zd h6)).trans h6,(h.low.cell (Zd h7)).trans h7⟩
theorem signsW (w:World):Calls Tryz.prog 92 #[] w fun e w'=>e = .returned (.slice (some ⟨w.heap.size,0,none⟩) 14 14)∧w'=w.alloc (.cells #[.string Zdf,.string Zad,.string Zao,.string Zih,.string Zig,.string Zcf,.string BEQ,.string BNE,.string BLT,.string BLE,.string BGT,.string BGE,.string Zf6,.string WOR] 9):=by
 go_enter Tryz.func92,Tryz.ntmps92
 go_wp2_with fail
 go_ret
 exact ⟨rfl,rfl⟩
namespace nr518
theorem qR0 {p:Prop} (h:p:=by
 have hop:=H_hop.out
 have hn:=H_hn.out
 have o1:((x.op:Int) == 1)=true:=by simp [hop]
 have o2:((x.op:Int) == 2)=false:=kQ
 have o3:((x.op:Int) == 3)=false:=kQ
 have o4:((x.op:Int) == 4)=false:=kQ
 have o5:((x.op:Int) == 5)=false:=kQ
 have o20:((x.op:Int) == 20)=false:=kQ
 have g6:¬ (6:Int) ≤ (x.op:Int):=kW
 have g20:¬ (20:Int) ≤ (x.op:Int):=kW
 have l19:  (x.op:Int) ≤ 19:=kW
 have l23:  (x.op:Int) ≤ 23:=kW
 have n0:((x.kids.length:Int) == 0)=true:=by simp [hn]
 have n1:((x.kids.length:Int) == 1)=false:=by simp [hn]
 have n2:((x.kids.length:Int) == 2)=false:=by simp [hn]
 have HT:Hid (wrE x l=Ze [Znl x.v] l):=Lh (Ztc HNL.out hop (List.eq_nil_of_length_eq_zero hn))
 rw [HT.out] at HLN
 have HTX:=Lh (textW x.v w2 (HLX.out.later HW.out.low) HV.out)
 go_wp2_with fail
 refine HTX.out.mono ?_
 rintro e3 w3 ⟨rfl,hb3⟩
 have HW3:=Lh (HW.out.later hb3)
 have HK3:=Lh (HK0.out.trans (Za6.below hb3 HW.out.lt))
 clear c0 c1 c2 c3 c4 c5 c7 hb3 HTX
 have HP4:=Lh (Zas [⟨(Znl x.v).toArray⟩] w1 b l w3 HW3.out (by have:=HLN.out;rw [List.map_singleton,w1_str];exact this) kY)
 go_wp2_with fail
 refine HP4.out.mono ?_
 rintro e4 w4 ⟨rfl,hs4,hk4⟩
 have HW4:=Lh hs4
 have HK4:=Lh (HK3.out.trans hk4)
 clear hs4 hk4 HP4
 go_wp2_with fail
 go_end0
 exact ⟨rfl,by rw [HT.out];have:=HW4.out;rw [List.map_singleton,w1_str] at this;exact this,HK4.out⟩):p:=h
end nr518
open nr518 in
theorem Zvv (w1:World) (b:Nat) (x:PE) (hv:Ze2 x.v) (hx:LX w1) (hkid:∀ y,y ∈ x.kids→EXW w1 b y) (H_hop:Hid (x.op=1)) (H_hn:Hid (x.kids.length=0)):EXW w1 b x:=by exact kp3
namespace nr519
theorem qR0 {p:Prop} (h:p:=by
 have hop:=H_hop.out
 have hn:=H_hn.out
 have o1:((x.op:Int) == 1)=false:=kQ
 have o2:((x.op:Int) == 2)=true:=by simp [hop]
 have o3:((x.op:Int) == 3)=false:=kQ
 have o4:((x.op:Int) == 4)=false:=kQ
 have o5:((x.op:Int) == 5)=false:=kQ
 have o20:((x.op:Int) == 20)=false:=kQ
 have g6:¬ (6:Int) ≤ (x.op:Int):=kW
 have g20:¬ (20:Int) ≤ (x.op:Int):=kW
 have l19:  (x.op:Int) ≤ 19:=kW
 have l23:  (x.op:Int) ≤ 23:=kW
 have n0:((x.kids.length:Int) == 0)=true:=by simp [hn]
 have n1:((x.kids.length:Int) == 1)=false:=by simp [hn]
 have n2:((x.kids.length:Int) == 2)=false:=by simp [hn]
 have HT:Hid (wrE x l=Ze [W1 x.m] (if x.t=⟨#[]⟩ then l else Ze [W1 x.t,W1 Zpb] l)):=Lh (Ztg HNL.out hop (List.eq_nil_of_length_eq_zero hn))
 rw [HT.out] at HLN
 generalize x.t=tt at *
 by_cases ht:tt=⟨#[]⟩
 ·subst ht
  have HT:Hid (wrE x l=Ze [W1 x.m] l):=Lh (by rw [HT.out,if_pos rfl])
  have HLN:Hid ((Ze [W1 x.m] l).length ≤ 140737488355328):=Lh (by have:=HLN.out;rw [if_pos rfl] at this;exact this)
  have he1:(⟨#[]⟩:ByteArray).toList.isEmpty=true:=by rw [ByteArray.toList_eq];rfl
  have he2:(!(⟨#[]⟩:ByteArray).toList.isEmpty)=false:=by rw [he1];rfl
  have HP3:=Lh (Zas [x.m] w1 b l w2 HW.out (HLN.out) kY)
  go_wp2_with fail
  refine HP3.out.mono ?_
  rintro e3 w3 ⟨rfl,hs3,hk3⟩
  have HW3:=Lh hs3
  have HK3:=Lh (HK0.out.trans hk3)
  clear hs3 hk3 HP3
  clear c0 c1 c2 c3 c4 c5 c7
  go_wp2_with fail
  go_end0
  exact ⟨rfl,by rw [HT.out];exact HW3.out,HK3.out⟩
 have HT:Hid (wrE x l=Ze [W1 x.m] (Ze [W1 tt,W1 Zpb] l)):=Lh (by rw [HT.out,if_neg ht])
 have HLN:Hid ((Ze [W1 x.m] (Ze [W1 tt,W1 Zpb] l)).length ≤ 140737488355328):=Lh (by have:=HLN.out;rw [if_neg ht] at this;exact this)
 have hne1:tt.toList.isEmpty=false:=by
  cases he:tt.toList.isEmpty with
  | false=>rfl
  | true=>exact absurd (Zd8 (a:=tt) (b:=⟨#[]⟩) (by rw [List.isEmpty_iff.1 he];simp)) ht
 have hne2:(!tt.toList.isEmpty)=true:=by rw [hne1];rfl
 have HP3:=Lh (Zas [tt,Zpb] w1 b l w2 HW.out (Nat.le_trans (Zk _ _) HLN.out) kY)
 go_wp2_with fail
 refine HP3.out.mono ?_
 rintro e3 w3 ⟨rfl,hs3,hk3⟩
 have HW3:=Lh hs3
 have HX3:=Lh (HX.out.keep hk3)
 have HK3:=Lh (HK0.out.trans hk3)
 clear hs3 hk3 HP3
 clear c0 c1 c2 c3 c4 c5 c7
 have c5:=HX3.out.row.cell (i:=3 + 2) (v:=.string x.m) rfl
 have HP4:=Lh (Zas [x.m] w1 b _ w3 HW3.out (HLN.out) kY)
 go_wp2_with fail
 refine HP4.out.mono ?_
 rintro e4 w4 ⟨rfl,hs4,hk4⟩
 have HW4:=Lh hs4
 have HK4:=Lh (HK3.out.trans hk4)
 clear hs4 hk4 HP4
 clear c5
 go_wp2_with fail
 go_end0
 exact ⟨rfl,by rw [HT.out];exact HW4.out,HK4.out⟩):p:=h
end nr519
open nr519 in
theorem exprCol (w1:World) (b:Nat) (x:PE) (hv:Ze2 x.v) (hx:LX w1) (hkid:∀ y,y ∈ x.kids→EXW w1 b y) (H_hop:Hid (x.op=2)) (H_hn:Hid (x.kids.length=0)):EXW w1 b x:=by exact kp3
namespace nr520
theorem qR0 {p:Prop} (h:p:=by
 have hop:=H_hop.out
 have hn:=H_hn.out
 have o1:((x.op:Int) == 1)=false:=kQ
 have o2:((x.op:Int) == 2)=false:=kQ
 have o3:((x.op:Int) == 3)=true:=by simp [hop]
 have o4:((x.op:Int) == 4)=false:=kQ
 have o5:((x.op:Int) == 5)=false:=kQ
 have o20:((x.op:Int) == 20)=false:=kQ
 have g6:¬ (6:Int) ≤ (x.op:Int):=kW
 have g20:¬ (20:Int) ≤ (x.op:Int):=kW
 have l19:  (x.op:Int) ≤ 19:=kW
 have l23:  (x.op:Int) ≤ 23:=kW
 have n0:((x.kids.length:Int) == 0)=false:=by simp [hn]
 have n1:((x.kids.length:Int) == 1)=true:=by simp [hn]
 have n2:((x.kids.length:Int) == 2)=false:=by simp [hn]
 obtain ⟨y,hkids⟩:=List.length_eq_one_iff.1 hn
 have HY:Hid (y ∈ x.kids):=Lh kb2
 have HT:Hid (wrE x l=Zgd (wrE y) y.op (decide (y.op ≠ 1)) (Ze [W1 Zad] l)):=Lh (Ztf HNL.out hop hkids)
 rw [HT.out] at HLN
 obtain ⟨B,hB⟩:∃ B,decide (y.op ≠ 1)=B:=⟨_,rfl⟩
 have eB:((y.op:Int) != 1)=B:=by rw [← hB];by_cases h:y.op=1 <;> simp [h];omega
 rw [hB] at HLN HT
 have HP3:=Lh (Zas [Zad] w1 b l w2 HW.out (Nat.le_trans (Zc8 (Zdg y) _ _ _) HLN.out) kY)
 go_wp2_with fail
 refine HP3.out.mono ?_
 rintro e3 w3 ⟨rfl,hs3,hk3⟩
 have HW3:=Lh hs3
 have HX3:=Lh (HX.out.keep hk3)
 have HK3:=Lh (HK0.out.trans hk3)
 clear hs3 hk3 HP3
 clear c0 c1 c2 c3 c4 c5 c7
 have c7:=HX3.out.row.cell (i:=7) (v:=.slice ka x.kids.length kc) rfl
 obtain ⟨kq,ko,kv,rfl,HKV,p0,p1,p2,p3,p4,p5,p6,p7⟩:=Zix HW3.out HK.out (k:=0) (y:=y) kb3
 simp only [Nat.zero_mul,Nat.add_zero] at p0 p1 p2 p3 p4 p5 p6 p7
 obtain ⟨ja,jc,rfl,_⟩:=HKV.shape
 have HKV:=Lh HKV
 go_upto_region 12 with fail
 have l0:=Zb c7;have m0:=Zb p0;have m1:=Zb p1;have m2:=Zb p2;have m3:=Zb p3;have m4:=Zb p4;have m5:=Zb p5;have m6:=Zb p6;have m7:=Zb p7
 refine Zaj 11 kR kR ?_
 simp only [List.take_succ_cons,List.take_zero,List.drop_succ_cons,List.drop_zero]
 repeat (go_big_quiet_step (fail))
 refine wpQuiet_nil ?_
 refine Zu (fun w4 hb4=>?_)
 have HW4:=Lh (HW3.out.later hb4)
 have HK4:=Lh (HK3.out.trans (Za6.below hb4 HW3.out.lt))
 clear l0 m0 m1 m2 m3 m4 m5 m6 m7 c7 hb4 p0 p1 p2 p3 p4 p5 p6 p7
 have hc5:=kidW w1 b y (HKID.out y HY.out) B (Ze [W1 Zad] l) w4 _ HW4.out HKV.out (HLN.out)
 unfold PE.val at hc5
 have HC5:=Lh hc5
 clear hc5
 go_wp2_with fail
 refine HC5.out.mono ?_
 rintro e5 w5 ⟨rfl,hs5,hk5⟩
 have HW5:=Lh hs5
 have HK5:=Lh (HK4.out.trans hk5)
 clear hs5 hk5 HC5
 go_wp2_with fail
 go_end0
 exact ⟨rfl,by rw [HT.out];exact HW5.out,HK5.out⟩):p:=h
end nr520
open nr520 in
theorem exprNeg (w1:World) (b:Nat) (x:PE) (hv:Ze2 x.v) (hx:LX w1) (hkid:∀ y,y ∈ x.kids→EXW w1 b y) (H_hop:Hid (x.op=3)) (H_hn:Hid (x.kids.length=1)):EXW w1 b x:=by exact kp3
namespace nr521
theorem qR0 {p:Prop} (h:p:=by
 have hop:=H_hop.out
 have hn:=H_hn.out
 have o1:((x.op:Int) == 1)=false:=kQ
 have o2:((x.op:Int) == 2)=false:=kQ
 have o3:((x.op:Int) == 3)=false:=kQ
 have o4:((x.op:Int) == 4)=true:=by simp [hop]
 have o5:((x.op:Int) == 5)=false:=kQ
 have o20:((x.op:Int) == 20)=false:=kQ
 have g6:¬ (6:Int) ≤ (x.op:Int):=kW
 have g20:¬ (20:Int) ≤ (x.op:Int):=kW
 have l19:  (x.op:Int) ≤ 19:=kW
 have l23:  (x.op:Int) ≤ 23:=kW
 have n0:((x.kids.length:Int) == 0)=false:=by simp [hn]
 have n1:((x.kids.length:Int) == 1)=true:=by simp [hn]
 have n2:((x.kids.length:Int) == 2)=false:=by simp [hn]
 obtain ⟨y,hkids⟩:=List.length_eq_one_iff.1 hn
 have HY:Hid (y ∈ x.kids):=Lh kb2
 have HT:Hid (wrE x l=Zgd (wrE y) y.op true (Ze [W1 Zfx] l)):=Lh (Zte HNL.out hop hkids)
 rw [HT.out] at HLN
 have HP3:=Lh (Zas [Zfx] w1 b l w2 HW.out (Nat.le_trans (Zc8 (Zdg y) _ _ _) HLN.out) kY)
 go_wp2_with fail
 refine HP3.out.mono ?_
 rintro e3 w3 ⟨rfl,hs3,hk3⟩
 have HW3:=Lh hs3
 have HX3:=Lh (HX.out.keep hk3)
 have HK3:=Lh (HK0.out.trans hk3)
 clear hs3 hk3 HP3
 clear c0 c1 c2 c3 c4 c5 c7
 have c7:=HX3.out.row.cell (i:=7) (v:=.slice ka x.kids.length kc) rfl
 obtain ⟨kq,ko,kv,rfl,HKV,p0,p1,p2,p3,p4,p5,p6,p7⟩:=Zix HW3.out HK.out (k:=0) (y:=y) kb3
 simp only [Nat.zero_mul,Nat.add_zero] at p0 p1 p2 p3 p4 p5 p6 p7
 obtain ⟨ja,jc,rfl,_⟩:=HKV.shape
 have HKV:=Lh HKV
 have hc5:=kidW w1 b y (HKID.out y HY.out) true (Ze [W1 Zfx] l) w3 _ HW3.out HKV.out (HLN.out)
 unfold PE.val at hc5
 have HC5:=Lh hc5
 clear hc5
 go_wp2_with fail
 refine HC5.out.mono ?_
 rintro e5 w5 ⟨rfl,hs5,hk5⟩
 have HW5:=Lh hs5
 have HK5:=Lh (HK3.out.trans hk5)
 clear hs5 hk5 HC5
 clear c7 p0 p1 p2 p3 p4 p5 p6 p7
 go_wp2_with fail
 go_end0
 exact ⟨rfl,by rw [HT.out];exact HW5.out,HK5.out⟩):p:=h
end nr521
open nr521 in
theorem exprNot (w1:World) (b:Nat) (x:PE) (hv:Ze2 x.v) (hx:LX w1) (hkid:∀ y,y ∈ x.kids→EXW w1 b y) (H_hop:Hid (x.op=4)) (H_hn:Hid (x.kids.length=1)):EXW w1 b x:=by exact kp3
namespace nr522
theorem qR0 {p:Prop} (h:p:=by
 have hop:=H_hop.out
 have hn:=H_hn.out
 have o1:((x.op:Int) == 1)=false:=kQ
 have o2:((x.op:Int) == 2)=false:=kQ
 have o3:((x.op:Int) == 3)=false:=kQ
 have o4:((x.op:Int) == 4)=false:=kQ
 have o5:((x.op:Int) == 5)=true:=by simp [hop]
 have o20:((x.op:Int) == 20)=false:=kQ
 have g6:¬ (6:Int) ≤ (x.op:Int):=kW
 have g20:¬ (20:Int) ≤ (x.op:Int):=kW
 have l19:  (x.op:Int) ≤ 19:=kW
 have l23:  (x.op:Int) ≤ 23:=kW
 have n0:((x.kids.length:Int) == 0)=false:=by simp [hn]
 have n1:((x.kids.length:Int) == 1)=true:=by simp [hn]
 have n2:((x.kids.length:Int) == 2)=false:=by simp [hn]
 obtain ⟨y,hkids⟩:=List.length_eq_one_iff.1 hn
 have HY:Hid (y ∈ x.kids):=Lh kb2
 have HT:Hid (wrE x l=Ze [W1 WIS,W1 Zbr] (Zgd (wrE y) y.op true l)):=Lh (Zpc HNL.out hop hkids)
 rw [HT.out] at HLN
 obtain ⟨kq,ko,kv,rfl,HKV,p0,p1,p2,p3,p4,p5,p6,p7⟩:=Zix HW.out HK.out (k:=0) (y:=y) kb3
 simp only [Nat.zero_mul,Nat.add_zero] at p0 p1 p2 p3 p4 p5 p6 p7
 obtain ⟨ja,jc,rfl,_⟩:=HKV.shape
 have HKV:=Lh HKV
 have hc5:=kidW w1 b y (HKID.out y HY.out) true l w2 _ HW.out HKV.out (Nat.le_trans (Zk _ _) HLN.out)
 unfold PE.val at hc5
 have HC5:=Lh hc5
 clear hc5
 go_wp2_with fail
 refine HC5.out.mono ?_
 rintro e5 w5 ⟨rfl,hs5,hk5⟩
 have HW5:=Lh hs5
 have HK5:=Lh (HK0.out.trans hk5)
 clear hs5 hk5 HC5
 clear c0 c1 c2 c3 c4 c5 c7 p0 p1 p2 p3 p4 p5 p6 p7
 have HP6:=Lh (Zas [WIS,Zbr] w1 b _ w5 HW5.out (HLN.out) kY)
 go_wp2_with fail
 refine HP6.out.mono ?_
 rintro e6 w6 ⟨rfl,hs6,hk6⟩
 have HW6:=Lh hs6
 have HK6:=Lh (HK5.out.trans hk6)
 clear hs6 hk6 HP6
 go_wp2_with fail
 go_end0
 exact ⟨rfl,by rw [HT.out];exact HW6.out,HK6.out⟩):p:=h
end nr522
open nr522 in
theorem exprNull (w1:World) (b:Nat) (x:PE) (hv:Ze2 x.v) (hx:LX w1) (hkid:∀ y,y ∈ x.kids→EXW w1 b y) (H_hop:Hid (x.op=5)) (H_hn:Hid (x.kids.length=1)):EXW w1 b x:=by exact kp3
namespace nr523
theorem qR0 {p:Prop} (h:p:=by
 have hop:=H_hop.out
 have hn:=H_hn.out
 have o1:((x.op:Int) == 1)=false:=kQ
 have o2:((x.op:Int) == 2)=false:=kQ
 have o3:((x.op:Int) == 3)=false:=kQ
 have o4:((x.op:Int) == 4)=false:=kQ
 have o5:((x.op:Int) == 5)=false:=kQ
 have o20:((x.op:Int) == 20)=true:=by simp [hop]
 have g6:  (6:Int) ≤ (x.op:Int):=kW
 have g20:  (20:Int) ≤ (x.op:Int):=kW
 have l19:¬ (x.op:Int) ≤ 19:=kW
 have l23:  (x.op:Int) ≤ 23:=kW
 have n0:((x.kids.length:Int) == 0)=true:=by simp [hn]
 have n1:((x.kids.length:Int) == 1)=false:=by simp [hn]
 have n2:((x.kids.length:Int) == 2)=false:=by simp [hn]
 have HT:Hid (wrE x l=Ze [W1 Za7,W1 Z9,W1 Zao,W1 Zp] l):=Lh (Zlz HNL.out hop (List.eq_nil_of_length_eq_zero hn))
 rw [HT.out] at HLN
 have HP3:=Lh (Zas [Za7,Z9,Zao,Zp] w1 b l w2 HW.out (HLN.out) kY)
 go_wp2_with fail
 refine HP3.out.mono ?_
 rintro e3 w3 ⟨rfl,hs3,hk3⟩
 have HW3:=Lh hs3
 have HK3:=Lh (HK0.out.trans hk3)
 clear hs3 hk3 HP3
 clear c0 c1 c2 c3 c4 c5 c7
 go_wp2_with fail
 go_end0
 exact ⟨rfl,by rw [HT.out];exact HW3.out,HK3.out⟩):p:=h
end nr523
open nr523 in
theorem Zwb (w1:World) (b:Nat) (x:PE) (hv:Ze2 x.v) (hx:LX w1) (hkid:∀ y,y ∈ x.kids→EXW w1 b y) (H_hop:Hid (x.op=20)) (H_hn:Hid (x.kids.length=0)):EXW w1 b x:=by exact kp3
namespace nr524
theorem qR0 {p:Prop} (h:p:=by
 have hop:=H_hop.out
 have hn:=H_hn.out
 have o1:((x.op:Int) == 1)=false:=kQ
 have o2:((x.op:Int) == 2)=false:=kQ
 have o3:((x.op:Int) == 3)=false:=kQ
 have o4:((x.op:Int) == 4)=false:=kQ
 have o5:((x.op:Int) == 5)=false:=kQ
 have o20:((x.op:Int) == 20)=true:=by simp [hop]
 have g6:  (6:Int) ≤ (x.op:Int):=kW
 have g20:  (20:Int) ≤ (x.op:Int):=kW
 have l19:¬ (x.op:Int) ≤ 19:=kW
 have l23:  (x.op:Int) ≤ 23:=kW
 have n0:((x.kids.length:Int) == 0)=false:=by simp [hn]
 have n1:((x.kids.length:Int) == 1)=true:=by simp [hn]
 have n2:((x.kids.length:Int) == 2)=false:=by simp [hn]
 obtain ⟨y,hkids⟩:=List.length_eq_one_iff.1 hn
 have HY:Hid (y ∈ x.kids):=Lh kb2
 have HT:Hid (wrE x l=Zgd (wrE y) y.op false (Ze [W1 Za7] l)):=Lh (by
  have hg:(grpT[20 - 20]?).getD []=W1 Za7:=rfl
  rw [Zqf HNL.out kW hkids,hop,hg])
 rw [HT.out] at HLN
 have HA:=Lh (HW.out.alloc (.cells #[.string Za7,.string Zm5,.string Zm6,.string Zm7] 9))
 have HRA:=Lh (Zc w2 9 #[.string Za7,.string Zm5,.string Zm6,.string Zm7])
 have HXA:=Lh (HX.out.later ((Below.refl _ w2).alloc (Nat.le_refl _) (.cells #[.string Za7,.string Zm5,.string Zm6,.string Zm7] 9)) HW.out.lt)
 have HKA:=Lh (HK0.out.trans (HW.out.keepAlloc (.cells #[.string Za7,.string Zm5,.string Zm6,.string Zm7] 9)))
 have a0:=HXA.out.row.cell (i:=0) (v:=.int .u8 (x.op:Int)) rfl
 rw [hop] at a0
 have a1:=HRA.out.cell (i:=0) (v:=.string Za7) kY
 have hp3:=Zas [Za7] w1 b l _ HA.out (Nat.le_trans (Zc8 (Zdg y) _ _ _) HLN.out) kY
 have hz3:(w2.alloc (.cells #[.string Za7,.string Zm5,.string Zm6,.string Zm7] 9)).heap.size=w2.heap.size + 1:=kY
 rw [hz3] at hp3
 have HP3:=Lh hp3
 clear hp3 hz3
 go_wp2_with fail
 refine HP3.out.mono ?_
 rintro e3 w3 ⟨rfl,hs3,hk3⟩
 have HW3:=Lh hs3
 have HX3:=Lh (HXA.out.keep hk3)
 have HK3:=Lh (HKA.out.trans hk3)
 clear hs3 hk3 HP3
 clear c0 c1 c2 c3 c4 c5 c7 a0 a1
 have c7:=HX3.out.row.cell (i:=7) (v:=.slice ka x.kids.length kc) rfl
 obtain ⟨kq,ko,kv,rfl,HKV,p0,p1,p2,p3,p4,p5,p6,p7⟩:=Zix HW3.out HK.out (k:=0) (y:=y) kb3
 simp only [Nat.zero_mul,Nat.add_zero] at p0 p1 p2 p3 p4 p5 p6 p7
 obtain ⟨ja,jc,rfl,_⟩:=HKV.shape
 have HKV:=Lh HKV
 have hc5:=kidW w1 b y (HKID.out y HY.out) false (Ze [W1 Za7] l) w3 _ HW3.out HKV.out (HLN.out)
 unfold PE.val at hc5
 have HC5:=Lh hc5
 clear hc5
 go_wp2_with fail
 refine HC5.out.mono ?_
 rintro e5 w5 ⟨rfl,hs5,hk5⟩
 have HW5:=Lh hs5
 have HK5:=Lh (HK3.out.trans hk5)
 clear hs5 hk5 HC5
 clear c7 p0 p1 p2 p3 p4 p5 p6 p7
 go_wp2_with fail
 go_end0
 exact ⟨rfl,by rw [HT.out];exact HW5.out,HK5.out⟩):p:=h
end nr524
open nr524 in
theorem Zwa (w1:World) (b:Nat) (x:PE) (hv:Ze2 x.v) (hx:LX w1) (hkid:∀ y,y ∈ x.kids→EXW w1 b y) (H_hop:Hid (x.op=20)) (H_hn:Hid (x.kids.length=1)):EXW w1 b x:=by exact kp3
namespace nr525
theorem qR0 {p:Prop} (h:p:=by
 have hop:=H_hop.out
 have hn:=H_hn.out
 have o1:((x.op:Int) == 1)=false:=kQ
 have o2:((x.op:Int) == 2)=false:=kQ
 have o3:((x.op:Int) == 3)=false:=kQ
 have o4:((x.op:Int) == 4)=false:=kQ
 have o5:((x.op:Int) == 5)=false:=kQ
 have o20:((x.op:Int) == 20)=false:=kQ
 have g6:  (6:Int) ≤ (x.op:Int):=kW
 have g20:  (20:Int) ≤ (x.op:Int):=kW
 have l19:¬ (x.op:Int) ≤ 19:=kW
 have l23:  (x.op:Int) ≤ 23:=kW
 have n0:((x.kids.length:Int) == 0)=false:=by simp [hn]
 have n1:((x.kids.length:Int) == 1)=true:=by simp [hn]
 have n2:((x.kids.length:Int) == 2)=false:=by simp [hn]
 obtain ⟨y,hkids⟩:=List.length_eq_one_iff.1 hn
 have HY:Hid (y ∈ x.kids):=Lh kb2
 have HT:Hid (wrE x l=Zgd (wrE y) y.op false (Ze [W1 q4_0] l)):=Lh (by
  have hg:(grpT[q4_1 - 20]?).getD []=W1 q4_0:=rfl
  rw [Zqf HNL.out kW hkids,hop,hg])
 rw [HT.out] at HLN
 have HA:=Lh (HW.out.alloc (.cells #[.string Za7,.string Zm5,.string Zm6,.string Zm7] 9))
 have HRA:=Lh (Zc w2 9 #[.string Za7,.string Zm5,.string Zm6,.string Zm7])
 have HXA:=Lh (HX.out.later ((Below.refl _ w2).alloc (Nat.le_refl _) (.cells #[.string Za7,.string Zm5,.string Zm6,.string Zm7] 9)) HW.out.lt)
 have HKA:=Lh (HK0.out.trans (HW.out.keepAlloc (.cells #[.string Za7,.string Zm5,.string Zm6,.string Zm7] 9)))
 have a0:=HXA.out.row.cell (i:=0) (v:=.int .u8 (x.op:Int)) rfl
 rw [hop] at a0
 have a1:=HRA.out.cell (i:=q4_2) (v:=.string q4_0) kY
 have hp3:=Zas [q4_0] w1 b l _ HA.out (Nat.le_trans (Zc8 (Zdg y) _ _ _) HLN.out) kY
 have hz3:(w2.alloc (.cells #[.string Za7,.string Zm5,.string Zm6,.string Zm7] 9)).heap.size=w2.heap.size + 1:=kY
 rw [hz3] at hp3
 have HP3:=Lh hp3
 clear hp3 hz3
 go_wp2_with fail
 refine HP3.out.mono ?_
 rintro e3 w3 ⟨rfl,hs3,hk3⟩
 have HW3:=Lh hs3
 have HX3:=Lh (HXA.out.keep hk3)
 have HK3:=Lh (HKA.out.trans hk3)
 clear hs3 hk3 HP3
 clear c0 c1 c2 c3 c4 c5 c7 a0 a1
 have c7:=HX3.out.row.cell (i:=7) (v:=.slice ka x.kids.length kc) rfl
 obtain ⟨kq,ko,kv,rfl,HKV,p0,p1,p2,p3,p4,p5,p6,p7⟩:=Zix HW3.out HK.out (k:=0) (y:=y) kb3
 simp only [Nat.zero_mul,Nat.add_zero] at p0 p1 p2 p3 p4 p5 p6 p7
 obtain ⟨ja,jc,rfl,_⟩:=HKV.shape
 have HKV:=Lh HKV
 have hc5:=kidW w1 b y (HKID.out y HY.out) false (Ze [W1 q4_0] l) w3 _ HW3.out HKV.out (HLN.out)
 unfold PE.val at hc5
 have HC5:=Lh hc5
 clear hc5
 go_wp2_with fail
 refine HC5.out.mono ?_
 rintro e5 w5 ⟨rfl,hs5,hk5⟩
 have HW5:=Lh hs5
 have HK5:=Lh (HK3.out.trans hk5)
 clear hs5 hk5 HC5
 clear c7 p0 p1 p2 p3 p4 p5 p6 p7
 go_wp2_with fail
 go_end0
 exact ⟨rfl,by rw [HT.out];exact HW5.out,HK5.out⟩):p:=h
end nr525
theorem kf4 {p:Prop} (h:p:=by exact kp3):p:=h
namespace n4_0
abbrev q4_0:=@Zm5
abbrev q4_1:Nat:=21
abbrev q4_2:Nat:=1
end n4_0
open nr525 in
open n4_0 in
theorem Zv9 (w1:World) (b:Nat) (x:PE) (hv:Ze2 x.v) (hx:LX w1) (hkid:∀ y,y ∈ x.kids→EXW w1 b y) (H_hop:Hid (x.op=21)) (H_hn:Hid (x.kids.length=1)):EXW w1 b x:=by exact kf4
namespace n4_1
abbrev q4_0:=@Zm6
abbrev q4_1:Nat:=22
abbrev q4_2:Nat:=2
end n4_1
open nr525 in
open n4_1 in
theorem Zv8 (w1:World) (b:Nat) (x:PE) (hv:Ze2 x.v) (hx:LX w1) (hkid:∀ y,y ∈ x.kids→EXW w1 b y) (H_hop:Hid (x.op=22)) (H_hn:Hid (x.kids.length=1)):EXW w1 b x:=by exact kf4
namespace n4_2
abbrev q4_0:=@Zm7
abbrev q4_1:Nat:=23
abbrev q4_2:Nat:=3
end n4_2
open nr525 in
open n4_2 in
theorem Zv7 (w1:World) (b:Nat) (x:PE) (hv:Ze2 x.v) (hx:LX w1) (hkid:∀ y,y ∈ x.kids→EXW w1 b y) (H_hop:Hid (x.op=23)) (H_hn:Hid (x.kids.length=1)):EXW w1 b x:=by exact kf4
namespace nr526
theorem qR0 {p:Prop} (h:p:=by
 have hop:=H_hop.out
 have hn:=H_hn.out
 have o1:((x.op:Int) == 1)=true:=by simp [hop]
 have o2:((x.op:Int) == 2)=false:=kQ
 have o3:((x.op:Int) == 3)=false:=kQ
 have o4:((x.op:Int) == 4)=false:=kQ
 have o5:((x.op:Int) == 5)=false:=kQ
 have o20:((x.op:Int) == 20)=false:=kQ
 have g6:¬ (6:Int) ≤ (x.op:Int):=kW
 have g20:¬ (20:Int) ≤ (x.op:Int):=kW
 have l19:  (x.op:Int) ≤ 19:=kW
 have l23:  (x.op:Int) ≤ 23:=kW
 have n0:((x.kids.length:Int) == 0)=false:=beq_eq_false_iff_ne.2 kW
 have HT:Hid (wrE x l=Ze [[63]] l):=Lh (Zed HNL.out kW kW kW kW kW kW kW kW)
 rw [HT.out] at HLN
 have HP3:=Lh (Zas [⟨#[63]⟩] w1 b l w2 HW.out (HLN.out) kY)
 go_wp2_with fail
 refine HP3.out.mono ?_
 rintro e3 w3 ⟨rfl,hs3,hk3⟩
 have HW3:=Lh hs3
 have HK3:=Lh (HK0.out.trans hk3)
 clear hs3 hk3 HP3
 clear c0 c1 c2 c3 c4 c5 c7
 go_wp2_with fail
 go_end0
 exact ⟨rfl,by rw [HT.out];exact HW3.out,HK3.out⟩):p:=h
end nr526
open nr526 in
theorem exprNo1 (w1:World) (b:Nat) (x:PE) (hv:Ze2 x.v) (hx:LX w1) (hkid:∀ y,y ∈ x.kids→EXW w1 b y) (H_hop:Hid (x.op=1)) (H_hn:Hid (¬ x.kids.length=0)):EXW w1 b x:=by exact kp3
namespace nr527
theorem qR0 {p:Prop} (h:p:=by
 have hop:=H_hop.out
 have hn:=H_hn.out
 have o1:((x.op:Int) == 1)=false:=kQ
 have o2:((x.op:Int) == 2)=true:=by simp [hop]
 have o3:((x.op:Int) == 3)=false:=kQ
 have o4:((x.op:Int) == 4)=false:=kQ
 have o5:((x.op:Int) == 5)=false:=kQ
 have o20:((x.op:Int) == 20)=false:=kQ
 have g6:¬ (6:Int) ≤ (x.op:Int):=kW
 have g20:¬ (20:Int) ≤ (x.op:Int):=kW
 have l19:  (x.op:Int) ≤ 19:=kW
 have l23:  (x.op:Int) ≤ 23:=kW
 have n0:((x.kids.length:Int) == 0)=false:=beq_eq_false_iff_ne.2 kW
 have HT:Hid (wrE x l=Ze [[63]] l):=Lh (Zed HNL.out kW kW kW kW kW kW kW kW)
 rw [HT.out] at HLN
 have HP3:=Lh (Zas [⟨#[63]⟩] w1 b l w2 HW.out (HLN.out) kY)
 go_wp2_with fail
 refine HP3.out.mono ?_
 rintro e3 w3 ⟨rfl,hs3,hk3⟩
 have HW3:=Lh hs3
 have HK3:=Lh (HK0.out.trans hk3)
 clear hs3 hk3 HP3
 clear c0 c1 c2 c3 c4 c5 c7
 go_wp2_with fail
 go_end0
 exact ⟨rfl,by rw [HT.out];exact HW3.out,HK3.out⟩):p:=h
end nr527
open nr527 in
theorem exprNo2 (w1:World) (b:Nat) (x:PE) (hv:Ze2 x.v) (hx:LX w1) (hkid:∀ y,y ∈ x.kids→EXW w1 b y) (H_hop:Hid (x.op=2)) (H_hn:Hid (¬ x.kids.length=0)):EXW w1 b x:=by exact kp3
namespace nr528
theorem qR0 {p:Prop} (h:p:=by
 have hop:=H_hop.out
 have hn:=H_hn.out
 have o1:((x.op:Int) == 1)=false:=kQ
 have o2:((x.op:Int) == 2)=false:=kQ
 have o3:((x.op:Int) == 3)=true:=by simp [hop]
 have o4:((x.op:Int) == 4)=false:=kQ
 have o5:((x.op:Int) == 5)=false:=kQ
 have o20:((x.op:Int) == 20)=false:=kQ
 have g6:¬ (6:Int) ≤ (x.op:Int):=kW
 have g20:¬ (20:Int) ≤ (x.op:Int):=kW
 have l19:  (x.op:Int) ≤ 19:=kW
 have l23:  (x.op:Int) ≤ 23:=kW
 have n1:((x.kids.length:Int) == 1)=false:=beq_eq_false_iff_ne.2 kW
 have HT:Hid (wrE x l=Ze [[63]] l):=Lh (Zed HNL.out kW kW kW kW kW kW kW kW)
 rw [HT.out] at HLN
 have HP3:=Lh (Zas [⟨#[63]⟩] w1 b l w2 HW.out (HLN.out) kY)
 go_wp2_with fail
 refine HP3.out.mono ?_
 rintro e3 w3 ⟨rfl,hs3,hk3⟩
 have HW3:=Lh hs3
 have HK3:=Lh (HK0.out.trans hk3)
 clear hs3 hk3 HP3
 clear c0 c1 c2 c3 c4 c5 c7
 go_wp2_with fail
 go_end0
 exact ⟨rfl,by rw [HT.out];exact HW3.out,HK3.out⟩):p:=h
end nr528
open nr528 in
theorem exprNo3 (w1:World) (b:Nat) (x:PE) (hv:Ze2 x.v) (hx:LX w1) (hkid:∀ y,y ∈ x.kids→EXW w1 b y) (H_hop:Hid (x.op=3)) (H_hn:Hid (¬ x.kids.length=1)):EXW w1 b x:=by exact kp3
namespace nr529
theorem qR0 {p:Prop} (h:p:=by
 have hop:=H_hop.out
 have hn:=H_hn.out
 have o1:((x.op:Int) == 1)=false:=kQ
 have o2:((x.op:Int) == 2)=false:=kQ
 have o3:((x.op:Int) == 3)=false:=kQ
 have o4:((x.op:Int) == 4)=true:=by simp [hop]
 have o5:((x.op:Int) == 5)=false:=kQ
 have o20:((x.op:Int) == 20)=false:=kQ
 have g6:¬ (6:Int) ≤ (x.op:Int):=kW
 have g20:¬ (20:Int) ≤ (x.op:Int):=kW
 have l19:  (x.op:Int) ≤ 19:=kW
 have l23:  (x.op:Int) ≤ 23:=kW
 have n1:((x.kids.length:Int) == 1)=false:=beq_eq_false_iff_ne.2 kW
 have HT:Hid (wrE x l=Ze [[63]] l):=Lh (Zed HNL.out kW kW kW kW kW kW kW kW)
 rw [HT.out] at HLN
 have HP3:=Lh (Zas [⟨#[63]⟩] w1 b l w2 HW.out (HLN.out) kY)
 go_wp2_with fail
 refine HP3.out.mono ?_
 rintro e3 w3 ⟨rfl,hs3,hk3⟩
 have HW3:=Lh hs3
 have HK3:=Lh (HK0.out.trans hk3)
 clear hs3 hk3 HP3
 clear c0 c1 c2 c3 c4 c5 c7
 go_wp2_with fail
 go_end0
 exact ⟨rfl,by rw [HT.out];exact HW3.out,HK3.out⟩):p:=h
end nr529
open nr529 in
theorem exprNo4 (w1:World) (b:Nat) (x:PE) (hv:Ze2 x.v) (hx:LX w1) (hkid:∀ y,y ∈ x.kids→EXW w1 b y) (H_hop:Hid (x.op=4)) (H_hn:Hid (¬ x.kids.length=1)):EXW w1 b x:=by exact kp3
namespace nr530
theorem qR0 {p:Prop} (h:p:=by
 have hop:=H_hop.out
 have hn:=H_hn.out
 have o1:((x.op:Int) == 1)=false:=kQ
 have o2:((x.op:Int) == 2)=false:=kQ
 have o3:((x.op:Int) == 3)=false:=kQ
 have o4:((x.op:Int) == 4)=false:=kQ
 have o5:((x.op:Int) == 5)=true:=by simp [hop]
 have o20:((x.op:Int) == 20)=false:=kQ
 have g6:¬ (6:Int) ≤ (x.op:Int):=kW
 have g20:¬ (20:Int) ≤ (x.op:Int):=kW
 have l19:  (x.op:Int) ≤ 19:=kW
 have l23:  (x.op:Int) ≤ 23:=kW
 have n1:((x.kids.length:Int) == 1)=false:=beq_eq_false_iff_ne.2 kW
 have HT:Hid (wrE x l=Ze [[63]] l):=Lh (Zed HNL.out kW kW kW kW kW kW kW kW)
 rw [HT.out] at HLN
 have HP3:=Lh (Zas [⟨#[63]⟩] w1 b l w2 HW.out (HLN.out) kY)
 go_wp2_with fail
 refine HP3.out.mono ?_
 rintro e3 w3 ⟨rfl,hs3,hk3⟩
 have HW3:=Lh hs3
 have HK3:=Lh (HK0.out.trans hk3)
 clear hs3 hk3 HP3
 clear c0 c1 c2 c3 c4 c5 c7
 go_wp2_with fail
 go_end0
 exact ⟨rfl,by rw [HT.out];exact HW3.out,HK3.out⟩):p:=h
end nr530
open nr530 in
theorem exprNo5 (w1:World) (b:Nat) (x:PE) (hv:Ze2 x.v) (hx:LX w1) (hkid:∀ y,y ∈ x.kids→EXW w1 b y) (H_hop:Hid (x.op=5)) (H_hn:Hid (¬ x.kids.length=1)):EXW w1 b x:=by exact kp3
namespace nr531
theorem qR0 {p:Prop} (h:p:=by
 have hop:=H_hop.out
 have hn:=H_hn.out
 have o1:((x.op:Int) == 1)=false:=kQ
 have o2:((x.op:Int) == 2)=false:=kQ
 have o3:((x.op:Int) == 3)=false:=kQ
 have o4:((x.op:Int) == 4)=false:=kQ
 have o5:((x.op:Int) == 5)=false:=kQ
 have o20:((x.op:Int) == 20)=false:=kQ
 have g6:  (6:Int) ≤ (x.op:Int):=kW
 have g20:  (20:Int) ≤ (x.op:Int):=kW
 have l19:¬ (x.op:Int) ≤ 19:=kW
 have l23:  (x.op:Int) ≤ 23:=kW
 have n1:((x.kids.length:Int) == 1)=false:=beq_eq_false_iff_ne.2 kW
 have HT:Hid (wrE x l=Ze [[63]] l):=Lh (Zed HNL.out kW kW kW kW kW kW kW kW)
 rw [HT.out] at HLN
 have HP3:=Lh (Zas [⟨#[63]⟩] w1 b l w2 HW.out (HLN.out) kY)
 go_wp2_with fail
 refine HP3.out.mono ?_
 rintro e3 w3 ⟨rfl,hs3,hk3⟩
 have HW3:=Lh hs3
 have HK3:=Lh (HK0.out.trans hk3)
 clear hs3 hk3 HP3
 clear c0 c1 c2 c3 c4 c5 c7
 go_wp2_with fail
 go_end0
 exact ⟨rfl,by rw [HT.out];exact HW3.out,HK3.out⟩):p:=h
end nr531
theorem kf5 {p:Prop} (h:p:=by exact kp3):p:=h
open nr531 in
theorem exprNo21 (w1:World) (b:Nat) (x:PE) (hv:Ze2 x.v) (hx:LX w1) (hkid:∀ y,y ∈ x.kids→EXW w1 b y) (H_hop:Hid (x.op=21)) (H_hn:Hid (¬ x.kids.length=1)):EXW w1 b x:=by exact kf5
open nr531 in
theorem exprNo22 (w1:World) (b:Nat) (x:PE) (hv:Ze2 x.v) (hx:LX w1) (hkid:∀ y,y ∈ x.kids→EXW w1 b y) (H_hop:Hid (x.op=22)) (H_hn:Hid (¬ x.kids.length=1)):EXW w1 b x:=by exact kf5
open nr531 in
theorem exprNo23 (w1:World) (b:Nat) (x:PE) (hv:Ze2 x.v) (hx:LX w1) (hkid:∀ y,y ∈ x.kids→EXW w1 b y) (H_hop:Hid (x.op=23)) (H_hn:Hid (¬ x.kids.length=1)):EXW w1 b x:=by exact kf5
namespace nr532
theorem qR0 {p:Prop} (h:p:=by
 have hop:=H_hop.out
 have hn:=H_hn.out
 have hn1:=H_hn1.out
 have o1:((x.op:Int) == 1)=false:=kQ
 have o2:((x.op:Int) == 2)=false:=kQ
 have o3:((x.op:Int) == 3)=false:=kQ
 have o4:((x.op:Int) == 4)=false:=kQ
 have o5:((x.op:Int) == 5)=false:=kQ
 have o20:((x.op:Int) == 20)=true:=by simp [hop]
 have g6:  (6:Int) ≤ (x.op:Int):=kW
 have g20:  (20:Int) ≤ (x.op:Int):=kW
 have l19:¬ (x.op:Int) ≤ 19:=kW
 have l23:  (x.op:Int) ≤ 23:=kW
 have n0:((x.kids.length:Int) == 0)=false:=beq_eq_false_iff_ne.2 kW
 have n1:((x.kids.length:Int) == 1)=false:=beq_eq_false_iff_ne.2 kW
 have HT:Hid (wrE x l=Ze [[63]] l):=Lh (Zed HNL.out kW kW kW kW kW kW kW kW)
 rw [HT.out] at HLN
 have HP3:=Lh (Zas [⟨#[63]⟩] w1 b l w2 HW.out (HLN.out) kY)
 go_wp2_with fail
 refine HP3.out.mono ?_
 rintro e3 w3 ⟨rfl,hs3,hk3⟩
 have HW3:=Lh hs3
 have HK3:=Lh (HK0.out.trans hk3)
 clear hs3 hk3 HP3
 clear c0 c1 c2 c3 c4 c5 c7
 go_wp2_with fail
 go_end0
 exact ⟨rfl,by rw [HT.out];exact HW3.out,HK3.out⟩):p:=h
end nr532
open nr532 in
theorem exprNo20 (w1:World) (b:Nat) (x:PE) (hv:Ze2 x.v) (hx:LX w1) (hkid:∀ y,y ∈ x.kids→EXW w1 b y) (H_hop:Hid (x.op=20)) (H_hn:Hid (¬ x.kids.length=0)) (H_hn1:Hid (¬ x.kids.length=1)):EXW w1 b x:=by exact kp3
namespace nr533
theorem qR0 {p:Prop} (h:p:=by
 have hr:=H_hr.out
 have hn:=H_hn.out
 obtain ⟨hr1,hr2⟩:=hr
 have o1:((x.op:Int) == 1)=false:=kQ
 have o2:((x.op:Int) == 2)=false:=kQ
 have o3:((x.op:Int) == 3)=false:=kQ
 have o4:((x.op:Int) == 4)=false:=kQ
 have o5:((x.op:Int) == 5)=false:=kQ
 have o20:((x.op:Int) == 20)=false:=kQ
 have g6:(6:Int) ≤ (x.op:Int):=kW
 have l19:(x.op:Int) ≤ 19:=kW
 have g20:¬ (20:Int) ≤ (x.op:Int):=kW
 have l23:(x.op:Int) ≤ 23:=kW
 have n2:((x.kids.length:Int) == 2)=false:=beq_eq_false_iff_ne.2 kW
 have HT:Hid (wrE x l=Ze [[63]] l):=Lh (Zed HNL.out kW kW kW kW kW kW kW kW)
 rw [HT.out] at HLN
 have HP3:=Lh (Zas [⟨#[63]⟩] w1 b l w2 HW.out (HLN.out) kY)
 go_wp2_with fail
 refine HP3.out.mono ?_
 rintro e3 w3 ⟨rfl,hs3,hk3⟩
 have HW3:=Lh hs3
 have HK3:=Lh (HK0.out.trans hk3)
 clear hs3 hk3 HP3
 clear c0 c1 c2 c3 c4 c5 c7
 go_wp2_with fail
 go_end0
 exact ⟨rfl,by rw [HT.out];exact HW3.out,HK3.out⟩):p:=h
end nr533
open nr533 in
theorem exprNo6 (w1:World) (b:Nat) (x:PE) (hv:Ze2 x.v) (hx:LX w1) (hkid:∀ y,y ∈ x.kids→EXW w1 b y) (H_hr:Hid (6 ≤ x.op∧x.op ≤ 19)) (H_hn:Hid (¬ x.kids.length=2)):EXW w1 b x:=by exact kp3
namespace nr534
theorem qR0 {p:Prop} (h:p:=by
 have hr:=H_hr.out
 have o1:((x.op:Int) == 1)=false:=kQ
 have o2:((x.op:Int) == 2)=false:=kQ
 have o3:((x.op:Int) == 3)=false:=kQ
 have o4:((x.op:Int) == 4)=false:=kQ
 have o5:((x.op:Int) == 5)=false:=kQ
 have o20:((x.op:Int) == 20)=false:=kQ
 have g6:(6:Int) ≤ (x.op:Int):=kW
 have l19:¬ (x.op:Int) ≤ 19:=kW
 have g20:(20:Int) ≤ (x.op:Int):=kW
 have l23:¬ (x.op:Int) ≤ 23:=kW
 have HT:Hid (wrE x l=Ze [[63]] l):=Lh (Zed HNL.out kW kW kW kW kW kW kW kW)
 rw [HT.out] at HLN
 have HP3:=Lh (Zas [⟨#[63]⟩] w1 b l w2 HW.out (HLN.out) kY)
 go_wp2_with fail
 refine HP3.out.mono ?_
 rintro e3 w3 ⟨rfl,hs3,hk3⟩
 have HW3:=Lh hs3
 have HK3:=Lh (HK0.out.trans hk3)
 clear hs3 hk3 HP3
 clear c0 c1 c2 c3 c4 c5 c7
 go_wp2_with fail
 go_end0
 exact ⟨rfl,by rw [HT.out];exact HW3.out,HK3.out⟩):p:=h
end nr534
open nr534 in
theorem exprNo24 (w1:World) (b:Nat) (x:PE) (hv:Ze2 x.v) (hx:LX w1) (hkid:∀ y,y ∈ x.kids→EXW w1 b y) (H_hr:Hid (24 ≤ x.op)):EXW w1 b x:=by exact kp3
namespace nr535
theorem qR0 {p:Prop} (h:p:=by
 have hop:=H_hop.out
 have o1:((x.op:Int) == 1)=false:=kQ
 have o2:((x.op:Int) == 2)=false:=kQ
 have o3:((x.op:Int) == 3)=false:=kQ
 have o4:((x.op:Int) == 4)=false:=kQ
 have o5:((x.op:Int) == 5)=false:=kQ
 have o20:((x.op:Int) == 20)=false:=kQ
 have g6:¬ (6:Int) ≤ (x.op:Int):=kW
 have g20:¬ (20:Int) ≤ (x.op:Int):=kW
 have l19:  (x.op:Int) ≤ 19:=kW
 have l23:  (x.op:Int) ≤ 23:=kW
 have HT:Hid (wrE x l=Ze [[63]] l):=Lh (Zed HNL.out kW kW kW kW kW kW kW kW)
 rw [HT.out] at HLN
 have HP3:=Lh (Zas [⟨#[63]⟩] w1 b l w2 HW.out (HLN.out) kY)
 go_wp2_with fail
 refine HP3.out.mono ?_
 rintro e3 w3 ⟨rfl,hs3,hk3⟩
 have HW3:=Lh hs3
 have HK3:=Lh (HK0.out.trans hk3)
 clear hs3 hk3 HP3
 clear c0 c1 c2 c3 c4 c5 c7
 go_wp2_with fail
 go_end0
 exact ⟨rfl,by rw [HT.out];exact HW3.out,HK3.out⟩):p:=h
end nr535
open nr535 in
theorem exprNo0 (w1:World) (b:Nat) (x:PE) (hv:Ze2 x.v) (hx:LX w1) (hkid:∀ y,y ∈ x.kids→EXW w1 b y) (H_hop:Hid (x.op=0)):EXW w1 b x:=by exact kp3
end Go.Proofs.YtmdogmpcmkfjpaaGreatDoor.Dt
