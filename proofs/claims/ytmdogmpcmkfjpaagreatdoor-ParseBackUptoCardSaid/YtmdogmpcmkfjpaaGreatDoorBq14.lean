import Derived.Laws.Rows
import Derived.Test.YtmdogmpcmkfjpaaGreatDoorBq10
import Derived.Test.YtmdogmpcmkfjpaaGreatDoorBq05
import Derived.Test.YtmdogmpcmkfjpaaGreatDoorBq08
import Derived.Test.YtmdogmpcmkfjpaaGreatDoorBq13
set_option maxRecDepth 100000
set_option maxHeartbeats 64000000
/- Part. -/
namespace Go.Proofs.YtmdogmpcmkfjpaaGreatDoor.Dt
open Go.RowKit Go.Proofs.YtmdogmpcmkfjpaaGreatDoor.By
attribute [local go_sem ↓] Zhd
attribute [local go_sem] Zi6 Zhv Zq3 Value.oneCell'
section
variable {w0:World} {r:Nat} {tv:Value} {L:List Tk} {en:Int} {s:PS}
theorem Zk9 (w:World) (h:PB w0 r tv L en s w):Calls Tryz.prog 88 #[pV r] w fun e w'=>
 e = .returned (.agg #[.int .u8 ((Zag L en s.k).k:Int),.string (Zag L en s.k).s,.int .u64 ((Zag L en s.k).n:Int),.int .i64 (Zag L en s.k).a])∧Below w.heap.size w w':=by
 obtain ⟨ta,tc,rfl⟩:=h.tks.shape
 have hl:=h.hl
 have hr:=h.lt
 have hk:=h.hk
 have hR:=Zc w 128 tkZ
 have hb:=(Below.refl _ w).alloc (Nat.le_refl _) (.cells tkZ 128)
 by_cases hlt:s.k < L.length
 ·obtain ⟨b,o,c,e,q0,q1,q2,q3⟩:=h.tok hlt
  cases e
  have z0:=(hb.cell (Zd q0)).trans q0
  have z1:=(hb.cell (Zd q1)).trans q1
  have z2:=(hb.cell (Zd q2)).trans q2
  have z3:=(hb.cell (Zd q3)).trans q3
  have h2:=h.later hb
  obtain ⟨c0,c1,c2,_,_,_,_,_,_,_,_,_,_⟩:=h2
  have i1:(s.k:Int) < (L.length:Int):=kW
  have i0:(0:Int) ≤ (s.k:Int):=kW
  generalize Zag L en s.k=T at *
  have HR:=Lh hR
  have HB:=Lh hb
  have HRR:Hid (r < w.heap.size):=Lh hr
  clear hlt hl hk q0 q1 q2 q3 h hR hb hr
  go_enter Tryz.func88,Tryz.ntmps88
  go_upto_region 1 with fail
  generalize w.alloc (.cells tkZ 128)=w1 at *
  have l0:=Zb c0
  have l1:=Zb c1
  refine Zj kR kR ?_
  repeat (go_big_quiet_step (fail))
  refine wpQuiet_nil ?_
  refine Zu (fun w2 hb2=>?_)
  replace c0:=(hb2.cell (Zd c0)).trans c0
  replace c1:=(hb2.cell (Zd c1)).trans c1
  replace z0:=(hb2.cell (Zd z0)).trans z0
  replace z1:=(hb2.cell (Zd z1)).trans z1
  replace z2:=(hb2.cell (Zd z2)).trans z2
  replace z3:=(hb2.cell (Zd z3)).trans z3
  replace HR:=Lh (HR.out.later hb2)
  replace HB:=Lh (next HB.out hb2)
  clear l0 l1 hb2
  go_wp2_with fail
  have l0:=Zb c0
  have l1:=Zb c1
  have l2:=Zb z0
  have l3:=Zb z1
  have l4:=Zb z2
  have l5:=Zb z3
  refine Zaj 10 kR kR ?_
  simp only [List.take_succ_cons,List.take_zero,List.drop_succ_cons,List.drop_zero]
  repeat (go_big_quiet_step (fail))
  refine wpQuiet_nil ?_
  refine Zu (fun w7 hb7=>?_)
  replace HR:=Lh (HR.out.later hb7)
  replace HB:=Lh (next HB.out hb7)
  clear l0 l1 l2 l3 l4 l5 hb7 c0 c1 c2 z0 z1 z2 z3
  have hR:=HR.out.b (n:=4) rfl
  go_wp2_with fail
  exact bodyPost_ret (v:=.agg (tkC T)) (Zq Tryz.results88 Znn Zl4 _ _ w.heap.size _ (tkC T) rfl (HR.out.set _) rfl) rfl ⟨rfl,Zic HB.out (Nat.le_refl _) _⟩
 have e0:Zag L en s.k=⟨0,⟨#[]⟩,0,en⟩:=by unfold Zag;rw [List.getElem?_eq_none kW];rfl
 rw [e0]
 have h2:=h.later hb
 obtain ⟨c0,c1,c2,_,_,_,_,_,_,_,_,_,_⟩:=h2
 have i1:¬ (s.k:Int) < (L.length:Int):=kW
 have HR:=Lh hR
 have HB:=Lh hb
 clear hlt hl hk h hR hb e0
 go_enter Tryz.func88,Tryz.ntmps88
 go_upto_region 1 with fail
 generalize w.alloc (.cells tkZ 128)=w1 at *
 have l0:=Zb c0
 have l1:=Zb c1
 refine Zj kR kR ?_
 repeat (go_big_quiet_step (fail))
 refine wpQuiet_nil ?_
 refine Zu (fun w2 hb2=>?_)
 replace c2:=(hb2.cell (Zd c2)).trans c2
 replace HR:=Lh (HR.out.later hb2)
 replace HB:=Lh (next HB.out hb2)
 clear l0 l1 hb2 c0 c1
 have hR:=HR.out.b (n:=4) rfl
 go_wp2_with fail
 exact bodyPost_ret (v:=.agg (tkC ⟨0,⟨#[]⟩,0,en⟩)) (Zq Tryz.results88 Znn Zl4 _ _ w.heap.size _ (tkC ⟨0,⟨#[]⟩,0,en⟩) rfl (HR.out.set _) rfl) rfl ⟨rfl,Zic HB.out (Nat.le_refl _) _⟩
theorem okP (w:World) (h:PB w0 r tv L en s w):Calls Tryz.prog 28 #[pV r] w fun e w'=>e = .returned (.bool (decide (s.e=0)))∧w=w':=by
 have c3:=h.c3
 have e1:((s.e:Int) == 0)=decide (s.e=0):=by rw [Bool.eq_iff_iff];simp
 generalize decide (s.e=0)=B at *
 clear h
 go_enter Tryz.func28,Tryz.ntmps28
 go_wp2_with fail
 go_ret
 exact ⟨rfl,rfl⟩
theorem Zno (a b c d:Value) (W:World):(Instr.field 128 (.agg #[a,b,c,d]) 3).run Tryz.prog W = .ok d W:=kR
attribute [local go_sem] Zno
theorem Zol (w:World) (e:Nat) (h:PB w0 r tv L en s w):Calls Tryz.prog 32 #[pV r,.int .i64 (e:Int)] w fun e' w'=>e' = .returned (.tuple #[])∧PB w0 r tv L en (Zem L en e s) w'∧w.grownBy w' (some r):=by
 by_cases he:s.e=0
 ·have hf:Zem L en e s = { s with e:=e,a:=(Zag L en s.k).a } :=by unfold Zem;rw [if_pos he]
  rw [hf]
  have HT:=Lh (Zk9 w h)
  generalize Zag L en s.k=T at *
  have c3:=h.c3
  have e1:((s.e:Int) == 0)=true:=by simp [he]
  have H:=Lh h
  clear h he hf
  go_enter Tryz.func32,Tryz.ntmps32
  go_wp2_with fail
  refine HT.out.mono ?_
  rintro e2 w2 ⟨rfl,hb2⟩
  have H2:=H.out.later hb2
  have HF:=Lh (H2.fail e T.a)
  have HG:=Lh (below_grown (r:=r) hb2)
  obtain ⟨d0,d1,d2,d3,d4,g1,g3,g4,_,_,_,_,_⟩:=H2
  clear c3 hb2
  go_wp2_with fail
  go_end0
  refine ⟨rfl,HF.out,?_⟩
  exact Za HG.out (Za (Z3 w2 r 3 _) (Z3 _ r 4 _))
 have hf:Zem L en e s=s:=by unfold Zem;rw [if_neg he]
 rw [hf]
 have c3:=h.c3
 have e1:((s.e:Int) == 0)=false:=by simp [he]
 have H:=Lh h
 clear h he hf
 go_enter Tryz.func32,Tryz.ntmps32
 go_wp2_with fail
 go_end0
 exact ⟨rfl,H.out,World.grownBy.refl _ _⟩
theorem Z2 (t:ByteArray):(isM L en t s).2=if isB L en t s then s.next else s:=rfl
theorem isW (t:ByteArray) (w:World) (h:PB w0 r tv L en s w):Calls Tryz.prog 74 #[pV r,.string t] w fun e w'=>
 e = .returned (.bool (isB L en t s))∧PB w0 r tv L en (isM L en t s).2 w'∧w.grownBy w' (some r):=by
 obtain ⟨B,hB⟩:∃ B,B=isB L en t s:=⟨_,rfl⟩
 have hn:B=true→s.k < L.length:=fun hb=>(Zh5 (L:=L) (en:=en) (t:=t) (s:=s) (by show isB L en t s=true;rw [← hB,hb])).2
 have HN:=Lh hn
 rw [Z2,← hB]
 have hBT:B=decide (s.e=0∧((Zag L en s.k).k=1 ∨ (Zag L en s.k).k=6)∧(Zag L en s.k).s=t):=hB
 have HT:=Lh (Zk9 w h)
 generalize Zag L en s.k=T at *
 have HB:=Lh hBT
 have H:=Lh h
 clear h hB hBT hn
 go_enter Tryz.func74,Tryz.ntmps74
 go_wp2_with fail
 refine HT.out.mono ?_
 rintro e2 w2 ⟨rfl,hb2⟩
 have hb3:=next hb2 ((Below.refl _ w2).alloc (Nat.le_refl _) (.cells (tkC T) 128))
 have H3:=Lh (H.out.later hb3)
 have hR:=Zc w2 128 (tkC T)
 have HG:=Lh (below_grown (r:=r) hb3)
 have q0:=hR.cell (i:=0) (v:=.int .u8 (T.k:Int)) rfl
 have q1:=hR.cell (i:=1) (v:=.string T.s) rfl
 clear hR hb2 hb3
 go_upto_region 2 with fail
 generalize w2.alloc (.cells (tkC T) 128)=w3 at *
 have HO:=Lh (okP w3 H3.out)
 generalize w2.heap.size=b at *
 have hcase:(s.e ≠ 0∧B=false) ∨ (s.e=0∧T.k ≠ 1∧T.k ≠ 6∧B=false) ∨ (s.e=0∧(T.k=1 ∨ T.k=6)∧T.s ≠ t∧B=false) ∨ (s.e=0∧(T.k=1 ∨ T.k=6)∧T.s=t∧B=true):=by
  rw [HB.out]
  by_cases h0:s.e=0 <;> by_cases h1:T.k=1 <;> by_cases h6:T.k=6 <;> by_cases h9:T.s=t <;> simp [h0,h1,h6,h9]
 rcases hcase with ⟨h0,rfl⟩ | ⟨h0,h1,h6,rfl⟩ | ⟨h0,h1,h9,rfl⟩ | ⟨h0,h1,rfl,rfl⟩
 ·have d0:decide (s.e=0)=false:=decide_eq_false h0
  rw [d0] at HO
  clear h0 d0
  exact ks38
 ·have d0:decide (s.e=0)=true:=decide_eq_true h0
  rw [d0] at HO
  have e1:((T.k:Int) != 1)=true:=kQ
  have e6:((T.k:Int) != 6)=true:=kQ
  clear h0 d0 h1 h6
  exact ks38
 ·have d0:decide (s.e=0)=true:=decide_eq_true h0
  rw [d0] at HO
  have es:(T.s.toList == t.toList)=false:=by rw [str_eq,decide_eq_false h9]
  rcases h1 with h1 | h1
  ·have e1:((T.k:Int) != 1)=false:=by simp [h1]
   clear h0 d0 h1 h9
   exact ks38
  have e1:((T.k:Int) != 1)=true:=by simp [h1]
  have e6:((T.k:Int) != 6)=false:=by simp [h1]
  clear h0 d0 h1 h9
  exact ks38
 have d0:decide (s.e=0)=true:=decide_eq_true h0
 rw [d0] at HO
 have HN2:=H3.out.next (HN.out rfl)
 have HGN:=Za HG.out (Z3 w3 r 1 (.int .i64 ((s.k:Int) + 1)))
 have HN3:=Lh HN2
 have HG3:=Lh HGN
 have j1:(0:Int) ≤ (s.k:Int):=kW
 have j2:(s.k:Int) ≤ 4096:=by have:=H3.out.hk;have:=H3.out.hl;omega
 obtain ⟨c0,c1,c2,c3,c4,f1,f3,f4,_,_,_,_,_⟩:=H3.out
 clear HN2 HGN
 rcases h1 with h1 | h1
 ·have e1:((T.k:Int) != 1)=false:=by simp [h1]
  exact ks75
 have e1:((T.k:Int) != 1)=true:=by simp [h1]
 have e6:((T.k:Int) != 6)=false:=by simp [h1]
 exact ks75
end
end Go.Proofs.YtmdogmpcmkfjpaaGreatDoor.Dt
namespace Go.Proofs.YtmdogmpcmkfjpaaGreatDoor.Dt
open Go.RowKit Go.Proofs.YtmdogmpcmkfjpaaGreatDoor.By
structure Ze2 (v:V):Prop where
 lo:-9223372036854775808 ≤ v.n
 hi:v.n ≤ 9223372036854775807
 sz:v.s.size ≤ 100000
theorem Zre (n:Int):Lib.itoa n=if n < 0 then 45 :: Lib.decDigits (-n).toNat else Lib.decDigits n.toNat:=by
 by_cases h:n < 0
 ·rw [if_pos h]
  obtain ⟨k,rfl⟩:∃ k:Nat,n = -(k:Int):=⟨(-n).toNat,by omega⟩
  rw [Lib.itoa_neg k kW]
  have e:(-(-(k:Int))).toNat=k:=kW
  rw [e]
 rw [if_neg h]
 obtain ⟨k,rfl⟩:∃ k:Nat,n=(k:Int):=⟨n.toNat,by omega⟩
 rw [Lib.itoa_nonneg k]
 rfl
theorem textW (v:V) (w:World) (hx:LX w) (hv:Ze2 v):Calls Tryz.prog 90 #[.agg #[.int .u8 (v.k:Int),.int .i64 v.n,.string v.s]] w fun e w'=>e = .returned (str (Znl v))∧Below w.heap.size w w':=by
 obtain ⟨k,n,s⟩:=v
 obtain ⟨h0,h1,hs⟩:=hv
 simp only at h0 h1 hs ⊢
 have hbA:Below w.heap.size w (w.alloc (.cells #[.int .u8 (k:Int),.int .i64 n,.string s] 46)):=bA
 have hr:=Zc w 46 #[.int .u8 (k:Int),.int .i64 n,.string s]
 have HX:=Lh (hx.later hbA)
 have HB:=Lh hbA
 have HS:=Lh hs
 clear hbA hx hs
 go_enter Tryz.func90,Tryz.ntmps90
 go_upto_region 1 with fail
 generalize w.alloc (.cells #[.int .u8 (k:Int),.int .i64 n,.string s] 46)=w1 at *
 have y0:=hr.cell (i:=0) (v:=.int .u8 (k:Int)) rfl
 have y1:=hr.cell (i:=1) (v:=.int .i64 n) rfl
 have y2:=hr.cell (i:=2) (v:=.string s) rfl
 clear hr
 by_cases hk1:k=1
 ·subst hk1
  have HV:Hid (Znl ⟨1,n,s⟩=Lib.itoa n):=Lh (by rw [Zre];unfold Znl;rw [if_pos rfl])
  have HF:=Lh (Tryz.strconv_FormatInt_10 n h0 h1 w1 HX.out.tab)
  go_wp2_with fail
  refine HF.out.mono ?_
  rintro e w2 ⟨rfl,kk,os,rfl⟩
  go_wp2_with fail
  go_ret
  exact ⟨by rw [HV.out];rfl,next HB.out (Lib.below_grow _ _ (Nat.le_refl _) _ _)⟩
 by_cases hk2:k=2
 ·subst hk2
  obtain ⟨q,hq⟩:∃ q,q=Zc0 s.data.toList:=⟨_,rfl⟩
  have HQL:Hid (q.length ≤ 300000):=Lh (by
   have h1:=Zfe s.data.toList
   have h2:=HS.out
   rw [Zid] at h1
   rw [hq];omega)
  have HV:Hid (Znl ⟨2,n,s⟩=39 :: (q ++ [39])):=Lh (by rw [hq];rfl)
  have HQW:Hid (Calls Tryz.prog 131 #[.string s,.string ⟨#[39]⟩,.string ⟨#[39,39]⟩] w1 fun e w'=>e = .returned (.string ⟨q.toArray⟩)∧Below w1.heap.size w1 w'):=Lh (by rw [hq];exact quoteW s w1 HX.out.mx kb55)
  have hc1:∀ W,(Op.stringOp .add ⟨#[39]⟩ ⟨q.toArray⟩).run Tryz.prog W = .ok (.string (⟨#[39]⟩ ++ ⟨q.toArray⟩)) W:=fun W=>run_string_add_sum (P:=Tryz.prog) W _ _ (by have:=HQL.out;show 1 + q.toArray.size ≤ _;simp;omega)
  have hc2:∀ W,(Op.stringOp .add (⟨#[39]⟩ ++ ⟨q.toArray⟩) ⟨#[39]⟩).run Tryz.prog W = .ok (.string ((⟨#[39]⟩ ++ ⟨q.toArray⟩) ++ ⟨#[39]⟩)) W:=fun W=>run_string_add_sum (P:=Tryz.prog) W _ _ kb38
  clear hq
  go_wp2_with fail
  refine HQW.out.mono ?_
  rintro e w2 ⟨rfl,hb2⟩
  go_wp2_with fail
  go_ret
  exact ⟨by rw [HV.out];refine congrArg (fun x=>Ending.returned (Value.string x)) (ByteArray.ext ?_);apply Array.toList_inj.1;simp [ByteArray.data_append],next HB.out hb2⟩
 by_cases hk3:k=3
 ·subst hk3
  have htk:Zoz (w1.alloc (.cells #[.int .u8 5,.string s,.int .u64 0,iZ] 128)) (.slice (some ⟨w1.heap.size,0,none⟩) 1 1) [⟨5,s,0,0⟩]:=by
   refine ⟨_,_,rfl,Nat.le_refl _,fun i x hi=>⟨_,0,rfl,fun j u hu=>?_⟩⟩
   rcases i with _ | i
   ·simp at hi
    subst hi
    have hr:=Zc w1 128 #[.int .u8 5,.string s,.int .u64 0,iZ]
    have e:(0:Nat) + 0 * 4 + j=j:=kW
    rw [e]
    exact hr.cell (by simpa [Tk.cells] using hu)
   ·simp at hi
  have HWR:=Lh (Ztb _ [⟨5,s,0,0⟩] _ (HX.out.later ((Below.refl _ w1).alloc (Nat.le_refl _) _)) htk kY kY)
  obtain ⟨⟨t,n2⟩,hwl⟩:∃ z,Zb1 [⟨5,s,0,0⟩]=z:=⟨_,rfl⟩
  rw [hwl] at HWR
  have HV:Hid (Znl ⟨3,n,s⟩=if n2=0 then t else [63]):=Lh (by unfold Znl;simp only;rw [hwl];rfl)
  have HBA:=Lh (next HB.out ((Below.refl _ w1).alloc (Nat.le_refl _) (.cells #[.int .u8 5,.string s,.int .u64 0,iZ] 128)))
  clear hwl htk
  by_cases hn2:n2=0
  ·subst hn2
   go_wp2_with fail
   refine HWR.out.mono ?_
   rintro e w2 ⟨rfl,hb2⟩
   go_wp2_with fail
   go_ret
   exact ⟨by rw [HV.out];rfl,next HBA.out hb2⟩
  have e2:((n2:Int) != 0)=true:=kQ
  have HV2:Hid (Znl ⟨3,n,s⟩ = [63]):=Lh (by rw [HV.out,if_neg hn2])
  clear hn2
  go_wp2_with fail
  refine HWR.out.mono ?_
  rintro e w2 ⟨rfl,hb2⟩
  go_wp2_with fail
  go_ret
  exact ⟨by rw [HV2.out];rfl,next HBA.out hb2⟩
 have e1:((k:Int) == 1)=false:=kQ
 have e2:((k:Int) == 2)=false:=kQ
 have e3:((k:Int) == 3)=false:=kQ
 have HV:Hid (Znl ⟨k,n,s⟩=Zbr.data.toList):=Lh (by unfold Znl;simp only;rw [if_neg hk1,if_neg hk2,if_neg hk3])
 clear hk1 hk2 hk3
 go_wp2_with fail
 go_ret
 exact ⟨by rw [HV.out];rfl,HB.out⟩
attribute [local go_sem ↓] Zhd Zbv
attribute [local go_sem] Zi6 Zhv Zq3 Zfg Value.oneCell' Zno Zc6 Zbx
section
variable {w0:World} {r:Nat} {tv:Value} {L:List Tk} {en:Int} {s:PS}
theorem Zdp (w:World) (h:PB w0 r tv L en s w):Calls Tryz.prog 76 #[pV r] w fun e w'=>
 e = .returned (.string (nameM L en s).1)∧PB w0 r tv L en (nameM L en s).2 w'∧w.grownBy w' (some r):=by
 obtain ⟨R,hR0⟩:∃ R,R=nameM L en s:=⟨_,rfl⟩
 have hRy:s.e=0∧(Zag L en s.k).k=2→R=((Zag L en s.k).s,s.next):=fun hh=>by rw [hR0];unfold nameM;rw [if_pos hh]
 have hRn:¬ (s.e=0∧(Zag L en s.k).k=2)→R=(⟨#[]⟩,Zem L en 6 s):=fun hh=>by rw [hR0];unfold nameM;rw [if_neg hh]
 have hlt:(Zag L en s.k).k=2→s.k < L.length:=fun hh=>Zf8 (L:=L) (en:=en) (by rw [hh];decide)
 rw [← hR0]
 clear hR0
 have HT:=Lh (Zk9 w h)
 generalize Zag L en s.k=T at *
 have HRy:=Lh hRy
 have HRn:=Lh hRn
 have HLT:=Lh hlt
 have H:=Lh h
 clear h hRy hRn hlt
 go_enter Tryz.func76,Tryz.ntmps76
 go_wp2_with fail
 refine HT.out.mono ?_
 rintro e2 w2 ⟨rfl,hb2⟩
 have HNE:=Lh (Nat.ne_of_gt (H.out.later hb2).lt)
 have hb3:=next hb2 ((Below.refl _ w2).alloc (Nat.le_refl _) (.cells (tkC T) 128))
 have H3:=Lh (H.out.later hb3)
 have hR:=Zc w2 128 (tkC T)
 have HG:=Lh (below_grown (r:=r) hb3)
 have q0:=hR.cell (i:=0) (v:=.int .u8 (T.k:Int)) rfl
 have q1:=hR.cell (i:=1) (v:=.string T.s) rfl
 have HQ1:=Lh q1
 clear hR hb2 hb3 q1
 go_upto_region 2 with fail
 generalize w2.alloc (.cells (tkC T) 128)=w3 at *
 have HO:=Lh (okP w3 H3.out)
 have HF:=Lh (Zol w3 6 H3.out)
 generalize w2.heap.size=b at *
 by_cases h0:s.e=0
 ·have d0:decide (s.e=0)=true:=decide_eq_true h0
  rw [d0] at HO
  by_cases h2:T.k=2
  ·obtain rfl:=HRy.out ⟨h0,h2⟩
   have e2:((T.k:Int) != 2)=false:=by simp [h2]
   have HN3:=Lh (H3.out.next (HLT.out h2))
   have HG3:=Lh (Za HG.out (Z3 w3 r 1 (.int .i64 ((s.k:Int) + 1))))
   have HQ2:Hid ((w3.setCell ⟨r,1,none⟩ (.int .i64 ((s.k:Int) + 1))).cell? ⟨b,1,none⟩=some (.string T.s)):=Lh ((Zht w3 b r 1 1 _ (fun e=>HNE.out e.1.symm)).trans HQ1.out)
   have j1:(0:Int) ≤ (s.k:Int):=kW
   have j2:(s.k:Int) ≤ 4096:=by have:=H3.out.hk;have:=H3.out.hl;omega
   obtain ⟨c0,c1,c2,c3,c4,f1,f3,f4,_,_,_,_,_⟩:=H3.out
   clear h0 h2 d0
   go_wp2_with fail
   refine HO.out.mono ?_
   rintro e4 w4 ⟨rfl,rfl⟩
   go_upto_region 6 with fail
   have q2:=HQ2.out
   go_wp2_with fail
   go_ret
   exact ⟨rfl,HN3.out,HG3.out⟩
  obtain rfl:=HRn.out (fun e=>h2 e.2)
  have e2:((T.k:Int) != 2)=true:=kQ
  clear h0 h2 d0
  exact ks55
 have d0:decide (s.e=0)=false:=decide_eq_false h0
 rw [d0] at HO
 obtain rfl:=HRn.out (fun e=>h0 e.1)
 clear h0 d0
 exact ks55
theorem Zq6 {t:ByteArray} {l:List ByteArray} {s:PS} (h:isB L en t s=true):mustM L en (t :: l) s=mustM L en l s.next:=by
 show bnd (isM L en t) _ s=_
 rw [isY h];rfl
theorem Zu3 {t:ByteArray} {l:List ByteArray} {s:PS} (h:isB L en t s=false):mustM L en (t :: l) s=((),Zem L en 6 s):=by
 show bnd (isM L en t) _ s=_
 rw [isN h];rfl
theorem mustW (ws:List ByteArray) (wv:Value) (w:World) (h:PB w0 r tv L en s w) (hl:ws.length ≤ 1000) (hss:∀ w',w.grownBy w' (some r)→Zs6 w' wv ws):Calls Tryz.prog 30 #[pV r,wv] w fun e w'=>
 e = .returned (.tuple #[])∧PB w0 r tv L en (mustM L en ws s).2 w'∧w.grownBy w' (some r):=by
 obtain ⟨S,hS⟩:∃ S,S=(mustM L en ws s).2:=⟨_,rfl⟩
 rw [← hS]
 have HS:=Lh hS
 have H:=Lh h
 have HSS:=Lh hss
 obtain ⟨wa,wc,rfl⟩:=(hss w (World.grownBy.refl _ _)).shape
 clear h hss hS
 go_enter Tryz.func30,Tryz.ntmps30
 go_wp2_with fail
 go_loopg [8] ws.length (fun gk i wr=>∃ (j:Nat) (sj:PS),i = .int .i64 (j:Int)∧gk=ws.length - j∧j ≤ ws.length∧Hid (PB w0 r tv L en sj wr)∧Hid (w.grownBy wr (some r))∧Hid (S=(mustM L en (ws.drop j) sj).2))
 case atStart=>exact ⟨0,s,rfl,rfl,Nat.zero_le _,H,Lh (World.grownBy.refl _ _),HS⟩
 case round=>
  obtain ⟨j,sj,rfl,rfl,hj,HP,HG,HT⟩:=hrel
  by_cases hlt:j < ws.length
  ·have ilt:(j:Int) < (ws.length:Int):=kW
   obtain ⟨t,ht⟩:∃ t,ws[j]? = some t:=⟨ws[j],by simp⟩
   obtain ⟨b,o,rfl,hc⟩:=at1 (HSS.out wr HG.out) ht
   have hd:ws.drop j=t :: ws.drop (j + 1):=by
    rw [List.drop_eq_getElem_cons hlt]
    rw [List.getElem?_eq_getElem hlt] at ht
    cases ht
    rfl
   have HT2:Hid (S=(mustM L en (t :: ws.drop (j + 1)) sj).2):=Lh (by rw [← hd];exact HT.out)
   have HI:=Lh (isW t wr HP.out)
   have HLT:=Lh hlt
   clear hd ht hlt
   obtain ⟨B,hB⟩:∃ B,isB L en t sj=B:=⟨_,rfl⟩
   rw [Z2,hB] at HI
   have HB:=Lh hB
   clear hB HT
   cases B
   ·go_wp2_with fail
    refine HI.out.mono ?_
    rintro e2 w2 ⟨rfl,hp2,hg2⟩
    have HP2:Hid (PB w0 r tv L en sj w2):=Lh hp2
    have HG2:=Lh (Za HG.out hg2)
    clear hp2 hg2 hc
    go_wp2_with fail
    refine (Zol w2 6 HP2.out).mono ?_
    rintro e3 w3 ⟨rfl,hp3,hg3⟩
    go_wp2_with fail
    refine bodyPost_ret (v:=.tuple #[]) (by simp [results,Tryz.results30,go_sem]) rfl ⟨rfl,?_,Za HG2.out hg3⟩
    rw [HT2.out,Zu3 HB.out]
    exact hp3
   go_wp2_with fail
   refine HI.out.mono ?_
   rintro e2 w2 ⟨rfl,hp2,hg2⟩
   have HP2:Hid (PB w0 r tv L en sj.next w2):=Lh hp2
   have HG2:=Lh (Za HG.out hg2)
   clear hp2 hg2 hc
   go_wp2_with fail
   go_roundg (ws.length - (j + 1))
   case measure=>exact Nat.sub_lt_sub_left HLT.out (Nat.lt_succ_self _)
   case rel=>exact ⟨j + 1,sj.next,by go_num,rfl,HLT.out,HP2,HG2,Lh (by rw [HT2.out,Zq6 HB.out])⟩
  obtain rfl:j=ws.length:=kW
  have HF:Hid (S=sj):=Lh (by rw [HT.out,List.drop_length];rfl)
  clear hlt hj
  go_wp2_with fail
  go_end0
  exact ⟨rfl,by rw [HF.out];exact HP.out,HG.out⟩
theorem nodeW (op:Nat) (kv:Value) (a:Option Addr) (n c:Nat) (hk:kv = .slice a n c) (w:World):Calls Tryz.prog 128 #[.int .u8 (op:Int),kv] w fun e w'=>
 e = .returned (.agg #[.int .u8 (op:Int),.int .u8 0,iZ,eS,eS,eS,iZ,kv])∧Below w.heap.size w w':=by
 subst hk
 go_enter Tryz.func128,Tryz.ntmps128
 go_wp2_with fail
 exact bodyPost_ret (v:=.agg #[.int .u8 (op:Int),.int .u8 0,iZ,eS,eS,eS,iZ,.slice a n c]) (Zq Tryz.results128 Zz Zaq _ _ w.heap.size _ #[.int .u8 (op:Int),.int .u8 0,iZ,eS,eS,eS,iZ,.slice a n c] rfl (Zc _ _ _) rfl) rfl ⟨rfl,bA⟩
end
end Go.Proofs.YtmdogmpcmkfjpaaGreatDoor.Dt
namespace Go.Proofs.YtmdogmpcmkfjpaaGreatDoor.Dt
open Go.RowKit Go.Proofs.YtmdogmpcmkfjpaaGreatDoor.By
section
variable {P:Program} {w:World}
theorem Zox (base:Nat) (t ty e:TypeId) (i:TypeInfo) (z:Value) (size bytes:Nat) (ht:P.underlying t=some (.slice e)) (hi:P.info? e=some i) (hz:i.zero=some z)
 (hsize:i.size=size) (hby:i.bytes=bytes) (hzs:z.cells.size=size) (hsz:0 < size)
 (v:Value) (n:Nat) (xs:List Value) (hown:w.ownsRow base e size v n xs)
 (a:Addr) (c:Nat) (news:List Value) (hl:news.length=size) (hnews:∀ j u,news[j]? = some u→w.cell? (a.add j)=some u) (h1:∀ u ∈ news,u.oneCell'=true)
 (h63:n + 1 ≤ maxLen) (hbytes:(n + 1) * bytes ≤ 140737488355328) (v':Value) (w':World) (hr:(Builtin.append_ #[t,t] ty #[v,.slice (some a) 1 c]).run P w = .ok v' w') :
 v'.ownBlock=v.ownBlock ∨ v'.ownBlock=some w.heap.size:=by
 subst hsize
 subst hby
 have hsmall:n + 1 ≤ 9223372036854775807:=by simp only [maxLen] at h63;omega
 have hl':news.length=1 * i.size:=by rw [Nat.one_mul];exact hl
 rcases hown.2 with ⟨rfl,rfl⟩ | ⟨g,cap,cur,rfl,hbg,hg,hnc,hcm,hcs,htake⟩
 ·have h:=run_append_nil (P:=P) w t ty e i z ht hi hz a 1 c news hl' hnews kW kW (by have hb:=hbytes;simp only [Nat.zero_add] at hb;omega)
  rw [h] at hr
  cases hr
  exact .inr rfl
 by_cases hroom:n + 1 ≤ cap
 ·have hfit:n * i.size + news.length ≤ cur.size:=by rw [hl',hcs,← Nat.add_mul];exact Nat.mul_le_mul_right _ hroom
  have h:=run_append_room (P:=P) w t ty e i ht hi g n cap cur hg a 1 c news hl' hnews h1 hroom hfit
  rw [h] at hr
  cases hr
  exact .inl rfl
 have holds:∀ j u,xs[j]? = some u→w.cell? ((⟨g,0,none⟩:Addr).add j)=some u:=hown.cells (g:=g) rfl
 have h:=run_append_grow (P:=P) w t ty e i z ht hi hz ⟨g,0,none⟩ n cap xs hown.1 holds a 1 c news hl' hnews kW kW (growslice_fits kW hbytes)
 rw [h] at hr
 cases hr
 exact .inr rfl
theorem Zae {ops:Array Oper} {rest:List Oper} {o:Oper} {a:Act} {Q:Exit→Act→World→Prop} (hgd:o.guard=none) (s x:Operand) (t:TypeId)
 (ho:o.op = .call { callee:=.builtin .append,args:=#[s,x],argTypes:=#[t,t] })
 (base:Nat) (e:TypeId) (size bytes:Nat) (E:Elem P t e size bytes)
 (v:Value) (n:Nat) (xs:List Value) (hs:a.eval s=v) (hown:w.ownsRow base e size v n xs)
 (b c:Nat) (news:List Value) (hx:a.eval x = .slice (some ⟨b,0,none⟩) 1 c) (hl:news.length=size) (hnews:∀ j u,news[j]? = some u→w.cell? ⟨b,j,none⟩=some u) (h1:∀ u ∈ news,u.oneCell'=true)
 (h63:n + 1 ≤ maxLen) (hbytes:(n + 1) * bytes ≤ 140737488355328) (hbase:base ≤ w.heap.size)
 (h:∀ v' w',w'.ownsRow base e size v' (n + 1) (xs ++ news)→w.grownBy w' v.ownBlock→(v'.ownBlock=v.ownBlock ∨ v'.ownBlock=some w.heap.size)→wpList P ops Q rest (a.put o.dst v') w'):wpList P ops Q (o :: rest) a w:=by
 obtain ⟨i,z,hi,hz,hsize,hby,hzs⟩:=E.info
 have hn:∀ j u,news[j]? = some u→w.cell? ((⟨b,0,none⟩:Addr).add j)=some u:=fun j u hu=>by rw [Addr.add_lit,Nat.zero_add];exact hnews j u hu
 refine wpList_plain hgd fun K hK=>?_
 obtain ⟨v',w',hr,h2,h3,_⟩:=run_append_own (P:=P) w base t o.type e i z size bytes E.slice hi hz hsize hby hzs E.pos v n xs hown ⟨b,0,none⟩ 1 c news (by rw [Nat.one_mul];exact hl) hn h1 h63 hbytes hbase
 have h4:=Zox base t o.type e i z size bytes E.slice hi hz hsize hby hzs E.pos v n xs hown ⟨b,0,none⟩ c news hl hn h1 h63 hbytes v' w' hr
 unfold Oper.wp execOp
 simp only [ho,resolve,invoke,builtin,Sem.run_bind,Sem.run_pure,Result.andThen_ok,List.map_toArray,List.map_cons,List.map_nil,hs,hx,hr]
 exact hK _ _ (h v' w' h2 h3 h4)
end
structure Ze3 {α:Type} (e:TypeId) (size:Nat) (R:World→List Value→α→Prop) (lo:Nat) (w:World) (v:Value) (l:List α) (cs:List (List Value)):Prop where
 own:w.ownsRow lo e size v cs.length cs.flatten
 len:cs.length=l.length
 elt:∀ (i:Nat) (c:List Value) (x:α),cs[i]? = some c→l[i]? = some x→c.length=size∧Dep (fun b=>lo ≤ b∧v.ownBlock ≠ some b) w fun u=>R u c x
section
variable {α:Type} {e:TypeId} {size:Nat} {R:World→List Value→α→Prop} {lo:Nat} {w w':World} {v:Value} {l:List α} {cs:List (List Value)}
theorem Ze3.nil (e:TypeId) (size:Nat) (R:World→List Value→α→Prop) (lo:Nat) (w:World):Ze3 e size R lo w (nS) [] []:=⟨World.ownsRow_nil _ _ _ _,rfl,fun i c x h=>by simp at h⟩
theorem Ze3.shape (h:Ze3 e size R lo w v l cs):∃ a c,v = .slice a l.length c:=by
 rcases h.own.2 with ⟨rfl,hn⟩ | ⟨g,cap,cur,rfl,_⟩
 ·exact ⟨none,0,by rw [← h.len,hn]⟩
 exact ⟨_,_,by rw [h.len]⟩
theorem Ze3.grown {r:Nat} (h:Ze3 e size R lo w v l cs) (g:w.grownBy w' (some r)) (hr:r < lo):Ze3 e size R lo w' v l cs:=
 ⟨World.ownsRow.kept h.own g (.inr (fun e=>by have:=(World.ownsRow.lt h.own r e).1;omega)),h.len,fun i c x hc hx=>⟨(h.elt i c x hc hx).1,(h.elt i c x hc hx).2.step g.size fun b hb hlt=>⟨hb,g.block b hlt (fun e=>by cases e;have:=hb.1;omega)⟩⟩⟩
theorem Ze3.later (h:Ze3 e size R lo w v l cs) (hb:Below w.heap.size w w'):Ze3 e size R lo w' v l cs:=
 ⟨World.ownsRow.kept (row:=none) h.own ⟨hb.os,hb.tape,hb.output,hb.size,fun i hi _=>hb.block i hi⟩ kb50,h.len,
  fun i c x hc hx=>⟨(h.elt i c x hc hx).1,(h.elt i c x hc hx).2.step hb.size fun b hq hlt=>⟨hq,hb.block b hlt⟩⟩⟩
theorem Ze3.snoc {v':Value} {x:α} {c:List Value} {m:Nat} (h:Ze3 e size R lo w v l cs) (hown:w'.ownsRow lo e size v' (cs.length + 1) (cs.flatten ++ c)) (g:w.grownBy w' v.ownBlock) (hv:v'.ownBlock=v.ownBlock ∨ v'.ownBlock=some w.heap.size)
 (hc:c.length=size) (hx:New m w fun u=>R u c x) (hlo:lo ≤ m) (hm:∀ k,v.ownBlock=some k→k < m):Ze3 e size R lo w' v' (l ++ [x]) (cs ++ [c]):=by
 have hnew:∀ b,b < w.heap.size→v.ownBlock ≠ some b→v'.ownBlock ≠ some b:=fun b hb hne=>by
  rcases hv with hv | hv
  ·rw [hv];exact hne
  ·rw [hv];intro e;cases e;omega
 refine ⟨by simpa using hown,by simp [h.len],fun i d y hd hy=>?_⟩
 rcases Nat.lt_or_ge i cs.length with hi | hi
 ·rw [List.getElem?_append_left hi] at hd
  rw [List.getElem?_append_left (by rw [← h.len];exact hi)] at hy
  obtain ⟨h1,h2⟩:=h.elt i d y hd hy
  exact ⟨h1,h2.step g.size fun b hb hlt=>⟨⟨hb.1,hnew b hlt hb.2⟩,g.block b hlt (Ne.symm hb.2)⟩⟩
 rw [List.getElem?_append_right hi] at hd
 rw [List.getElem?_append_right (by rw [← h.len];exact hi)] at hy
 have hi0:i - cs.length=0:=by
  rcases hk:i - cs.length with _ | k
  ·rfl
  ·rw [hk] at hd;simp at hd
 rw [hi0] at hd
 rw [← h.len,hi0] at hy
 simp only [List.getElem?_cons_zero,Option.some.injEq] at hd hy
 subst hd hy
 refine ⟨hc,Dep.step hx g.size fun b hb hlt=>?_⟩
 have hne:v.ownBlock ≠ some b:=fun e=>by have:=hm b e;omega
 exact ⟨⟨Nat.le_trans hlo hb,hnew b hlt hne⟩,g.block b hlt (Ne.symm hne)⟩
theorem Zke {size:Nat} : ∀ (l:List (List Value)) (i:Nat) (x:List Value) (j:Nat) (v:Value),(∀ c ∈ l,c.length=size)→l[i]? = some x→x[j]? = some v→l.flatten[i * size + j]? = some v:=by
 intro l
 induction l with
 | nil=>intro i x j v _ h;simp at h
 | cons c l ih=>
  intro i x j v h8 hx hj
  have hc8:c.length=size:=h8 c kY
  rcases i with _ | i
  ·simp at hx;subst hx
   have:j < size:=by rw [← hc8];exact (List.getElem?_eq_some_iff.1 hj).1
   rw [List.flatten_cons,List.getElem?_append_left kW,Nat.zero_mul,Nat.zero_add]
   exact hj
  ·rw [List.flatten_cons,List.getElem?_append_right (by rw [Nat.add_mul];omega),show (i + 1) * size + j - c.length=i * size + j by rw [Nat.add_mul];omega]
   exact ih i x j v (fun c hc=>h8 c (by simp [hc])) (by simpa using hx) hj
theorem Ze3.done (h:Ze3 e size R lo w v l cs):New lo w fun u=>SlR size R u v l:=by
 intro u hu
 have hs:∀ c ∈ cs,c.length=size:=fun c hc=>by
  obtain ⟨i,hi⟩:=List.getElem?_of_mem hc
  have hil:i < l.length:=by rw [← h.len];exact (List.getElem?_eq_some_iff.1 hi).1
  exact (h.elt i c l[i] hi (by simp [hil])).1
 refine ⟨cs,?_,h.len,fun i c x hc hx=>⟨(h.elt i c x hc hx).1,(h.elt i c x hc hx).2 u fun b hb hlt=>hu b hb.1 hlt⟩⟩
 rcases h.own.2 with ⟨rfl,hn⟩ | ⟨g,cap,cur,rfl,hg,hh,hn,hcap,hsz,ht⟩
 ·obtain rfl:cs = []:=List.eq_nil_of_length_eq_zero hn
  exact Zlx.nil _ _ _
 refine ⟨_,cap,rfl,hn,fun i x hx=>⟨g,0,rfl,fun j y hj=>?_⟩⟩
 have hglt:g < w.heap.size:=(Array.getElem?_eq_some_iff.1 hh).1
 have h1:=World.ownsRow.cells h.own rfl (i * size + j) y (Zke cs i x j y hs hx hj)
 rw [Addr.add_lit,← Nat.add_assoc] at h1
 rw [World.cell?_of_block (w:=w) (hu g hg hglt)]
 exact h1
end
theorem PB.row {w0 w w':World} {r:Nat} {tv:Value} {L:List Tk} {en:Int} {s:PS} {o:Option Nat} (h:PB w0 r tv L en s w) (g:w.grownBy w' o) (ho:∀ k,o=some k→r < k):PB w0 r tv L en s w':=by
 cases o with
 | some k=>exact h.other g (ho k rfl)
 | none=>exact h.later ⟨g.os,g.tape,g.output,g.size,fun k hk=>g.block k hk (fun e=>by cases e)⟩
theorem Zds {w w2 w':World} {r:Nat} {o:Option Nat} (h:w.grownBy w2 (some r)) (g:w2.grownBy w' o) (ho:∀ k,o=some k→w.heap.size ≤ k):w.grownBy w' (some r):=
 ⟨g.os.trans h.os,g.tape.trans h.tape,g.output.trans h.output,Nat.le_trans h.size g.size,fun k hk hn=>(g.block k (Nat.lt_of_lt_of_le hk h.size) (fun e=>by have:=ho k e.symm;omega)).trans (h.block k hk hn)⟩
def Zeh (T:TypeId) (n:Nat) (ps:Array (Nat × Value)):=Instr.buildSlice T n ps
theorem Ztp (T:TypeId) (n:Nat) (ps:Array (Nat × Value)):Instr.buildSlice T n ps=Zeh T n ps:=rfl
def SR (_:World) (c:List Value) (s:ByteArray):Prop:=c = [.string s]
def SvR (_:World) (v:Value) (s:ByteArray):Prop:=v = .string s
theorem hes (m:Nat) (w:World) (v:Value) (s:ByteArray) (h:New m w fun u=>SvR u v s):∃ c:List Value,c.length=1∧(∀ u ∈ c,u.oneCell'=true)∧New m w (fun u=>SR u c s) ∧
 ∀ W,(Zeh 23 1 #[(0,v)]).run Tryz.prog W = .ok (.slice (some ⟨W.heap.size,0,none⟩) 1 1) (W.alloc (.cells c.toArray 9)):=by
 obtain rfl:=h.here
 exact ⟨[.string s],rfl,by simp [Value.oneCell'],New.const rfl,fun W=>by unfold Zeh;go_simp⟩
def AgV {α:Type} (R:World→List Value→α→Prop) (w:World) (v:Value) (x:α):Prop:=∃ cs:List Value,v = .agg cs.toArray∧R w cs x
def Zs0 {α:Type} (size:Nat) (R:World→List Value→α→Prop):Prop:=∀ (w:World) (c:List Value) (x:α),R w c x→c.length=size∧∀ u ∈ c,u.oneCell'=true
theorem heB {α:Type} {R:World→List Value→α→Prop} {size:Nat} (hsz:Zs0 size R) (m:Nat) (w:World) (v:Value) (x:α) (h:New m w fun u=>AgV R u v x) :
 ∃ c:List Value,v = .agg c.toArray∧c.length=size∧(∀ u ∈ c,u.oneCell'=true)∧Zav size c.toArray=true∧New m w (fun u=>R u c x):=by
 obtain ⟨c,rfl,hx⟩:=h.here
 obtain ⟨h1,h2⟩:=hsz w c x hx
 refine ⟨c,rfl,h1,h2,Zo.2 ⟨by simpa using h1,by simpa using h2⟩,h.imp fun u ⟨c',e,hu⟩=>?_⟩
 have:c=c':=by simpa using e
 rw [this];exact hu
theorem exCells:Zs0 8 ExR:=fun _ _ _ h=>Zc9 h
def Zfl (w:World) (c:List Value) (x:PE × ByteArray):Prop:=∃ ec,c=ec ++ [.string x.2]∧ExR w ec x.1
def Zdl (w:World) (c:List Value) (x:PE × Bool):Prop:=∃ ec,c=ec ++ [.bool x.2]∧ExR w ec x.1
def Zm3 (w:World) (c:List Value) (x:ByteArray × PE):Prop:=∃ ec,c = .string x.1 :: ec∧ExR w ec x.2
def Zs7 (_:World) (c:List Value) (x:Zeu):Prop:=c = [.string x.name,.int .u8 (x.ty:Int),.bool x.nn]
def Zo2 (w:World) (c:List Value) (x:Zec):Prop:=∃ v,c = [.string x.table,.string x.as,v]∧Zbq w v x.on
def Zo3 (w:World) (c:List Value) (l:List PE):Prop:=∃ v,c = [v]∧Zbq w v l
theorem Zvh:Zs0 9 Zfl:=fun w c x ⟨ec,e,h⟩=>by
 obtain ⟨h1,h2⟩:=Zc9 h
 subst e
 exact ⟨by simp [h1],fun u hu=>by rcases List.mem_append.1 hu with hu | hu;exact h2 u hu;rw [List.mem_singleton.1 hu];rfl⟩
theorem Zsh:Zs0 9 Zdl:=fun w c x ⟨ec,e,h⟩=>by
 obtain ⟨h1,h2⟩:=Zc9 h
 subst e
 exact ⟨by simp [h1],fun u hu=>by rcases List.mem_append.1 hu with hu | hu;exact h2 u hu;rw [List.mem_singleton.1 hu];rfl⟩
theorem setCells:Zs0 9 Zm3:=fun w c x ⟨ec,e,h⟩=>by
 obtain ⟨h1,h2⟩:=Zc9 h
 subst e
 exact ⟨by simp [h1],fun u hu=>by rcases List.mem_cons.1 hu with rfl | hu;rfl;exact h2 u hu⟩
theorem arr9 {c:Array Value} (h:c.size=9):∃ a0 a1 a2 a3 a4 a5 a6 a7 a8,c = #[a0,a1,a2,a3,a4,a5,a6,a7,a8]:=by
 have hl:c.toList.length=9:=by simpa using h
 match hc:c.toList,hl with
 | [a0,a1,a2,a3,a4,a5,a6,a7,a8],_=>exact ⟨a0,a1,a2,a3,a4,a5,a6,a7,a8,Array.toList_inj.1 hc⟩
theorem Zsc (c:Array Value) (h:c.size=9) (W:World):(Instr.buildSlice 26 1 #[(0,.agg c)]).run Tryz.prog W = .ok (.slice (some ⟨W.heap.size,0,none⟩) 1 1) (W.alloc (.cells c 106)):=by
 obtain ⟨a0,a1,a2,a3,a4,a5,a6,a7,a8,rfl⟩:=arr9 h
 go_simp
theorem Zpq (c:Array Value) (h:c.size=9) (W:World):(Instr.buildSlice 29 1 #[(0,.agg c)]).run Tryz.prog W = .ok (.slice (some ⟨W.heap.size,0,none⟩) 1 1) (W.alloc (.cells c 114)):=by
 obtain ⟨a0,a1,a2,a3,a4,a5,a6,a7,a8,rfl⟩:=arr9 h
 go_simp
theorem Zt9 (c:Array Value) (h:c.size=9) (W:World):(Instr.buildSlice 25 1 #[(0,.agg c)]).run Tryz.prog W = .ok (.slice (some ⟨W.heap.size,0,none⟩) 1 1) (W.alloc (.cells c 94)):=by
 obtain ⟨a0,a1,a2,a3,a4,a5,a6,a7,a8,rfl⟩:=arr9 h
 go_simp
theorem run_bsEx (c:Array Value) (h:c.size=8) (W:World):(Instr.buildSlice 28 1 #[(0,.agg c)]).run Tryz.prog W = .ok (.slice (some ⟨W.heap.size,0,none⟩) 1 1) (W.alloc (.cells c 48)):=Zub W c h
theorem heRow (m:Nat) (w:World) (v:Value) (l:List PE) (h:New m w fun u=>Zbq u v l):∃ c:List Value,c.length=1∧(∀ u ∈ c,u.oneCell'=true)∧New m w (fun u=>Zo3 u c l) ∧
 ∀ W,(Zeh 24 1 #[(0,v)]).run Tryz.prog W = .ok (.slice (some ⟨W.heap.size,0,none⟩) 1 1) (W.alloc (.cells c.toArray 28)):=by
 obtain ⟨a,n,rfl,_⟩:=h.here.shape
 exact ⟨[_],rfl,by simp [Value.oneCell'],h.imp fun u hu=>⟨_,rfl,hu⟩,fun W=>by unfold Zeh;go_simp⟩
theorem elEx:By.Elem Tryz.prog 28 48 8 104 where
 slice:=kR
 info:=by
  have h:(Tryz.prog.info? 48).map (fun i=>(i.zero,i.size,i.bytes))=some (some (.agg #[.int .u8 0,.int .u8 0,iZ,eS,eS,eS,iZ,nS]),8,104):=kR
  obtain ⟨i,hi,h1,h2,h3⟩:=info_parts h
  exact ⟨i,_,hi,h1,h2,h3,rfl⟩
 pos:=kD
theorem elItem:By.Elem Tryz.prog 26 106 9 120 where
 slice:=kR
 info:=by
  have h:(Tryz.prog.info? 106).map (fun i=>(i.zero,i.size,i.bytes))=some (some (.agg #[.int .u8 0,.int .u8 0,iZ,eS,eS,eS,iZ,nS,eS]),9,120):=kR
  obtain ⟨i,hi,h1,h2,h3⟩:=info_parts h
  exact ⟨i,_,hi,h1,h2,h3,rfl⟩
 pos:=kD
theorem elOrder:By.Elem Tryz.prog 29 114 9 112 where
 slice:=kR
 info:=by
  have h:(Tryz.prog.info? 114).map (fun i=>(i.zero,i.size,i.bytes))=some (some (.agg #[.int .u8 0,.int .u8 0,iZ,eS,eS,eS,iZ,nS,.bool false]),9,112):=kR
  obtain ⟨i,hi,h1,h2,h3⟩:=info_parts h
  exact ⟨i,_,hi,h1,h2,h3,rfl⟩
 pos:=kD
theorem elSet:By.Elem Tryz.prog 25 94 9 120 where
 slice:=kR
 info:=by
  have h:(Tryz.prog.info? 94).map (fun i=>(i.zero,i.size,i.bytes))=some (some (.agg #[eS,.int .u8 0,.int .u8 0,iZ,eS,eS,eS,iZ,nS]),9,120):=kR
  obtain ⟨i,hi,h1,h2,h3⟩:=info_parts h
  exact ⟨i,_,hi,h1,h2,h3,rfl⟩
 pos:=kD
theorem elSrc:By.Elem Tryz.prog 27 110 3 56 where
 slice:=kR
 info:=by
  have h:(Tryz.prog.info? 110).map (fun i=>(i.zero,i.size,i.bytes))=some (some (.agg #[eS,eS,nS]),3,56):=kR
  obtain ⟨i,hi,h1,h2,h3⟩:=info_parts h
  exact ⟨i,_,hi,h1,h2,h3,rfl⟩
 pos:=kD
theorem elCol:By.Elem Tryz.prog 22 89 3 24 where
 slice:=kR
 info:=by
  have h:(Tryz.prog.info? 89).map (fun i=>(i.zero,i.size,i.bytes))=some (some (.agg #[eS,.int .u8 0,.bool false]),3,24):=kR
  obtain ⟨i,hi,h1,h2,h3⟩:=info_parts h
  exact ⟨i,_,hi,h1,h2,h3,rfl⟩
 pos:=kD
theorem elRow:By.Elem Tryz.prog 24 28 1 24 where
 slice:=kR
 info:=by
  have h:(Tryz.prog.info? 28).map (fun i=>(i.zero,i.size,i.bytes))=some (some (nS),1,24):=kR
  obtain ⟨i,hi,h1,h2,h3⟩:=info_parts h
  exact ⟨i,_,hi,h1,h2,h3,rfl⟩
 pos:=kD
theorem Zkc:(Tryz.prog.info? 106).map (·.size)=some 9:=kR
theorem Zkb:∃ fs,Tryz.prog.underlying 106=some (.struct fs):=Zl9 kR
theorem Zji (a:Addr) (v:Value):storeVar 106 a v=Zbw 106 a v:=rfl
theorem Zjk (a:Addr):loadVar 106 a=Zcg 106 a:=rfl
theorem Zqt (W:World) (g:Nat) (cells:Array Value) (hg:Zj1 9 W g=true) (h1:Zav 9 cells=true) :
 (Zbw 106 ⟨g,0,none⟩ (.agg cells)).run Tryz.prog W = .ok () (W.setRow g cells):=by
 obtain ⟨t,old,hr,ho,_⟩:=Zb5 hg
 obtain ⟨hc,h1⟩:=Zo.1 h1
 exact Zcs Zkc W g old cells t hr ho hc h1
theorem Zjy (W:World) (old cells:Array Value) (t:TypeId) (ho:old.size=9) (h1:Zav 9 cells=true) :
 (Zbw 106 ⟨W.heap.size,0,none⟩ (.agg cells)).run Tryz.prog (W.alloc (.cells old t)) = .ok () (W.alloc (.cells cells t)):=by
 obtain ⟨hc,h1⟩:=Zo.1 h1
 exact Zba Zkc W old cells t ho hc h1
theorem Zmh (W:World) (g:Nat) (hg:Zj1 9 W g=true):(Zcg 106 ⟨g,0,none⟩).run Tryz.prog W = .ok (.agg (rowOf W g)) W:=by
 obtain ⟨t,cs,hr,ho,e⟩:=Zb5 hg
 obtain ⟨fs,h⟩:=Zkb
 rw [e]
 exact Zdj h Zkc W g cs t hr ho
theorem Zmm:(Tryz.prog.info? 114).map (·.size)=some 9:=kR
theorem Zoa:∃ fs,Tryz.prog.underlying 114=some (.struct fs):=Zl9 kR
theorem Zhf (a:Addr) (v:Value):storeVar 114 a v=Zbw 114 a v:=rfl
theorem Zhh (a:Addr):loadVar 114 a=Zcg 114 a:=rfl
theorem Zmg (W:World) (g:Nat) (cells:Array Value) (hg:Zj1 9 W g=true) (h1:Zav 9 cells=true) :
 (Zbw 114 ⟨g,0,none⟩ (.agg cells)).run Tryz.prog W = .ok () (W.setRow g cells):=by
 obtain ⟨t,old,hr,ho,_⟩:=Zb5 hg
 obtain ⟨hc,h1⟩:=Zo.1 h1
 exact Zcs Zmm W g old cells t hr ho hc h1
theorem Zhx (W:World) (old cells:Array Value) (t:TypeId) (ho:old.size=9) (h1:Zav 9 cells=true) :
 (Zbw 114 ⟨W.heap.size,0,none⟩ (.agg cells)).run Tryz.prog (W.alloc (.cells old t)) = .ok () (W.alloc (.cells cells t)):=by
 obtain ⟨hc,h1⟩:=Zo.1 h1
 exact Zba Zmm W old cells t ho hc h1
theorem run_odLd (W:World) (g:Nat) (hg:Zj1 9 W g=true):(Zcg 114 ⟨g,0,none⟩).run Tryz.prog W = .ok (.agg (rowOf W g)) W:=by
 obtain ⟨t,cs,hr,ho,e⟩:=Zb5 hg
 obtain ⟨fs,h⟩:=Zoa
 rw [e]
 exact Zdj h Zmm W g cs t hr ho
theorem Zmd:(Tryz.prog.info? 94).map (·.size)=some 9:=kR
theorem Znx:∃ fs,Tryz.prog.underlying 94=some (.struct fs):=Zl9 kR
theorem Zjh (a:Addr) (v:Value):storeVar 94 a v=Zbw 94 a v:=rfl
theorem Zjj (a:Addr):loadVar 94 a=Zcg 94 a:=rfl
theorem Zqs (W:World) (g:Nat) (cells:Array Value) (hg:Zj1 9 W g=true) (h1:Zav 9 cells=true) :
 (Zbw 94 ⟨g,0,none⟩ (.agg cells)).run Tryz.prog W = .ok () (W.setRow g cells):=by
 obtain ⟨t,old,hr,ho,_⟩:=Zb5 hg
 obtain ⟨hc,h1⟩:=Zo.1 h1
 exact Zcs Zmd W g old cells t hr ho hc h1
theorem Zjx (W:World) (old cells:Array Value) (t:TypeId) (ho:old.size=9) (h1:Zav 9 cells=true) :
 (Zbw 94 ⟨W.heap.size,0,none⟩ (.agg cells)).run Tryz.prog (W.alloc (.cells old t)) = .ok () (W.alloc (.cells cells t)):=by
 obtain ⟨hc,h1⟩:=Zo.1 h1
 exact Zba Zmd W old cells t ho hc h1
theorem run_seLd (W:World) (g:Nat) (hg:Zj1 9 W g=true):(Zcg 94 ⟨g,0,none⟩).run Tryz.prog W = .ok (.agg (rowOf W g)) W:=by
 obtain ⟨t,cs,hr,ho,e⟩:=Zb5 hg
 obtain ⟨fs,h⟩:=Znx
 rw [e]
 exact Zdj h Zmd W g cs t hr ho
theorem Zbh:(Tryz.prog.info? 31).map (·.size)=some 16:=kR
theorem Zar:∃ fs,Tryz.prog.underlying 31=some (.struct fs):=Zl9 kR
theorem Zhe (a:Addr) (v:Value):storeVar 31 a v=Zbw 31 a v:=rfl
theorem Ze5 (a:Addr):loadVar 31 a=Zcg 31 a:=rfl
theorem Zmf (W:World) (g:Nat) (cells:Array Value) (hg:Zj1 16 W g=true) (h1:Zav 16 cells=true) :
 (Zbw 31 ⟨g,0,none⟩ (.agg cells)).run Tryz.prog W = .ok () (W.setRow g cells):=by
 obtain ⟨t,old,hr,ho,_⟩:=Zb5 hg
 obtain ⟨hc,h1⟩:=Zo.1 h1
 exact Zcs Zbh W g old cells t hr ho hc h1
theorem Zhw (W:World) (old cells:Array Value) (t:TypeId) (ho:old.size=16) (h1:Zav 16 cells=true) :
 (Zbw 31 ⟨W.heap.size,0,none⟩ (.agg cells)).run Tryz.prog (W.alloc (.cells old t)) = .ok () (W.alloc (.cells cells t)):=by
 obtain ⟨hc,h1⟩:=Zo.1 h1
 exact Zba Zbh W old cells t ho hc h1
theorem Zej (W:World) (g:Nat) (hg:Zj1 16 W g=true):(Zcg 31 ⟨g,0,none⟩).run Tryz.prog W = .ok (.agg (rowOf W g)) W:=by
 obtain ⟨t,cs,hr,ho,e⟩:=Zb5 hg
 obtain ⟨fs,h⟩:=Zar
 rw [e]
 exact Zdj h Zbh W g cs t hr ho
theorem Zi4 {g:Nat} {t:TypeId} {ws:List ByteArray} {w:World} (h:Row g t (ws.map Value.string).toArray w):Zs6 w (.slice (some ⟨g,0,none⟩) ws.length ws.length) ws:=
 ⟨_,_,rfl,Nat.le_refl _,fun i x hx=>⟨g,0,rfl,fun j u hu=>by
  match j,hu with
  | 0,hu=>
   simp [Zn0] at hu
   subst hu
   exact h.cell kb66
  | _ + 1,hu=>simp [Zn0] at hu⟩⟩
section
variable {w0:World} {r:Nat} {tv:Value} {L:List Tk} {en:Int} {s:PS}
theorem Zaw (t:ByteArray) (w:World) (h:PB w0 r tv L en s w):Calls Tryz.prog 30 #[pV r,.slice (some ⟨w.heap.size,0,none⟩) 1 1] (w.alloc (.cells #[.string t] 9)) fun e w'=>
 e = .returned (.tuple #[])∧PB w0 r tv L en (mustM L en [t] s).2 w'∧w.grownBy w' (some r):=by
 have hb:=(Below.refl _ w).alloc (Nat.le_refl _) (.cells #[.string t] 9)
 refine (mustW [t] _ _ (h.later hb) kY (fun w' g=>Zi4 (ws:=[t]) ((Zc w 9 #[.string t]).grown g (Nat.ne_of_gt h.lt)))).mono ?_
 rintro e w' ⟨rfl,hp,hg⟩
 exact ⟨rfl,hp,Za (below_grown hb) hg⟩
end
end Go.Proofs.YtmdogmpcmkfjpaaGreatDoor.Dt
