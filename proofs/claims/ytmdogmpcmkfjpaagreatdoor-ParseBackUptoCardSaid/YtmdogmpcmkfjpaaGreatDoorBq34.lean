import Derived.Test.YtmdogmpcmkfjpaaGreatDoorBq25
import Derived.Test.YtmdogmpcmkfjpaaGreatDoorBq09
import Derived.Test.YtmdogmpcmkfjpaaGreatDoorBq28
import Derived.Test.YtmdogmpcmkfjpaaGreatDoorBq32
import Derived.Test.YtmdogmpcmkfjpaaGreatDoorBq33
import Derived.Test.YtmdogmpcmkfjpaaGreatDoorBq12
import Derived.Test.YtmdogmpcmkfjpaaGreatDoorBq08
set_option maxRecDepth 100000
set_option maxHeartbeats 64000000
/- Part. -/
namespace Go.Proofs.YtmdogmpcmkfjpaaGreatDoor.Dt
open Go.RowKit Go.Proofs.YtmdogmpcmkfjpaaGreatDoor.By
theorem sameExL1 (x y:PE) (ka kb:Option Addr) (kc kd:Nat) (w:World) (hx:Zbq w (.slice ka x.kids.length kc) x.kids) (hy:Zbq w (.slice kb y.kids.length kd) y.kids) (hla:x.kids.length ≤ 140737488351232)
 (H:∀ (i:Nat) (a b:PE),x.kids[i]? = some a→y.kids[i]? = some b→∀ (kx ky:Value) (W:World),Zbq W kx a.kids→Zbq W ky b.kids→Calls Tryz.prog 14 #[a.val kx,b.val ky] W fun e w'=>e = .returned (.bool (eqB a b))∧Below W.heap.size W w') :
 Calls Tryz.prog 14 #[x.val (.slice ka x.kids.length kc),y.val (.slice kb y.kids.length kd)] w fun e w'=>e = .returned (.bool (eqB x y))∧Below w.heap.size w w':=by
 have HH:=Lh H
 have HA:=Lh hx
 have HB:=Lh hy
 have HLA:=Lh hla
 clear H hx hy hla
 unfold PE.val
 have hbA:Below w.heap.size w ((w.alloc (.cells (eA x ka kc) 48)).alloc (.cells (eA y kb kd) 48)):=(bA).alloc kY _
 have HR0:=Lh ((Zc w 48 (eA x ka kc)).later ((Below.refl _ _).alloc (Nat.le_refl _) (.cells (eA y kb kd) 48)))
 have HR1:=Lh (Zc (w.alloc (.cells (eA x ka kc) 48)) 48 (eA y kb kd))
 have HS1:Hid ((w.alloc (.cells (eA x ka kc) 48)).heap.size=w.heap.size + 1):=Lh kY
 rw [HS1.out] at HR1
 go_enter Tryz.func14,Tryz.ntmps14
 go_upto_region 1 with fail
 have HBA:=Lh hbA
 clear hbA HS1
 generalize (w.alloc (.cells (eA x ka kc) 48)).alloc (.cells (eA y kb kd) 48)=w2 at *
 have l0:=(HR0.out.cell (i:=0) rfl)
 have m0:=(HR1.out.cell (i:=0) rfl)
 have l1:=(HR0.out.cell (i:=1) rfl)
 have m1:=(HR1.out.cell (i:=1) rfl)
 have l2:=(HR0.out.cell (i:=2) rfl)
 have m2:=(HR1.out.cell (i:=2) rfl)
 have l3:=(HR0.out.cell (i:=3) rfl)
 have m3:=(HR1.out.cell (i:=3) rfl)
 have l4:=(HR0.out.cell (i:=4) rfl)
 have m4:=(HR1.out.cell (i:=4) rfl)
 have l5:=(HR0.out.cell (i:=5) rfl)
 have m5:=(HR1.out.cell (i:=5) rfl)
 have l6:=(HR0.out.cell (i:=6) rfl)
 have m6:=(HR1.out.cell (i:=6) rfl)
 have l7:=(HR0.out.cell (i:=7) rfl)
 have m7:=(HR1.out.cell (i:=7) rfl)
 go_wp2_with fail
 all_goals try (have HE:Hid (eqB x y=false):=Lh (Zw fun e=>by subst e;first | contradiction | (rename_i hz;simp at hz;done))
                go_ret
                exact ⟨by rw [HE.out];rfl,HBA.out⟩)
 have HLEN:Hid (x.kids.length=y.kids.length):=Lh (by have hq:=(by assumption:((x.kids.length:Int) != (y.kids.length:Int))=false);simp only [bne_eq_false_iff_eq] at hq;exact Int.ofNat_inj.1 hq)
 have HE0:Hid (eqB x y=eqB x.kids y.kids):=Lh (Zro kb8 kb8 kb8 kb8 kb8 kb8 kb8)
 clear l0 l1 l2 l3 l4 l5 l6 l7 m0 m1 m2 m3 m4 m5 m6 m7
 go_loopg [52] x.kids.length (fun gk iv wr=>∃ (i:Nat),iv = .int .i64 (i:Int)∧gk=x.kids.length - i∧i ≤ x.kids.length∧Hid (Below w2.heap.size w2 wr)∧Hid (x.kids.take i=y.kids.take i))
 case atStart=>exact ⟨0,rfl,rfl,Nat.zero_le _,Lh (Below.refl _ _),Lh rfl⟩
 case round=>
  obtain ⟨i,rfl,rfl,hi,HBL,HT⟩:=hrel
  by_cases hlt:i < x.kids.length
  ·obtain ⟨xa,hx⟩:∃ z,x.kids[i]? = some z:=⟨x.kids[i],by simp⟩
   obtain ⟨ya,hy⟩:∃ z,y.kids[i]? = some z:=⟨y.kids[i]'kb20,by simp⟩
   have hwa:=Zg HA.out (HBA.out.trans (HBL.out.mono HBA.out.size))
   have hwb:=Zg HB.out (HBA.out.trans (HBL.out.mono HBA.out.size))
   obtain ⟨b1,o1,k1,rfl,hk1,p0,p1,p2,p3,p4,p5,p6,p7⟩:=Zgu hwa hx
   obtain ⟨b2,o2,k2,rfl,hk2,q0,q1,q2,q3,q4,q5,q6,q7⟩:=Zgu hwb hy
   obtain ⟨na,nc,rfl,_⟩:=hk1.shape
   obtain ⟨ja,jc,rfl,_⟩:=hk2.shape
   have n7:=(HR1.out.later HBL.out).cell (i:=7) (v:=.slice (some ⟨b2,o2,none⟩) y.kids.length kd) rfl
   have hbx:Below wr.heap.size wr (wr.alloc (.cells (eA xa na nc) 48)):=bA
   have HRX:=Lh (Zc wr 48 (eA xa na nc))
   have HC:Hid (∀ W,Below wr.heap.size wr W→Calls Tryz.prog 14 #[xa.val (.slice na xa.kids.length nc),ya.val (.slice ja ya.kids.length jc)] W fun e w'=>e = .returned (.bool (eqB xa ya))∧Below W.heap.size W w'):=Lh (fun W hW=>HH.out i xa ya hx hy _ _ W (Zg hk1 hW) (Zg hk2 hW))
   have HX:=Lh hx
   have HY:=Lh hy
   have HBX:=Lh hbx
   have ilt:(i:Int) < (x.kids.length:Int):=kW
   have ilt2:(i:Int) < (y.kids.length:Int):=by have:=HLEN.out;omega
   have ige:(0:Int) ≤ (i:Int):=kW
   have HLT:=Lh hlt
   unfold PE.val at HC
   clear hx hy hwa hwb hk1 hk2 hlt hbx
   go_upto_region 6 with fail
   clear p0 p1 p2 p3 p4 p5 p6 p7
   have l0:=Zb (HRX.out.cell (i:=0) (v:=.int .u8 (xa.op:Int)) rfl)
   have l1:=Zb (HRX.out.cell (i:=1) (v:=.int .u8 (xa.v.k:Int)) rfl)
   have l2:=Zb (HRX.out.cell (i:=2) (v:=.int .i64 xa.v.n) rfl)
   have l3:=Zb (HRX.out.cell (i:=3) (v:=.string xa.v.s) rfl)
   have l4:=Zb (HRX.out.cell (i:=4) (v:=.string xa.t) rfl)
   have l5:=Zb (HRX.out.cell (i:=5) (v:=.string xa.m) rfl)
   have l6:=Zb (HRX.out.cell (i:=6) (v:=.int .i64 xa.n) rfl)
   have l7:=Zb (HRX.out.cell (i:=7) (v:=.slice na xa.kids.length nc) rfl)
   have m0:=Zb ((HBX.out.cell (Zd q0)).trans q0)
   have m1:=Zb ((HBX.out.cell (Zd q1)).trans q1)
   have m2:=Zb ((HBX.out.cell (Zd q2)).trans q2)
   have m3:=Zb ((HBX.out.cell (Zd q3)).trans q3)
   have m4:=Zb ((HBX.out.cell (Zd q4)).trans q4)
   have m5:=Zb ((HBX.out.cell (Zd q5)).trans q5)
   have m6:=Zb ((HBX.out.cell (Zd q6)).trans q6)
   have m7:=Zb ((HBX.out.cell (Zd q7)).trans q7)
   have mm:=Zb ((HBX.out.cell (Zd n7)).trans n7)
   clear q0 q1 q2 q3 q4 q5 q6 q7 n7
   generalize wr.alloc (.cells (eA xa na nc) 48)=wx at *
   refine Zj kR kR ?_
   repeat (go_big_quiet_step (exact Zcn (HC.out _ (HBX.out.trans ((Zdr _ _).mono HBX.out.size)))))
   refine wpQuiet_nil ?_
   refine Zu (fun w3 hb3=>?_)
   have HB3:=Lh (next HBL.out (next HBX.out hb3))
   clear l0 l1 l2 l3 l4 l5 l6 l7 m0 m1 m2 m3 m4 m5 m6 m7 mm hb3
   by_cases hxy:xa=ya
   ·have e2:eqB xa ya=true:=Za3.2 hxy
    have HT2:Hid (x.kids.take (i + 1)=y.kids.take (i + 1)):=Lh (by
     rw [List.take_add_one,List.take_add_one,HT.out,HX.out,HY.out,hxy])
    rw [e2]
    have hla2:=HLA.out
    clear e2 hxy
    go_wp2_with fail
    go_roundg (x.kids.length - (i + 1))
    case measure=>exact Nat.sub_lt_sub_left HLT.out (Nat.lt_succ_self _)
    case rel=>exact ⟨i + 1,by have h1:=HLA.out;have h2:=HLT.out;go_num,rfl,HLT.out,HB3,HT2⟩
   have e2:eqB xa ya=false:=Zw hxy
   have HE:Hid (eqB x y=false):=Lh (Zw fun e=>hxy kb4)
   rw [e2]
   clear e2 hxy
   go_wp2_with fail
   go_ret
   exact ⟨by rw [HE.out];rfl,HBA.out.trans (HB3.out.mono HBA.out.size)⟩
  obtain rfl:i=x.kids.length:=kW
  have HE:Hid (eqB x y=true):=Lh (by rw [HE0.out];exact Za3.2 kb1)
  clear hlt hi
  go_wp2_with fail
  go_ret
  exact ⟨by rw [HE.out];rfl,HBA.out.trans (HBL.out.mono HBA.out.size)⟩
theorem sameExL {x:PE} (h:Za5 x):∀ (y:PE) (kx ky:Value) (W:World),Zbq W kx x.kids→Zbq W ky y.kids →
 Calls Tryz.prog 14 #[x.val kx,y.val ky] W fun e w'=>e = .returned (.bool (eqB x y))∧Below W.heap.size W w':=by
 induction h with
 | mk x hl _ ih=>
  intro y kx ky W hx hy
  obtain ⟨ka,kc,rfl,_⟩:=hx.shape
  obtain ⟨kb,kd,rfl,_⟩:=hy.shape
  exact sameExL1 x y ka kb kc kd W hx hy hl fun _ a b ha _ kx ky W3 h1 h2=>ih a (List.mem_of_getElem? ha) b kx ky W3 h1 h2
theorem exs_one (W:World) (x:PE) (kv:Value) (T:TypeId) (h:Zbq W kv x.kids):Zbq (W.alloc (.cells (x.cells kv).toArray T)) (.slice (some ⟨W.heap.size,0,none⟩) 1 1) [x]:=by
 have hr:=Zc W T (x.cells kv).toArray
 have hb:Below W.heap.size W (W.alloc (.cells (x.cells kv).toArray T)):=bA
 refine ⟨[x.cells kv],⟨_,1,rfl,Nat.le_refl _,fun i c hc=>⟨_,0,rfl,fun j u hu=>?_⟩⟩,rfl,fun i c y hc hy=>?_⟩
 ·rcases i with _ | i
  ·simp at hc
   subst hc
   have e:(0:Nat) + 0 * 8 + j=j:=kW
   rw [e]
   exact hr.cell kb34
  simp at hc
 rcases i with _ | i
 ·simp at hc hy
  subst hc hy
  exact ⟨rfl,Zby.2 ⟨kv,rfl,Zg h hb⟩⟩
 simp at hc
theorem Zvt (W:World) (x y:PE) (kx ky:Value) (T:TypeId) (h:Zbq W kx x.kids) (g:Zbq W ky y.kids):Zbq (W.alloc (.cells (x.cells kx ++ y.cells ky).toArray T)) (.slice (some ⟨W.heap.size,0,none⟩) 2 2) [x,y]:=by
 have hr:=Zc W T (x.cells kx ++ y.cells ky).toArray
 have hb:Below W.heap.size W (W.alloc (.cells (x.cells kx ++ y.cells ky).toArray T)):=bA
 have l8:∀ (z:PE) (v:Value),(z.cells v).length=8:=fun _ _=>rfl
 refine ⟨[x.cells kx,y.cells ky],⟨_,2,rfl,Nat.le_refl _,fun i c hc=>⟨_,0,rfl,fun j u hu=>?_⟩⟩,rfl,fun i c z hc hz=>?_⟩
 ·rcases i with _ | i
  ·simp at hc
   subst hc
   have e:(0:Nat) + 0 * 8 + j=j:=kW
   have hj:j < 8:=by have:=(List.getElem?_eq_some_iff.1 hu).1;rwa [l8] at this
   rw [e]
   exact hr.cell (by simp [List.getElem?_append_left (show j < (x.cells kx).length by rw [l8];exact hj),hu])
  rcases i with _ | i
  ·simp at hc
   subst hc
   have e:(0:Nat) + (0 + 1) * 8 + j=8 + j:=kW
   rw [e]
   exact hr.cell (by simp [List.getElem?_append_right (show (x.cells kx).length ≤ 8 + j by rw [l8];omega),l8,hu])
  simp at hc
 rcases i with _ | i
 ·simp at hc hz
  subst hc hz
  exact ⟨rfl,Zby.2 ⟨kx,rfl,Zg h hb⟩⟩
 rcases i with _ | i
 ·simp at hc hz
  subst hc hz
  exact ⟨rfl,Zby.2 ⟨ky,rfl,Zg g hb⟩⟩
 simp at hc
theorem Zpy (n:Int) (w:World):Calls Tryz.prog 17 #[.int .i64 n] w fun e w'=>e = .returned (.agg #[.int .u8 1,.int .u8 1,.int .i64 n,eS,eS,eS,iZ,nS])∧Below w.heap.size w w':=by
 have hb:Below w.heap.size w (w.alloc (.cells #[.int .u8 1,.int .u8 1,.int .i64 n,eS,eS,eS,iZ,nS] 48)):=bA
 have HB:=Lh hb
 clear hb
 go_enter Tryz.func17,Tryz.ntmps17
 go_wp2_with fail
 exact bodyPost_ret (v:=.agg #[.int .u8 1,.int .u8 1,.int .i64 n,eS,eS,eS,iZ,nS]) (by simp [results,Tryz.results17,go_sem]) rfl ⟨rfl,HB.out⟩
theorem ofL (op:Nat) (a:Option Addr) (c:Nat) (ks:List PE) (w:World) (h:Zbq w (.slice a ks.length c) ks):Calls Tryz.prog 16 #[.int .u8 (op:Int),.slice a ks.length c] w fun e w'=>
 (∃ v,e = .returned v∧ExV w' v (.node op ks))∧Below w.heap.size w w':=by
 have hb:Below w.heap.size w (w.alloc (.cells #[.int .u8 (op:Int),.int .u8 0,iZ,eS,eS,eS,iZ,.slice a ks.length c] 48)):=bA
 have HB:=Lh hb
 have HK:=Lh (Zg h hb)
 clear hb h
 go_enter Tryz.func16,Tryz.ntmps16
 go_wp2_with fail
 exact bodyPost_ret (v:=.agg #[.int .u8 (op:Int),.int .u8 0,iZ,eS,eS,eS,iZ,.slice a ks.length c]) (by simp [results,Tryz.results16,go_sem]) rfl ⟨⟨_,rfl,exV_of (x:=.node op ks) HK.out⟩,HB.out⟩
end Go.Proofs.YtmdogmpcmkfjpaaGreatDoor.Dt
namespace Go.Proofs.YtmdogmpcmkfjpaaGreatDoor.By
open Go.RowKit
theorem Zkv {P:Program} {id:Nat} {Q:Exit→Act→World→Prop} {a0:Act} {w:World} {l:List Oper} (kn:Nat→Value→World→Prop) (N:Nat) (hN:a0.tmps.size=N) (hm:P.follows .mixedOrders=true) (hB:mixB .any l.toArray=true)
 (hlater:∀ j v w1 w2,kn j v w1→Below w1.heap.size w1 w2→kn j v w2)
 (hops:∀ i,i < l.length→∀ (A:Act) w1,(∀ t,((List.range l.length).all fun j=>Z7 l.toArray j != some t)=true→A.eval (.tmp t)=a0.eval (.tmp t))→Below w.heap.size w w1 →
  (∀ oi,l.toArray[i]? = some oi→∀ e ∈ oi.after,Region.binds .any e=true→Zi1 l.toArray kn N A w1 e.on)→Kip P l.toArray Q kn i A w1)
 (hend:∀ (F:Act) w1,Below w.heap.size w w1→(∀ j t,j < l.length→Z7 l.toArray j=some t→t < N→kn j (F.eval (.tmp t)) w1)→F.defers=a0.defers→F.tmps.size=N→Q .normal F w1) :
 (Code.region id l.toArray true).wp P Q a0 w:=by
 have hap:Zkq l.toArray l.toArray.size=true:=by simp only [mixB,Bool.and_eq_true] at hB;exact hB.1
 rw [List.size_toArray] at hap
 refine Zdn kn N hN hm hB hlater hops fun us w1 hb hh=>hend _ w1 hb (fun j t hj hd ht=>?_) ?_ ?_
 ·rw [eval_at hap us a0 hd (by rw [hN];exact ht) l.length hj (Nat.le_refl _)]
  exact hh j hj
 ·have:∀ k,(Z1 l.toArray us k a0).defers=a0.defers:=by
   intro k
   induction k with
   | zero=>rfl
   | succ k ih=>
    rw [Z1]
    cases Z7 l.toArray k with
    | none=>exact ih
    | some d=>exact ih
  exact this _
 rw [Zfr];exact hN
end Go.Proofs.YtmdogmpcmkfjpaaGreatDoor.By
namespace Go.Proofs.YtmdogmpcmkfjpaaGreatDoor.Dt
open Go.RowKit Go.Proofs.YtmdogmpcmkfjpaaGreatDoor.By
set_option linter.unusedVariables false
def Ze4:PSt:={ kind:=7,table:=⟨#[116]⟩,wh:=[(PE.node 6 [(PE.val1 ⟨1,1,⟨#[]⟩⟩),(PE.node 8 [(PE.val1 ⟨1,2,⟨#[]⟩⟩),(PE.val1 ⟨1,3,⟨#[]⟩⟩)])])] }
theorem Zry:Z4 (ByteArray.data ⟨#[68,69,76,69,84,69,32,70,82,79,77,32,116,32,87,72,69,82,69,32,49,43,50,42,51]⟩).toList = .inr [Ze4]:=kR
theorem Zpe:Zdy (Zb3 Ze4 [])=((ByteArray.data ⟨#[68,69,76,69,84,69,32,70,82,79,77,32,116,32,87,72,69,82,69,32,49,32,43,32,40,32,50,32,42,32,51,32,41]⟩).toList,true):=kR
theorem Ztk:(Zb3 Ze4 []).length ≤ 100:=by decide +kernel
theorem Zpf:Z4 (ByteArray.data ⟨#[68,69,76,69,84,69,32,70,82,79,77,32,116,32,87,72,69,82,69,32,49,32,43,32,40,32,50,32,42,32,51,32,41]⟩).toList = .inr [Ze4]:=kR
theorem worksSh2:∀ e ∈ Ze4.wh,Za5 e:=by
 have v:∀ n:Int,Za5 (PE.val1 ⟨1,n,⟨#[]⟩⟩):=fun n=>.mk _ kb45 (fun y hy=>by cases hy)
 have two:∀ (o:Nat) (x y:PE),Za5 x→Za5 y→Za5 (.node o [x,y]):=fun o x y hx hy=>.mk _ (by show (2:Nat) ≤ _;omega) (fun z hz=>by
  have hz:z ∈ [x,y]:=hz
  simp only [List.mem_cons,List.not_mem_nil,or_false] at hz
  rcases hz with rfl | rfl
  ·exact hx
  ·exact hy)
 intro e he
 obtain rfl:=List.mem_singleton.1 he
 exact two _ _ _ (v 1) (two _ _ _ (v 2) (v 3))
theorem Zpg:Zgk Ze4:=by
 have e:∀ {α:Type} {p:α→Prop},([]:List α).length ≤ 140737488351232∧∀ r ∈ ([]:List α),p r:=⟨Nat.zero_le _,fun r hr=>by cases hr⟩
 exact ⟨Nat.zero_le _,Nat.zero_le _,Nat.zero_le _,e,e,e,e,⟨by show (1:Nat) ≤ _;omega,worksSh2⟩,e,e,e⟩
theorem worksEx {w1:World} {b:Nat} (hx:LX w1):∀ e ∈ Ze4.wh,EXW w1 b e:=by
 have v0:Ze2 V00:=⟨by decide,by decide,by decide⟩
 have val:∀ n:Int,0 ≤ n→n < 4→EXW w1 b (PE.val1 ⟨1,n,⟨#[]⟩⟩):=fun n h0 h1=>Zvv w1 b _ ⟨by show -9223372036854775808 ≤ n;omega,by show n ≤ 9223372036854775807;omega,by show (0:Nat) ≤ 100000;decide⟩ hx (fun y hy=>by cases hy) (Lh rfl) (Lh rfl)
 have pair:∀ {x y:PE},EXW w1 b x→EXW w1 b y→∀ z,z ∈ [x,y]→EXW w1 b z:=fun {x y} h1 h2 z hz=>by
  simp only [List.mem_cons,List.not_mem_nil,or_false] at hz
  rcases hz with rfl | rfl
  ·exact h1
  ·exact h2
 intro e he
 obtain rfl:=List.mem_singleton.1 he
 have h8:=Zrk w1 b (PE.node 8 [(PE.val1 ⟨1,2,⟨#[]⟩⟩),(PE.val1 ⟨1,3,⟨#[]⟩⟩)]) v0 hx (pair (val 2 kD kD) (val 3 kD kD)) (Lh rfl) (Lh rfl)
 exact Zrl w1 b (PE.node 6 [(PE.val1 ⟨1,1,⟨#[]⟩⟩),PE.node 8 [(PE.val1 ⟨1,2,⟨#[]⟩⟩),(PE.val1 ⟨1,3,⟨#[]⟩⟩)]]) v0 hx (pair (val 1 kD kD) h8) (Lh rfl) (Lh rfl)
theorem Ztl:Za5 (PE.val1 ⟨1,1,⟨#[]⟩⟩):=.mk _ kb45 (fun y hy=>by cases hy)
theorem works_ne:eqB Ze4 {} = false:=Zw fun h=>by have:=congrArg PSt.kind h;cases this
theorem Ztj:eqB (PE.val1 ⟨1,1,⟨#[]⟩⟩) (PE.val1 ⟨1,2,⟨#[]⟩⟩)=false:=Zw fun h=>by
 have:=congrArg (fun x=>x.v.n) h
 exact absurd this kD
theorem Zom {w w':World} {v:Value} {x:PE} (h:ExV w v x) (hb:Below w.heap.size w w'):ExV w' v x:=by
 obtain ⟨cs,e,h⟩:=h
 exact ⟨cs,e,Zfj h hb⟩
theorem stR_zero (w:World):StR w [.int .u8 0,eS,eS,.bool false,nS,nS,nS,nS,nS,nS,nS,nS,nS,nS,nS,iZ] {} :=⟨_,_,_,_,_,_,_,_,_,_,_,rfl,SlR.nil _ _ _,SlR.nil _ _ _,SlR.nil _ _ _,SlR.nil _ _ _,SlR.nil _ _ _,SlR.nil _ _ _,SlR.nil _ _ _,SlR.nil _ _ _,SlR.nil _ _ _,SlR.nil _ _ _,SlR.nil _ _ _⟩
theorem stwDel {w1:World} (b:Nat) (x:PSt) (hk:x.kind=7) (hf:∀ e ∈ x.wh,EXW w1 b e) (hn:x.wh.length ≤ 140737488351232):STW w1 b x:=fun cs l w h hr hlen=>by
 obtain ⟨c4,c5,c6,c7,c8,c9,c10,c11,c12,c13,c14,rfl,h4,h5,h6,h7,h8,h9,h10,h11,h12,h13,h14⟩:=hr
 obtain ⟨a4,n4,rfl,_⟩:=h4.shape
 obtain ⟨a5,n5,rfl,_⟩:=h5.shape
 obtain ⟨a6,n6,rfl,_⟩:=h6.shape
 obtain ⟨a7,n7,rfl,_⟩:=h7.shape
 obtain ⟨a8,n8,rfl,_⟩:=h8.shape
 obtain ⟨a9,n9,rfl,_⟩:=h9.shape
 obtain ⟨a10,n10,rfl,_⟩:=h10.shape
 obtain ⟨a11,n11,rfl,_⟩:=h11.shape
 obtain ⟨a12,n12,rfl,_⟩:=h12.shape
 obtain ⟨a13,n13,rfl,_⟩:=h13.shape
 obtain ⟨a14,n14,rfl,_⟩:=h14.shape
 exact Zt0 w1 b x (Lh hk) hf a4 a5 a6 a7 a8 a9 a10 a11 a12 a13 a14 n4 n5 n6 n7 n8 n9 n10 n11 n12 n13 n14 l w h h11 hn hlen
def Zkr (yb yo vc:Nat) (d4 d5 d6 d7 d8 d9 d10 d11 d12 d13 d14:Value):Nat→Value→World→Prop
 | 0,v,_=>v = iZ
 | 1,v,_=>v = .bool true
 | 2,v,_=>v = .bool true
 | 3,v,_=>v = .string ⟨#[68,69,76,69,84,69,32,70,82,79,77,32,116,32,87,72,69,82,69,32,49,32,43,32,40,32,50,32,42,32,51,32,41]⟩
 | 4,v,_=>v = .bool true
 | 5,v,_=>v = .bool true
 | 6,v,_=>v = .bool true
 | 7,v,_=>v = .slice (some ⟨yb,yo,none⟩) 1 vc
 | 8,v,_=>v = .pointer (some ⟨yb,yo,none⟩)
 | 9,v,_=>v = .agg #[.int .u8 7,.string ⟨#[116]⟩,eS,.bool false,d4,d5,d6,d7,d8,d9,d10,d11,d12,d13,d14,iZ]
 | 10,v,_=>v = .agg #[.int .u8 1,.int .u8 1,.int .i64 1,eS,eS,eS,iZ,nS]
 | 11,v,_=>v = .agg #[.int .u8 1,.int .u8 1,.int .i64 2,eS,eS,eS,iZ,nS]
 | 12,v,_=>v = .agg #[.int .u8 1,.int .u8 1,.int .i64 3,eS,eS,eS,iZ,nS]
 | 13,v,w=>Zbq w v [(PE.val1 ⟨1,2,⟨#[]⟩⟩),(PE.val1 ⟨1,3,⟨#[]⟩⟩)]
 | 14,v,w=>ExV w v (.node 8 [(PE.val1 ⟨1,2,⟨#[]⟩⟩),(PE.val1 ⟨1,3,⟨#[]⟩⟩)])
 | 15,v,w=>Zbq w v [(PE.val1 ⟨1,1,⟨#[]⟩⟩),(PE.node 8 [(PE.val1 ⟨1,2,⟨#[]⟩⟩),(PE.val1 ⟨1,3,⟨#[]⟩⟩)])]
 | 16,v,w=>ExV w v (.node 6 [(PE.val1 ⟨1,1,⟨#[]⟩⟩),(PE.node 8 [(PE.val1 ⟨1,2,⟨#[]⟩⟩),(PE.val1 ⟨1,3,⟨#[]⟩⟩)])])
 | 17,v,w=>Zbq w v [(PE.node 6 [(PE.val1 ⟨1,1,⟨#[]⟩⟩),(PE.node 8 [(PE.val1 ⟨1,2,⟨#[]⟩⟩),(PE.val1 ⟨1,3,⟨#[]⟩⟩)])])]
 | 18,v,w=>∃ cs:List Value,v = .agg cs.toArray∧StR w cs Ze4
 | 19,v,_=>v = .bool true
 | 20,v,_=>v = .bool true
 | 21,v,_=>v = .bool true
 | 22,v,_=>v = .slice (some ⟨yb,yo,none⟩) 1 vc
 | 23,v,_=>v = .pointer (some ⟨yb,yo,none⟩)
 | 24,v,_=>v = .agg #[.int .u8 7,.string ⟨#[116]⟩,eS,.bool false,d4,d5,d6,d7,d8,d9,d10,d11,d12,d13,d14,iZ]
 | 25,v,_=>v = .agg #[.int .u8 0,eS,eS,.bool false,nS,nS,nS,nS,nS,nS,nS,nS,nS,nS,nS,iZ]
 | 26,v,_=>v = .bool false
 | 27,v,_=>v = .bool true
 | 28,v,_=>v = .bool true
 | 29,v,_=>v = .bool true
 | 30,v,_=>v = .agg #[.int .u8 1,.int .u8 1,.int .i64 1,eS,eS,eS,iZ,nS]
 | 31,v,_=>v = .agg #[.int .u8 1,.int .u8 1,.int .i64 1,eS,eS,eS,iZ,nS]
 | 32,v,_=>v = .bool true
 | 33,v,_=>v = .bool true
 | 34,v,_=>v = .bool true
 | 35,v,_=>v = .agg #[.int .u8 1,.int .u8 1,.int .i64 1,eS,eS,eS,iZ,nS]
 | 36,v,_=>v = .agg #[.int .u8 1,.int .u8 1,.int .i64 2,eS,eS,eS,iZ,nS]
 | 37,v,_=>v = .bool false
 | 38,v,_=>v = .bool true
 | 39,v,_=>v = .bool true
 | 40,v,_=>v = .bool true
 | _,_,_=>True
theorem Zkr.later {yb yo vc:Nat} {d4 d5 d6 d7 d8 d9 d10 d11 d12 d13 d14:Value} : ∀ (j:Nat) (v:Value) (w1 w2:World),Zkr yb yo vc d4 d5 d6 d7 d8 d9 d10 d11 d12 d13 d14 j v w1→Below w1.heap.size w1 w2→Zkr yb yo vc d4 d5 d6 d7 d8 d9 d10 d11 d12 d13 d14 j v w2
 | 0,_,_,_,h,_=>h
 | 1,_,_,_,h,_=>h
 | 2,_,_,_,h,_=>h
 | 3,_,_,_,h,_=>h
 | 4,_,_,_,h,_=>h
 | 5,_,_,_,h,_=>h
 | 6,_,_,_,h,_=>h
 | 7,_,_,_,h,_=>h
 | 8,_,_,_,h,_=>h
 | 9,_,_,_,h,_=>h
 | 10,_,_,_,h,_=>h
 | 11,_,_,_,h,_=>h
 | 12,_,_,_,h,_=>h
 | 13,v,w,w2,h,hb=>Zg h hb
 | 14,v,w,w2,h,hb=>Zom h hb
 | 15,v,w,w2,h,hb=>Zg h hb
 | 16,v,w,w2,h,hb=>Zom h hb
 | 17,v,w,w2,h,hb=>Zg h hb
 | 18,v,w,w2,h,hb=>h.elim fun cs hc=>⟨cs,hc.1,Zah hc.2 hb⟩
 | 19,_,_,_,h,_=>h
 | 20,_,_,_,h,_=>h
 | 21,_,_,_,h,_=>h
 | 22,_,_,_,h,_=>h
 | 23,_,_,_,h,_=>h
 | 24,_,_,_,h,_=>h
 | 25,_,_,_,h,_=>h
 | 26,_,_,_,h,_=>h
 | 27,_,_,_,h,_=>h
 | 28,_,_,_,h,_=>h
 | 29,_,_,_,h,_=>h
 | 30,_,_,_,h,_=>h
 | 31,_,_,_,h,_=>h
 | 32,_,_,_,h,_=>h
 | 33,_,_,_,h,_=>h
 | 34,_,_,_,h,_=>h
 | 35,_,_,_,h,_=>h
 | 36,_,_,_,h,_=>h
 | 37,_,_,_,h,_=>h
 | 38,_,_,_,h,_=>h
 | 39,_,_,_,h,_=>h
 | 40,_,_,_,h,_=>h
 | _ + 41,_,_,_,h,_=>h
theorem worksL (w:World) (hw:LX w):Calls Tryz.prog 8 #[] w fun e w'=>e = .returned (.bool true)∧Below w.heap.size w w':=by
 have h:=Zt5 ⟨#[68,69,76,69,84,69,32,70,82,79,77,32,116,32,87,72,69,82,69,32,49,43,50,42,51]⟩ w hw kD
 rw [Zry] at h
 have HT:=Lh h
 have HW:=Lh hw
 clear h hw
 go_enter Tryz.func8,Tryz.ntmps8
 go_wp2_with fail
 refine HT.out.mono ?_
 rintro e w1 ⟨⟨v,rfl,hn⟩,hb1⟩
 obtain ⟨va,vc,hv,_⟩:=hn.here.shape
 have hv:v = .slice va 1 vc:=hv
 subst hv
 have HB1:=Lh hb1
 have hb2:Below w1.heap.size w1 (w1.alloc (.cells #[iZ,iZ] 39)):=bA
 have HB2:=Lh (next hb1 hb2)
 have HRS:=Lh (Zc w1 39 #[iZ,iZ])
 obtain ⟨yb,yo,ycs,rfl,_,hst,hyc⟩:=hn.here.get (k:=0) rfl
 have HSY0:=Lh (Zah hst hb2)
 obtain ⟨d4,d5,d6,d7,d8,d9,d10,d11,d12,d13,d14,hcs,_⟩:=hst
 have hcs:ycs = [.int .u8 7,.string ⟨#[116]⟩,eS,.bool false,d4,d5,d6,d7,d8,d9,d10,d11,d12,d13,d14,iZ]:=hcs
 subst hcs
 have HYC:Hid (∀ (j:Nat) (u:Value),([.int .u8 7,.string ⟨#[116]⟩,eS,.bool false,d4,d5,d6,d7,d8,d9,d10,d11,d12,d13,d14,iZ]:List Value)[j]? = some u→(w1.alloc (.cells #[iZ,iZ] 39)).cell? ⟨yb,yo + j,none⟩=some u):=Lh (fun j u hu=>by
  have h1:=hyc j u hu
  rw [Nat.zero_mul,Nat.add_zero] at h1
  exact (hb2.cell (Zd h1)).trans h1)
 clear hn hb1 hb2 HT hyc
 go_upto_region 2 with fail
 have s0:=HRS.out.cell (i:=0) (v:=iZ) rfl
 have s1:=HRS.out.cell (i:=1) (v:=iZ) rfl
 have y0:=HYC.out 0 _ rfl
 rw [Nat.add_zero] at y0
 have y1:=HYC.out 1 _ rfl
 have y2:=HYC.out 2 _ rfl
 have y3:=HYC.out 3 _ rfl
 have y4:=HYC.out 4 _ rfl
 have y5:=HYC.out 5 _ rfl
 have y6:=HYC.out 6 _ rfl
 have y7:=HYC.out 7 _ rfl
 have y8:=HYC.out 8 _ rfl
 have y9:=HYC.out 9 _ rfl
 have y10:=HYC.out 10 _ rfl
 have y11:=HYC.out 11 _ rfl
 have y12:=HYC.out 12 _ rfl
 have y13:=HYC.out 13 _ rfl
 have y14:=HYC.out 14 _ rfl
 have y15:=HYC.out 15 _ rfl
 generalize w1.alloc (.cells #[iZ,iZ] 39)=w2 at *
 generalize w1.heap.size=g at *
 have HPR:=Lh (Zpu Ze4 [.int .u8 7,.string ⟨#[116]⟩,eS,.bool false,d4,d5,d6,d7,d8,d9,d10,d11,d12,d13,d14,iZ] w2 (HW.out.later HB2.out) HSY0.out (fun w3 b hb=>stwDel b Ze4 rfl (worksEx ((HW.out.later HB2.out).later hb)) (by show (1:Nat) ≤ _;omega)) (Nat.le_trans Ztk kD) _ Zpe Ze4 Zpg Zpf true (Zch _) ((ByteArray.data ⟨#[68,69,76,69,84,69,32,70,82,79,77,32,116,32,87,72,69,82,69,32,49,32,43,32,40,32,50,32,42,32,51,32,41]⟩).toList,0) (Lh (fun h=>Bool.noConfusion h)) (Lh (fun _=>rfl)))
 have qs:∀ W,(binOp .neq 39 (.agg #[iZ,iZ]) (.agg #[iZ,iZ])).run Tryz.prog W = .ok (.bool false) W:=fun W=>Zgb 0 0 0 0 false kY W
 go_wp2_with fail
 refine HPR.out.mono ?_
 rintro e3 w3 ⟨t,rfl,ht,hb3⟩
 obtain rfl:t=⟨#[68,69,76,69,84,69,32,70,82,79,77,32,116,32,87,72,69,82,69,32,49,32,43,32,40,32,50,32,42,32,51,32,41]⟩:=ByteArray.ext (Array.toList_inj.1 ht)
 have HB3:=Lh (next HB2.out hb3)
 have HSY:=Lh (Zah HSY0.out hb3)
 replace y0:=(hb3.cell (Zd y0)).trans y0
 replace y1:=(hb3.cell (Zd y1)).trans y1
 replace y2:=(hb3.cell (Zd y2)).trans y2
 replace y3:=(hb3.cell (Zd y3)).trans y3
 replace y4:=(hb3.cell (Zd y4)).trans y4
 replace y5:=(hb3.cell (Zd y5)).trans y5
 replace y6:=(hb3.cell (Zd y6)).trans y6
 replace y7:=(hb3.cell (Zd y7)).trans y7
 replace y8:=(hb3.cell (Zd y8)).trans y8
 replace y9:=(hb3.cell (Zd y9)).trans y9
 replace y10:=(hb3.cell (Zd y10)).trans y10
 replace y11:=(hb3.cell (Zd y11)).trans y11
 replace y12:=(hb3.cell (Zd y12)).trans y12
 replace y13:=(hb3.cell (Zd y13)).trans y13
 replace y14:=(hb3.cell (Zd y14)).trans y14
 replace y15:=(hb3.cell (Zd y15)).trans y15
 clear ht hb3 HPR s0 s1 qs
 go_upto_region 5 with fail
 refine Zkv (Zkr yb yo vc d4 d5 d6 d7 d8 d9 d10 d11 d12 d13 d14) 64 kY kR kR Zkr.later ?_ ?_
 ·intro i hi A W hother hbW hd
  match i,hi with
  | 0,hi=>
   have h4:=Zt (show A.eval (.tmp 4) = iZ from hother 4 kR)
   clear hother hd hi
   exact Zh rfl (Zf rfl) (iZ) kb0 rfl
  | 1,hi=>
   have h24:=(hd _ rfl ⟨0,.data⟩ kY rfl).t (iZ) 24
   clear hother hd hi
   exact Zh rfl (Zf rfl) (.bool true) kb0 rfl
  | 2,hi=>
   have h25:=(hd _ rfl ⟨1,.data⟩ kY rfl).t (.bool true) 25
   clear hother hd hi
   exact Zh rfl (Zf rfl) (.bool true) kb0 rfl
  | 3,hi=>
   have h3:=Zt (show A.eval (.tmp 3) = .string ⟨#[68,69,76,69,84,69,32,70,82,79,77,32,116,32,87,72,69,82,69,32,49,32,43,32,40,32,50,32,42,32,51,32,41]⟩ from hother 3 kR)
   have hgd:=(hd _ rfl ⟨2,.guard⟩ kY rfl).e (.bool true) 26
   clear hother hd hi
   exact Zh rfl (Zl rfl kR hgd) (.string ⟨#[68,69,76,69,84,69,32,70,82,79,77,32,116,32,87,72,69,82,69,32,49,32,43,32,40,32,50,32,42,32,51,32,41]⟩) kb0 rfl
  | 4,hi=>
   have h27:=(hd _ rfl ⟨3,.data⟩ kY rfl).t (.string ⟨#[68,69,76,69,84,69,32,70,82,79,77,32,116,32,87,72,69,82,69,32,49,32,43,32,40,32,50,32,42,32,51,32,41]⟩) 27
   have hgd:=(hd _ rfl ⟨2,.guard⟩ kY rfl).e (.bool true) 26
   clear hother hd hi
   exact Zh rfl (Zl rfl kR hgd) (.bool true) kb0 rfl
  | 5,hi=>
   have h26:=(hd _ rfl ⟨2,.data⟩ kY rfl).t (.bool true) 26
   have h28:=(hd _ rfl ⟨4,.data⟩ kY rfl).t (.bool true) 28
   clear hother hd hi
   exact Zh rfl (Zf rfl) (.bool true) kb0 rfl
  | 6,hi=>
   have h29:=(hd _ rfl ⟨5,.data⟩ kY rfl).t (.bool true) 29
   clear hother hd hi
   exact Zh rfl (Zf rfl) (.bool true) kb0 rfl
  | 7,hi=>
   have h1:=Zt (show A.eval (.tmp 1) = .slice (some ⟨yb,yo,none⟩) 1 vc from hother 1 kR)
   have hgd:=(hd _ rfl ⟨6,.guard⟩ kY rfl).e (.bool true) 30
   exact ks40
  | 8,hi=>
   have h31:=(hd _ rfl ⟨7,.data⟩ kY rfl).t (.slice (some ⟨yb,yo,none⟩) 1 vc) 31
   have hgd:=(hd _ rfl ⟨6,.guard⟩ kY rfl).e (.bool true) 30
   exact ks56
  | 9,hi=>
   have h32:=(hd _ rfl ⟨8,.data⟩ kY rfl).t (.pointer (some ⟨yb,yo,none⟩)) 32
   have hgd:=(hd _ rfl ⟨6,.guard⟩ kY rfl).e (.bool true) 30
   exact ks12
  | 10,hi=>
   have hgd:=(hd _ rfl ⟨6,.guard⟩ kY rfl).e (.bool true) 30
   exact ks36
  | 11,hi=>
   have hgd:=(hd _ rfl ⟨6,.guard⟩ kY rfl).e (.bool true) 30
   exact ks74
  | 12,hi=>
   have hgd:=(hd _ rfl ⟨6,.guard⟩ kY rfl).e (.bool true) 30
   clear hother hd hi
   exact Zct rfl (Zl rfl kR hgd) 17 #[.int .i64 3] kb0 ((Zpy 3 W).mono fun e w2 hh=>⟨⟨_,hh.1,rfl⟩,hh.2⟩)
  | 13,hi=>
   have h35:=(hd _ rfl ⟨11,.data⟩ kY rfl).t (.agg #[.int .u8 1,.int .u8 1,.int .i64 2,eS,eS,eS,iZ,nS]) 35
   have h36:=(hd _ rfl ⟨12,.data⟩ kY rfl).t (.agg #[.int .u8 1,.int .u8 1,.int .i64 3,eS,eS,eS,iZ,nS]) 36
   have hgd:=(hd _ rfl ⟨6,.guard⟩ kY rfl).e (.bool true) 30
   clear hother hd hi
   exact Zg4 rfl (Zl rfl kR hgd) (.slice (some ⟨W.heap.size,0,none⟩) 2 2) (W.alloc (.cells #[.int .u8 1,.int .u8 1,.int .i64 2,eS,eS,eS,iZ,nS,.int .u8 1,.int .u8 1,.int .i64 3,eS,eS,eS,iZ,nS] 48)) kb0 (bA) (Zvt W (PE.val1 ⟨1,2,⟨#[]⟩⟩) (PE.val1 ⟨1,3,⟨#[]⟩⟩) (nS) (nS) 48 (SlR.nil _ _ _) (SlR.nil _ _ _))
  | 14,hi=>
   obtain ⟨ov13,ok13,hx13⟩:=(hd _ rfl ⟨13,.data⟩ kY rfl).get 37 kR kD
   have hgd:=(hd _ rfl ⟨6,.guard⟩ kY rfl).e (.bool true) 30
   obtain ⟨ka,kc,hk,_⟩:=ok13.shape
   replace hk:ov13 = .slice ka 2 kc:=hk
   subst hk
   have h37:=Zt hx13
   clear hother hd hi
   exact Zct rfl (Zl rfl kR hgd) 16 #[.int .u8 8,.slice ka 2 kc] kb0 (ofL 8 ka kc [(PE.val1 ⟨1,2,⟨#[]⟩⟩),(PE.val1 ⟨1,3,⟨#[]⟩⟩)] W ok13)
  | 15,hi=>
   have h34:=(hd _ rfl ⟨10,.data⟩ kY rfl).t (.agg #[.int .u8 1,.int .u8 1,.int .i64 1,eS,eS,eS,iZ,nS]) 34
   obtain ⟨ov14,ok14,hx14⟩:=(hd _ rfl ⟨14,.data⟩ kY rfl).get 38 kR kD
   have hgd:=(hd _ rfl ⟨6,.guard⟩ kY rfl).e (.bool true) 30
   obtain ⟨kv,hk,hkv⟩:=ok14.open
   replace hk:ov14 = .agg #[.int .u8 8,.int .u8 0,iZ,eS,eS,eS,iZ,kv]:=hk
   subst hk
   have h38:=Zt hx14
   clear hother hd hi
   exact Zg4 rfl (Zl rfl kR hgd) (.slice (some ⟨W.heap.size,0,none⟩) 2 2) (W.alloc (.cells #[.int .u8 1,.int .u8 1,.int .i64 1,eS,eS,eS,iZ,nS,.int .u8 8,.int .u8 0,iZ,eS,eS,eS,iZ,kv] 48)) kb0 (bA) (Zvt W (PE.val1 ⟨1,1,⟨#[]⟩⟩) (PE.node 8 [(PE.val1 ⟨1,2,⟨#[]⟩⟩),(PE.val1 ⟨1,3,⟨#[]⟩⟩)]) (nS) kv 48 (SlR.nil _ _ _) hkv)
  | 16,hi=>
   obtain ⟨ov15,ok15,hx15⟩:=(hd _ rfl ⟨15,.data⟩ kY rfl).get 39 kR kD
   have hgd:=(hd _ rfl ⟨6,.guard⟩ kY rfl).e (.bool true) 30
   obtain ⟨ka,kc,hk,_⟩:=ok15.shape
   replace hk:ov15 = .slice ka 2 kc:=hk
   subst hk
   have h39:=Zt hx15
   clear hother hd hi
   exact Zct rfl (Zl rfl kR hgd) 16 #[.int .u8 6,.slice ka 2 kc] kb0 (ofL 6 ka kc [(PE.val1 ⟨1,1,⟨#[]⟩⟩),(PE.node 8 [(PE.val1 ⟨1,2,⟨#[]⟩⟩),(PE.val1 ⟨1,3,⟨#[]⟩⟩)])] W ok15)
  | 17,hi=>
   obtain ⟨ov16,ok16,hx16⟩:=(hd _ rfl ⟨16,.data⟩ kY rfl).get 40 kR kD
   have hgd:=(hd _ rfl ⟨6,.guard⟩ kY rfl).e (.bool true) 30
   obtain ⟨kv,hk,hkv⟩:=ok16.open
   replace hk:ov16 = .agg #[.int .u8 6,.int .u8 0,iZ,eS,eS,eS,iZ,kv]:=hk
   subst hk
   have h40:=Zt hx16
   clear hother hd hi
   exact Zg4 rfl (Zl rfl kR hgd) (.slice (some ⟨W.heap.size,0,none⟩) 1 1) (W.alloc (.cells #[.int .u8 6,.int .u8 0,iZ,eS,eS,eS,iZ,kv] 48)) kb0 (bA) (exs_one W (PE.node 6 [(PE.val1 ⟨1,1,⟨#[]⟩⟩),(PE.node 8 [(PE.val1 ⟨1,2,⟨#[]⟩⟩),(PE.val1 ⟨1,3,⟨#[]⟩⟩)])]) kv 48 hkv)
  | 18,hi=>
   obtain ⟨ov17,ok17,hx17⟩:=(hd _ rfl ⟨17,.data⟩ kY rfl).get 41 kR kD
   have hgd:=(hd _ rfl ⟨6,.guard⟩ kY rfl).e (.bool true) 30
   obtain ⟨ka,kc,hk,_⟩:=ok17.shape
   replace hk:ov17 = .slice ka 1 kc:=hk
   subst hk
   have h41:=Zt hx17
   clear hother hd hi
   exact Zh rfl (Zl rfl kR hgd) (.agg #[.int .u8 7,.string ⟨#[116]⟩,eS,.bool false,nS,nS,nS,nS,nS,nS,nS,.slice ka 1 kc,nS,nS,nS,iZ]) kb0 ⟨[.int .u8 7,.string ⟨#[116]⟩,eS,.bool false,nS,nS,nS,nS,nS,nS,nS,.slice ka 1 kc,nS,nS,nS,iZ],rfl,_,_,_,_,_,_,_,_,_,_,_,rfl,SlR.nil _ _ _,SlR.nil _ _ _,SlR.nil _ _ _,SlR.nil _ _ _,SlR.nil _ _ _,SlR.nil _ _ _,SlR.nil _ _ _,ok17,SlR.nil _ _ _,SlR.nil _ _ _,SlR.nil _ _ _⟩
  | 19,hi=>
   have h33:=(hd _ rfl ⟨9,.data⟩ kY rfl).t (.agg #[.int .u8 7,.string ⟨#[116]⟩,eS,.bool false,d4,d5,d6,d7,d8,d9,d10,d11,d12,d13,d14,iZ]) 33
   obtain ⟨ov18,ok18,hx18⟩:=(hd _ rfl ⟨18,.data⟩ kY rfl).get 42 kR kD
   have hgd:=(hd _ rfl ⟨6,.guard⟩ kY rfl).e (.bool true) 30
   obtain ⟨cs,hc,hst⟩:=ok18
   subst hc
   have h42:=Zt hx18
   clear hother hd hi
   exact Zct rfl (Zl rfl kR hgd) 22 #[.agg #[.int .u8 7,.string ⟨#[116]⟩,eS,.bool false,d4,d5,d6,d7,d8,d9,d10,d11,d12,d13,d14,iZ],.agg cs.toArray] kb0 ((Zt8 Zpg Ze4 (Zah HSY.out hbW) hst).mono fun e w2 hh=>⟨⟨_,hh.1,by rw [Zch];rfl⟩,hh.2⟩)
  | 20,hi=>
   have h30:=(hd _ rfl ⟨6,.data⟩ kY rfl).t (.bool true) 30
   have h43:=(hd _ rfl ⟨19,.data⟩ kY rfl).t (.bool true) 43
   clear hother hd hi
   exact Zh rfl (Zf rfl) (.bool true) kb0 rfl
  | 21,hi=>
   have h44:=(hd _ rfl ⟨20,.data⟩ kY rfl).t (.bool true) 44
   clear hother hd hi
   exact Zh rfl (Zf rfl) (.bool true) kb0 rfl
  | 22,hi=>
   have h1:=Zt (show A.eval (.tmp 1) = .slice (some ⟨yb,yo,none⟩) 1 vc from hother 1 kR)
   have hgd:=(hd _ rfl ⟨21,.guard⟩ kY rfl).e (.bool true) 45
   exact ks40
  | 23,hi=>
   have h46:=(hd _ rfl ⟨22,.data⟩ kY rfl).t (.slice (some ⟨yb,yo,none⟩) 1 vc) 46
   have hgd:=(hd _ rfl ⟨21,.guard⟩ kY rfl).e (.bool true) 45
   exact ks56
  | 24,hi=>
   have h47:=(hd _ rfl ⟨23,.data⟩ kY rfl).t (.pointer (some ⟨yb,yo,none⟩)) 47
   have hgd:=(hd _ rfl ⟨21,.guard⟩ kY rfl).e (.bool true) 45
   exact ks12
  | 25,hi=>
   have hgd:=(hd _ rfl ⟨21,.guard⟩ kY rfl).e (.bool true) 45
   clear hother hd hi
   exact Zh rfl (Zl rfl kR hgd) (.agg #[.int .u8 0,eS,eS,.bool false,nS,nS,nS,nS,nS,nS,nS,nS,nS,nS,nS,iZ]) kb0 rfl
  | 26,hi=>
   have h48:=(hd _ rfl ⟨24,.data⟩ kY rfl).t (.agg #[.int .u8 7,.string ⟨#[116]⟩,eS,.bool false,d4,d5,d6,d7,d8,d9,d10,d11,d12,d13,d14,iZ]) 48
   have h49:=(hd _ rfl ⟨25,.data⟩ kY rfl).t (.agg #[.int .u8 0,eS,eS,.bool false,nS,nS,nS,nS,nS,nS,nS,nS,nS,nS,nS,iZ]) 49
   have hgd:=(hd _ rfl ⟨21,.guard⟩ kY rfl).e (.bool true) 45
   clear hother hd hi
   exact Zct rfl (Zl rfl kR hgd) 22 #[.agg #[.int .u8 7,.string ⟨#[116]⟩,eS,.bool false,d4,d5,d6,d7,d8,d9,d10,d11,d12,d13,d14,iZ],.agg #[.int .u8 0,eS,eS,.bool false,nS,nS,nS,nS,nS,nS,nS,nS,nS,nS,nS,iZ]] kb0 ((Zt8 Zpg {} (Zah HSY.out hbW) (stR_zero W)).mono fun e w2 hh=>⟨⟨_,hh.1,by rw [works_ne];rfl⟩,hh.2⟩)
  | 27,hi=>
   have h50:=(hd _ rfl ⟨26,.data⟩ kY rfl).t (.bool false) 50
   have hgd:=(hd _ rfl ⟨21,.guard⟩ kY rfl).e (.bool true) 45
   clear hother hd hi
   exact Zh rfl (Zl rfl kR hgd) (.bool true) kb0 rfl
  | 28,hi=>
   have h45:=(hd _ rfl ⟨21,.data⟩ kY rfl).t (.bool true) 45
   have h51:=(hd _ rfl ⟨27,.data⟩ kY rfl).t (.bool true) 51
   clear hother hd hi
   exact Zh rfl (Zf rfl) (.bool true) kb0 rfl
  | 29,hi=>
   have h52:=(hd _ rfl ⟨28,.data⟩ kY rfl).t (.bool true) 52
   clear hother hd hi
   exact Zh rfl (Zf rfl) (.bool true) kb0 rfl
  | 30,hi=>
   have hgd:=(hd _ rfl ⟨29,.guard⟩ kY rfl).e (.bool true) 53
   exact ks36
  | 31,hi=>
   have hgd:=(hd _ rfl ⟨29,.guard⟩ kY rfl).e (.bool true) 53
   exact ks36
  | 32,hi=>
   have h54:=(hd _ rfl ⟨30,.data⟩ kY rfl).t (.agg #[.int .u8 1,.int .u8 1,.int .i64 1,eS,eS,eS,iZ,nS]) 54
   have h55:=(hd _ rfl ⟨31,.data⟩ kY rfl).t (.agg #[.int .u8 1,.int .u8 1,.int .i64 1,eS,eS,eS,iZ,nS]) 55
   have hgd:=(hd _ rfl ⟨29,.guard⟩ kY rfl).e (.bool true) 53
   clear hother hd hi
   exact Zct rfl (Zl rfl kR hgd) 15 #[.agg #[.int .u8 1,.int .u8 1,.int .i64 1,eS,eS,eS,iZ,nS],.agg #[.int .u8 1,.int .u8 1,.int .i64 1,eS,eS,eS,iZ,nS]] kb0 ((Znz Ztl (PE.val1 ⟨1,1,⟨#[]⟩⟩) (nS) (nS) W (SlR.nil _ _ _) (SlR.nil _ _ _)).mono fun e w2 hh=>⟨⟨_,hh.1,by rw [Zch];rfl⟩,hh.2⟩)
  | 33,hi=>
   have h53:=(hd _ rfl ⟨29,.data⟩ kY rfl).t (.bool true) 53
   have h56:=(hd _ rfl ⟨32,.data⟩ kY rfl).t (.bool true) 56
   clear hother hd hi
   exact Zh rfl (Zf rfl) (.bool true) kb0 rfl
  | 34,hi=>
   have h57:=(hd _ rfl ⟨33,.data⟩ kY rfl).t (.bool true) 57
   clear hother hd hi
   exact Zh rfl (Zf rfl) (.bool true) kb0 rfl
  | 35,hi=>
   have hgd:=(hd _ rfl ⟨34,.guard⟩ kY rfl).e (.bool true) 58
   exact ks36
  | 36,hi=>
   have hgd:=(hd _ rfl ⟨34,.guard⟩ kY rfl).e (.bool true) 58
   exact ks74
  | 37,hi=>
   have h59:=(hd _ rfl ⟨35,.data⟩ kY rfl).t (.agg #[.int .u8 1,.int .u8 1,.int .i64 1,eS,eS,eS,iZ,nS]) 59
   have h60:=(hd _ rfl ⟨36,.data⟩ kY rfl).t (.agg #[.int .u8 1,.int .u8 1,.int .i64 2,eS,eS,eS,iZ,nS]) 60
   have hgd:=(hd _ rfl ⟨34,.guard⟩ kY rfl).e (.bool true) 58
   clear hother hd hi
   exact Zct rfl (Zl rfl kR hgd) 15 #[.agg #[.int .u8 1,.int .u8 1,.int .i64 1,eS,eS,eS,iZ,nS],.agg #[.int .u8 1,.int .u8 1,.int .i64 2,eS,eS,eS,iZ,nS]] kb0 ((Znz Ztl (PE.val1 ⟨1,2,⟨#[]⟩⟩) (nS) (nS) W (SlR.nil _ _ _) (SlR.nil _ _ _)).mono fun e w2 hh=>⟨⟨_,hh.1,by rw [Ztj];rfl⟩,hh.2⟩)
  | 38,hi=>
   have h61:=(hd _ rfl ⟨37,.data⟩ kY rfl).t (.bool false) 61
   have hgd:=(hd _ rfl ⟨34,.guard⟩ kY rfl).e (.bool true) 58
   clear hother hd hi
   exact Zh rfl (Zl rfl kR hgd) (.bool true) kb0 rfl
  | 39,hi=>
   have h58:=(hd _ rfl ⟨34,.data⟩ kY rfl).t (.bool true) 58
   have h62:=(hd _ rfl ⟨38,.data⟩ kY rfl).t (.bool true) 62
   clear hother hd hi
   exact Zh rfl (Zf rfl) (.bool true) kb0 rfl
  | 40,hi=>
   have h63:=(hd _ rfl ⟨39,.data⟩ kY rfl).t (.bool true) 63
   clear hother hd hi
   exact Zh rfl (Zf rfl) (.bool true) kb0 rfl
  | n + 41,hi=>simp at hi;omega
 intro F w14 hb14 hh hdf hsz
 have h0:F.eval (.tmp 0) = .bool true:=hh 40 0 kY kR (show 0 < 64 by decide)
 have HBE:=Lh (next HB3.out hb14)
 clear hh hb14
 go_wp2_with fail
 refine bodyPost_ret (results_tmp rfl F.tmps Tryz.prog w14) hdf ⟨?_,HBE.out⟩
 exact congrArg Ending.returned h0
end Go.Proofs.YtmdogmpcmkfjpaaGreatDoor.Dt
namespace Go.Proofs.YtmdogmpcmkfjpaaGreatDoor.By
open Go.RowKit
section
variable {P:Program} {ops:Array Oper} {Q:Exit→Act→World→Prop} {i:Nat} {a:Act} {w:World} {o:Oper} {K:Act→World→Prop}
theorem Zai (ho:ops[i]? = some o) (hg:o.guard=none) (v:Value) (w':World) (hrun:(execOp a.eval o).run P w = .ok (.value v) w') (h:K (a.put (Z7 ops i) v) w'):wpOp P ops Q i K a w:=by
 unfold wpOp
 simp only [ho]
 rw [if_pos (by unfold Region.wanted;rw [hg])]
 refine .inl ?_
 unfold Oper.wp
 rw [hrun,Oper.upon_value]
 unfold Z7 at h
 rw [ho] at h
 exact h
end
end Go.Proofs.YtmdogmpcmkfjpaaGreatDoor.By
