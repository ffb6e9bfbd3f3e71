import Derived.Test.YtmdogmpcmkfjpaaGreatDoorBq17
import Derived.Test.YtmdogmpcmkfjpaaGreatDoorBq04
set_option maxRecDepth 100000
set_option maxHeartbeats 64000000
/- Part. -/
namespace Go.Proofs.YtmdogmpcmkfjpaaGreatDoor.Dt
open Go.RowKit Go.Proofs.YtmdogmpcmkfjpaaGreatDoor.By
theorem Zfq (W:World) (c:Array Value) (h:Zav 8 c=true):(Zeh 28 1 #[(0,.agg c)]).run Tryz.prog W = .ok (.slice (some ⟨W.heap.size,0,none⟩) 1 1) (W.alloc (.cells c 48)):=Zub W c (Zo.1 h).1
attribute [local go_sem ↓] Zbv Zcb Zd9
attribute [local go_sem] Zc6 Zbx Zc7 Zfg Value.oneCell' Zfq
section
variable {w0:World} {r:Nat} {tv:Value} {L:List Tk} {en:Int} {s:PS}
theorem Zkg {S:Nat→Prop} {m g:Nat} {w:World} {c:Array Value} {x:PE} (h:ExD S w c x) (hg:¬ S g) (hm:∀ b,S b→m ≤ b) (d:Array Value):New m (w.setRow g d) fun u=>ExV u (.agg c) x:=
 ((ExD.set h hg).step (Nat.le_refl _) fun b hb _=>⟨hm b hb,rfl⟩).v
theorem nodeOk (op:Nat) (a:Option Addr) (n c:Nat):Zav 8 #[.int .u8 (op:Int),.int .u8 0,iZ,eS,eS,eS,iZ,.slice a n c]=true:=by rw [Zfg];rfl
structure NS (w0:World) (r:Nat) (tv:Value) (L:List Tk) (en:Int) (w:World) (q g:Nat) (s:PS) (x:PE) (c:Array Value) (W:World):Prop where
 pb:PB w0 r tv L en s W
 row:Row g 48 c W
 ex:ExD (fun b=>w.heap.size ≤ b∧b ≠ g∧b ≠ q) W c x
 gr:w.grownBy W (some r)
 rs:Row q 48 exZ W
 hq:w.heap.size ≤ q
 hg:w.heap.size ≤ g
 hqg:q ≠ g
 hr:r < w.heap.size
theorem NS.grown {w W W':World} {q g:Nat} {s s':PS} {x:PE} {c:Array Value} (h:NS w0 r tv L en w q g s x c W) (k:W.grownBy W' (some r)) (hp:PB w0 r tv L en s' W'):NS w0 r tv L en w q g s' x c W':=by
 have h1:=h.hq
 have h2:=h.hg
 have h3:=h.hr
 exact ⟨hp,h.row.grown k kW,h.ex.grown k kW,Za h.gr k,h.rs.grown k kW,h1,h2,h.hqg,h3⟩
theorem NS.later {w W W':World} {q g:Nat} {s:PS} {x:PE} {c:Array Value} (h:NS w0 r tv L en w q g s x c W) (k:Below W.heap.size W W'):NS w0 r tv L en w q g s x c W':=h.grown (below_grown k) (h.pb.later k)
def Zwz (r:Nat) (i o:Nat) (c:Array Value) (S:Nat→Prop) (x y:PE) (j:Nat) (v:Value) (W:World):Prop:=match j with
 | 0=>v = .int .i64 (i:Int)
 | 1=>v = .int .u8 (i:Int)
 | 2=>v = .int .u8 (o:Int)
 | 3=>v = .agg c
 | 4=>v = pV r
 | 5=>∃ d,v = .agg d∧ExD S W d y
 | 6=>∃ g2,v = .slice (some ⟨g2,0,none⟩) 2 2∧Dep S W fun u=>Zbq u v [x,y]
 | _=>∃ d,v = .agg d∧ExD S W d (.node o [x,y])
theorem Zwz.later {i o:Nat} {c:Array Value} {S:Nat→Prop} {x y:PE} (hS:¬ S r) (w0:World) (j:Nat) (v:Value) (w1 w2:World) (h:Zwz r i o c S x y j v w1) (_:w0.grownBy w1 (some r)) (g:w1.grownBy w2 (some r)):Zwz r i o c S x y j v w2:=by
 match j,h with
 | 0,h=>exact h
 | 1,h=>exact h
 | 2,h=>exact h
 | 3,h=>exact h
 | 4,h=>exact h
 | 5,⟨d,e,h⟩=>exact ⟨d,e,h.grown g hS⟩
 | 6,⟨d,e,h⟩=>exact ⟨d,e,h.step g.size fun b h1 h2=>⟨h1,g.block b h2 (fun e=>by cases e;exact hS h1)⟩⟩
 | _ + 7,⟨d,e,h⟩=>exact ⟨d,e,h.grown g hS⟩
theorem cmp_ix0 (a b c d e f:Value) (W:World):(Instr.index 173 (.agg #[a,b,c,d,e,f]) (iZ)).run Tryz.prog W = .ok a W:=kR
theorem cmp_ix1 (a b c d e f:Value) (W:World):(Instr.index 173 (.agg #[a,b,c,d,e,f]) (.int .i64 1)).run Tryz.prog W = .ok b W:=kR
theorem cmp_ix2 (a b c d e f:Value) (W:World):(Instr.index 173 (.agg #[a,b,c,d,e,f]) (.int .i64 2)).run Tryz.prog W = .ok c W:=kR
theorem cmp_ix3 (a b c d e f:Value) (W:World):(Instr.index 173 (.agg #[a,b,c,d,e,f]) (.int .i64 3)).run Tryz.prog W = .ok d W:=kR
theorem cmp_ix4 (a b c d e f:Value) (W:World):(Instr.index 173 (.agg #[a,b,c,d,e,f]) (.int .i64 4)).run Tryz.prog W = .ok e W:=kR
theorem cmp_ix5 (a b c d e f:Value) (W:World):(Instr.index 173 (.agg #[a,b,c,d,e,f]) (.int .i64 5)).run Tryz.prog W = .ok f W:=kR
theorem Zwn (i:Nat) (x:ByteArray × Nat) (h:Zkt[i]? = some x) (W:World):(Instr.index 173 (.agg #[.string BEQ,.string BNE,.string BLT,.string BLE,.string BGT,.string BGE]) (.int .i64 (i:Int))).run Tryz.prog W = .ok (.string x.1) W:=by
 match i,h with
 | 0,h=>cases h;exact cmp_ix0 _ _ _ _ _ _ W
 | 1,h=>cases h;exact cmp_ix1 _ _ _ _ _ _ W
 | 2,h=>cases h;exact cmp_ix2 _ _ _ _ _ _ W
 | 3,h=>cases h;exact cmp_ix3 _ _ _ _ _ _ W
 | 4,h=>cases h;exact cmp_ix4 _ _ _ _ _ _ W
 | 5,h=>cases h;exact cmp_ix5 _ _ _ _ _ _ W
 | _ + 6,h=>simp [Zkt] at h
theorem cmp_op (i:Nat) (x:ByteArray × Nat) (h:Zkt[i]? = some x):x.2=12 + i∧i < 6:=by
 match i,h with
 | 0,h=>cases h;exact ⟨rfl,by decide⟩
 | 1,h=>cases h;exact ⟨rfl,by decide⟩
 | 2,h=>cases h;exact ⟨rfl,by decide⟩
 | 3,h=>cases h;exact ⟨rfl,by decide⟩
 | 4,h=>cases h;exact ⟨rfl,by decide⟩
 | 5,h=>cases h;exact ⟨rfl,by decide⟩
 | _ + 6,h=>simp [Zkt] at h
theorem kid1 {S:Nat→Prop} {W:World} {c:Array Value} {x:PE} (h:ExD S W c x) (hS:S W.heap.size):Dep S (W.alloc (.cells c 48)) fun u=>Zbq u (.slice (some ⟨W.heap.size,0,none⟩) 1 1) [x]:=
 exs_row1 (Zc W 48 c) hS (h.later ((Below.refl _ W).alloc (Nat.le_refl _) _))
theorem Zj7 (op:Nat) {S:Nat→Prop} {W:World} {c:Array Value} {x:PE} (h:ExD S W c x) (hS:S W.heap.size):Calls Tryz.prog 128 #[.int .u8 (op:Int),.slice (some ⟨W.heap.size,0,none⟩) 1 1] (W.alloc (.cells c 48)) fun e w'=>
 ∃ d,e = .returned (.agg d)∧Zav 8 d=true∧ExD S w' d (PE.node op [x])∧Below W.heap.size W w':=by
 refine (nodeW op _ (some ⟨W.heap.size,0,none⟩) 1 1 rfl _).mono ?_
 rintro e w' ⟨rfl,hb⟩
 refine ⟨_,rfl,nodeOk op _ _ _,Zrn ((kid1 h hS).step hb.size fun b h1 h2=>⟨h1,hb.block b h2⟩),next ((Below.refl _ W).alloc (Nat.le_refl _) _) hb⟩
theorem notW (H1:∀ s',s.k < s'.k→EX w0 r tv L en .not s') (H2:∀ s',s.k ≤ s'.k→EX w0 r tv L en (.sum 0) s'):EX w0 r tv L en .not s:=by
 intro w h
 obtain ⟨Z,hZ⟩:∃ Z,Z=exF L en FU .not s:=⟨_,rfl⟩
 rw [← hZ]
 rw [fu_not h.hk h.hl] at hZ
 have hr0:=Zc w 48 exZ
 have hb:=(Below.refl _ w).alloc (Nat.le_refl _) (.cells exZ 48)
 have HR:=Lh h.lt
 have HB:=Lh hb
 have HR0:=Lh hr0
 have HI:=Lh (isW Zfx _ (h.later hb))
 have HZ:=Lh hZ
 have HH1:=Lh H1
 have HH2:=Lh H2
 clear h H1 H2 hr0 hb hZ
 show Calls _ 87 #[pV r] _ _
 obtain ⟨B,hB⟩:∃ B,isB L en Zfx s=B:=⟨_,rfl⟩
 rw [Z2,hB] at HI
 have HBN:=Lh hB
 clear hB
 go_enter Tryz.func87,Tryz.ntmps87
 go_upto_region 1 with fail
 generalize w.alloc (.cells exZ 48)=w1 at *
 cases B
 ·go_wp2_with fail
  refine HI.out.mono ?_
  rintro e2 w2 ⟨rfl,hp2,hg2⟩
  have hp2:PB w0 r tv L en s w2:=hp2
  have hc:=HH2.out s (Nat.le_refl _) w2 hp2
  have HG2:=Lh (Za (below_grown (r:=r) HB.out) hg2)
  have HR2:=Lh (HR0.out.grown hg2 (Nat.ne_of_gt HR.out))
  obtain ⟨⟨x,s1⟩,hx⟩:∃ z,exF L en FU (.sum 0) s=z:=⟨_,rfl⟩
  rw [hx] at hc
  have HC:=Lh hc
  have HZ2:Hid (Z=(bnd (isM L en WIS) fun b=>if b then
   (bnd (isM L en Zfx) fun b=>bnd (mustM L en [Zbr]) fun _=>ret (if b then PE.node 4 [PE.node 5 [x]] else PE.node 5 [x]))
   else bnd (oneOf L en Zkt) fun o=>match o with
    | some o=>bnd (exF L en FU (.sum 0)) fun y=>ret (PE.node o [x,y])
    | none=>ret x) s1):=Lh (by rw [HZ.out,isN HBN.out,if_neg bF,Za1 hx];rfl)
  have HMX:Hid (s.k ≤ s1.k):=Lh (by have:=Zp5 (L:=L) (en:=en) (.sum 0) s;rw [hx] at this;exact this)
  clear hp2 hg2 hx hc HI
  go_wp2_with fail
  refine HC.out.mono ?_
  rintro e3 w3 ⟨v,rfl,hn3,hp3,hg3⟩
  obtain ⟨c,rfl,hx3⟩:=ExN.of hn3
  have hok:=hx3.ok
  have hb4:=(Below.refl _ w3).alloc (Nat.le_refl _) (.cells c 48)
  have HN4:Hid (NS w0 r tv L en w w.heap.size w3.heap.size s1 x c (w3.alloc (.cells c 48))):=Lh (by
   have h1:=HG2.out.size
   have h2:=hg3.size
   have h3:=HR2.out.lt
   exact ⟨hp3.later hb4,Zc _ _ _,(hx3.step (Nat.le_refl _) (fun b hb hlt=>⟨⟨by omega,by omega,by omega⟩,rfl⟩)).later hb4,Za (Za HG2.out hg3) (below_grown hb4),(HR2.out.grown hg3 (Nat.ne_of_gt HR.out)).later hb4,Nat.le_refl _,by omega,by omega,HR.out⟩)
  clear hn3 hp3 hg3 hx3 hb4 HC
  go_upto_region 4 with fail
  generalize w3.alloc (.cells c 48)=w4 at *
  generalize w3.heap.size=g at *
  clear hok
  have HI5:=Lh (isW WIS w4 HN4.out.pb)
  obtain ⟨B,hB⟩:∃ B,isB L en WIS s1=B:=⟨_,rfl⟩
  rw [Z2,hB] at HI5
  have HBI:=Lh hB
  clear hB
  cases B
  ·have HZ4:Hid (Z=(bnd (oneOf L en Zkt) fun o=>match o with
    | some o=>bnd (exF L en FU (.sum 0)) fun y=>ret (PE.node o [x,y])
    | none=>ret x) s1):=Lh (by rw [HZ2.out,isN HBI.out,if_neg bF])
   clear HZ2
   go_wp2_with fail
   refine HI5.out.mono ?_
   rintro e5 w5 ⟨rfl,hp5,hg5⟩
   have HN5:=Lh (HN4.out.grown hg5 hp5)
   clear hp5 hg5 HI5 HN4
   go_wp2_with fail
   go_loopg [33] 6 (fun gk iv wr=>∃ (i:Nat),iv = .int .i64 (i:Int)∧gk=6 - i∧i ≤ 6∧Hid (NS w0 r tv L en w w.heap.size g s1 x c wr)∧Hid (oneOf L en Zkt s1=oneOf L en (Zkt.drop i) s1))
   case atStart=>exact ⟨0,rfl,rfl,by decide,HN5,Lh rfl⟩
   case round=>
    obtain ⟨i,rfl,rfl,hi,HN,HO⟩:=hrel
    by_cases hlt:i < 6
    ·obtain ⟨⟨t,o⟩,ht⟩:∃ q,Zkt[i]? = some q:=⟨Zkt[i]'(by show i < 6;exact hlt),by simp⟩
     have hd:Zkt.drop i=(t,o) :: Zkt.drop (i + 1):=by
      rw [List.drop_eq_getElem_cons (show i < Zkt.length from hlt),(List.getElem?_eq_some_iff.1 ht).2]
     obtain ⟨hop,_⟩:=cmp_op i _ ht
     have HO2:Hid (oneOf L en Zkt s1=oneOf L en ((t,o) :: Zkt.drop (i + 1)) s1):=Lh (by rw [← hd];exact HO.out)
     have hix:∀ W,(Instr.index 173 (.agg #[.string BEQ,.string BNE,.string BLT,.string BLE,.string BGT,.string BGE]) (.int .i64 (i:Int))).run Tryz.prog W = .ok (.string t) W:=Zwn i (t,o) ht
     have HI:=Lh (isW t wr HN.out.pb)
     have ilt:(i:Int) < 6:=kW
     have ige:(0:Int) ≤ (i:Int):=kW
     have HLTI:=Lh hlt
     have HOP:Hid (o=12 + i):=Lh hop
     clear hd ht hlt hop
     obtain ⟨B,hB⟩:∃ B,isB L en t s1=B:=⟨_,rfl⟩
     rw [Z2,hB] at HI
     have HB2:=Lh hB
     clear hB
     cases B
     ·have HNO:Hid (oneOf L en Zkt s1=oneOf L en (Zkt.drop (i + 1)) s1):=Lh (by rw [HO2.out,Zh3 HB2.out])
      go_wp2_with fail
      refine HI.out.mono ?_
      rintro e5 w6 ⟨rfl,hp5,hg5⟩
      have HN6:=Lh (HN.out.grown hg5 hp5)
      clear hp5 hg5 hix
      go_wp2_with fail
      go_roundg (6 - (i + 1))
      case measure=>exact Nat.sub_lt_sub_left HLTI.out (Nat.lt_succ_self _)
      case rel=>exact ⟨i + 1,by go_num,rfl,HLTI.out,HN6,HNO⟩
     go_wp2_with fail
     refine HI.out.mono ?_
     rintro e5 w6 ⟨rfl,hp5,hg5⟩
     have HN6:Hid (NS w0 r tv L en w w.heap.size g s1.next x c w6):=Lh (HN.out.grown hg5 hp5)
     clear hp5 hg5 hix
     go_upto_region 14 with fail
     obtain ⟨⟨y,s2⟩,hy⟩:∃ z,exF L en FU (.sum 0) s1.next=z:=⟨_,rfl⟩
     have HY:=Lh hy
     have HZ5:Hid (Z=(PE.node o [x,y],s2)):=Lh (by rw [HZ4.out,Za1 (x:=some o) (s1:=s1.next) (by rw [HO2.out,Zh2 HB2.out])];show bnd _ _ s1.next=_;rw [Za1 hy];rfl)
     clear hy
     have hgw:=HN6.out.gr
     have hSr:¬ (w.heap.size ≤ r∧r ≠ g∧r ≠ w.heap.size):=by have:=HR.out;omega
     refine Zcr 8 r (Zwz r i o c (fun b=>w.heap.size ≤ b∧b ≠ g∧b ≠ w.heap.size) x y) (fun dn W=>PB w0 r tv L en (if dn 5 then s2 else s1.next) W) 50 rfl kR kR (Zwz.later hSr w6) ?_ ?_ ?_ ?_
     ·intro dn dn' W hdd hst
      rw [← hdd 5 kD]
      exact hst
     ·exact HN6.out.pb.later (Below.drew (Below.refl _ _))
     ·intro j hj dn A W hother hgW hst hdj hd
      match j,hj with
      | 0,hj=>
       have h0:=Zt (show A.eval (.tmp 4) = .int .i64 (i:Int) from hother 4 kR)
       clear hother hd hj
       exact Zam rfl rfl (.int .i64 (i:Int)) kb0 rfl hst
      | 1,hj=>
       have h0:=(hd _ rfl ⟨0,.data⟩ kY rfl).2.t (.int .i64 (i:Int)) 40
       clear hother hd hj
       exact Zam rfl rfl (.int .u8 (i:Int)) (by simp only [execOp];go_simp;(try (rw [IntKind.wrap_u8];omega))) rfl hst
      | 2,hj=>
       have h0:=(hd _ rfl ⟨1,.data⟩ kY rfl).2.t (.int .u8 (i:Int)) 41
       have ho:(o:Int)=12 + (i:Int):=by have:=HOP.out;omega
       clear hother hd hj
       exact Zam rfl rfl (.int .u8 (o:Int)) (by rw [ho];simp only [execOp];go_simp;(try (rw [IntKind.wrap_u8];omega))) rfl hst
      | 3,hj=>
       have h0:=Zt (show A.eval (.tmp 3) = pV g from hother 3 kR)
       have hr5:=HN6.out.row.grown hgW (by have:=HN6.out.hg;have:=HR.out;omega)
       have hb5:=hr5.b (n:=8) HN6.out.ex.size
       have ho5:=hr5.of
       clear hother hd hj hr5
       exact Zam rfl rfl (.agg c) kb0 rfl hst
      | 4,hj=>
       have h0:=Zt (show A.eval (.tmp 0) = pV r from hother 0 kR)
       clear hother hd hj
       exact Zam rfl rfl (pV r) kb0 rfl hst
      | 5,hj=>
       have h0:=(hd _ rfl ⟨4,.data⟩ kY rfl).2.t (pV r) 44
       have hst5:PB w0 r tv L en s1.next W:=by have h:=hst;simp only [hdj] at h;exact h
       have hcall:=HH2.out s1.next (by have:=HMX.out;show s.k ≤ s1.k + 1;omega) W hst5
       rw [HY.out] at hcall
       clear hother hd hj
       refine Zew rfl rfl 129 #[pV r,iZ] kb0 (Calls.mono hcall ?_)
       rintro e7 w7 ⟨v7,rfl,hn7,hp7,hg7⟩
       obtain ⟨d,rfl,hx7⟩:=ExN.of hn7
       refine ⟨_,rfl,hg7,⟨d,rfl,hx7.step (Nat.le_refl _) (fun b hb hlt=>⟨⟨?_,?_,?_⟩,rfl⟩)⟩,hp7⟩
       ·have h1:=(Za hgw hgW).size;omega
       ·have h3:=HN6.out.row.lt;have h4:=hgW.size;omega
       ·have h3:=HN6.out.rs.lt;have h4:=hgW.size;omega
      | 6,hj=>
       obtain ⟨v7,⟨d,e7,hx7⟩,h7⟩:=(hd _ rfl ⟨5,.data⟩ kY rfl).2.get 45 kR kD
       rw [e7] at h7
       have h0:=Zt h7
       have h1:=(hd _ rfl ⟨3,.data⟩ kY rfl).2.t (.agg c) 43
       have hbs:(Zeh 28 2 #[(0,.agg c),(1,.agg d)]).run Tryz.prog W = .ok (.slice (some ⟨W.heap.size,0,none⟩) 2 2) (W.alloc (.cells (c ++ d) 48)):=Zua W c d HN6.out.ex.size hx7.size
       have hbw:=(Below.refl _ W).alloc (Nat.le_refl _) (.cells (c ++ d) 48)
       have hsz:w.heap.size ≤ W.heap.size∧W.heap.size ≠ g∧W.heap.size ≠ w.heap.size:=by have h3:=HN6.out.row.lt;have h5:=HN6.out.rs.lt;have h4:=hgW.size;have h2:=(Za hgw hgW).size;omega
       have hkids:=Zrj (S:=fun b=>w.heap.size ≤ b∧b ≠ g∧b ≠ w.heap.size) (Zc W 48 (c ++ d)) hsz ((HN6.out.ex.grown hgW hSr).later hbw) (hx7.later hbw)
       exact ks59
      | 7,hj=>
       obtain ⟨v8,⟨g2,e8,hx8⟩,h8⟩:=(hd _ rfl ⟨6,.data⟩ kY rfl).2.get 46 kR kD
       subst e8
       have h0:=Zt h8
       have h1:=(hd _ rfl ⟨2,.data⟩ kY rfl).2.t (.int .u8 (o:Int)) 42
       exact ks39
      | k + 8,hj=>omega
     intro us W hgW hst hk
     obtain ⟨d,e9,hx9⟩:=hk 7 kD
     have HR9:=Lh (HN6.out.rs.grown hgW Zs5)
     have hb9:=HR9.out.b (n:=8) rfl
     have hok9:=hx9.ok
     have HX9:=Lh hx9
     have HPW:Hid (PB w0 r tv L en s2 W):=Lh hst
     have HGW:=Lh (Za hgw hgW)
     clear hk hst hgW hx9 hgw
     simp only [List.drop_succ_cons,List.drop_zero,Z1,Z7,Act.put,List.getElem?_toArray,List.getElem?_cons_zero,List.getElem?_cons_succ,Option.bind_some]
     simp only [List.setIfInBounds_toArray,List.set_cons_zero,List.set_cons_succ]
     rw [e9]
     go_wp2_with fail
     exact bodyPost_ret (v:=.agg d) (Zq Tryz.results87 Zz Zaq _ _ w.heap.size _ d rfl (HR9.out.set d) HX9.out.size) rfl ⟨_,rfl,by rw [HZ5.out];exact Zkg HX9.out kW (fun b h=>h.1) d,by rw [HZ5.out];exact HPW.out.other (Zi _ _ d) HR.out,Zn HGW.out (Nat.le_refl _) d⟩
    obtain rfl:i=6:=kW
    have HZ5:Hid (Z=(x,s1)):=Lh (by rw [HZ4.out,Za1 (x:=none) (s1:=s1) (by rw [HO.out];rfl)];rfl)
    have hr:=HN.out.row
    have hb:=hr.b (n:=8) HN.out.ex.size
    have ho:=hr.of
    have hbr:=HN.out.rs.b (n:=8) rfl
    have hok:=HN.out.ex.ok
    clear hlt hi hr
    go_wp2_with fail
    exact bodyPost_ret (v:=.agg c) (Zq Tryz.results87 Zz Zaq _ _ w.heap.size _ c rfl (HN.out.rs.set c) HN.out.ex.size) rfl ⟨_,rfl,by rw [HZ5.out];exact Zkg HN.out.ex kW (fun b h=>h.1) c,by rw [HZ5.out];exact HN.out.pb.other (Zi _ _ c) HR.out,Zn HN.out.gr (Nat.le_refl _) c⟩
  go_wp2_with fail
  refine HI5.out.mono ?_
  rintro e5 w5 ⟨rfl,hp5,hg5⟩
  have HN5:=Lh (HN4.out.grown hg5 hp5)
  have HI6:=Lh (isW Zfx w5 HN5.out.pb)
  clear hp5 hg5 HI5 HN4
  obtain ⟨B,hB⟩:∃ B,isB L en Zfx s1.next=B:=⟨_,rfl⟩
  rw [Z2] at HI6
  simp only [if_true,hB] at HI6
  have HBN2:=Lh hB
  clear hB
  go_wp2_with fail
  refine HI6.out.mono ?_
  rintro e6 w6 ⟨rfl,hp6,hg6⟩
  have HN6:=Lh (HN5.out.grown hg6 hp6)
  have HM7:=Lh (Zaw Zbr w6 HN6.out.pb)
  clear hp6 hg6 HI6 HN5
  cases B
  ·obtain ⟨s3,h3⟩:∃ z,(mustM L en [Zbr] s1.next).2=z:=⟨_,rfl⟩
   simp only [Bool.false_eq_true,if_false,h3] at HM7
   have HZ3:Hid (Z=(PE.node 5 [x],s3)):=Lh (by rw [HZ2.out,isY HBI.out,if_pos rfl,isN HBN2.out,Za1 (x:=()) (s1:=s3) (by rw [← h3])];rfl)
   clear h3
   go_wp2_with fail
   refine HM7.out.mono ?_
   rintro e7 w7 ⟨rfl,hp7,hg7⟩
   have HN7:=Lh (HN6.out.grown hg7 hp7)
   clear hp7 hg7 HN6 HM7
   have hb7:=HN7.out.row.b (n:=8) HN7.out.ex.size
   have ho7:=HN7.out.row.of
   have hk7:=HN7.out.ex.ok
   have HC8:=Lh (Zj7 5 HN7.out.ex kb52)
   go_wp2_with fail
   refine HC8.out.mono ?_
   rintro e8 w8 ⟨d,rfl,hk8,hx8,hbel8⟩
   have HN8:=Lh (HN7.out.later hbel8)
   have hb8:=HN8.out.rs.b (n:=8) rfl
   have HX8:=Lh hx8
   clear hx8 hbel8 hb7 ho7 HC8
   go_wp2_with fail
   exact bodyPost_ret (v:=.agg d) (Zq Tryz.results87 Zz Zaq _ _ w.heap.size _ d rfl (HN8.out.rs.set d) HX8.out.size) rfl ⟨_,rfl,by rw [HZ3.out];exact Zkg HX8.out kW (fun b h=>h.1) d,by rw [HZ3.out];exact HN8.out.pb.other (Zi _ _ d) HR.out,Zn HN8.out.gr (Nat.le_refl _) d⟩
  obtain ⟨s3,h3⟩:∃ z,(mustM L en [Zbr] s1.next.next).2=z:=⟨_,rfl⟩
  simp only [if_true,h3] at HM7
  have HZ3:Hid (Z=(PE.node 4 [PE.node 5 [x]],s3)):=Lh (by rw [HZ2.out,isY HBI.out,if_pos rfl,isY HBN2.out,Za1 (x:=()) (s1:=s3) (by rw [← h3])];rfl)
  clear h3
  go_wp2_with fail
  refine HM7.out.mono ?_
  rintro e7 w7 ⟨rfl,hp7,hg7⟩
  have HN7:=Lh (HN6.out.grown hg7 hp7)
  clear hp7 hg7 HN6 HM7
  have hb7:=HN7.out.row.b (n:=8) HN7.out.ex.size
  have ho7:=HN7.out.row.of
  have hk7:=HN7.out.ex.ok
  have HC8:=Lh (Zj7 5 HN7.out.ex kb52)
  go_wp2_with fail
  refine HC8.out.mono ?_
  rintro e8 w8 ⟨d,rfl,hk8,hx8,hbel8⟩
  have HN8:=Lh (HN7.out.later hbel8)
  have HC9:=Lh (Zj7 4 hx8 (by have:=HN8.out.gr.size;have:=HN8.out.row.lt;have:=HN8.out.rs.lt;omega))
  clear hx8 hbel8 hb7 ho7 HC8
  go_wp2_with fail
  refine HC9.out.mono ?_
  rintro e9 w9 ⟨d',rfl,hk9,hx9,hbel9⟩
  have HN9:=Lh (HN8.out.later hbel9)
  have hb9:=HN9.out.rs.b (n:=8) rfl
  have HX9:=Lh hx9
  clear hx9 hbel9 hk8 HC9
  go_wp2_with fail
  exact bodyPost_ret (v:=.agg d') (Zq Tryz.results87 Zz Zaq _ _ w.heap.size _ d' rfl (HN9.out.rs.set d') HX9.out.size) rfl ⟨_,rfl,by rw [HZ3.out];exact Zkg HX9.out kW (fun b h=>h.1) d',by rw [HZ3.out];exact HN9.out.pb.other (Zi _ _ d') HR.out,Zn HN9.out.gr (Nat.le_refl _) d'⟩
 go_wp2_with fail
 refine HI.out.mono ?_
 rintro e2 w2 ⟨rfl,hp2,hg2⟩
 have hp2:PB w0 r tv L en s.next w2:=hp2
 have hc:=HH1.out s.next (Nat.lt_succ_self _) w2 hp2
 have HG2:=Lh (Za (below_grown (r:=r) HB.out) hg2)
 have HR2:=Lh (HR0.out.grown hg2 (Nat.ne_of_gt HR.out))
 obtain ⟨⟨x,s1⟩,hx⟩:∃ z,exF L en FU .not s.next=z:=⟨_,rfl⟩
 rw [hx] at hc
 have HC:Hid (Calls Tryz.prog 87 #[pV r] w2 _):=Lh hc
 have HZ2:Hid (Z=(PE.node 4 [x],s1)):=Lh (by rw [HZ.out,isY HBN.out,if_pos rfl,Za1 hx];rfl)
 clear hp2 hg2 hx hc HI
 go_wp2_with fail
 refine HC.out.mono ?_
 rintro e3 w3 ⟨v,rfl,hn3,hp3,hg3⟩
 obtain ⟨c,rfl,hx3⟩:=ExN.of hn3
 have hok:=hx3.ok
 have HP3:=Lh hp3
 have HG3:=Lh (Za HG2.out hg3)
 have HR3:=Lh (HR2.out.grown hg3 (Nat.ne_of_gt HR.out))
 have HLT3:Hid (w.heap.size < w2.heap.size):=Lh HR2.out.lt
 have HC4:=Lh (Zj7 4 hx3 hg3.size)
 clear hn3 hp3 hg3 hx3 HC
 go_wp2_with fail
 refine HC4.out.mono ?_
 rintro e4 w4 ⟨d,rfl,hk4,hx4,hbel4⟩
 have HP4:=Lh (HP3.out.later hbel4)
 have HG4:=Lh (Za HG3.out (below_grown hbel4))
 have HR4:=Lh (HR3.out.later hbel4)
 have hb4:=HR4.out.b (n:=8) rfl
 have HX4:=Lh hx4
 clear hx4 hbel4 hok HC4
 go_wp2_with fail
 exact bodyPost_ret (v:=.agg d) (Zq Tryz.results87 Zz Zaq _ _ w.heap.size _ d rfl (HR4.out.set d) HX4.out.size) rfl ⟨_,rfl,by rw [HZ2.out];exact Zgg HX4.out HLT3.out (Nat.le_of_lt HLT3.out) d,by rw [HZ2.out];exact HP4.out.other (Zi _ _ d) HR.out,Zn HG4.out (Nat.le_refl _) d⟩
end
end Go.Proofs.YtmdogmpcmkfjpaaGreatDoor.Dt
namespace Go.Proofs.YtmdogmpcmkfjpaaGreatDoor.Dt
open Go.RowKit Go.Proofs.YtmdogmpcmkfjpaaGreatDoor.By
attribute [local go_sem ↓] Zbv Zcb Zd9 Zhd
attribute [local go_sem] Zc6 Zbx Zc7 Zfg Value.oneCell' Zfq Zi6 Zhv Zq3
section
variable {w0:World} {r:Nat} {tv:Value} {L:List Tk} {en:Int} {s:PS}
theorem Znk {S:Nat→Prop} {w:World} (v:V):ExD S w #[.int .u8 1,.int .u8 (v.k:Int),.int .i64 v.n,.string v.s,eS,eS,iZ,nS] (PE.val1 v):=
 ⟨rfl,by simp [Value.oneCell'],fun u _=>Zby.2 ⟨_,rfl,SlR.nil _ _ _⟩⟩
theorem neg_wrap (n:Nat) (h:n ≤ 9223372036854775808):wrap64 (-(wrap64 (n:Int))) = -(n:Int):=by
 unfold wrap64
 omega
theorem unaryW (hall:Zbs L) (H1:∀ s',s.k < s'.k→EX w0 r tv L en .unary s') (H2:EX w0 r tv L en .prim s):EX w0 r tv L en .unary s:=by
 intro w h
 obtain ⟨Z,hZ⟩:∃ Z,Z=exF L en FU .unary s:=⟨_,rfl⟩
 rw [← hZ]
 rw [fu_unary h.hk h.hl] at hZ
 have hr0:=Zc w 48 exZ
 have hb:=(Below.refl _ w).alloc (Nat.le_refl _) (.cells exZ 48)
 have HR:=Lh h.lt
 have HB:=Lh hb
 have HR0:=Lh hr0
 have HI:=Lh (isW Zad _ (h.later hb))
 have HZ:=Lh hZ
 have HH1:=Lh H1
 have HH2:=Lh H2
 have HA:=Lh hall
 clear h H1 H2 hr0 hb hZ hall
 show Calls _ 145 #[pV r] _ _
 obtain ⟨B,hB⟩:∃ B,isB L en Zad s=B:=⟨_,rfl⟩
 rw [Z2,hB] at HI
 have HBN:=Lh hB
 clear hB
 go_enter Tryz.func145,Tryz.ntmps145
 go_upto_region 1 with fail
 generalize w.alloc (.cells exZ 48)=w1 at *
 cases B
 ·go_wp2_with fail
  refine HI.out.mono ?_
  rintro e2 w2 ⟨rfl,hp2,hg2⟩
  have hp2:PB w0 r tv L en s w2:=hp2
  have hc:=HH2.out w2 hp2
  have HG2:=Lh (Za (below_grown (r:=r) HB.out) hg2)
  have HR2:=Lh (HR0.out.grown hg2 (Nat.ne_of_gt HR.out))
  have HZ2:Hid (Z=exF L en FU .prim s):=Lh (by rw [HZ.out,isN HBN.out,if_neg bF])
  have HC:Hid (Calls Tryz.prog 160 #[pV r] w2 _):=Lh hc
  clear hp2 hg2 hc HI
  go_wp2_with fail
  refine HC.out.mono ?_
  rintro e3 w3 ⟨v,rfl,hn3,hp3,hg3⟩
  obtain ⟨c,rfl,hx3⟩:=ExN.of hn3
  have hok:=hx3.ok
  have HP3:=Lh hp3
  have HX3:=Lh hx3
  have HG3:=Lh (Za HG2.out hg3)
  have HR3:=Lh (HR2.out.grown hg3 (Nat.ne_of_gt HR.out))
  have HLT3:Hid (w.heap.size < w2.heap.size):=Lh HR2.out.lt
  have hb3:=HR3.out.b (n:=8) rfl
  clear hn3 hp3 hg3 hx3 HC
  go_wp2_with fail
  exact bodyPost_ret (v:=.agg c) (Zq Tryz.results145 Zz Zaq _ _ w.heap.size _ c rfl (HR3.out.set c) HX3.out.size) rfl ⟨_,rfl,by rw [HZ2.out];exact Zgg HX3.out HLT3.out (Nat.le_of_lt HLT3.out) c,by rw [HZ2.out];exact HP3.out.other (Zi _ _ c) HR.out,Zn HG3.out (Nat.le_refl _) c⟩
 go_wp2_with fail
 refine HI.out.mono ?_
 rintro e2 w2 ⟨rfl,hp2,hg2⟩
 have hp2:PB w0 r tv L en s.next w2:=hp2
 have HT:=Lh (Zk9 w2 hp2)
 have HP2:=Lh hp2
 have HG2:=Lh (Za (below_grown (r:=r) HB.out) hg2)
 have HR2:=Lh (HR0.out.grown hg2 (Nat.ne_of_gt HR.out))
 have HZ2:Hid (Z=(bnd (negM L en) fun n=>match n with
  | some n=>ret (PE.val1 ⟨1,-(n:Int),⟨#[]⟩⟩)
  | none=>bnd (exF L en FU .unary) fun x=>ret (PE.node 3 [x])) s.next):=Lh (by rw [HZ.out,isY HBN.out,if_pos rfl];rfl)
 have HLT9:Hid (s.k < s.next.k):=Lh (Nat.lt_succ_self _)
 generalize s.next=s9 at *
 have hnn:(Zag L en s9.k).k=3→s9.k < L.length∧(Zag L en s9.k).n ≤ 9223372036854775808∧negM L en s9=(some (Zag L en s9.k).n,s9.next):=fun e=>by
  refine ⟨Zf8 (L:=L) (en:=en) (by rw [e];decide),(Zla HA.out (by rw [e];decide)).2,?_⟩
  unfold negM;rw [if_pos e]
 have hno:(Zag L en s9.k).k ≠ 3→negM L en s9=(none,s9):=fun e=>by unfold negM;rw [if_neg e]
 have HNN:=Lh hnn
 have HNO:=Lh hno
 clear hnn hno
 generalize Zag L en s9.k=T at *
 clear hp2 hg2 HI
 go_wp2_with fail
 refine HT.out.mono ?_
 rintro e3 w3 ⟨rfl,hb3⟩
 have hb4:=next hb3 ((Below.refl _ w3).alloc (Nat.le_refl _) (.cells (tkC T) 128))
 have HP4:=Lh (HP2.out.later hb4)
 have hR:=Zc w3 128 (tkC T)
 have HG4:=Lh (Za HG2.out (below_grown hb4))
 have HR4:=Lh (HR2.out.later hb4)
 have q0:=hR.cell (i:=0) (v:=.int .u8 (T.k:Int)) rfl
 have HRT:=Lh hR
 have HNR:=Lh (Nat.ne_of_gt (HP2.out.later hb3).lt)
 have HSZ3:=Lh hb3.size
 clear hR hb3 hb4 HT
 go_upto_region 4 with fail
 generalize w3.alloc (.cells (tkC T) 128)=w4 at *
 generalize w3.heap.size=b at *
 by_cases h3:T.k=3
 ·have e3:((T.k:Int) == 3)=true:=by simp [h3]
  obtain ⟨hlt,hn,hneg⟩:=HNN.out h3
  have HZ3:Hid (Z=(PE.val1 ⟨1,-(T.n:Int),⟨#[]⟩⟩,s9.next)):=Lh (by rw [HZ2.out,Za1 hneg];rfl)
  have HN5:=Lh (HP4.out.next hlt)
  have HG5:=Lh (Za HG4.out (Z3 w4 r 1 (.int .i64 ((s9.k:Int) + 1))))
  have HR5:=Lh (HR4.out.grown (Z3 w4 r 1 (.int .i64 ((s9.k:Int) + 1))) (Nat.ne_of_gt HR.out))
  have hq2:=(HRT.out.grown (Z3 w4 r 1 (.int .i64 ((s9.k:Int) + 1))) HNR.out).cell (i:=2) (v:=.int .u64 (T.n:Int)) rfl
  have HQ2:=Lh hq2
  have j1:(0:Int) ≤ (s9.k:Int):=kW
  have j2:(s9.k:Int) ≤ 4096:=by have:=HP4.out.hk;have:=HP4.out.hl;omega
  have HW:=Lh (neg_wrap T.n hn)
  obtain ⟨c0,c1,c2,c3,c4,f1,f3,f4,_,_,_,_,_⟩:=HP4.out
  clear h3 hlt hn hneg hq2
  go_upto_region 6 with fail
  clear c0 c1 c2 c3 c4 f1 f3 f4
  generalize w4.setCell ⟨r,1,none⟩ (.int .i64 ((s9.k:Int) + 1))=w5 at *
  have q2:=HQ2.out
  have hb5:=HR5.out.b (n:=8) rfl
  have hw:=HW.out
  go_wp2_with fail
  exact bodyPost_ret (v:=.agg #[.int .u8 1,.int .u8 1,.int .i64 (-(T.n:Int)),eS,eS,eS,iZ,nS]) (Zq Tryz.results145 Zz Zaq _ _ w.heap.size _ _ rfl (HR5.out.set _) rfl) rfl
   ⟨_,rfl,by rw [HZ3.out];exact (Znk ⟨1,-(T.n:Int),⟨#[]⟩⟩).v,by rw [HZ3.out];exact HN5.out.other (Zi _ _ _) HR.out,Zn HG5.out (Nat.le_refl _) _⟩
 have e3:((T.k:Int) == 3)=false:=kQ
 have hc:=HH1.out s9 HLT9.out w4 HP4.out
 obtain ⟨⟨x,s1⟩,hx⟩:∃ z,exF L en FU .unary s9=z:=⟨_,rfl⟩
 rw [hx] at hc
 have HC:Hid (Calls Tryz.prog 145 #[pV r] w4 _):=Lh hc
 have HZ3:Hid (Z=(PE.node 3 [x],s1)):=Lh (by rw [HZ2.out,Za1 (HNO.out h3)];show bnd _ _ s9=_;rw [Za1 hx];rfl)
 clear h3 hc hx
 go_wp2_with fail
 refine HC.out.mono ?_
 rintro e5 w5 ⟨v,rfl,hn5,hp5,hg5⟩
 obtain ⟨c,rfl,hx5⟩:=ExN.of hn5
 have hok:=hx5.ok
 have HP5:=Lh hp5
 have HG5:=Lh (Za HG4.out hg5)
 have HR5:=Lh (HR4.out.grown hg5 (Nat.ne_of_gt HR.out))
 have HLT5:Hid (w.heap.size < w4.heap.size):=Lh HR4.out.lt
 have HC6:=Lh (Zj7 3 hx5 hg5.size)
 clear hn5 hp5 hg5 hx5 HC q0
 go_wp2_with fail
 refine HC6.out.mono ?_
 rintro e6 w6 ⟨d,rfl,hk6,hx6,hbel6⟩
 have HP6:=Lh (HP5.out.later hbel6)
 have HG6:=Lh (Za HG5.out (below_grown hbel6))
 have HR6:=Lh (HR5.out.later hbel6)
 have hb6:=HR6.out.b (n:=8) rfl
 have HX6:=Lh hx6
 clear hx6 hbel6 hok HC6
 go_wp2_with fail
 exact bodyPost_ret (v:=.agg d) (Zq Tryz.results145 Zz Zaq _ _ w.heap.size _ d rfl (HR6.out.set d) HX6.out.size) rfl ⟨_,rfl,by rw [HZ3.out];exact Zgg HX6.out HLT5.out (Nat.le_of_lt HLT5.out) d,by rw [HZ3.out];exact HP6.out.other (Zi _ _ d) HR.out,Zn HG6.out (Nat.le_refl _) d⟩
theorem Zun (q:Nat) (v:V) (w:World) (hq:w.cell? ⟨q,0,none⟩=some (pV r)) (h:PB w0 r tv L en s w) (hlt:s.k < L.length):Calls Tryz.prog 191 #[.agg #[.int .u8 (v.k:Int),.int .i64 v.n,.string v.s],pV q] w fun e w'=>
 e = .returned (.agg #[.int .u8 1,.int .u8 (v.k:Int),.int .i64 v.n,.string v.s,eS,eS,iZ,nS])∧PB w0 r tv L en s.next w'∧w.grownBy w' (some r):=by
 have hr:=h.lt
 have hb:Below w.heap.size w ((w.alloc (.cells #[.int .u8 (v.k:Int),.int .i64 v.n,.string v.s] 46)).alloc (.cells exZ 48)):=by go_grown
 have hr0:Row w.heap.size 46 #[.int .u8 (v.k:Int),.int .i64 v.n,.string v.s] ((w.alloc (.cells #[.int .u8 (v.k:Int),.int .i64 v.n,.string v.s] 46)).alloc (.cells exZ 48)):=(Zc _ _ _).later (bA)
 have hr1:Row (w.heap.size + 1) 48 exZ ((w.alloc (.cells #[.int .u8 (v.k:Int),.int .i64 v.n,.string v.s] 46)).alloc (.cells exZ 48)):=by
  have:=Zc (w.alloc (.cells #[.int .u8 (v.k:Int),.int .i64 v.n,.string v.s] 46)) 48 exZ
  simpa using this
 have hq2:=(hb.cell (Zd hq)).trans hq
 have HP:=Lh (h.later hb)
 have HB:=Lh hb
 have HR0:=Lh hr0
 have HR1:=Lh hr1
 have HR:=Lh hr
 have HLT:=Lh hlt
 have j1:(0:Int) ≤ (s.k:Int):=kW
 have j2:(s.k:Int) ≤ 4096:=by have:=h.hk;have:=h.hl;omega
 clear hq hb hr0 hr1 hr h hlt
 go_enter Tryz.func191,Tryz.ntmps191
 go_upto_region 1 with fail
 generalize (w.alloc (.cells #[.int .u8 (v.k:Int),.int .i64 v.n,.string v.s] 46)).alloc (.cells exZ 48)=w1 at *
 have HN5:=Lh (HP.out.next HLT.out)
 have HG5:=Lh (Za (below_grown (r:=r) HB.out) (Z3 w1 r 1 (.int .i64 ((s.k:Int) + 1))))
 have HR5:=Lh (HR1.out.grown (Z3 w1 r 1 (.int .i64 ((s.k:Int) + 1))) Zs5)
 have hr5:=HR0.out.grown (Z3 w1 r 1 (.int .i64 ((s.k:Int) + 1))) (Nat.ne_of_gt HR.out)
 have v0:=hr5.cell (i:=0) (v:=.int .u8 (v.k:Int)) rfl
 have v1:=hr5.cell (i:=1) (v:=.int .i64 v.n) rfl
 have v2:=hr5.cell (i:=2) (v:=.string v.s) rfl
 have HV0:=Lh v0
 have HV1:=Lh v1
 have HV2:=Lh v2
 obtain ⟨c0,c1,c2,c3,c4,f1,f3,f4,_,_,_,_,_⟩:=HP.out
 clear hr5 v0 v1 v2
 go_upto_region 2 with fail
 clear c0 c1 c2 c3 c4 f1 f3 f4 hq2
 generalize w1.setCell ⟨r,1,none⟩ (.int .i64 ((s.k:Int) + 1))=w5 at *
 have v0:=HV0.out
 have v1:=HV1.out
 have v2:=HV2.out
 have hb5:=HR5.out.b (n:=8) rfl
 go_wp2_with fail
 exact bodyPost_ret (v:=.agg #[.int .u8 1,.int .u8 (v.k:Int),.int .i64 v.n,.string v.s,eS,eS,iZ,nS]) (Zq Tryz.results191 Zz Zaq _ _ (w.heap.size + 1) _ _ rfl (HR5.out.set _) rfl) rfl
  ⟨rfl,HN5.out.other (Zi _ _ _) Zs5,Zn HG5.out kW _⟩
end
end Go.Proofs.YtmdogmpcmkfjpaaGreatDoor.Dt
