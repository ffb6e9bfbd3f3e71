import Derived.Deep.DeepCutAuto
import Derived.WalkMore
import Derived.Deep.LoopGhost
import Derived.Test.YtmdogmpcmkfjpaaGreatDoorBn20
/- Part of the proof (merged). -/
namespace Go.Proofs.YtmdogmpcmkfjpaaGreatDoor.Dt
open Go.RowKit Go.Proofs.YtmdogmpcmkfjpaaGreatDoor.By
theorem exD_node {S:Nat→Prop} {w:World} {kv:Value} {op:Nat} {kids:List PE} (h:Dep S w fun u=>ExsR u kv kids):ExD S w #[.int .u8 (op:Int),.int .u8 0,.int .i64 0,.string ⟨#[]⟩,.string ⟨#[]⟩,.string ⟨#[]⟩,.int .i64 0,kv] (PE.node op kids):=by
 obtain ⟨a,c,rfl,_⟩:=h.here.shape
 exact ⟨rfl,by simp [Value.oneCell'],h.imp fun u hu=>exR_iff.2 ⟨_,rfl,hu⟩⟩
theorem veilBs_ex (n:Nat) (ps:Array (Nat × Value)):Instr.buildSlice 28 n ps=veilBs 28 n ps:=rfl
attribute [local go_sem ↓] veilSt_ex veilLd_ex veilBs_ex
attribute [local go_sem] run_exSt run_exNew run_exLd okRow8 Value.oneCell'
section
variable {w0:World} {r:Nat} {tv:Value} {L:List Tk} {en:Int}
structure CS (w0:World) (r:Nat) (tv:Value) (L:List Tk) (en:Int) (w:World) (g:Nat) (sv ov:Value) (s:PS) (x:PE) (c:Array Value) (W:World):Prop where
 pb:PB w0 r tv L en s W
 row:Row g 48 c W
 ex:ExD (fun b=>w.heap.size + 2 ≤ b∧b ≠ g) W c x
 gr:w.grownBy W (some r)
 lv:Row w.heap.size 142 #[sv,ov] W
 rs:Row (w.heap.size + 1) 48 exZ W
 hg:w.heap.size + 2 ≤ g
 hr:r < w.heap.size
theorem CS.grown {w W W':World} {g:Nat} {sv ov:Value} {s s':PS} {x:PE} {c:Array Value} (h:CS w0 r tv L en w g sv ov s x c W) (k:W.grownBy W' (some r)) (hp:PB w0 r tv L en s' W') :
 CS w0 r tv L en w g sv ov s' x c W':=by
 have h2:=h.hg
 have h3:=h.hr
 exact ⟨hp,h.row.grown k (by omega),h.ex.grown k (by omega),grown_trans h.gr k,h.lv.grown k (by omega),h.rs.grown k (by omega),h2,h3⟩
def ChKn (q:Nat) (ov:Value) (i:Nat) (b2 q2:Nat) (o:Nat) (c:Array Value) (fv:Value) (S:Nat→Prop) (x y:PE) (j:Nat) (v:Value) (W:World):Prop:=match j with
 | 0=>v = .pointer (some ⟨q,1,none⟩)
 | 1=>v=ov
 | 2=>v = .int .i64 (i:Int)
 | 3=>v = .pointer (some ⟨b2,q2 + i,none⟩)
 | 4=>v = .int .u8 (o:Int)
 | 5=>v = .agg c
 | 6=>v=fv
 | 7=>∃ d,v = .agg d∧ExD S W d y
 | 8=>∃ g2,v = .slice (some ⟨g2,0,none⟩) 2 2∧Dep S W fun u=>ExsR u v [x,y]
 | _=>∃ d,v = .agg d∧ExD S W d (.node o [x,y])
theorem ChKn.later {q:Nat} {ov:Value} {i b2 q2 o:Nat} {c:Array Value} {fv:Value} {S:Nat→Prop} {x y:PE} (hS:¬ S r) (w0:World) (j:Nat) (v:Value) (w1 w2:World) (h:ChKn q ov i b2 q2 o c fv S x y j v w1) (_:w0.grownBy w1 (some r)) (g:w1.grownBy w2 (some r)):ChKn q ov i b2 q2 o c fv S x y j v w2:=by
 match j,h with
 | 0,h=>exact h
 | 1,h=>exact h
 | 2,h=>exact h
 | 3,h=>exact h
 | 4,h=>exact h
 | 5,h=>exact h
 | 6,h=>exact h
 | 7,⟨d,e,h⟩=>exact ⟨d,e,h.grown g hS⟩
 | 8,⟨d,e,h⟩=>exact ⟨d,e,h.step g.size fun b h1 h2=>⟨h1,g.block b h2 (fun e=>by cases e;exact hS h1)⟩⟩
 | _ + 9,⟨d,e,h⟩=>exact ⟨d,e,h.grown g hS⟩
set_option maxRecDepth 100000 in
set_option maxHeartbeats 16000000 in
theorem chainNot (ops:List (ByteArray × Nat)) (hol:ops.length ≤ 1000) (sv ov:Value) {one:Rd PE} (hmono:∀ s:PS,s.k ≤ (one s).2.k) (w:World) (k0:Nat) (hone:PRun w0 r tv L en w k0 87 #[.pointer (some ⟨r,0,none⟩)] one ExV)
 (hsg:∀ w',w.grownBy w' (some r)→SsAt w' sv (ops.map (·.1))) (hos:∀ w',w.grownBy w' (some r)→U8sAt w' ov (ops.map (·.2)))
 (s:PS) (hk0:k0 ≤ s.k) (h:PB w0 r tv L en s w):Calls Tryz.prog 85 #[.pointer (some ⟨r,0,none⟩),.agg #[sv,ov],.func (.func 87) #[.pointer (some ⟨r,0,none⟩)] #[]] w fun e w'=>
 ∃ v,e = .returned v∧New w.heap.size w' (fun u=>ExV u v (chainL L en ops one FU s).1)∧PB w0 r tv L en (chainL L en ops one FU s).2 w'∧w.grownBy w' (some r):=by
 obtain ⟨sa,sc,rfl⟩:=(hsg w (World.grownBy.refl _ _)).shape
 obtain ⟨oa,oc,rfl⟩:=(hos w (World.grownBy.refl _ _)).shape
 rw [List.length_map] at *
 obtain ⟨Z,hZ⟩:∃ Z,Z=chainL L en ops one FU s:=⟨_,rfl⟩
 rw [← hZ]
 obtain ⟨⟨x0,s1⟩,h1⟩:∃ q,one s=q:=⟨_,rfl⟩
 have HZ:Hid (Z=chainM L en ops one FU x0 s1):=Lib.hid (by rw [hZ];show bnd one _ s=_;rw [bndE h1])
 have HLT:Hid (r < w.heap.size):=Lib.hid h.lt
 have HL:Hid (L.length ≤ 4096):=Lib.hid h.hl
 have HM:=Lib.hid hmono
 have HK1:Hid (k0 ≤ s1.k):=Lib.hid (by have:=hmono s;rw [h1] at this;exact Nat.le_trans hk0 this)
 have hbA:Below w.heap.size w ((w.alloc (.cells #[.slice sa ops.length sc,.slice oa ops.length oc] 142)).alloc (.cells exZ 48)):=((Below.refl _ _).alloc (Nat.le_refl _) _).alloc (by simp) _
 have HR0:=Lib.hid ((row_alloc w 142 #[.slice sa ops.length sc,.slice oa ops.length oc]).later ((Below.refl _ _).alloc (Nat.le_refl _) (.cells exZ 48)))
 have HR1:=Lib.hid (row_alloc (w.alloc (.cells #[.slice sa ops.length sc,.slice oa ops.length oc] 142)) 48 exZ)
 have HSZ:Hid (((w.alloc (.cells #[.slice sa ops.length sc,.slice oa ops.length oc] 142)).alloc (.cells exZ 48)).heap.size=w.heap.size + 2):=Lib.hid (by simp)
 have HS1:Hid ((w.alloc (.cells #[.slice sa ops.length sc,.slice oa ops.length oc] 142)).heap.size=w.heap.size + 1):=Lib.hid (by simp)
 rw [HS1.out] at HR1
 have HONE:=Lib.hid hone
 have HP0:=Lib.hid (h.later hbA)
 have HG0:=Lib.hid (below_grown (r:=r) hbA)
 have HK0:=Lib.hid hk0
 have HSG:=Lib.hid hsg
 have HOS:=Lib.hid hos
 have HOL:=Lib.hid hol
 have H1:=Lib.hid h1
 clear h hone hmono hk0 hZ h1 hbA hsg hos HS1 hol
 go_enter Tryz.func85,Tryz.ntmps85
 go_wp2_with fail
 go_step3
 go_upto_region 1 with fail
 generalize (w.alloc (.cells #[.slice sa ops.length sc,.slice oa ops.length oc] 142)).alloc (.cells exZ 48)=w1 at *
 have HC1:=Lib.hid (HONE.out s w1 HK0.out HG0.out HP0.out)
 rw [H1.out] at HC1
 go_wp2_with fail
 refine HC1.out.mono ?_
 rintro e2 w2 ⟨xv,rfl,hn2,hp2,hg2⟩
 obtain ⟨c0,rfl,hx2⟩:=ExN.of hn2
 have hok:=hx2.ok
 have hb3:=(Below.refl _ w2).alloc (Nat.le_refl _) (.cells c0 48)
 have HC3:Hid (CS w0 r tv L en w w2.heap.size (.slice sa ops.length sc) (.slice oa ops.length oc) s1 x0 c0 (w2.alloc (.cells c0 48))):=Lib.hid (by
  have hz:=HSZ.out
  have hz2:=hg2.size
  refine ⟨PB.later hp2 hb3,row_alloc _ _ _,(hx2.step (Nat.le_refl _) (fun b hb hlt=>⟨⟨by omega,by omega⟩,rfl⟩)).later hb3,grown_trans (grown_trans HG0.out hg2) (below_grown hb3),((HR0.out.grown hg2 (Nat.ne_of_gt HLT.out)).later hb3),((HR1.out.grown hg2 (by have:=HLT.out;omega)).later hb3),by omega,HLT.out⟩)
 have HK0':=hok
 clear hn2 hp2 hg2 hx2 hb3 HP0 HG0 HR0 HR1 HC1
 go_wp2_with fail
 go_step3
 generalize w2.alloc (.cells c0 48)=w3 at *
 generalize w2.heap.size=g at *
 clear hok HK0'
 go_wp2_with fail
 go_loopg [] (L.length + 1 - s1.k) (fun gk wr=>∃ (x:PE) (c:Array Value) (sj:PS) (f:Nat),gk=L.length + 1 - sj.k∧Hid (CS w0 r tv L en w g (.slice sa ops.length sc) (.slice oa ops.length oc) sj x c wr) ∧
  Hid (Z=chainM L en ops one f x sj)∧Hid (L.length - sj.k < f)∧Hid (k0 ≤ sj.k))
 case atStart=>exact ⟨x0,c0,s1,FU,rfl,HC3,HZ,Lib.hid (by have:=HL.out;show _ < 100000;omega),HK1⟩
 case round=>
  obtain ⟨x,c,sj,f,rfl,HC,HR,HF,HKJ⟩:=hrel
  obtain ⟨f',rfl⟩:∃ f',f=f' + 1:=⟨f - 1,by have:=HF.out;omega⟩
  have HO:=Lib.hid (okP wr HC.out.pb)
  by_cases h0:sj.e=0
  ·have d0:decide (sj.e=0)=true:=decide_eq_true h0
   rw [d0] at HO
   have H0:=Lib.hid h0
   clear d0 h0
   have v0:=HC.out.lv.cell (i:=0) (v:=.slice sa ops.length sc) rfl
   go_wp2_with fail
   refine HO.out.mono ?_
   rintro e3 w4 ⟨rfl,rfl⟩
   obtain ⟨wo,rfl⟩:∃ wo:World,wo=wr:=⟨_,rfl⟩
   go_wp2_with fail
   clear v0
   go_loopg [17] ops.length (fun gi iv wi=>∃ (i:Nat),iv = .int .i64 (i:Int)∧gi=ops.length - i∧i ≤ ops.length∧Hid (CS w0 r tv L en w g (.slice sa ops.length sc) (.slice oa ops.length oc) sj x c wi)∧Hid (oneOf L en ops sj=oneOf L en (ops.drop i) sj))
   case atStart=>exact ⟨0,rfl,rfl,Nat.zero_le _,HC,Lib.hid rfl⟩
   case round=>
    obtain ⟨i,rfl,rfl,hi,HCI,HOI⟩:=hrel
    by_cases hlt:i < ops.length
    ·obtain ⟨⟨t,o⟩,ht⟩:∃ q,ops[i]? = some q:=⟨ops[i],by simp⟩
     have hd:ops.drop i=(t,o) :: ops.drop (i + 1):=by
      rw [List.drop_eq_getElem_cons hlt,(List.getElem?_eq_some_iff.1 ht).2]
     have HOI2:Hid (oneOf L en ops sj=oneOf L en ((t,o) :: ops.drop (i + 1)) sj):=Lib.hid (by rw [← hd];exact HOI.out)
     obtain ⟨b,q,rfl,hc⟩:=at1 (HSG.out wr HCI.out.gr) (k:=i) (y:=t) (by simp [ht])
     obtain ⟨b2,q2,e2,hc2⟩:∃ b2 q2,oa=some ⟨b2,q2,none⟩∧∀ W,w.grownBy W (some r)→W.cell? ⟨b2,q2 + i,none⟩=some (.int .u8 (o:Int)):=by
      obtain ⟨a',c',e,_,hh⟩:=HOS.out w (World.grownBy.refl _ _)
      simp only [Value.slice.injEq] at e
      obtain ⟨rfl,_,_⟩:=e
      obtain ⟨b2,q2,rfl,_⟩:=hh i o (by simp [ht])
      refine ⟨b2,q2,rfl,fun W hW=>?_⟩
      obtain ⟨a',c',e,_,hh⟩:=HOS.out W hW
      simp only [Value.slice.injEq] at e
      obtain ⟨rfl,_,_⟩:=e
      obtain ⟨b3,q3,e3,hq⟩:=hh i o (by simp [ht])
      cases e3
      have:=hq 0 _ rfl
      simpa using this
     subst e2
     have HC2:=Lib.hid hc2
     have HI:=Lib.hid (isW t wr HCI.out.pb)
     have ilt:(i:Int) < (ops.length:Int):=by omega
     have ile:(i:Int) ≤ 1000:=by have:=HOL.out;omega
     have HLTI:=Lib.hid hlt
     clear hd ht hc2 hlt
     obtain ⟨B,hB⟩:∃ B,isB L en t sj=B:=⟨_,rfl⟩
     rw [isM_snd,hB] at HI
     have HB:=Lib.hid hB
     clear hB
     cases B
     ·have HNO:Hid (oneOf L en ops sj=oneOf L en (ops.drop (i + 1)) sj):=Lib.hid (by rw [HOI2.out,oneOf_no HB.out])
      go_wp2_with fail
      refine HI.out.mono ?_
      rintro e5 w5 ⟨rfl,hp5,hg5⟩
      have HC5:=Lib.hid (HCI.out.grown hg5 hp5)
      clear hp5 hg5 hc
      go_wp2_with fail
      go_roundg (ops.length - (i + 1))
      case measure=>exact Nat.sub_lt_sub_left HLTI.out (Nat.lt_succ_self _)
      case rel=>exact ⟨i + 1,by go_num,rfl,HLTI.out,HC5,HNO⟩
     ·go_wp2_with fail
      refine HI.out.mono ?_
      rintro e5 w5 ⟨rfl,hp5,hg5⟩
      have HC5:=Lib.hid (HCI.out.grown hg5 hp5)
      clear hp5 hg5 hc
      go_upto_region 7 with fail
      obtain ⟨⟨y,s2⟩,hy⟩:∃ z,one sj.next=z:=⟨_,rfl⟩
      have HY:=Lib.hid hy
      have HMY:Hid (sj.k + 1 ≤ s2.k):=Lib.hid (by have:=HM.out sj.next;rw [hy] at this;exact this)
      have HLTJ:=Lib.hid (isM_lt (L:=L) (en:=en) (t:=t) (s:=sj) HB.out).2
      clear hy
      have hgw:=HC5.out.gr
      have hSr:¬ (w.heap.size + 2 ≤ r∧r ≠ g):=by have:=HLT.out;omega
      refine wp_region_kig 10 r (ChKn w.heap.size (.slice (some ⟨b2,q2,none⟩) ops.length oc) i b2 q2 o c (.func (.func 87) #[.pointer (some ⟨r,0,none⟩)] #[]) (fun b=>w.heap.size + 2 ≤ b∧b ≠ g) x y) (fun dn W=>PB w0 r tv L en (if dn 7 then s2 else sj.next) W) 37 rfl (by kernel_rfl) (by kernel_rfl) (ChKn.later hSr w5) ?_ ?_ ?_ ?_
      ·intro dn dn' W hdd hst
       rw [← hdd 7 (by decide)]
       exact hst
      ·exact HC5.out.pb.later (Below.drew (Below.refl _ _))
      ·intro j hj dn A W hother hgW hst hdj hd
       match j,hj with
       | 0,hj=>
        have h0:=tmps_at (show A.eval (.tmp 4) = .pointer (some ⟨w.heap.size,0,none⟩) from hother 4 (by kernel_rfl))
        clear hother hd hj
        exact kig_same rfl rfl (.pointer (some ⟨w.heap.size,1,none⟩)) (by simp only [execOp];go_simp) rfl hst
       | 1,hj=>
        have h0:=tmps_at ((hd _ rfl ⟨0,.data⟩ (by simp) rfl).2.eq (.pointer (some ⟨w.heap.size,1,none⟩)) (fun _ h=>h) 25 (by kernel_rfl) (by decide))
        have hc:=((HC5.out.lv.grown hgW (Nat.ne_of_gt HLT.out)).cell (i:=1) (v:=.slice (some ⟨b2,q2,none⟩) ops.length oc) rfl)
        clear hother hd hj
        exact kig_same rfl rfl (.slice (some ⟨b2,q2,none⟩) ops.length oc) (by simp only [execOp];go_simp) rfl hst
       | 2,hj=>
        have h0:=tmps_at (show A.eval (.tmp 8) = .int .i64 (i:Int) from hother 8 (by kernel_rfl))
        clear hother hd hj
        exact kig_same rfl rfl (.int .i64 (i:Int)) (by simp only [execOp];go_simp) rfl hst
       | 3,hj=>
        have h0:=tmps_at ((hd _ rfl ⟨1,.data⟩ (by simp) rfl).2.eq (.slice (some ⟨b2,q2,none⟩) ops.length oc) (fun _ h=>h) 26 (by kernel_rfl) (by decide))
        have h1:=tmps_at ((hd _ rfl ⟨2,.data⟩ (by simp) rfl).2.eq (.int .i64 (i:Int)) (fun _ h=>h) 27 (by kernel_rfl) (by decide))
        have i0:(0:Int) ≤ (i:Int):=by omega
        clear hother hd hj
        exact kig_same rfl rfl (.pointer (some ⟨b2,q2 + i,none⟩)) (by simp only [execOp];go_simp) rfl hst
       | 4,hj=>
        have h0:=tmps_at ((hd _ rfl ⟨3,.data⟩ (by simp) rfl).2.eq (.pointer (some ⟨b2,q2 + i,none⟩)) (fun _ h=>h) 28 (by kernel_rfl) (by decide))
        have hc:=HC2.out W (grown_trans hgw hgW)
        clear hother hd hj
        exact kig_same rfl rfl (.int .u8 (o:Int)) (by simp only [execOp];go_simp) rfl hst
       | 5,hj=>
        have h0:=tmps_at (show A.eval (.tmp 7) = .pointer (some ⟨g,0,none⟩) from hother 7 (by kernel_rfl))
        have hr5:=HC5.out.row.grown hgW (by have:=HC5.out.hg;have:=HLT.out;omega)
        have hb5:=hr5.b (n:=8) HC5.out.ex.size
        have ho5:=hr5.of
        clear hother hd hj hr5
        exact kig_same rfl rfl (.agg c) (by simp only [execOp];go_simp) rfl hst
       | 6,hj=>
        have h0:=tmps_at (show A.eval (.tmp 2) = .func (.func 87) #[.pointer (some ⟨r,0,none⟩)] #[] from hother 2 (by kernel_rfl))
        clear hother hd hj
        exact kig_same rfl rfl (.func (.func 87) #[.pointer (some ⟨r,0,none⟩)] #[]) (by simp only [execOp];go_simp) rfl hst
       | 7,hj=>
        have h0:=tmps_at ((hd _ rfl ⟨6,.data⟩ (by simp) rfl).2.eq (.func (.func 87) #[.pointer (some ⟨r,0,none⟩)] #[]) (fun _ h=>h) 31 (by kernel_rfl) (by decide))
        have hst7:PB w0 r tv L en sj.next W:=by have h:=hst;simp only [hdj] at h;exact h
        have hcall:=HONE.out sj.next W (by have:=HKJ.out;show k0 ≤ sj.k + 1;omega) (grown_trans hgw hgW) hst7
        rw [HY.out] at hcall
        clear hother hd hj
        refine kig_call rfl rfl 87 #[.pointer (some ⟨r,0,none⟩)] (by simp only [execOp];go_simp) (hcall.mono ?_)
        rintro e7 w7 ⟨v7,rfl,hn7,hp7,hg7⟩
        obtain ⟨d,rfl,hx7⟩:=ExN.of hn7
        refine ⟨_,rfl,hg7,⟨d,rfl,hx7.step (Nat.le_refl _) (fun b hb hlt=>⟨⟨?_,?_⟩,rfl⟩)⟩,hp7⟩
        ·have h1:=(grown_trans hgw hgW).size;have h2:=HC5.out.hg;have h3:=HC5.out.row.lt;have h4:=hgW.size;omega
        ·have h3:=HC5.out.row.lt;have h4:=hgW.size;omega
       | 8,hj=>
        obtain ⟨v7,⟨d,e7,hx7⟩,h7⟩:=(hd _ rfl ⟨7,.data⟩ (by simp) rfl).2.get 32 (by kernel_rfl) (by decide)
        rw [e7] at h7
        have h0:=tmps_at h7
        have h1:=tmps_at ((hd _ rfl ⟨5,.data⟩ (by simp) rfl).2.eq (.agg c) (fun _ h=>h) 30 (by kernel_rfl) (by decide))
        have hbs:(veilBs 28 2 #[(0,.agg c),(1,.agg d)]).run Tryz.prog W = .ok (.slice (some ⟨W.heap.size,0,none⟩) 2 2) (W.alloc (.cells (c ++ d) 48)):=run_bs2 W c d HC5.out.ex.size hx7.size
        have hbw:=(Below.refl _ W).alloc (Nat.le_refl _) (.cells (c ++ d) 48)
        have hsz:w.heap.size + 2 ≤ W.heap.size∧W.heap.size ≠ g:=by have h3:=HC5.out.row.lt;have h4:=hgW.size;have h2:=HC5.out.hg;omega
        have hkids:=exs_row2 (S:=fun b=>w.heap.size + 2 ≤ b∧b ≠ g) (row_alloc W 48 (c ++ d)) hsz ((HC5.out.ex.grown hgW hSr).later hbw) (hx7.later hbw)
        have hst8:=hst.later hbw
        clear hother hd hj hx7
        exact kig_val rfl rfl (.slice (some ⟨W.heap.size,0,none⟩) 2 2) (W.alloc (.cells (c ++ d) 48)) (by simp only [execOp];go_simp) (below_grown hbw) ⟨_,rfl,hkids⟩ hst8
       | 9,hj=>
        obtain ⟨v8,⟨g2,e8,hx8⟩,h8⟩:=(hd _ rfl ⟨8,.data⟩ (by simp) rfl).2.get 33 (by kernel_rfl) (by decide)
        subst e8
        have h0:=tmps_at h8
        have h1:=tmps_at ((hd _ rfl ⟨4,.data⟩ (by simp) rfl).2.eq (.int .u8 (o:Int)) (fun _ h=>h) 29 (by kernel_rfl) (by decide))
        clear hother hd hj
        refine kig_call rfl rfl 128 #[.int .u8 (o:Int),.slice (some ⟨g2,0,none⟩) 2 2] (by simp only [execOp];go_simp) ((nodeW o _ (some ⟨g2,0,none⟩) 2 2 rfl W).mono ?_)
        rintro e9 w9 ⟨rfl,hb9⟩
        exact ⟨_,rfl,below_grown hb9,⟨_,rfl,exD_node (hx8.step hb9.size fun b h1 h2=>⟨h1,hb9.block b h2⟩)⟩,hst.later hb9⟩
       | k + 10,hj=>omega
      ·intro us W hgW hst hk
       obtain ⟨d,e9,hx9⟩:=hk 9 (by decide)
       have hr9:=HC5.out.row.grown hgW (by have:=HC5.out.hg;have:=HLT.out;omega)
       have hb9:=hr9.b (n:=8) HC5.out.ex.size
       have hok9:=hx9.ok
       have HX9:=Lib.hid hx9
       have HPW:Hid (PB w0 r tv L en s2 W):=Lib.hid hst
       have HC9:Hid (CS w0 r tv L en w g (.slice (some ⟨b,q,none⟩) ops.length sc) (.slice (some ⟨b2,q2,none⟩) ops.length oc) s2 (.node o [x,y]) d (W.setRow g d)):=Lib.hid (by
        have hC:=HC5.out.grown hgW HPW.out
        have h2:=hC.hg
        have h3:=hC.hr
        exact ⟨hC.pb.other (grown_setRow W g d) (by omega),hC.row.set d,HX9.out.set (fun h=>h.2 rfl),grown_fill hC.gr (by omega) d,(setRow_other W g _ d (by omega)).trans hC.lv,(setRow_other W g _ d (by omega)).trans hC.rs,h2,h3⟩)
       clear hk hst hgW hr9 hx9 hgw
       simp only [List.drop_succ_cons,List.drop_zero,putAll,dstOf,Act.put,List.getElem?_toArray,List.getElem?_cons_zero,List.getElem?_cons_succ,Option.bind_some]
       simp only [List.setIfInBounds_toArray,List.set_cons_zero,List.set_cons_succ]
       rw [e9]
       go_wp2_with fail
       go_roundg (L.length + 1 - s2.k)
       case measure=>have h1:=HMY.out;have h2:=HLTJ.out;omega
       case rel=>
        refine ⟨.node o [x,y],d,s2,f',rfl,HC9,Lib.hid ?_,Lib.hid ?_,Lib.hid ?_⟩
        ·rw [HR.out,chain_more (o:=o) (by rw [HOI2.out,oneOf_yes HB.out]),HY.out]
        ·have h1:=HF.out;have h2:=HMY.out;have h3:=HLTJ.out;omega
        ·have h1:=HKJ.out;have h2:=HMY.out;omega
    ·obtain rfl:i=ops.length:=by omega
     have HZE:Hid (Z=(x,sj)):=Lib.hid (by rw [HR.out,chain_end (by rw [HOI.out,List.drop_length];rfl)])
     have HC8:=HCI
     clear hlt hi
     have hr:=HC8.out.row
     have hb:=hr.b (n:=8) HC8.out.ex.size
     have ho:=hr.of
     have hbr:=HC8.out.rs.b (n:=8) rfl
     have hok:=HC8.out.ex.ok
     clear hr
     go_wp2_with fail
     rw [Exit.noGoto_ret]
     refine bodyPost_ret (v:=.agg c) (res_row Tryz.results85 ex_struct ex_size _ _ (w.heap.size + 1) _ c rfl (HC8.out.rs.set c) HC8.out.ex.size) rfl ⟨_,rfl,?_,?_,?_⟩
     ·rw [HZE.out]
      exact (HC8.out.ex.step (S':=fun b=>w.heap.size ≤ b) (by simp) fun b hb _=>⟨by omega,setRow_other _ _ b c (by have:=HC8.out.hg;omega)⟩).v
     ·rw [HZE.out]
      exact HC8.out.pb.other (grown_setRow _ _ c) (by have:=HC8.out.hr;omega)
     ·exact grown_fill HC8.out.gr (by omega) c
  ·have d0:decide (sj.e=0)=false:=decide_eq_false h0
   rw [d0] at HO
   have HZE:Hid (Z=(x,sj)):=Lib.hid (by rw [HR.out,chain_end (oneOf_bad h0 ops)])
   have HC8:=HC
   clear d0 h0
   go_wp2_with fail
   refine HO.out.mono ?_
   rintro e3 w4 ⟨rfl,rfl⟩
   have hr:=HC8.out.row
   have hb:=hr.b (n:=8) HC8.out.ex.size
   have ho:=hr.of
   have hbr:=HC8.out.rs.b (n:=8) rfl
   have hok:=HC8.out.ex.ok
   clear hr
   go_wp2_with fail
   rw [Exit.noGoto_ret]
   refine bodyPost_ret (v:=.agg c) (res_row Tryz.results85 ex_struct ex_size _ _ (w.heap.size + 1) _ c rfl (HC8.out.rs.set c) HC8.out.ex.size) rfl ⟨_,rfl,?_,?_,?_⟩
   ·rw [HZE.out]
    exact (HC8.out.ex.step (S':=fun b=>w.heap.size ≤ b) (by simp) fun b hb _=>⟨by omega,setRow_other _ _ b c (by have:=HC8.out.hg;omega)⟩).v
   ·rw [HZE.out]
    exact HC8.out.pb.other (grown_setRow _ _ c) (by have:=HC8.out.hr;omega)
   ·exact grown_fill HC8.out.gr (by omega) c
set_option maxRecDepth 100000 in
set_option maxHeartbeats 16000000 in
theorem chainExpr (q1:Nat) (ops:List (ByteArray × Nat)) (hol:ops.length ≤ 1000) (sv ov:Value) {one:Rd PE} (hmono:∀ s:PS,s.k ≤ (one s).2.k) (w:World) (k0:Nat) (hone:PRun w0 r tv L en w k0 86 #[.pointer (some ⟨q1,0,none⟩)] one ExV)
 (hsg:∀ w',w.grownBy w' (some r)→SsAt w' sv (ops.map (·.1))) (hos:∀ w',w.grownBy w' (some r)→U8sAt w' ov (ops.map (·.2)))
 (s:PS) (hk0:k0 ≤ s.k) (h:PB w0 r tv L en s w):Calls Tryz.prog 85 #[.pointer (some ⟨r,0,none⟩),.agg #[sv,ov],.func (.func 86) #[] #[.pointer (some ⟨q1,0,none⟩)]] w fun e w'=>
 ∃ v,e = .returned v∧New w.heap.size w' (fun u=>ExV u v (chainL L en ops one FU s).1)∧PB w0 r tv L en (chainL L en ops one FU s).2 w'∧w.grownBy w' (some r):=by
 obtain ⟨sa,sc,rfl⟩:=(hsg w (World.grownBy.refl _ _)).shape
 obtain ⟨oa,oc,rfl⟩:=(hos w (World.grownBy.refl _ _)).shape
 rw [List.length_map] at *
 obtain ⟨Z,hZ⟩:∃ Z,Z=chainL L en ops one FU s:=⟨_,rfl⟩
 rw [← hZ]
 obtain ⟨⟨x0,s1⟩,h1⟩:∃ q,one s=q:=⟨_,rfl⟩
 have HZ:Hid (Z=chainM L en ops one FU x0 s1):=Lib.hid (by rw [hZ];show bnd one _ s=_;rw [bndE h1])
 have HLT:Hid (r < w.heap.size):=Lib.hid h.lt
 have HL:Hid (L.length ≤ 4096):=Lib.hid h.hl
 have HM:=Lib.hid hmono
 have HK1:Hid (k0 ≤ s1.k):=Lib.hid (by have:=hmono s;rw [h1] at this;exact Nat.le_trans hk0 this)
 have hbA:Below w.heap.size w ((w.alloc (.cells #[.slice sa ops.length sc,.slice oa ops.length oc] 142)).alloc (.cells exZ 48)):=((Below.refl _ _).alloc (Nat.le_refl _) _).alloc (by simp) _
 have HR0:=Lib.hid ((row_alloc w 142 #[.slice sa ops.length sc,.slice oa ops.length oc]).later ((Below.refl _ _).alloc (Nat.le_refl _) (.cells exZ 48)))
 have HR1:=Lib.hid (row_alloc (w.alloc (.cells #[.slice sa ops.length sc,.slice oa ops.length oc] 142)) 48 exZ)
 have HSZ:Hid (((w.alloc (.cells #[.slice sa ops.length sc,.slice oa ops.length oc] 142)).alloc (.cells exZ 48)).heap.size=w.heap.size + 2):=Lib.hid (by simp)
 have HS1:Hid ((w.alloc (.cells #[.slice sa ops.length sc,.slice oa ops.length oc] 142)).heap.size=w.heap.size + 1):=Lib.hid (by simp)
 rw [HS1.out] at HR1
 have HONE:=Lib.hid hone
 have HP0:=Lib.hid (h.later hbA)
 have HG0:=Lib.hid (below_grown (r:=r) hbA)
 have HK0:=Lib.hid hk0
 have HSG:=Lib.hid hsg
 have HOS:=Lib.hid hos
 have HOL:=Lib.hid hol
 have H1:=Lib.hid h1
 clear h hone hmono hk0 hZ h1 hbA hsg hos HS1 hol
 go_enter Tryz.func85,Tryz.ntmps85
 go_wp2_with fail
 go_step3
 go_upto_region 1 with fail
 generalize (w.alloc (.cells #[.slice sa ops.length sc,.slice oa ops.length oc] 142)).alloc (.cells exZ 48)=w1 at *
 have HC1:=Lib.hid (HONE.out s w1 HK0.out HG0.out HP0.out)
 rw [H1.out] at HC1
 go_wp2_with fail
 refine HC1.out.mono ?_
 rintro e2 w2 ⟨xv,rfl,hn2,hp2,hg2⟩
 obtain ⟨c0,rfl,hx2⟩:=ExN.of hn2
 have hok:=hx2.ok
 have hb3:=(Below.refl _ w2).alloc (Nat.le_refl _) (.cells c0 48)
 have HC3:Hid (CS w0 r tv L en w w2.heap.size (.slice sa ops.length sc) (.slice oa ops.length oc) s1 x0 c0 (w2.alloc (.cells c0 48))):=Lib.hid (by
  have hz:=HSZ.out
  have hz2:=hg2.size
  refine ⟨PB.later hp2 hb3,row_alloc _ _ _,(hx2.step (Nat.le_refl _) (fun b hb hlt=>⟨⟨by omega,by omega⟩,rfl⟩)).later hb3,grown_trans (grown_trans HG0.out hg2) (below_grown hb3),((HR0.out.grown hg2 (Nat.ne_of_gt HLT.out)).later hb3),((HR1.out.grown hg2 (by have:=HLT.out;omega)).later hb3),by omega,HLT.out⟩)
 have HK0':=hok
 clear hn2 hp2 hg2 hx2 hb3 HP0 HG0 HR0 HR1 HC1
 go_wp2_with fail
 go_step3
 generalize w2.alloc (.cells c0 48)=w3 at *
 generalize w2.heap.size=g at *
 clear hok HK0'
 go_wp2_with fail
 go_loopg [] (L.length + 1 - s1.k) (fun gk wr=>∃ (x:PE) (c:Array Value) (sj:PS) (f:Nat),gk=L.length + 1 - sj.k∧Hid (CS w0 r tv L en w g (.slice sa ops.length sc) (.slice oa ops.length oc) sj x c wr) ∧
  Hid (Z=chainM L en ops one f x sj)∧Hid (L.length - sj.k < f)∧Hid (k0 ≤ sj.k))
 case atStart=>exact ⟨x0,c0,s1,FU,rfl,HC3,HZ,Lib.hid (by have:=HL.out;show _ < 100000;omega),HK1⟩
 case round=>
  obtain ⟨x,c,sj,f,rfl,HC,HR,HF,HKJ⟩:=hrel
  obtain ⟨f',rfl⟩:∃ f',f=f' + 1:=⟨f - 1,by have:=HF.out;omega⟩
  have HO:=Lib.hid (okP wr HC.out.pb)
  by_cases h0:sj.e=0
  ·have d0:decide (sj.e=0)=true:=decide_eq_true h0
   rw [d0] at HO
   have H0:=Lib.hid h0
   clear d0 h0
   have v0:=HC.out.lv.cell (i:=0) (v:=.slice sa ops.length sc) rfl
   go_wp2_with fail
   refine HO.out.mono ?_
   rintro e3 w4 ⟨rfl,rfl⟩
   obtain ⟨wo,rfl⟩:∃ wo:World,wo=wr:=⟨_,rfl⟩
   go_wp2_with fail
   clear v0
   go_loopg [17] ops.length (fun gi iv wi=>∃ (i:Nat),iv = .int .i64 (i:Int)∧gi=ops.length - i∧i ≤ ops.length∧Hid (CS w0 r tv L en w g (.slice sa ops.length sc) (.slice oa ops.length oc) sj x c wi)∧Hid (oneOf L en ops sj=oneOf L en (ops.drop i) sj))
   case atStart=>exact ⟨0,rfl,rfl,Nat.zero_le _,HC,Lib.hid rfl⟩
   case round=>
    obtain ⟨i,rfl,rfl,hi,HCI,HOI⟩:=hrel
    by_cases hlt:i < ops.length
    ·obtain ⟨⟨t,o⟩,ht⟩:∃ q,ops[i]? = some q:=⟨ops[i],by simp⟩
     have hd:ops.drop i=(t,o) :: ops.drop (i + 1):=by
      rw [List.drop_eq_getElem_cons hlt,(List.getElem?_eq_some_iff.1 ht).2]
     have HOI2:Hid (oneOf L en ops sj=oneOf L en ((t,o) :: ops.drop (i + 1)) sj):=Lib.hid (by rw [← hd];exact HOI.out)
     obtain ⟨b,q,rfl,hc⟩:=at1 (HSG.out wr HCI.out.gr) (k:=i) (y:=t) (by simp [ht])
     obtain ⟨b2,q2,e2,hc2⟩:∃ b2 q2,oa=some ⟨b2,q2,none⟩∧∀ W,w.grownBy W (some r)→W.cell? ⟨b2,q2 + i,none⟩=some (.int .u8 (o:Int)):=by
      obtain ⟨a',c',e,_,hh⟩:=HOS.out w (World.grownBy.refl _ _)
      simp only [Value.slice.injEq] at e
      obtain ⟨rfl,_,_⟩:=e
      obtain ⟨b2,q2,rfl,_⟩:=hh i o (by simp [ht])
      refine ⟨b2,q2,rfl,fun W hW=>?_⟩
      obtain ⟨a',c',e,_,hh⟩:=HOS.out W hW
      simp only [Value.slice.injEq] at e
      obtain ⟨rfl,_,_⟩:=e
      obtain ⟨b3,q3,e3,hq⟩:=hh i o (by simp [ht])
      cases e3
      have:=hq 0 _ rfl
      simpa using this
     subst e2
     have HC2:=Lib.hid hc2
     have HI:=Lib.hid (isW t wr HCI.out.pb)
     have ilt:(i:Int) < (ops.length:Int):=by omega
     have ile:(i:Int) ≤ 1000:=by have:=HOL.out;omega
     have HLTI:=Lib.hid hlt
     clear hd ht hc2 hlt
     obtain ⟨B,hB⟩:∃ B,isB L en t sj=B:=⟨_,rfl⟩
     rw [isM_snd,hB] at HI
     have HB:=Lib.hid hB
     clear hB
     cases B
     ·have HNO:Hid (oneOf L en ops sj=oneOf L en (ops.drop (i + 1)) sj):=Lib.hid (by rw [HOI2.out,oneOf_no HB.out])
      go_wp2_with fail
      refine HI.out.mono ?_
      rintro e5 w5 ⟨rfl,hp5,hg5⟩
      have HC5:=Lib.hid (HCI.out.grown hg5 hp5)
      clear hp5 hg5 hc
      go_wp2_with fail
      go_roundg (ops.length - (i + 1))
      case measure=>exact Nat.sub_lt_sub_left HLTI.out (Nat.lt_succ_self _)
      case rel=>exact ⟨i + 1,by go_num,rfl,HLTI.out,HC5,HNO⟩
     ·go_wp2_with fail
      refine HI.out.mono ?_
      rintro e5 w5 ⟨rfl,hp5,hg5⟩
      have HC5:=Lib.hid (HCI.out.grown hg5 hp5)
      clear hp5 hg5 hc
      go_upto_region 7 with fail
      obtain ⟨⟨y,s2⟩,hy⟩:∃ z,one sj.next=z:=⟨_,rfl⟩
      have HY:=Lib.hid hy
      have HMY:Hid (sj.k + 1 ≤ s2.k):=Lib.hid (by have:=HM.out sj.next;rw [hy] at this;exact this)
      have HLTJ:=Lib.hid (isM_lt (L:=L) (en:=en) (t:=t) (s:=sj) HB.out).2
      clear hy
      have hgw:=HC5.out.gr
      have hSr:¬ (w.heap.size + 2 ≤ r∧r ≠ g):=by have:=HLT.out;omega
      refine wp_region_kig 10 r (ChKn w.heap.size (.slice (some ⟨b2,q2,none⟩) ops.length oc) i b2 q2 o c (.func (.func 86) #[] #[.pointer (some ⟨q1,0,none⟩)]) (fun b=>w.heap.size + 2 ≤ b∧b ≠ g) x y) (fun dn W=>PB w0 r tv L en (if dn 7 then s2 else sj.next) W) 37 rfl (by kernel_rfl) (by kernel_rfl) (ChKn.later hSr w5) ?_ ?_ ?_ ?_
      ·intro dn dn' W hdd hst
       rw [← hdd 7 (by decide)]
       exact hst
      ·exact HC5.out.pb.later (Below.drew (Below.refl _ _))
      ·intro j hj dn A W hother hgW hst hdj hd
       match j,hj with
       | 0,hj=>
        have h0:=tmps_at (show A.eval (.tmp 4) = .pointer (some ⟨w.heap.size,0,none⟩) from hother 4 (by kernel_rfl))
        clear hother hd hj
        exact kig_same rfl rfl (.pointer (some ⟨w.heap.size,1,none⟩)) (by simp only [execOp];go_simp) rfl hst
       | 1,hj=>
        have h0:=tmps_at ((hd _ rfl ⟨0,.data⟩ (by simp) rfl).2.eq (.pointer (some ⟨w.heap.size,1,none⟩)) (fun _ h=>h) 25 (by kernel_rfl) (by decide))
        have hc:=((HC5.out.lv.grown hgW (Nat.ne_of_gt HLT.out)).cell (i:=1) (v:=.slice (some ⟨b2,q2,none⟩) ops.length oc) rfl)
        clear hother hd hj
        exact kig_same rfl rfl (.slice (some ⟨b2,q2,none⟩) ops.length oc) (by simp only [execOp];go_simp) rfl hst
       | 2,hj=>
        have h0:=tmps_at (show A.eval (.tmp 8) = .int .i64 (i:Int) from hother 8 (by kernel_rfl))
        clear hother hd hj
        exact kig_same rfl rfl (.int .i64 (i:Int)) (by simp only [execOp];go_simp) rfl hst
       | 3,hj=>
        have h0:=tmps_at ((hd _ rfl ⟨1,.data⟩ (by simp) rfl).2.eq (.slice (some ⟨b2,q2,none⟩) ops.length oc) (fun _ h=>h) 26 (by kernel_rfl) (by decide))
        have h1:=tmps_at ((hd _ rfl ⟨2,.data⟩ (by simp) rfl).2.eq (.int .i64 (i:Int)) (fun _ h=>h) 27 (by kernel_rfl) (by decide))
        have i0:(0:Int) ≤ (i:Int):=by omega
        clear hother hd hj
        exact kig_same rfl rfl (.pointer (some ⟨b2,q2 + i,none⟩)) (by simp only [execOp];go_simp) rfl hst
       | 4,hj=>
        have h0:=tmps_at ((hd _ rfl ⟨3,.data⟩ (by simp) rfl).2.eq (.pointer (some ⟨b2,q2 + i,none⟩)) (fun _ h=>h) 28 (by kernel_rfl) (by decide))
        have hc:=HC2.out W (grown_trans hgw hgW)
        clear hother hd hj
        exact kig_same rfl rfl (.int .u8 (o:Int)) (by simp only [execOp];go_simp) rfl hst
       | 5,hj=>
        have h0:=tmps_at (show A.eval (.tmp 7) = .pointer (some ⟨g,0,none⟩) from hother 7 (by kernel_rfl))
        have hr5:=HC5.out.row.grown hgW (by have:=HC5.out.hg;have:=HLT.out;omega)
        have hb5:=hr5.b (n:=8) HC5.out.ex.size
        have ho5:=hr5.of
        clear hother hd hj hr5
        exact kig_same rfl rfl (.agg c) (by simp only [execOp];go_simp) rfl hst
       | 6,hj=>
        have h0:=tmps_at (show A.eval (.tmp 2) = .func (.func 86) #[] #[.pointer (some ⟨q1,0,none⟩)] from hother 2 (by kernel_rfl))
        clear hother hd hj
        exact kig_same rfl rfl (.func (.func 86) #[] #[.pointer (some ⟨q1,0,none⟩)]) (by simp only [execOp];go_simp) rfl hst
       | 7,hj=>
        have h0:=tmps_at ((hd _ rfl ⟨6,.data⟩ (by simp) rfl).2.eq (.func (.func 86) #[] #[.pointer (some ⟨q1,0,none⟩)]) (fun _ h=>h) 31 (by kernel_rfl) (by decide))
        have hst7:PB w0 r tv L en sj.next W:=by have h:=hst;simp only [hdj] at h;exact h
        have hcall:=HONE.out sj.next W (by have:=HKJ.out;show k0 ≤ sj.k + 1;omega) (grown_trans hgw hgW) hst7
        rw [HY.out] at hcall
        clear hother hd hj
        refine kig_call rfl rfl 86 #[.pointer (some ⟨q1,0,none⟩)] (by simp only [execOp];go_simp) (hcall.mono ?_)
        rintro e7 w7 ⟨v7,rfl,hn7,hp7,hg7⟩
        obtain ⟨d,rfl,hx7⟩:=ExN.of hn7
        refine ⟨_,rfl,hg7,⟨d,rfl,hx7.step (Nat.le_refl _) (fun b hb hlt=>⟨⟨?_,?_⟩,rfl⟩)⟩,hp7⟩
        ·have h1:=(grown_trans hgw hgW).size;have h2:=HC5.out.hg;have h3:=HC5.out.row.lt;have h4:=hgW.size;omega
        ·have h3:=HC5.out.row.lt;have h4:=hgW.size;omega
       | 8,hj=>
        obtain ⟨v7,⟨d,e7,hx7⟩,h7⟩:=(hd _ rfl ⟨7,.data⟩ (by simp) rfl).2.get 32 (by kernel_rfl) (by decide)
        rw [e7] at h7
        have h0:=tmps_at h7
        have h1:=tmps_at ((hd _ rfl ⟨5,.data⟩ (by simp) rfl).2.eq (.agg c) (fun _ h=>h) 30 (by kernel_rfl) (by decide))
        have hbs:(veilBs 28 2 #[(0,.agg c),(1,.agg d)]).run Tryz.prog W = .ok (.slice (some ⟨W.heap.size,0,none⟩) 2 2) (W.alloc (.cells (c ++ d) 48)):=run_bs2 W c d HC5.out.ex.size hx7.size
        have hbw:=(Below.refl _ W).alloc (Nat.le_refl _) (.cells (c ++ d) 48)
        have hsz:w.heap.size + 2 ≤ W.heap.size∧W.heap.size ≠ g:=by have h3:=HC5.out.row.lt;have h4:=hgW.size;have h2:=HC5.out.hg;omega
        have hkids:=exs_row2 (S:=fun b=>w.heap.size + 2 ≤ b∧b ≠ g) (row_alloc W 48 (c ++ d)) hsz ((HC5.out.ex.grown hgW hSr).later hbw) (hx7.later hbw)
        have hst8:=hst.later hbw
        clear hother hd hj hx7
        exact kig_val rfl rfl (.slice (some ⟨W.heap.size,0,none⟩) 2 2) (W.alloc (.cells (c ++ d) 48)) (by simp only [execOp];go_simp) (below_grown hbw) ⟨_,rfl,hkids⟩ hst8
       | 9,hj=>
        obtain ⟨v8,⟨g2,e8,hx8⟩,h8⟩:=(hd _ rfl ⟨8,.data⟩ (by simp) rfl).2.get 33 (by kernel_rfl) (by decide)
        subst e8
        have h0:=tmps_at h8
        have h1:=tmps_at ((hd _ rfl ⟨4,.data⟩ (by simp) rfl).2.eq (.int .u8 (o:Int)) (fun _ h=>h) 29 (by kernel_rfl) (by decide))
        clear hother hd hj
        refine kig_call rfl rfl 128 #[.int .u8 (o:Int),.slice (some ⟨g2,0,none⟩) 2 2] (by simp only [execOp];go_simp) ((nodeW o _ (some ⟨g2,0,none⟩) 2 2 rfl W).mono ?_)
        rintro e9 w9 ⟨rfl,hb9⟩
        exact ⟨_,rfl,below_grown hb9,⟨_,rfl,exD_node (hx8.step hb9.size fun b h1 h2=>⟨h1,hb9.block b h2⟩)⟩,hst.later hb9⟩
       | k + 10,hj=>omega
      ·intro us W hgW hst hk
       obtain ⟨d,e9,hx9⟩:=hk 9 (by decide)
       have hr9:=HC5.out.row.grown hgW (by have:=HC5.out.hg;have:=HLT.out;omega)
       have hb9:=hr9.b (n:=8) HC5.out.ex.size
       have hok9:=hx9.ok
       have HX9:=Lib.hid hx9
       have HPW:Hid (PB w0 r tv L en s2 W):=Lib.hid hst
       have HC9:Hid (CS w0 r tv L en w g (.slice (some ⟨b,q,none⟩) ops.length sc) (.slice (some ⟨b2,q2,none⟩) ops.length oc) s2 (.node o [x,y]) d (W.setRow g d)):=Lib.hid (by
        have hC:=HC5.out.grown hgW HPW.out
        have h2:=hC.hg
        have h3:=hC.hr
        exact ⟨hC.pb.other (grown_setRow W g d) (by omega),hC.row.set d,HX9.out.set (fun h=>h.2 rfl),grown_fill hC.gr (by omega) d,(setRow_other W g _ d (by omega)).trans hC.lv,(setRow_other W g _ d (by omega)).trans hC.rs,h2,h3⟩)
       clear hk hst hgW hr9 hx9 hgw
       simp only [List.drop_succ_cons,List.drop_zero,putAll,dstOf,Act.put,List.getElem?_toArray,List.getElem?_cons_zero,List.getElem?_cons_succ,Option.bind_some]
       simp only [List.setIfInBounds_toArray,List.set_cons_zero,List.set_cons_succ]
       rw [e9]
       go_wp2_with fail
       go_roundg (L.length + 1 - s2.k)
       case measure=>have h1:=HMY.out;have h2:=HLTJ.out;omega
       case rel=>
        refine ⟨.node o [x,y],d,s2,f',rfl,HC9,Lib.hid ?_,Lib.hid ?_,Lib.hid ?_⟩
        ·rw [HR.out,chain_more (o:=o) (by rw [HOI2.out,oneOf_yes HB.out]),HY.out]
        ·have h1:=HF.out;have h2:=HMY.out;have h3:=HLTJ.out;omega
        ·have h1:=HKJ.out;have h2:=HMY.out;omega
    ·obtain rfl:i=ops.length:=by omega
     have HZE:Hid (Z=(x,sj)):=Lib.hid (by rw [HR.out,chain_end (by rw [HOI.out,List.drop_length];rfl)])
     have HC8:=HCI
     clear hlt hi
     have hr:=HC8.out.row
     have hb:=hr.b (n:=8) HC8.out.ex.size
     have ho:=hr.of
     have hbr:=HC8.out.rs.b (n:=8) rfl
     have hok:=HC8.out.ex.ok
     clear hr
     go_wp2_with fail
     rw [Exit.noGoto_ret]
     refine bodyPost_ret (v:=.agg c) (res_row Tryz.results85 ex_struct ex_size _ _ (w.heap.size + 1) _ c rfl (HC8.out.rs.set c) HC8.out.ex.size) rfl ⟨_,rfl,?_,?_,?_⟩
     ·rw [HZE.out]
      exact (HC8.out.ex.step (S':=fun b=>w.heap.size ≤ b) (by simp) fun b hb _=>⟨by omega,setRow_other _ _ b c (by have:=HC8.out.hg;omega)⟩).v
     ·rw [HZE.out]
      exact HC8.out.pb.other (grown_setRow _ _ c) (by have:=HC8.out.hr;omega)
     ·exact grown_fill HC8.out.gr (by omega) c
  ·have d0:decide (sj.e=0)=false:=decide_eq_false h0
   rw [d0] at HO
   have HZE:Hid (Z=(x,sj)):=Lib.hid (by rw [HR.out,chain_end (oneOf_bad h0 ops)])
   have HC8:=HC
   clear d0 h0
   go_wp2_with fail
   refine HO.out.mono ?_
   rintro e3 w4 ⟨rfl,rfl⟩
   have hr:=HC8.out.row
   have hb:=hr.b (n:=8) HC8.out.ex.size
   have ho:=hr.of
   have hbr:=HC8.out.rs.b (n:=8) rfl
   have hok:=HC8.out.ex.ok
   clear hr
   go_wp2_with fail
   rw [Exit.noGoto_ret]
   refine bodyPost_ret (v:=.agg c) (res_row Tryz.results85 ex_struct ex_size _ _ (w.heap.size + 1) _ c rfl (HC8.out.rs.set c) HC8.out.ex.size) rfl ⟨_,rfl,?_,?_,?_⟩
   ·rw [HZE.out]
    exact (HC8.out.ex.step (S':=fun b=>w.heap.size ≤ b) (by simp) fun b hb _=>⟨by omega,setRow_other _ _ b c (by have:=HC8.out.hg;omega)⟩).v
   ·rw [HZE.out]
    exact HC8.out.pb.other (grown_setRow _ _ c) (by have:=HC8.out.hr;omega)
   ·exact grown_fill HC8.out.gr (by omega) c
set_option maxRecDepth 100000 in
set_option maxHeartbeats 16000000 in
theorem chainSum (q1 q3:Nat) (ops:List (ByteArray × Nat)) (hol:ops.length ≤ 1000) (sv ov:Value) {one:Rd PE} (hmono:∀ s:PS,s.k ≤ (one s).2.k) (w:World) (k0:Nat) (hone:PRun w0 r tv L en w k0 146 #[.pointer (some ⟨q1,0,none⟩),.pointer (some ⟨q3,0,none⟩)] one ExV)
 (hsg:∀ w',w.grownBy w' (some r)→SsAt w' sv (ops.map (·.1))) (hos:∀ w',w.grownBy w' (some r)→U8sAt w' ov (ops.map (·.2)))
 (s:PS) (hk0:k0 ≤ s.k) (h:PB w0 r tv L en s w):Calls Tryz.prog 85 #[.pointer (some ⟨r,0,none⟩),.agg #[sv,ov],.func (.func 146) #[] #[.pointer (some ⟨q1,0,none⟩),.pointer (some ⟨q3,0,none⟩)]] w fun e w'=>
 ∃ v,e = .returned v∧New w.heap.size w' (fun u=>ExV u v (chainL L en ops one FU s).1)∧PB w0 r tv L en (chainL L en ops one FU s).2 w'∧w.grownBy w' (some r):=by
 obtain ⟨sa,sc,rfl⟩:=(hsg w (World.grownBy.refl _ _)).shape
 obtain ⟨oa,oc,rfl⟩:=(hos w (World.grownBy.refl _ _)).shape
 rw [List.length_map] at *
 obtain ⟨Z,hZ⟩:∃ Z,Z=chainL L en ops one FU s:=⟨_,rfl⟩
 rw [← hZ]
 obtain ⟨⟨x0,s1⟩,h1⟩:∃ q,one s=q:=⟨_,rfl⟩
 have HZ:Hid (Z=chainM L en ops one FU x0 s1):=Lib.hid (by rw [hZ];show bnd one _ s=_;rw [bndE h1])
 have HLT:Hid (r < w.heap.size):=Lib.hid h.lt
 have HL:Hid (L.length ≤ 4096):=Lib.hid h.hl
 have HM:=Lib.hid hmono
 have HK1:Hid (k0 ≤ s1.k):=Lib.hid (by have:=hmono s;rw [h1] at this;exact Nat.le_trans hk0 this)
 have hbA:Below w.heap.size w ((w.alloc (.cells #[.slice sa ops.length sc,.slice oa ops.length oc] 142)).alloc (.cells exZ 48)):=((Below.refl _ _).alloc (Nat.le_refl _) _).alloc (by simp) _
 have HR0:=Lib.hid ((row_alloc w 142 #[.slice sa ops.length sc,.slice oa ops.length oc]).later ((Below.refl _ _).alloc (Nat.le_refl _) (.cells exZ 48)))
 have HR1:=Lib.hid (row_alloc (w.alloc (.cells #[.slice sa ops.length sc,.slice oa ops.length oc] 142)) 48 exZ)
 have HSZ:Hid (((w.alloc (.cells #[.slice sa ops.length sc,.slice oa ops.length oc] 142)).alloc (.cells exZ 48)).heap.size=w.heap.size + 2):=Lib.hid (by simp)
 have HS1:Hid ((w.alloc (.cells #[.slice sa ops.length sc,.slice oa ops.length oc] 142)).heap.size=w.heap.size + 1):=Lib.hid (by simp)
 rw [HS1.out] at HR1
 have HONE:=Lib.hid hone
 have HP0:=Lib.hid (h.later hbA)
 have HG0:=Lib.hid (below_grown (r:=r) hbA)
 have HK0:=Lib.hid hk0
 have HSG:=Lib.hid hsg
 have HOS:=Lib.hid hos
 have HOL:=Lib.hid hol
 have H1:=Lib.hid h1
 clear h hone hmono hk0 hZ h1 hbA hsg hos HS1 hol
 go_enter Tryz.func85,Tryz.ntmps85
 go_wp2_with fail
 go_step3
 go_upto_region 1 with fail
 generalize (w.alloc (.cells #[.slice sa ops.length sc,.slice oa ops.length oc] 142)).alloc (.cells exZ 48)=w1 at *
 have HC1:=Lib.hid (HONE.out s w1 HK0.out HG0.out HP0.out)
 rw [H1.out] at HC1
 go_wp2_with fail
 refine HC1.out.mono ?_
 rintro e2 w2 ⟨xv,rfl,hn2,hp2,hg2⟩
 obtain ⟨c0,rfl,hx2⟩:=ExN.of hn2
 have hok:=hx2.ok
 have hb3:=(Below.refl _ w2).alloc (Nat.le_refl _) (.cells c0 48)
 have HC3:Hid (CS w0 r tv L en w w2.heap.size (.slice sa ops.length sc) (.slice oa ops.length oc) s1 x0 c0 (w2.alloc (.cells c0 48))):=Lib.hid (by
  have hz:=HSZ.out
  have hz2:=hg2.size
  refine ⟨PB.later hp2 hb3,row_alloc _ _ _,(hx2.step (Nat.le_refl _) (fun b hb hlt=>⟨⟨by omega,by omega⟩,rfl⟩)).later hb3,grown_trans (grown_trans HG0.out hg2) (below_grown hb3),((HR0.out.grown hg2 (Nat.ne_of_gt HLT.out)).later hb3),((HR1.out.grown hg2 (by have:=HLT.out;omega)).later hb3),by omega,HLT.out⟩)
 have HK0':=hok
 clear hn2 hp2 hg2 hx2 hb3 HP0 HG0 HR0 HR1 HC1
 go_wp2_with fail
 go_step3
 generalize w2.alloc (.cells c0 48)=w3 at *
 generalize w2.heap.size=g at *
 clear hok HK0'
 go_wp2_with fail
 go_loopg [] (L.length + 1 - s1.k) (fun gk wr=>∃ (x:PE) (c:Array Value) (sj:PS) (f:Nat),gk=L.length + 1 - sj.k∧Hid (CS w0 r tv L en w g (.slice sa ops.length sc) (.slice oa ops.length oc) sj x c wr) ∧
  Hid (Z=chainM L en ops one f x sj)∧Hid (L.length - sj.k < f)∧Hid (k0 ≤ sj.k))
 case atStart=>exact ⟨x0,c0,s1,FU,rfl,HC3,HZ,Lib.hid (by have:=HL.out;show _ < 100000;omega),HK1⟩
 case round=>
  obtain ⟨x,c,sj,f,rfl,HC,HR,HF,HKJ⟩:=hrel
  obtain ⟨f',rfl⟩:∃ f',f=f' + 1:=⟨f - 1,by have:=HF.out;omega⟩
  have HO:=Lib.hid (okP wr HC.out.pb)
  by_cases h0:sj.e=0
  ·have d0:decide (sj.e=0)=true:=decide_eq_true h0
   rw [d0] at HO
   have H0:=Lib.hid h0
   clear d0 h0
   have v0:=HC.out.lv.cell (i:=0) (v:=.slice sa ops.length sc) rfl
   go_wp2_with fail
   refine HO.out.mono ?_
   rintro e3 w4 ⟨rfl,rfl⟩
   obtain ⟨wo,rfl⟩:∃ wo:World,wo=wr:=⟨_,rfl⟩
   go_wp2_with fail
   clear v0
   go_loopg [17] ops.length (fun gi iv wi=>∃ (i:Nat),iv = .int .i64 (i:Int)∧gi=ops.length - i∧i ≤ ops.length∧Hid (CS w0 r tv L en w g (.slice sa ops.length sc) (.slice oa ops.length oc) sj x c wi)∧Hid (oneOf L en ops sj=oneOf L en (ops.drop i) sj))
   case atStart=>exact ⟨0,rfl,rfl,Nat.zero_le _,HC,Lib.hid rfl⟩
   case round=>
    obtain ⟨i,rfl,rfl,hi,HCI,HOI⟩:=hrel
    by_cases hlt:i < ops.length
    ·obtain ⟨⟨t,o⟩,ht⟩:∃ q,ops[i]? = some q:=⟨ops[i],by simp⟩
     have hd:ops.drop i=(t,o) :: ops.drop (i + 1):=by
      rw [List.drop_eq_getElem_cons hlt,(List.getElem?_eq_some_iff.1 ht).2]
     have HOI2:Hid (oneOf L en ops sj=oneOf L en ((t,o) :: ops.drop (i + 1)) sj):=Lib.hid (by rw [← hd];exact HOI.out)
     obtain ⟨b,q,rfl,hc⟩:=at1 (HSG.out wr HCI.out.gr) (k:=i) (y:=t) (by simp [ht])
     obtain ⟨b2,q2,e2,hc2⟩:∃ b2 q2,oa=some ⟨b2,q2,none⟩∧∀ W,w.grownBy W (some r)→W.cell? ⟨b2,q2 + i,none⟩=some (.int .u8 (o:Int)):=by
      obtain ⟨a',c',e,_,hh⟩:=HOS.out w (World.grownBy.refl _ _)
      simp only [Value.slice.injEq] at e
      obtain ⟨rfl,_,_⟩:=e
      obtain ⟨b2,q2,rfl,_⟩:=hh i o (by simp [ht])
      refine ⟨b2,q2,rfl,fun W hW=>?_⟩
      obtain ⟨a',c',e,_,hh⟩:=HOS.out W hW
      simp only [Value.slice.injEq] at e
      obtain ⟨rfl,_,_⟩:=e
      obtain ⟨b3,q3,e3,hq⟩:=hh i o (by simp [ht])
      cases e3
      have:=hq 0 _ rfl
      simpa using this
     subst e2
     have HC2:=Lib.hid hc2
     have HI:=Lib.hid (isW t wr HCI.out.pb)
     have ilt:(i:Int) < (ops.length:Int):=by omega
     have ile:(i:Int) ≤ 1000:=by have:=HOL.out;omega
     have HLTI:=Lib.hid hlt
     clear hd ht hc2 hlt
     obtain ⟨B,hB⟩:∃ B,isB L en t sj=B:=⟨_,rfl⟩
     rw [isM_snd,hB] at HI
     have HB:=Lib.hid hB
     clear hB
     cases B
     ·have HNO:Hid (oneOf L en ops sj=oneOf L en (ops.drop (i + 1)) sj):=Lib.hid (by rw [HOI2.out,oneOf_no HB.out])
      go_wp2_with fail
      refine HI.out.mono ?_
      rintro e5 w5 ⟨rfl,hp5,hg5⟩
      have HC5:=Lib.hid (HCI.out.grown hg5 hp5)
      clear hp5 hg5 hc
      go_wp2_with fail
      go_roundg (ops.length - (i + 1))
      case measure=>exact Nat.sub_lt_sub_left HLTI.out (Nat.lt_succ_self _)
      case rel=>exact ⟨i + 1,by go_num,rfl,HLTI.out,HC5,HNO⟩
     ·go_wp2_with fail
      refine HI.out.mono ?_
      rintro e5 w5 ⟨rfl,hp5,hg5⟩
      have HC5:=Lib.hid (HCI.out.grown hg5 hp5)
      clear hp5 hg5 hc
      go_upto_region 7 with fail
      obtain ⟨⟨y,s2⟩,hy⟩:∃ z,one sj.next=z:=⟨_,rfl⟩
      have HY:=Lib.hid hy
      have HMY:Hid (sj.k + 1 ≤ s2.k):=Lib.hid (by have:=HM.out sj.next;rw [hy] at this;exact this)
      have HLTJ:=Lib.hid (isM_lt (L:=L) (en:=en) (t:=t) (s:=sj) HB.out).2
      clear hy
      have hgw:=HC5.out.gr
      have hSr:¬ (w.heap.size + 2 ≤ r∧r ≠ g):=by have:=HLT.out;omega
      refine wp_region_kig 10 r (ChKn w.heap.size (.slice (some ⟨b2,q2,none⟩) ops.length oc) i b2 q2 o c (.func (.func 146) #[] #[.pointer (some ⟨q1,0,none⟩),.pointer (some ⟨q3,0,none⟩)]) (fun b=>w.heap.size + 2 ≤ b∧b ≠ g) x y) (fun dn W=>PB w0 r tv L en (if dn 7 then s2 else sj.next) W) 37 rfl (by kernel_rfl) (by kernel_rfl) (ChKn.later hSr w5) ?_ ?_ ?_ ?_
      ·intro dn dn' W hdd hst
       rw [← hdd 7 (by decide)]
       exact hst
      ·exact HC5.out.pb.later (Below.drew (Below.refl _ _))
      ·intro j hj dn A W hother hgW hst hdj hd
       match j,hj with
       | 0,hj=>
        have h0:=tmps_at (show A.eval (.tmp 4) = .pointer (some ⟨w.heap.size,0,none⟩) from hother 4 (by kernel_rfl))
        clear hother hd hj
        exact kig_same rfl rfl (.pointer (some ⟨w.heap.size,1,none⟩)) (by simp only [execOp];go_simp) rfl hst
       | 1,hj=>
        have h0:=tmps_at ((hd _ rfl ⟨0,.data⟩ (by simp) rfl).2.eq (.pointer (some ⟨w.heap.size,1,none⟩)) (fun _ h=>h) 25 (by kernel_rfl) (by decide))
        have hc:=((HC5.out.lv.grown hgW (Nat.ne_of_gt HLT.out)).cell (i:=1) (v:=.slice (some ⟨b2,q2,none⟩) ops.length oc) rfl)
        clear hother hd hj
        exact kig_same rfl rfl (.slice (some ⟨b2,q2,none⟩) ops.length oc) (by simp only [execOp];go_simp) rfl hst
       | 2,hj=>
        have h0:=tmps_at (show A.eval (.tmp 8) = .int .i64 (i:Int) from hother 8 (by kernel_rfl))
        clear hother hd hj
        exact kig_same rfl rfl (.int .i64 (i:Int)) (by simp only [execOp];go_simp) rfl hst
       | 3,hj=>
        have h0:=tmps_at ((hd _ rfl ⟨1,.data⟩ (by simp) rfl).2.eq (.slice (some ⟨b2,q2,none⟩) ops.length oc) (fun _ h=>h) 26 (by kernel_rfl) (by decide))
        have h1:=tmps_at ((hd _ rfl ⟨2,.data⟩ (by simp) rfl).2.eq (.int .i64 (i:Int)) (fun _ h=>h) 27 (by kernel_rfl) (by decide))
        have i0:(0:Int) ≤ (i:Int):=by omega
        clear hother hd hj
        exact kig_same rfl rfl (.pointer (some ⟨b2,q2 + i,none⟩)) (by simp only [execOp];go_simp) rfl hst
       | 4,hj=>
        have h0:=tmps_at ((hd _ rfl ⟨3,.data⟩ (by simp) rfl).2.eq (.pointer (some ⟨b2,q2 + i,none⟩)) (fun _ h=>h) 28 (by kernel_rfl) (by decide))
        have hc:=HC2.out W (grown_trans hgw hgW)
        clear hother hd hj
        exact kig_same rfl rfl (.int .u8 (o:Int)) (by simp only [execOp];go_simp) rfl hst
       | 5,hj=>
        have h0:=tmps_at (show A.eval (.tmp 7) = .pointer (some ⟨g,0,none⟩) from hother 7 (by kernel_rfl))
        have hr5:=HC5.out.row.grown hgW (by have:=HC5.out.hg;have:=HLT.out;omega)
        have hb5:=hr5.b (n:=8) HC5.out.ex.size
        have ho5:=hr5.of
        clear hother hd hj hr5
        exact kig_same rfl rfl (.agg c) (by simp only [execOp];go_simp) rfl hst
       | 6,hj=>
        have h0:=tmps_at (show A.eval (.tmp 2) = .func (.func 146) #[] #[.pointer (some ⟨q1,0,none⟩),.pointer (some ⟨q3,0,none⟩)] from hother 2 (by kernel_rfl))
        clear hother hd hj
        exact kig_same rfl rfl (.func (.func 146) #[] #[.pointer (some ⟨q1,0,none⟩),.pointer (some ⟨q3,0,none⟩)]) (by simp only [execOp];go_simp) rfl hst
       | 7,hj=>
        have h0:=tmps_at ((hd _ rfl ⟨6,.data⟩ (by simp) rfl).2.eq (.func (.func 146) #[] #[.pointer (some ⟨q1,0,none⟩),.pointer (some ⟨q3,0,none⟩)]) (fun _ h=>h) 31 (by kernel_rfl) (by decide))
        have hst7:PB w0 r tv L en sj.next W:=by have h:=hst;simp only [hdj] at h;exact h
        have hcall:=HONE.out sj.next W (by have:=HKJ.out;show k0 ≤ sj.k + 1;omega) (grown_trans hgw hgW) hst7
        rw [HY.out] at hcall
        clear hother hd hj
        refine kig_call rfl rfl 146 #[.pointer (some ⟨q1,0,none⟩),.pointer (some ⟨q3,0,none⟩)] (by simp only [execOp];go_simp) (hcall.mono ?_)
        rintro e7 w7 ⟨v7,rfl,hn7,hp7,hg7⟩
        obtain ⟨d,rfl,hx7⟩:=ExN.of hn7
        refine ⟨_,rfl,hg7,⟨d,rfl,hx7.step (Nat.le_refl _) (fun b hb hlt=>⟨⟨?_,?_⟩,rfl⟩)⟩,hp7⟩
        ·have h1:=(grown_trans hgw hgW).size;have h2:=HC5.out.hg;have h3:=HC5.out.row.lt;have h4:=hgW.size;omega
        ·have h3:=HC5.out.row.lt;have h4:=hgW.size;omega
       | 8,hj=>
        obtain ⟨v7,⟨d,e7,hx7⟩,h7⟩:=(hd _ rfl ⟨7,.data⟩ (by simp) rfl).2.get 32 (by kernel_rfl) (by decide)
        rw [e7] at h7
        have h0:=tmps_at h7
        have h1:=tmps_at ((hd _ rfl ⟨5,.data⟩ (by simp) rfl).2.eq (.agg c) (fun _ h=>h) 30 (by kernel_rfl) (by decide))
        have hbs:(veilBs 28 2 #[(0,.agg c),(1,.agg d)]).run Tryz.prog W = .ok (.slice (some ⟨W.heap.size,0,none⟩) 2 2) (W.alloc (.cells (c ++ d) 48)):=run_bs2 W c d HC5.out.ex.size hx7.size
        have hbw:=(Below.refl _ W).alloc (Nat.le_refl _) (.cells (c ++ d) 48)
        have hsz:w.heap.size + 2 ≤ W.heap.size∧W.heap.size ≠ g:=by have h3:=HC5.out.row.lt;have h4:=hgW.size;have h2:=HC5.out.hg;omega
        have hkids:=exs_row2 (S:=fun b=>w.heap.size + 2 ≤ b∧b ≠ g) (row_alloc W 48 (c ++ d)) hsz ((HC5.out.ex.grown hgW hSr).later hbw) (hx7.later hbw)
        have hst8:=hst.later hbw
        clear hother hd hj hx7
        exact kig_val rfl rfl (.slice (some ⟨W.heap.size,0,none⟩) 2 2) (W.alloc (.cells (c ++ d) 48)) (by simp only [execOp];go_simp) (below_grown hbw) ⟨_,rfl,hkids⟩ hst8
       | 9,hj=>
        obtain ⟨v8,⟨g2,e8,hx8⟩,h8⟩:=(hd _ rfl ⟨8,.data⟩ (by simp) rfl).2.get 33 (by kernel_rfl) (by decide)
        subst e8
        have h0:=tmps_at h8
        have h1:=tmps_at ((hd _ rfl ⟨4,.data⟩ (by simp) rfl).2.eq (.int .u8 (o:Int)) (fun _ h=>h) 29 (by kernel_rfl) (by decide))
        clear hother hd hj
        refine kig_call rfl rfl 128 #[.int .u8 (o:Int),.slice (some ⟨g2,0,none⟩) 2 2] (by simp only [execOp];go_simp) ((nodeW o _ (some ⟨g2,0,none⟩) 2 2 rfl W).mono ?_)
        rintro e9 w9 ⟨rfl,hb9⟩
        exact ⟨_,rfl,below_grown hb9,⟨_,rfl,exD_node (hx8.step hb9.size fun b h1 h2=>⟨h1,hb9.block b h2⟩)⟩,hst.later hb9⟩
       | k + 10,hj=>omega
      ·intro us W hgW hst hk
       obtain ⟨d,e9,hx9⟩:=hk 9 (by decide)
       have hr9:=HC5.out.row.grown hgW (by have:=HC5.out.hg;have:=HLT.out;omega)
       have hb9:=hr9.b (n:=8) HC5.out.ex.size
       have hok9:=hx9.ok
       have HX9:=Lib.hid hx9
       have HPW:Hid (PB w0 r tv L en s2 W):=Lib.hid hst
       have HC9:Hid (CS w0 r tv L en w g (.slice (some ⟨b,q,none⟩) ops.length sc) (.slice (some ⟨b2,q2,none⟩) ops.length oc) s2 (.node o [x,y]) d (W.setRow g d)):=Lib.hid (by
        have hC:=HC5.out.grown hgW HPW.out
        have h2:=hC.hg
        have h3:=hC.hr
        exact ⟨hC.pb.other (grown_setRow W g d) (by omega),hC.row.set d,HX9.out.set (fun h=>h.2 rfl),grown_fill hC.gr (by omega) d,(setRow_other W g _ d (by omega)).trans hC.lv,(setRow_other W g _ d (by omega)).trans hC.rs,h2,h3⟩)
       clear hk hst hgW hr9 hx9 hgw
       simp only [List.drop_succ_cons,List.drop_zero,putAll,dstOf,Act.put,List.getElem?_toArray,List.getElem?_cons_zero,List.getElem?_cons_succ,Option.bind_some]
       simp only [List.setIfInBounds_toArray,List.set_cons_zero,List.set_cons_succ]
       rw [e9]
       go_wp2_with fail
       go_roundg (L.length + 1 - s2.k)
       case measure=>have h1:=HMY.out;have h2:=HLTJ.out;omega
       case rel=>
        refine ⟨.node o [x,y],d,s2,f',rfl,HC9,Lib.hid ?_,Lib.hid ?_,Lib.hid ?_⟩
        ·rw [HR.out,chain_more (o:=o) (by rw [HOI2.out,oneOf_yes HB.out]),HY.out]
        ·have h1:=HF.out;have h2:=HMY.out;have h3:=HLTJ.out;omega
        ·have h1:=HKJ.out;have h2:=HMY.out;omega
    ·obtain rfl:i=ops.length:=by omega
     have HZE:Hid (Z=(x,sj)):=Lib.hid (by rw [HR.out,chain_end (by rw [HOI.out,List.drop_length];rfl)])
     have HC8:=HCI
     clear hlt hi
     have hr:=HC8.out.row
     have hb:=hr.b (n:=8) HC8.out.ex.size
     have ho:=hr.of
     have hbr:=HC8.out.rs.b (n:=8) rfl
     have hok:=HC8.out.ex.ok
     clear hr
     go_wp2_with fail
     rw [Exit.noGoto_ret]
     refine bodyPost_ret (v:=.agg c) (res_row Tryz.results85 ex_struct ex_size _ _ (w.heap.size + 1) _ c rfl (HC8.out.rs.set c) HC8.out.ex.size) rfl ⟨_,rfl,?_,?_,?_⟩
     ·rw [HZE.out]
      exact (HC8.out.ex.step (S':=fun b=>w.heap.size ≤ b) (by simp) fun b hb _=>⟨by omega,setRow_other _ _ b c (by have:=HC8.out.hg;omega)⟩).v
     ·rw [HZE.out]
      exact HC8.out.pb.other (grown_setRow _ _ c) (by have:=HC8.out.hr;omega)
     ·exact grown_fill HC8.out.gr (by omega) c
  ·have d0:decide (sj.e=0)=false:=decide_eq_false h0
   rw [d0] at HO
   have HZE:Hid (Z=(x,sj)):=Lib.hid (by rw [HR.out,chain_end (oneOf_bad h0 ops)])
   have HC8:=HC
   clear d0 h0
   go_wp2_with fail
   refine HO.out.mono ?_
   rintro e3 w4 ⟨rfl,rfl⟩
   have hr:=HC8.out.row
   have hb:=hr.b (n:=8) HC8.out.ex.size
   have ho:=hr.of
   have hbr:=HC8.out.rs.b (n:=8) rfl
   have hok:=HC8.out.ex.ok
   clear hr
   go_wp2_with fail
   rw [Exit.noGoto_ret]
   refine bodyPost_ret (v:=.agg c) (res_row Tryz.results85 ex_struct ex_size _ _ (w.heap.size + 1) _ c rfl (HC8.out.rs.set c) HC8.out.ex.size) rfl ⟨_,rfl,?_,?_,?_⟩
   ·rw [HZE.out]
    exact (HC8.out.ex.step (S':=fun b=>w.heap.size ≤ b) (by simp) fun b hb _=>⟨by omega,setRow_other _ _ b c (by have:=HC8.out.hg;omega)⟩).v
   ·rw [HZE.out]
    exact HC8.out.pb.other (grown_setRow _ _ c) (by have:=HC8.out.hr;omega)
   ·exact grown_fill HC8.out.gr (by omega) c
end
end Go.Proofs.YtmdogmpcmkfjpaaGreatDoor.Dt
