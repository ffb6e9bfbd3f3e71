import Derived.Test.YtmdogmpcmkfjpaaGreatDoorBn22
import Derived.Test.YtmdogmpcmkfjpaaGreatDoorBn04
/- Part of the proof (merged). -/
namespace Go.Proofs.YtmdogmpcmkfjpaaGreatDoor.Dt
open Go.RowKit Go.Proofs.YtmdogmpcmkfjpaaGreatDoor.By
theorem run_bs1v (W:World) (c:Array Value) (h:okRow 8 c=true):(veilBs 28 1 #[(0,.agg c)]).run Tryz.prog W = .ok (.slice (some ⟨W.heap.size,0,none⟩) 1 1) (W.alloc (.cells c 48)):=run_bs1 W c (okRow_iff.1 h).1
attribute [local go_sem ↓] veilSt_ex veilLd_ex veilBs_ex
attribute [local go_sem] run_exSt run_exNew run_exLd okRow8 Value.oneCell' run_bs1v
section
variable {w0:World} {r:Nat} {tv:Value} {L:List Tk} {en:Int} {s:PS}
theorem exD_fin {S:Nat→Prop} {m g:Nat} {w:World} {c:Array Value} {x:PE} (h:ExD S w c x) (hg:¬ S g) (hm:∀ b,S b→m ≤ b) (d:Array Value):New m (w.setRow g d) fun u=>ExV u (.agg c) x:=
 ((ExD.set h hg).step (Nat.le_refl _) fun b hb _=>⟨hm b hb,rfl⟩).v
theorem nodeOk (op:Nat) (a:Option Addr) (n c:Nat):okRow 8 #[.int .u8 (op:Int),.int .u8 0,.int .i64 0,.string ⟨#[]⟩,.string ⟨#[]⟩,.string ⟨#[]⟩,.int .i64 0,.slice a n c]=true:=by rw [okRow8];rfl
structure NS (w0:World) (r:Nat) (tv:Value) (L:List Tk) (en:Int) (w:World) (q g:Nat) (s:PS) (x:PE) (c:Array Value) (W:World):Prop where
 pb:PB w0 r tv L en s W
 row:Row g 48 c W
 ex:ExD (fun b=>w.heap.size ≤ b∧b ≠ g∧b ≠ q) W c x
 gr:w.grownBy W (some r)
 rs:Row q 48 exZ W
 hq:w.heap.size ≤ q
 hg:w.heap.size ≤ g
 hqg:q ≠ g
 hr:r < w.heap.size
theorem NS.grown {w W W':World} {q g:Nat} {s s':PS} {x:PE} {c:Array Value} (h:NS w0 r tv L en w q g s x c W) (k:W.grownBy W' (some r)) (hp:PB w0 r tv L en s' W'):NS w0 r tv L en w q g s' x c W':=by
 have h1:=h.hq
 have h2:=h.hg
 have h3:=h.hr
 exact ⟨hp,h.row.grown k (by omega),h.ex.grown k (by omega),grown_trans h.gr k,h.rs.grown k (by omega),h1,h2,h.hqg,h3⟩
theorem NS.later {w W W':World} {q g:Nat} {s:PS} {x:PE} {c:Array Value} (h:NS w0 r tv L en w q g s x c W) (k:Below W.heap.size W W'):NS w0 r tv L en w q g s x c W':=h.grown (below_grown k) (h.pb.later k)
def CmpKn (r:Nat) (i o:Nat) (c:Array Value) (S:Nat→Prop) (x y:PE) (j:Nat) (v:Value) (W:World):Prop:=match j with
 | 0=>v = .int .i64 (i:Int)
 | 1=>v = .int .u8 (i:Int)
 | 2=>v = .int .u8 (o:Int)
 | 3=>v = .agg c
 | 4=>v = .pointer (some ⟨r,0,none⟩)
 | 5=>∃ d,v = .agg d∧ExD S W d y
 | 6=>∃ g2,v = .slice (some ⟨g2,0,none⟩) 2 2∧Dep S W fun u=>ExsR u v [x,y]
 | _=>∃ d,v = .agg d∧ExD S W d (.node o [x,y])
theorem CmpKn.later {i o:Nat} {c:Array Value} {S:Nat→Prop} {x y:PE} (hS:¬ S r) (w0:World) (j:Nat) (v:Value) (w1 w2:World) (h:CmpKn r i o c S x y j v w1) (_:w0.grownBy w1 (some r)) (g:w1.grownBy w2 (some r)):CmpKn r i o c S x y j v w2:=by
 match j,h with
 | 0,h=>exact h
 | 1,h=>exact h
 | 2,h=>exact h
 | 3,h=>exact h
 | 4,h=>exact h
 | 5,⟨d,e,h⟩=>exact ⟨d,e,h.grown g hS⟩
 | 6,⟨d,e,h⟩=>exact ⟨d,e,h.step g.size fun b h1 h2=>⟨h1,g.block b h2 (fun e=>by cases e;exact hS h1)⟩⟩
 | _ + 7,⟨d,e,h⟩=>exact ⟨d,e,h.grown g hS⟩
theorem cmp_ix0 (a b c d e f:Value) (W:World):(Instr.index 173 (.agg #[a,b,c,d,e,f]) (.int .i64 0)).run Tryz.prog W = .ok a W:=by kernel_rfl
theorem cmp_ix1 (a b c d e f:Value) (W:World):(Instr.index 173 (.agg #[a,b,c,d,e,f]) (.int .i64 1)).run Tryz.prog W = .ok b W:=by kernel_rfl
theorem cmp_ix2 (a b c d e f:Value) (W:World):(Instr.index 173 (.agg #[a,b,c,d,e,f]) (.int .i64 2)).run Tryz.prog W = .ok c W:=by kernel_rfl
theorem cmp_ix3 (a b c d e f:Value) (W:World):(Instr.index 173 (.agg #[a,b,c,d,e,f]) (.int .i64 3)).run Tryz.prog W = .ok d W:=by kernel_rfl
theorem cmp_ix4 (a b c d e f:Value) (W:World):(Instr.index 173 (.agg #[a,b,c,d,e,f]) (.int .i64 4)).run Tryz.prog W = .ok e W:=by kernel_rfl
theorem cmp_ix5 (a b c d e f:Value) (W:World):(Instr.index 173 (.agg #[a,b,c,d,e,f]) (.int .i64 5)).run Tryz.prog W = .ok f W:=by kernel_rfl
theorem cmp_index (i:Nat) (x:ByteArray × Nat) (h:cmps[i]? = some x) (W:World):(Instr.index 173 (.agg #[.string BEQ,.string BNE,.string BLT,.string BLE,.string BGT,.string BGE]) (.int .i64 (i:Int))).run Tryz.prog W = .ok (.string x.1) W:=by
 match i,h with
 | 0,h=>cases h;exact cmp_ix0 _ _ _ _ _ _ W
 | 1,h=>cases h;exact cmp_ix1 _ _ _ _ _ _ W
 | 2,h=>cases h;exact cmp_ix2 _ _ _ _ _ _ W
 | 3,h=>cases h;exact cmp_ix3 _ _ _ _ _ _ W
 | 4,h=>cases h;exact cmp_ix4 _ _ _ _ _ _ W
 | 5,h=>cases h;exact cmp_ix5 _ _ _ _ _ _ W
 | _ + 6,h=>simp [cmps] at h
theorem cmp_op (i:Nat) (x:ByteArray × Nat) (h:cmps[i]? = some x):x.2=12 + i∧i < 6:=by
 match i,h with
 | 0,h=>cases h;exact ⟨rfl,by decide⟩
 | 1,h=>cases h;exact ⟨rfl,by decide⟩
 | 2,h=>cases h;exact ⟨rfl,by decide⟩
 | 3,h=>cases h;exact ⟨rfl,by decide⟩
 | 4,h=>cases h;exact ⟨rfl,by decide⟩
 | 5,h=>cases h;exact ⟨rfl,by decide⟩
 | _ + 6,h=>simp [cmps] at h
theorem kid1 {S:Nat→Prop} {W:World} {c:Array Value} {x:PE} (h:ExD S W c x) (hS:S W.heap.size):Dep S (W.alloc (.cells c 48)) fun u=>ExsR u (.slice (some ⟨W.heap.size,0,none⟩) 1 1) [x]:=
 exs_row1 (row_alloc W 48 c) hS (h.later ((Below.refl _ W).alloc (Nat.le_refl _) _))
theorem node1W (op:Nat) {S:Nat→Prop} {W:World} {c:Array Value} {x:PE} (h:ExD S W c x) (hS:S W.heap.size):Calls Tryz.prog 128 #[.int .u8 (op:Int),.slice (some ⟨W.heap.size,0,none⟩) 1 1] (W.alloc (.cells c 48)) fun e w'=>
 ∃ d,e = .returned (.agg d)∧okRow 8 d=true∧ExD S w' d (PE.node op [x])∧Below W.heap.size W w':=by
 refine (nodeW op _ (some ⟨W.heap.size,0,none⟩) 1 1 rfl _).mono ?_
 rintro e w' ⟨rfl,hb⟩
 refine ⟨_,rfl,nodeOk op _ _ _,exD_node ((kid1 h hS).step hb.size fun b h1 h2=>⟨h1,hb.block b h2⟩),next ((Below.refl _ W).alloc (Nat.le_refl _) _) hb⟩
set_option maxRecDepth 100000 in
set_option maxHeartbeats 16000000 in
theorem notW (H1:∀ s',s.k < s'.k→EX w0 r tv L en .not s') (H2:∀ s',s.k ≤ s'.k→EX w0 r tv L en (.sum 0) s'):EX w0 r tv L en .not s:=by
 intro w h
 obtain ⟨Z,hZ⟩:∃ Z,Z=exF L en FU .not s:=⟨_,rfl⟩
 rw [← hZ]
 rw [fu_not h.hk h.hl] at hZ
 have hr0:=row_alloc w 48 exZ
 have hb:=(Below.refl _ w).alloc (Nat.le_refl _) (.cells exZ 48)
 have HR:=Lib.hid h.lt
 have HB:=Lib.hid hb
 have HR0:=Lib.hid hr0
 have HI:=Lib.hid (isW WNOT _ (h.later hb))
 have HZ:=Lib.hid hZ
 have HH1:=Lib.hid H1
 have HH2:=Lib.hid H2
 clear h H1 H2 hr0 hb hZ
 show Calls _ 87 #[.pointer (some ⟨r,0,none⟩)] _ _
 obtain ⟨B,hB⟩:∃ B,isB L en WNOT s=B:=⟨_,rfl⟩
 rw [isM_snd,hB] at HI
 have HBN:=Lib.hid hB
 clear hB
 go_enter Tryz.func87,Tryz.ntmps87
 go_upto_region 1 with fail
 generalize w.alloc (.cells exZ 48)=w1 at *
 cases B
 ·go_wp2_with fail
  refine HI.out.mono ?_
  rintro e2 w2 ⟨rfl,hp2,hg2⟩
  have hp2:PB w0 r tv L en s w2:=hp2
  have hc:=HH2.out s (Nat.le_refl _) w2 hp2
  have HG2:=Lib.hid (grown_trans (below_grown (r:=r) HB.out) hg2)
  have HR2:=Lib.hid (HR0.out.grown hg2 (Nat.ne_of_gt HR.out))
  obtain ⟨⟨x,s1⟩,hx⟩:∃ z,exF L en FU (.sum 0) s=z:=⟨_,rfl⟩
  rw [hx] at hc
  have HC:=Lib.hid hc
  have HZ2:Hid (Z=(bnd (isM L en WIS) fun b=>if b then
   (bnd (isM L en WNOT) fun b=>bnd (mustM L en [WNULL]) fun _=>ret (if b then PE.node 4 [PE.node 5 [x]] else PE.node 5 [x]))
   else bnd (oneOf L en cmps) fun o=>match o with
    | some o=>bnd (exF L en FU (.sum 0)) fun y=>ret (PE.node o [x,y])
    | none=>ret x) s1):=Lib.hid (by rw [HZ.out,isN HBN.out,if_neg Bool.false_ne_true,bndE hx];rfl)
  have HMX:Hid (s.k ≤ s1.k):=Lib.hid (by have:=ex_mono (L:=L) (en:=en) (.sum 0) s;rw [hx] at this;exact this)
  clear hp2 hg2 hx hc HI
  go_wp2_with fail
  refine HC.out.mono ?_
  rintro e3 w3 ⟨v,rfl,hn3,hp3,hg3⟩
  obtain ⟨c,rfl,hx3⟩:=ExN.of hn3
  have hok:=hx3.ok
  have hb4:=(Below.refl _ w3).alloc (Nat.le_refl _) (.cells c 48)
  have HN4:Hid (NS w0 r tv L en w w.heap.size w3.heap.size s1 x c (w3.alloc (.cells c 48))):=Lib.hid (by
   have h1:=HG2.out.size
   have h2:=hg3.size
   have h3:=HR2.out.lt
   exact ⟨hp3.later hb4,row_alloc _ _ _,(hx3.step (Nat.le_refl _) (fun b hb hlt=>⟨⟨by omega,by omega,by omega⟩,rfl⟩)).later hb4,grown_trans (grown_trans HG2.out hg3) (below_grown hb4),(HR2.out.grown hg3 (Nat.ne_of_gt HR.out)).later hb4,Nat.le_refl _,by omega,by omega,HR.out⟩)
  clear hn3 hp3 hg3 hx3 hb4 HC
  go_upto_region 4 with fail
  generalize w3.alloc (.cells c 48)=w4 at *
  generalize w3.heap.size=g at *
  clear hok
  have HI5:=Lib.hid (isW WIS w4 HN4.out.pb)
  obtain ⟨B,hB⟩:∃ B,isB L en WIS s1=B:=⟨_,rfl⟩
  rw [isM_snd,hB] at HI5
  have HBI:=Lib.hid hB
  clear hB
  cases B
  ·have HZ4:Hid (Z=(bnd (oneOf L en cmps) fun o=>match o with
    | some o=>bnd (exF L en FU (.sum 0)) fun y=>ret (PE.node o [x,y])
    | none=>ret x) s1):=Lib.hid (by rw [HZ2.out,isN HBI.out,if_neg Bool.false_ne_true])
   clear HZ2
   go_wp2_with fail
   refine HI5.out.mono ?_
   rintro e5 w5 ⟨rfl,hp5,hg5⟩
   have HN5:=Lib.hid (HN4.out.grown hg5 hp5)
   clear hp5 hg5 HI5 HN4
   go_wp2_with fail
   go_loopg [33] 6 (fun gk iv wr=>∃ (i:Nat),iv = .int .i64 (i:Int)∧gk=6 - i∧i ≤ 6∧Hid (NS w0 r tv L en w w.heap.size g s1 x c wr)∧Hid (oneOf L en cmps s1=oneOf L en (cmps.drop i) s1))
   case atStart=>exact ⟨0,rfl,rfl,by decide,HN5,Lib.hid rfl⟩
   case round=>
    obtain ⟨i,rfl,rfl,hi,HN,HO⟩:=hrel
    by_cases hlt:i < 6
    ·obtain ⟨⟨t,o⟩,ht⟩:∃ q,cmps[i]? = some q:=⟨cmps[i]'(by show i < 6;exact hlt),by simp⟩
     have hd:cmps.drop i=(t,o) :: cmps.drop (i + 1):=by
      rw [List.drop_eq_getElem_cons (show i < cmps.length from hlt),(List.getElem?_eq_some_iff.1 ht).2]
     obtain ⟨hop,_⟩:=cmp_op i _ ht
     have HO2:Hid (oneOf L en cmps s1=oneOf L en ((t,o) :: cmps.drop (i + 1)) s1):=Lib.hid (by rw [← hd];exact HO.out)
     have hix:∀ W,(Instr.index 173 (.agg #[.string BEQ,.string BNE,.string BLT,.string BLE,.string BGT,.string BGE]) (.int .i64 (i:Int))).run Tryz.prog W = .ok (.string t) W:=cmp_index i (t,o) ht
     have HI:=Lib.hid (isW t wr HN.out.pb)
     have ilt:(i:Int) < 6:=by omega
     have ige:(0:Int) ≤ (i:Int):=by omega
     have HLTI:=Lib.hid hlt
     have HOP:Hid (o=12 + i):=Lib.hid hop
     clear hd ht hlt hop
     obtain ⟨B,hB⟩:∃ B,isB L en t s1=B:=⟨_,rfl⟩
     rw [isM_snd,hB] at HI
     have HB2:=Lib.hid hB
     clear hB
     cases B
     ·have HNO:Hid (oneOf L en cmps s1=oneOf L en (cmps.drop (i + 1)) s1):=Lib.hid (by rw [HO2.out,oneOf_no HB2.out])
      go_wp2_with fail
      refine HI.out.mono ?_
      rintro e5 w6 ⟨rfl,hp5,hg5⟩
      have HN6:=Lib.hid (HN.out.grown hg5 hp5)
      clear hp5 hg5 hix
      go_wp2_with fail
      go_roundg (6 - (i + 1))
      case measure=>exact Nat.sub_lt_sub_left HLTI.out (Nat.lt_succ_self _)
      case rel=>exact ⟨i + 1,by go_num,rfl,HLTI.out,HN6,HNO⟩
     ·go_wp2_with fail
      refine HI.out.mono ?_
      rintro e5 w6 ⟨rfl,hp5,hg5⟩
      have HN6:Hid (NS w0 r tv L en w w.heap.size g s1.next x c w6):=Lib.hid (HN.out.grown hg5 hp5)
      clear hp5 hg5 hix
      go_upto_region 14 with fail
      obtain ⟨⟨y,s2⟩,hy⟩:∃ z,exF L en FU (.sum 0) s1.next=z:=⟨_,rfl⟩
      have HY:=Lib.hid hy
      have HZ5:Hid (Z=(PE.node o [x,y],s2)):=Lib.hid (by rw [HZ4.out,bndE (x:=some o) (s1:=s1.next) (by rw [HO2.out,oneOf_yes HB2.out])];show bnd _ _ s1.next=_;rw [bndE hy];rfl)
      clear hy
      have hgw:=HN6.out.gr
      have hSr:¬ (w.heap.size ≤ r∧r ≠ g∧r ≠ w.heap.size):=by have:=HR.out;omega
      refine wp_region_kig 8 r (CmpKn r i o c (fun b=>w.heap.size ≤ b∧b ≠ g∧b ≠ w.heap.size) x y) (fun dn W=>PB w0 r tv L en (if dn 5 then s2 else s1.next) W) 50 rfl (by kernel_rfl) (by kernel_rfl) (CmpKn.later hSr w6) ?_ ?_ ?_ ?_
      ·intro dn dn' W hdd hst
       rw [← hdd 5 (by decide)]
       exact hst
      ·exact HN6.out.pb.later (Below.drew (Below.refl _ _))
      ·intro j hj dn A W hother hgW hst hdj hd
       match j,hj with
       | 0,hj=>
        have h0:=tmps_at (show A.eval (.tmp 4) = .int .i64 (i:Int) from hother 4 (by kernel_rfl))
        clear hother hd hj
        exact kig_same rfl rfl (.int .i64 (i:Int)) (by simp only [execOp];go_simp) rfl hst
       | 1,hj=>
        have h0:=tmps_at ((hd _ rfl ⟨0,.data⟩ (by simp) rfl).2.eq (.int .i64 (i:Int)) (fun _ h=>h) 40 (by kernel_rfl) (by decide))
        clear hother hd hj
        exact kig_same rfl rfl (.int .u8 (i:Int)) (by simp only [execOp];go_simp;(try (rw [IntKind.wrap_u8];omega))) rfl hst
       | 2,hj=>
        have h0:=tmps_at ((hd _ rfl ⟨1,.data⟩ (by simp) rfl).2.eq (.int .u8 (i:Int)) (fun _ h=>h) 41 (by kernel_rfl) (by decide))
        have ho:(o:Int)=12 + (i:Int):=by have:=HOP.out;omega
        clear hother hd hj
        exact kig_same rfl rfl (.int .u8 (o:Int)) (by rw [ho];simp only [execOp];go_simp;(try (rw [IntKind.wrap_u8];omega))) rfl hst
       | 3,hj=>
        have h0:=tmps_at (show A.eval (.tmp 3) = .pointer (some ⟨g,0,none⟩) from hother 3 (by kernel_rfl))
        have hr5:=HN6.out.row.grown hgW (by have:=HN6.out.hg;have:=HR.out;omega)
        have hb5:=hr5.b (n:=8) HN6.out.ex.size
        have ho5:=hr5.of
        clear hother hd hj hr5
        exact kig_same rfl rfl (.agg c) (by simp only [execOp];go_simp) rfl hst
       | 4,hj=>
        have h0:=tmps_at (show A.eval (.tmp 0) = .pointer (some ⟨r,0,none⟩) from hother 0 (by kernel_rfl))
        clear hother hd hj
        exact kig_same rfl rfl (.pointer (some ⟨r,0,none⟩)) (by simp only [execOp];go_simp) rfl hst
       | 5,hj=>
        have h0:=tmps_at ((hd _ rfl ⟨4,.data⟩ (by simp) rfl).2.eq (.pointer (some ⟨r,0,none⟩)) (fun _ h=>h) 44 (by kernel_rfl) (by decide))
        have hst5:PB w0 r tv L en s1.next W:=by have h:=hst;simp only [hdj] at h;exact h
        have hcall:=HH2.out s1.next (by have:=HMX.out;show s.k ≤ s1.k + 1;omega) W hst5
        rw [HY.out] at hcall
        clear hother hd hj
        refine kig_call rfl rfl 129 #[.pointer (some ⟨r,0,none⟩),.int .i64 0] (by simp only [execOp];go_simp) (Calls.mono hcall ?_)
        rintro e7 w7 ⟨v7,rfl,hn7,hp7,hg7⟩
        obtain ⟨d,rfl,hx7⟩:=ExN.of hn7
        refine ⟨_,rfl,hg7,⟨d,rfl,hx7.step (Nat.le_refl _) (fun b hb hlt=>⟨⟨?_,?_,?_⟩,rfl⟩)⟩,hp7⟩
        ·have h1:=(grown_trans hgw hgW).size;omega
        ·have h3:=HN6.out.row.lt;have h4:=hgW.size;omega
        ·have h3:=HN6.out.rs.lt;have h4:=hgW.size;omega
       | 6,hj=>
        obtain ⟨v7,⟨d,e7,hx7⟩,h7⟩:=(hd _ rfl ⟨5,.data⟩ (by simp) rfl).2.get 45 (by kernel_rfl) (by decide)
        rw [e7] at h7
        have h0:=tmps_at h7
        have h1:=tmps_at ((hd _ rfl ⟨3,.data⟩ (by simp) rfl).2.eq (.agg c) (fun _ h=>h) 43 (by kernel_rfl) (by decide))
        have hbs:(veilBs 28 2 #[(0,.agg c),(1,.agg d)]).run Tryz.prog W = .ok (.slice (some ⟨W.heap.size,0,none⟩) 2 2) (W.alloc (.cells (c ++ d) 48)):=run_bs2 W c d HN6.out.ex.size hx7.size
        have hbw:=(Below.refl _ W).alloc (Nat.le_refl _) (.cells (c ++ d) 48)
        have hsz:w.heap.size ≤ W.heap.size∧W.heap.size ≠ g∧W.heap.size ≠ w.heap.size:=by have h3:=HN6.out.row.lt;have h5:=HN6.out.rs.lt;have h4:=hgW.size;have h2:=(grown_trans hgw hgW).size;omega
        have hkids:=exs_row2 (S:=fun b=>w.heap.size ≤ b∧b ≠ g∧b ≠ w.heap.size) (row_alloc W 48 (c ++ d)) hsz ((HN6.out.ex.grown hgW hSr).later hbw) (hx7.later hbw)
        have hst8:=hst.later hbw
        clear hother hd hj hx7
        exact kig_val rfl rfl (.slice (some ⟨W.heap.size,0,none⟩) 2 2) (W.alloc (.cells (c ++ d) 48)) (by simp only [execOp];go_simp) (below_grown hbw) ⟨_,rfl,hkids⟩ hst8
       | 7,hj=>
        obtain ⟨v8,⟨g2,e8,hx8⟩,h8⟩:=(hd _ rfl ⟨6,.data⟩ (by simp) rfl).2.get 46 (by kernel_rfl) (by decide)
        subst e8
        have h0:=tmps_at h8
        have h1:=tmps_at ((hd _ rfl ⟨2,.data⟩ (by simp) rfl).2.eq (.int .u8 (o:Int)) (fun _ h=>h) 42 (by kernel_rfl) (by decide))
        clear hother hd hj
        refine kig_call rfl rfl 128 #[.int .u8 (o:Int),.slice (some ⟨g2,0,none⟩) 2 2] (by simp only [execOp];go_simp) ((nodeW o _ (some ⟨g2,0,none⟩) 2 2 rfl W).mono ?_)
        rintro e9 w9 ⟨rfl,hb9⟩
        exact ⟨_,rfl,below_grown hb9,⟨_,rfl,exD_node (hx8.step hb9.size fun b h1 h2=>⟨h1,hb9.block b h2⟩)⟩,hst.later hb9⟩
       | k + 8,hj=>omega
      ·intro us W hgW hst hk
       obtain ⟨d,e9,hx9⟩:=hk 7 (by decide)
       have HR9:=Lib.hid (HN6.out.rs.grown hgW (by have:=HR.out;omega))
       have hb9:=HR9.out.b (n:=8) rfl
       have hok9:=hx9.ok
       have HX9:=Lib.hid hx9
       have HPW:Hid (PB w0 r tv L en s2 W):=Lib.hid hst
       have HGW:=Lib.hid (grown_trans hgw hgW)
       clear hk hst hgW hx9 hgw
       simp only [List.drop_succ_cons,List.drop_zero,putAll,dstOf,Act.put,List.getElem?_toArray,List.getElem?_cons_zero,List.getElem?_cons_succ,Option.bind_some]
       simp only [List.setIfInBounds_toArray,List.set_cons_zero,List.set_cons_succ]
       rw [e9]
       go_wp2_with fail
       exact bodyPost_ret (v:=.agg d) (res_row Tryz.results87 ex_struct ex_size _ _ w.heap.size _ d rfl (HR9.out.set d) HX9.out.size) rfl ⟨_,rfl,by rw [HZ5.out];exact exD_fin HX9.out (by omega) (fun b h=>h.1) d,by rw [HZ5.out];exact HPW.out.other (grown_setRow _ _ d) HR.out,grown_fill HGW.out (Nat.le_refl _) d⟩
    ·obtain rfl:i=6:=by omega
     have HZ5:Hid (Z=(x,s1)):=Lib.hid (by rw [HZ4.out,bndE (x:=none) (s1:=s1) (by rw [HO.out];rfl)];rfl)
     have hr:=HN.out.row
     have hb:=hr.b (n:=8) HN.out.ex.size
     have ho:=hr.of
     have hbr:=HN.out.rs.b (n:=8) rfl
     have hok:=HN.out.ex.ok
     clear hlt hi hr
     go_wp2_with fail
     exact bodyPost_ret (v:=.agg c) (res_row Tryz.results87 ex_struct ex_size _ _ w.heap.size _ c rfl (HN.out.rs.set c) HN.out.ex.size) rfl ⟨_,rfl,by rw [HZ5.out];exact exD_fin HN.out.ex (by omega) (fun b h=>h.1) c,by rw [HZ5.out];exact HN.out.pb.other (grown_setRow _ _ c) HR.out,grown_fill HN.out.gr (Nat.le_refl _) c⟩
  ·go_wp2_with fail
   refine HI5.out.mono ?_
   rintro e5 w5 ⟨rfl,hp5,hg5⟩
   have HN5:=Lib.hid (HN4.out.grown hg5 hp5)
   have HI6:=Lib.hid (isW WNOT w5 HN5.out.pb)
   clear hp5 hg5 HI5 HN4
   obtain ⟨B,hB⟩:∃ B,isB L en WNOT s1.next=B:=⟨_,rfl⟩
   rw [isM_snd] at HI6
   simp only [if_true,hB] at HI6
   have HBN2:=Lib.hid hB
   clear hB
   go_wp2_with fail
   refine HI6.out.mono ?_
   rintro e6 w6 ⟨rfl,hp6,hg6⟩
   have HN6:=Lib.hid (HN5.out.grown hg6 hp6)
   have HM7:=Lib.hid (mustLit WNULL w6 HN6.out.pb)
   clear hp6 hg6 HI6 HN5
   cases B
   ·obtain ⟨s3,h3⟩:∃ z,(mustM L en [WNULL] s1.next).2=z:=⟨_,rfl⟩
    simp only [Bool.false_eq_true,if_false,h3] at HM7
    have HZ3:Hid (Z=(PE.node 5 [x],s3)):=Lib.hid (by rw [HZ2.out,isY HBI.out,if_pos rfl,isN HBN2.out,bndE (x:=()) (s1:=s3) (by rw [← h3])];rfl)
    clear h3
    go_wp2_with fail
    refine HM7.out.mono ?_
    rintro e7 w7 ⟨rfl,hp7,hg7⟩
    have HN7:=Lib.hid (HN6.out.grown hg7 hp7)
    clear hp7 hg7 HN6 HM7
    have hb7:=HN7.out.row.b (n:=8) HN7.out.ex.size
    have ho7:=HN7.out.row.of
    have hk7:=HN7.out.ex.ok
    have HC8:=Lib.hid (node1W 5 HN7.out.ex (by have:=HN7.out.gr.size;have:=HN7.out.row.lt;have:=HN7.out.rs.lt;omega))
    go_wp2_with fail
    refine HC8.out.mono ?_
    rintro e8 w8 ⟨d,rfl,hk8,hx8,hbel8⟩
    have HN8:=Lib.hid (HN7.out.later hbel8)
    have hb8:=HN8.out.rs.b (n:=8) rfl
    have HX8:=Lib.hid hx8
    clear hx8 hbel8 hb7 ho7 HC8
    go_wp2_with fail
    exact bodyPost_ret (v:=.agg d) (res_row Tryz.results87 ex_struct ex_size _ _ w.heap.size _ d rfl (HN8.out.rs.set d) HX8.out.size) rfl ⟨_,rfl,by rw [HZ3.out];exact exD_fin HX8.out (by omega) (fun b h=>h.1) d,by rw [HZ3.out];exact HN8.out.pb.other (grown_setRow _ _ d) HR.out,grown_fill HN8.out.gr (Nat.le_refl _) d⟩
   ·obtain ⟨s3,h3⟩:∃ z,(mustM L en [WNULL] s1.next.next).2=z:=⟨_,rfl⟩
    simp only [if_true,h3] at HM7
    have HZ3:Hid (Z=(PE.node 4 [PE.node 5 [x]],s3)):=Lib.hid (by rw [HZ2.out,isY HBI.out,if_pos rfl,isY HBN2.out,bndE (x:=()) (s1:=s3) (by rw [← h3])];rfl)
    clear h3
    go_wp2_with fail
    refine HM7.out.mono ?_
    rintro e7 w7 ⟨rfl,hp7,hg7⟩
    have HN7:=Lib.hid (HN6.out.grown hg7 hp7)
    clear hp7 hg7 HN6 HM7
    have hb7:=HN7.out.row.b (n:=8) HN7.out.ex.size
    have ho7:=HN7.out.row.of
    have hk7:=HN7.out.ex.ok
    have HC8:=Lib.hid (node1W 5 HN7.out.ex (by have:=HN7.out.gr.size;have:=HN7.out.row.lt;have:=HN7.out.rs.lt;omega))
    go_wp2_with fail
    refine HC8.out.mono ?_
    rintro e8 w8 ⟨d,rfl,hk8,hx8,hbel8⟩
    have HN8:=Lib.hid (HN7.out.later hbel8)
    have HC9:=Lib.hid (node1W 4 hx8 (by have:=HN8.out.gr.size;have:=HN8.out.row.lt;have:=HN8.out.rs.lt;omega))
    clear hx8 hbel8 hb7 ho7 HC8
    go_wp2_with fail
    refine HC9.out.mono ?_
    rintro e9 w9 ⟨d',rfl,hk9,hx9,hbel9⟩
    have HN9:=Lib.hid (HN8.out.later hbel9)
    have hb9:=HN9.out.rs.b (n:=8) rfl
    have HX9:=Lib.hid hx9
    clear hx9 hbel9 hk8 HC9
    go_wp2_with fail
    exact bodyPost_ret (v:=.agg d') (res_row Tryz.results87 ex_struct ex_size _ _ w.heap.size _ d' rfl (HN9.out.rs.set d') HX9.out.size) rfl ⟨_,rfl,by rw [HZ3.out];exact exD_fin HX9.out (by omega) (fun b h=>h.1) d',by rw [HZ3.out];exact HN9.out.pb.other (grown_setRow _ _ d') HR.out,grown_fill HN9.out.gr (Nat.le_refl _) d'⟩
 ·go_wp2_with fail
  refine HI.out.mono ?_
  rintro e2 w2 ⟨rfl,hp2,hg2⟩
  have hp2:PB w0 r tv L en s.next w2:=hp2
  have hc:=HH1.out s.next (Nat.lt_succ_self _) w2 hp2
  have HG2:=Lib.hid (grown_trans (below_grown (r:=r) HB.out) hg2)
  have HR2:=Lib.hid (HR0.out.grown hg2 (Nat.ne_of_gt HR.out))
  obtain ⟨⟨x,s1⟩,hx⟩:∃ z,exF L en FU .not s.next=z:=⟨_,rfl⟩
  rw [hx] at hc
  have HC:Hid (Calls Tryz.prog 87 #[.pointer (some ⟨r,0,none⟩)] w2 _):=Lib.hid hc
  have HZ2:Hid (Z=(PE.node 4 [x],s1)):=Lib.hid (by rw [HZ.out,isY HBN.out,if_pos rfl,bndE hx];rfl)
  clear hp2 hg2 hx hc HI
  go_wp2_with fail
  refine HC.out.mono ?_
  rintro e3 w3 ⟨v,rfl,hn3,hp3,hg3⟩
  obtain ⟨c,rfl,hx3⟩:=ExN.of hn3
  have hok:=hx3.ok
  have HP3:=Lib.hid hp3
  have HG3:=Lib.hid (grown_trans HG2.out hg3)
  have HR3:=Lib.hid (HR2.out.grown hg3 (Nat.ne_of_gt HR.out))
  have HLT3:Hid (w.heap.size < w2.heap.size):=Lib.hid HR2.out.lt
  have HC4:=Lib.hid (node1W 4 hx3 hg3.size)
  clear hn3 hp3 hg3 hx3 HC
  go_wp2_with fail
  refine HC4.out.mono ?_
  rintro e4 w4 ⟨d,rfl,hk4,hx4,hbel4⟩
  have HP4:=Lib.hid (HP3.out.later hbel4)
  have HG4:=Lib.hid (grown_trans HG3.out (below_grown hbel4))
  have HR4:=Lib.hid (HR3.out.later hbel4)
  have hb4:=HR4.out.b (n:=8) rfl
  have HX4:=Lib.hid hx4
  clear hx4 hbel4 hok HC4
  go_wp2_with fail
  exact bodyPost_ret (v:=.agg d) (res_row Tryz.results87 ex_struct ex_size _ _ w.heap.size _ d rfl (HR4.out.set d) HX4.out.size) rfl ⟨_,rfl,by rw [HZ2.out];exact exN_fin HX4.out HLT3.out (Nat.le_of_lt HLT3.out) d,by rw [HZ2.out];exact HP4.out.other (grown_setRow _ _ d) HR.out,grown_fill HG4.out (Nat.le_refl _) d⟩
end
end Go.Proofs.YtmdogmpcmkfjpaaGreatDoor.Dt
namespace Go.Proofs.YtmdogmpcmkfjpaaGreatDoor.Dt
open Go.RowKit Go.Proofs.YtmdogmpcmkfjpaaGreatDoor.By
attribute [local go_sem ↓] veilSt_ex veilLd_ex veilBs_ex veilSt_tk
attribute [local go_sem] run_exSt run_exNew run_exLd okRow8 Value.oneCell' run_bs1v run_tkSt run_tkNew okRow4
section
variable {w0:World} {r:Nat} {tv:Value} {L:List Tk} {en:Int} {s:PS}
theorem val_ex {S:Nat→Prop} {w:World} (v:V):ExD S w #[.int .u8 1,.int .u8 (v.k:Int),.int .i64 v.n,.string v.s,.string ⟨#[]⟩,.string ⟨#[]⟩,.int .i64 0,.slice none 0 0] (PE.val1 v):=
 ⟨rfl,by simp [Value.oneCell'],fun u _=>exR_iff.2 ⟨_,rfl,SlR.nil _ _ _⟩⟩
theorem neg_wrap (n:Nat) (h:n ≤ 9223372036854775808):wrap64 (-(wrap64 (n:Int))) = -(n:Int):=by
 unfold wrap64
 omega
set_option maxRecDepth 100000 in
set_option maxHeartbeats 16000000 in
theorem unaryW (hall:AllOk L) (H1:∀ s',s.k < s'.k→EX w0 r tv L en .unary s') (H2:EX w0 r tv L en .prim s):EX w0 r tv L en .unary s:=by
 intro w h
 obtain ⟨Z,hZ⟩:∃ Z,Z=exF L en FU .unary s:=⟨_,rfl⟩
 rw [← hZ]
 rw [fu_unary h.hk h.hl] at hZ
 have hr0:=row_alloc w 48 exZ
 have hb:=(Below.refl _ w).alloc (Nat.le_refl _) (.cells exZ 48)
 have HR:=Lib.hid h.lt
 have HB:=Lib.hid hb
 have HR0:=Lib.hid hr0
 have HI:=Lib.hid (isW BMINUS _ (h.later hb))
 have HZ:=Lib.hid hZ
 have HH1:=Lib.hid H1
 have HH2:=Lib.hid H2
 have HA:=Lib.hid hall
 clear h H1 H2 hr0 hb hZ hall
 show Calls _ 145 #[.pointer (some ⟨r,0,none⟩)] _ _
 obtain ⟨B,hB⟩:∃ B,isB L en BMINUS s=B:=⟨_,rfl⟩
 rw [isM_snd,hB] at HI
 have HBN:=Lib.hid hB
 clear hB
 go_enter Tryz.func145,Tryz.ntmps145
 go_upto_region 1 with fail
 generalize w.alloc (.cells exZ 48)=w1 at *
 cases B
 ·go_wp2_with fail
  refine HI.out.mono ?_
  rintro e2 w2 ⟨rfl,hp2,hg2⟩
  have hp2:PB w0 r tv L en s w2:=hp2
  have hc:=HH2.out w2 hp2
  have HG2:=Lib.hid (grown_trans (below_grown (r:=r) HB.out) hg2)
  have HR2:=Lib.hid (HR0.out.grown hg2 (Nat.ne_of_gt HR.out))
  have HZ2:Hid (Z=exF L en FU .prim s):=Lib.hid (by rw [HZ.out,isN HBN.out,if_neg Bool.false_ne_true])
  have HC:Hid (Calls Tryz.prog 160 #[.pointer (some ⟨r,0,none⟩)] w2 _):=Lib.hid hc
  clear hp2 hg2 hc HI
  go_wp2_with fail
  refine HC.out.mono ?_
  rintro e3 w3 ⟨v,rfl,hn3,hp3,hg3⟩
  obtain ⟨c,rfl,hx3⟩:=ExN.of hn3
  have hok:=hx3.ok
  have HP3:=Lib.hid hp3
  have HX3:=Lib.hid hx3
  have HG3:=Lib.hid (grown_trans HG2.out hg3)
  have HR3:=Lib.hid (HR2.out.grown hg3 (Nat.ne_of_gt HR.out))
  have HLT3:Hid (w.heap.size < w2.heap.size):=Lib.hid HR2.out.lt
  have hb3:=HR3.out.b (n:=8) rfl
  clear hn3 hp3 hg3 hx3 HC
  go_wp2_with fail
  exact bodyPost_ret (v:=.agg c) (res_row Tryz.results145 ex_struct ex_size _ _ w.heap.size _ c rfl (HR3.out.set c) HX3.out.size) rfl ⟨_,rfl,by rw [HZ2.out];exact exN_fin HX3.out HLT3.out (Nat.le_of_lt HLT3.out) c,by rw [HZ2.out];exact HP3.out.other (grown_setRow _ _ c) HR.out,grown_fill HG3.out (Nat.le_refl _) c⟩
 ·go_wp2_with fail
  refine HI.out.mono ?_
  rintro e2 w2 ⟨rfl,hp2,hg2⟩
  have hp2:PB w0 r tv L en s.next w2:=hp2
  have HT:=Lib.hid (tokenP w2 hp2)
  have HP2:=Lib.hid hp2
  have HG2:=Lib.hid (grown_trans (below_grown (r:=r) HB.out) hg2)
  have HR2:=Lib.hid (HR0.out.grown hg2 (Nat.ne_of_gt HR.out))
  have HZ2:Hid (Z=(bnd (negM L en) fun n=>match n with
   | some n=>ret (PE.val1 ⟨1,-(n:Int),⟨#[]⟩⟩)
   | none=>bnd (exF L en FU .unary) fun x=>ret (PE.node 3 [x])) s.next):=Lib.hid (by rw [HZ.out,isY HBN.out,if_pos rfl];rfl)
  have HLT9:Hid (s.k < s.next.k):=Lib.hid (Nat.lt_succ_self _)
  generalize s.next=s9 at *
  have hnn:(tokP L en s9.k).k=3→s9.k < L.length∧(tokP L en s9.k).n ≤ 9223372036854775808∧negM L en s9=(some (tokP L en s9.k).n,s9.next):=fun e=>by
   refine ⟨tokP_lt (L:=L) (en:=en) (by rw [e];decide),(tok_ok HA.out (by rw [e];decide)).2,?_⟩
   unfold negM;rw [if_pos e]
  have hno:(tokP L en s9.k).k ≠ 3→negM L en s9=(none,s9):=fun e=>by unfold negM;rw [if_neg e]
  have HNN:=Lib.hid hnn
  have HNO:=Lib.hid hno
  clear hnn hno
  generalize tokP L en s9.k=T at *
  clear hp2 hg2 HI
  go_wp2_with fail
  refine HT.out.mono ?_
  rintro e3 w3 ⟨rfl,hb3⟩
  have hb4:=next hb3 ((Below.refl _ w3).alloc (Nat.le_refl _) (.cells (tkC T) 128))
  have HP4:=Lib.hid (HP2.out.later hb4)
  have hR:=row_alloc w3 128 (tkC T)
  have HG4:=Lib.hid (grown_trans HG2.out (below_grown hb4))
  have HR4:=Lib.hid (HR2.out.later hb4)
  have q0:=hR.cell (i:=0) (v:=.int .u8 (T.k:Int)) rfl
  have HRT:=Lib.hid hR
  have HNR:=Lib.hid (Nat.ne_of_gt (HP2.out.later hb3).lt)
  have HSZ3:=Lib.hid hb3.size
  clear hR hb3 hb4 HT
  go_upto_region 4 with fail
  generalize w3.alloc (.cells (tkC T) 128)=w4 at *
  generalize w3.heap.size=b at *
  by_cases h3:T.k=3
  ·have e3:((T.k:Int) == 3)=true:=by simp [h3]
   obtain ⟨hlt,hn,hneg⟩:=HNN.out h3
   have HZ3:Hid (Z=(PE.val1 ⟨1,-(T.n:Int),⟨#[]⟩⟩,s9.next)):=Lib.hid (by rw [HZ2.out,bndE hneg];rfl)
   have HN5:=Lib.hid (HP4.out.next hlt)
   have HG5:=Lib.hid (grown_trans HG4.out (grown_set w4 r 1 (.int .i64 ((s9.k:Int) + 1))))
   have HR5:=Lib.hid (HR4.out.grown (grown_set w4 r 1 (.int .i64 ((s9.k:Int) + 1))) (Nat.ne_of_gt HR.out))
   have hq2:=(HRT.out.grown (grown_set w4 r 1 (.int .i64 ((s9.k:Int) + 1))) HNR.out).cell (i:=2) (v:=.int .u64 (T.n:Int)) rfl
   have HQ2:=Lib.hid hq2
   have j1:(0:Int) ≤ (s9.k:Int):=by omega
   have j2:(s9.k:Int) ≤ 4096:=by have:=HP4.out.hk;have:=HP4.out.hl;omega
   have HW:=Lib.hid (neg_wrap T.n hn)
   obtain ⟨c0,c1,c2,c3,c4,f1,f3,f4,_,_,_,_,_⟩:=HP4.out
   clear h3 hlt hn hneg hq2
   go_upto_region 6 with fail
   clear c0 c1 c2 c3 c4 f1 f3 f4
   generalize w4.setCell ⟨r,1,none⟩ (.int .i64 ((s9.k:Int) + 1))=w5 at *
   have q2:=HQ2.out
   have hb5:=HR5.out.b (n:=8) rfl
   have hw:=HW.out
   go_wp2_with fail
   exact bodyPost_ret (v:=.agg #[.int .u8 1,.int .u8 1,.int .i64 (-(T.n:Int)),.string ⟨#[]⟩,.string ⟨#[]⟩,.string ⟨#[]⟩,.int .i64 0,.slice none 0 0]) (res_row Tryz.results145 ex_struct ex_size _ _ w.heap.size _ _ rfl (HR5.out.set _) rfl) rfl
    ⟨_,rfl,by rw [HZ3.out];exact (val_ex ⟨1,-(T.n:Int),⟨#[]⟩⟩).v,by rw [HZ3.out];exact HN5.out.other (grown_setRow _ _ _) HR.out,grown_fill HG5.out (Nat.le_refl _) _⟩
  ·have e3:((T.k:Int) == 3)=false:=by simp;omega
   have hc:=HH1.out s9 HLT9.out w4 HP4.out
   obtain ⟨⟨x,s1⟩,hx⟩:∃ z,exF L en FU .unary s9=z:=⟨_,rfl⟩
   rw [hx] at hc
   have HC:Hid (Calls Tryz.prog 145 #[.pointer (some ⟨r,0,none⟩)] w4 _):=Lib.hid hc
   have HZ3:Hid (Z=(PE.node 3 [x],s1)):=Lib.hid (by rw [HZ2.out,bndE (HNO.out h3)];show bnd _ _ s9=_;rw [bndE hx];rfl)
   clear h3 hc hx
   go_wp2_with fail
   refine HC.out.mono ?_
   rintro e5 w5 ⟨v,rfl,hn5,hp5,hg5⟩
   obtain ⟨c,rfl,hx5⟩:=ExN.of hn5
   have hok:=hx5.ok
   have HP5:=Lib.hid hp5
   have HG5:=Lib.hid (grown_trans HG4.out hg5)
   have HR5:=Lib.hid (HR4.out.grown hg5 (Nat.ne_of_gt HR.out))
   have HLT5:Hid (w.heap.size < w4.heap.size):=Lib.hid HR4.out.lt
   have HC6:=Lib.hid (node1W 3 hx5 hg5.size)
   clear hn5 hp5 hg5 hx5 HC q0
   go_wp2_with fail
   refine HC6.out.mono ?_
   rintro e6 w6 ⟨d,rfl,hk6,hx6,hbel6⟩
   have HP6:=Lib.hid (HP5.out.later hbel6)
   have HG6:=Lib.hid (grown_trans HG5.out (below_grown hbel6))
   have HR6:=Lib.hid (HR5.out.later hbel6)
   have hb6:=HR6.out.b (n:=8) rfl
   have HX6:=Lib.hid hx6
   clear hx6 hbel6 hok HC6
   go_wp2_with fail
   exact bodyPost_ret (v:=.agg d) (res_row Tryz.results145 ex_struct ex_size _ _ w.heap.size _ d rfl (HR6.out.set d) HX6.out.size) rfl ⟨_,rfl,by rw [HZ3.out];exact exN_fin HX6.out HLT5.out (Nat.le_of_lt HLT5.out) d,by rw [HZ3.out];exact HP6.out.other (grown_setRow _ _ d) HR.out,grown_fill HG6.out (Nat.le_refl _) d⟩
set_option maxRecDepth 100000 in
set_option maxHeartbeats 8000000 in
theorem prim1W (q:Nat) (v:V) (w:World) (hq:w.cell? ⟨q,0,none⟩=some (.pointer (some ⟨r,0,none⟩))) (h:PB w0 r tv L en s w) (hlt:s.k < L.length):Calls Tryz.prog 191 #[.agg #[.int .u8 (v.k:Int),.int .i64 v.n,.string v.s],.pointer (some ⟨q,0,none⟩)] w fun e w'=>
 e = .returned (.agg #[.int .u8 1,.int .u8 (v.k:Int),.int .i64 v.n,.string v.s,.string ⟨#[]⟩,.string ⟨#[]⟩,.int .i64 0,.slice none 0 0])∧PB w0 r tv L en s.next w'∧w.grownBy w' (some r):=by
 have hr:=h.lt
 have hb:Below w.heap.size w ((w.alloc (.cells #[.int .u8 (v.k:Int),.int .i64 v.n,.string v.s] 46)).alloc (.cells exZ 48)):=by go_grown
 have hr0:Row w.heap.size 46 #[.int .u8 (v.k:Int),.int .i64 v.n,.string v.s] ((w.alloc (.cells #[.int .u8 (v.k:Int),.int .i64 v.n,.string v.s] 46)).alloc (.cells exZ 48)):=(row_alloc _ _ _).later ((Below.refl _ _).alloc (Nat.le_refl _) _)
 have hr1:Row (w.heap.size + 1) 48 exZ ((w.alloc (.cells #[.int .u8 (v.k:Int),.int .i64 v.n,.string v.s] 46)).alloc (.cells exZ 48)):=by
  have:=row_alloc (w.alloc (.cells #[.int .u8 (v.k:Int),.int .i64 v.n,.string v.s] 46)) 48 exZ
  simpa using this
 have hq2:=(hb.cell (cell_lt hq)).trans hq
 have HP:=Lib.hid (h.later hb)
 have HB:=Lib.hid hb
 have HR0:=Lib.hid hr0
 have HR1:=Lib.hid hr1
 have HR:=Lib.hid hr
 have HLT:=Lib.hid hlt
 have j1:(0:Int) ≤ (s.k:Int):=by omega
 have j2:(s.k:Int) ≤ 4096:=by have:=h.hk;have:=h.hl;omega
 clear hq hb hr0 hr1 hr h hlt
 go_enter Tryz.func191,Tryz.ntmps191
 go_upto_region 1 with fail
 generalize (w.alloc (.cells #[.int .u8 (v.k:Int),.int .i64 v.n,.string v.s] 46)).alloc (.cells exZ 48)=w1 at *
 have HN5:=Lib.hid (HP.out.next HLT.out)
 have HG5:=Lib.hid (grown_trans (below_grown (r:=r) HB.out) (grown_set w1 r 1 (.int .i64 ((s.k:Int) + 1))))
 have HR5:=Lib.hid (HR1.out.grown (grown_set w1 r 1 (.int .i64 ((s.k:Int) + 1))) (by have:=HR.out;omega))
 have hr5:=HR0.out.grown (grown_set w1 r 1 (.int .i64 ((s.k:Int) + 1))) (Nat.ne_of_gt HR.out)
 have v0:=hr5.cell (i:=0) (v:=.int .u8 (v.k:Int)) rfl
 have v1:=hr5.cell (i:=1) (v:=.int .i64 v.n) rfl
 have v2:=hr5.cell (i:=2) (v:=.string v.s) rfl
 have HV0:=Lib.hid v0
 have HV1:=Lib.hid v1
 have HV2:=Lib.hid v2
 obtain ⟨c0,c1,c2,c3,c4,f1,f3,f4,_,_,_,_,_⟩:=HP.out
 clear hr5 v0 v1 v2
 go_upto_region 2 with fail
 clear c0 c1 c2 c3 c4 f1 f3 f4 hq2
 generalize w1.setCell ⟨r,1,none⟩ (.int .i64 ((s.k:Int) + 1))=w5 at *
 have v0:=HV0.out
 have v1:=HV1.out
 have v2:=HV2.out
 have hb5:=HR5.out.b (n:=8) rfl
 go_wp2_with fail
 exact bodyPost_ret (v:=.agg #[.int .u8 1,.int .u8 (v.k:Int),.int .i64 v.n,.string v.s,.string ⟨#[]⟩,.string ⟨#[]⟩,.int .i64 0,.slice none 0 0]) (res_row Tryz.results191 ex_struct ex_size _ _ (w.heap.size + 1) _ _ rfl (HR5.out.set _) rfl) rfl
  ⟨rfl,HN5.out.other (grown_setRow _ _ _) (by have:=HR.out;omega),grown_fill HG5.out (by omega) _⟩
end
end Go.Proofs.YtmdogmpcmkfjpaaGreatDoor.Dt
