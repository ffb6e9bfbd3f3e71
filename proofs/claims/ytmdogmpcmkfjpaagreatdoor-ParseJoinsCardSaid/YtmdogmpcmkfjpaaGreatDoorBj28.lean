import Derived.Test.YtmdogmpcmkfjpaaGreatDoorBj27
import Derived.Test.YtmdogmpcmkfjpaaGreatDoorBj06
/- Part of the proof (merged). -/
namespace Go.Proofs.YtmdogmpcmkfjpaaGreatDoor.Dt
open Go.RowKit Go.Proofs.YtmdogmpcmkfjpaaGreatDoor.By
attribute [local go_sem ↓] veilSt_ex veilLd_ex veilBs_ex veilSt_tk
attribute [local go_sem] run_exSt run_exNew run_exLd okRow8 Value.oneCell' run_bs1v run_tkSt run_tkNew okRow4
section
variable {w0:World} {r:Nat} {tv:Value} {L:List Tk} {en:Int} {s:PS}
theorem val_ex {S:Nat→Prop} {w:World} (v:V):ExD S w #[.int .u8 1,.int .u8 (v.k:Int),.int .i64 v.n,.string v.s,.string ⟨#[]⟩,.string ⟨#[]⟩,.int .i64 0,.slice none 0 0] (PE.val1 v):=
 ⟨rfl,by simp [Value.oneCell'],fun u _=>exR_iff.2 ⟨_,rfl,SlR.nil _ _ _⟩⟩
theorem neg_wrap (n:Nat) (h:n ≤ 9223372036854775808):wrap64 (-(wrap64 (n:Int))) = -(n:Int):=by
 unfold wrap64
 omega
set_option maxRecDepth 100000 in
set_option maxHeartbeats 16000000 in
theorem unaryW (hall:AllOk L) (H1:∀ s',s.k < s'.k→EX w0 r tv L en .unary s') (H2:EX w0 r tv L en .prim s):EX w0 r tv L en .unary s:=by
 intro w h
 obtain ⟨Z,hZ⟩:∃ Z,Z=exF L en FU .unary s:=⟨_,rfl⟩
 rw [← hZ]
 rw [fu_unary h.hk h.hl] at hZ
 have hr0:=row_alloc w 48 exZ
 have hb:=(Below.refl _ w).alloc (Nat.le_refl _) (.cells exZ 48)
 have HR:=Lib.hid h.lt
 have HB:=Lib.hid hb
 have HR0:=Lib.hid hr0
 have HI:=Lib.hid (isW BMINUS _ (h.later hb))
 have HZ:=Lib.hid hZ
 have HH1:=Lib.hid H1
 have HH2:=Lib.hid H2
 have HA:=Lib.hid hall
 clear h H1 H2 hr0 hb hZ hall
 show Calls _ 145 #[.pointer (some ⟨r,0,none⟩)] _ _
 obtain ⟨B,hB⟩:∃ B,isB L en BMINUS s=B:=⟨_,rfl⟩
 rw [isM_snd,hB] at HI
 have HBN:=Lib.hid hB
 clear hB
 go_enter Tryz.func145,Tryz.ntmps145
 go_upto_region 1 with fail
 generalize w.alloc (.cells exZ 48)=w1 at *
 cases B
 ·go_wp2_with fail
  refine HI.out.mono ?_
  rintro e2 w2 ⟨rfl,hp2,hg2⟩
  have hp2:PB w0 r tv L en s w2:=hp2
  have hc:=HH2.out w2 hp2
  have HG2:=Lib.hid (grown_trans (below_grown (r:=r) HB.out) hg2)
  have HR2:=Lib.hid (HR0.out.grown hg2 (Nat.ne_of_gt HR.out))
  have HZ2:Hid (Z=exF L en FU .prim s):=Lib.hid (by rw [HZ.out,isN HBN.out,if_neg Bool.false_ne_true])
  have HC:Hid (Calls Tryz.prog 160 #[.pointer (some ⟨r,0,none⟩)] w2 _):=Lib.hid hc
  clear hp2 hg2 hc HI
  go_wp2_with fail
  refine HC.out.mono ?_
  rintro e3 w3 ⟨v,rfl,hn3,hp3,hg3⟩
  obtain ⟨c,rfl,hx3⟩:=ExN.of hn3
  have hok:=hx3.ok
  have HP3:=Lib.hid hp3
  have HX3:=Lib.hid hx3
  have HG3:=Lib.hid (grown_trans HG2.out hg3)
  have HR3:=Lib.hid (HR2.out.grown hg3 (Nat.ne_of_gt HR.out))
  have HLT3:Hid (w.heap.size < w2.heap.size):=Lib.hid HR2.out.lt
  have hb3:=HR3.out.b (n:=8) rfl
  clear hn3 hp3 hg3 hx3 HC
  go_wp2_with fail
  exact bodyPost_ret (v:=.agg c) (res_row Tryz.results145 ex_struct ex_size _ _ w.heap.size _ c rfl (HR3.out.set c) HX3.out.size) rfl ⟨_,rfl,by rw [HZ2.out];exact exN_fin HX3.out HLT3.out (Nat.le_of_lt HLT3.out) c,by rw [HZ2.out];exact HP3.out.other (grown_setRow _ _ c) HR.out,grown_fill HG3.out (Nat.le_refl _) c⟩
 ·go_wp2_with fail
  refine HI.out.mono ?_
  rintro e2 w2 ⟨rfl,hp2,hg2⟩
  have hp2:PB w0 r tv L en s.next w2:=hp2
  have HT:=Lib.hid (tokenP w2 hp2)
  have HP2:=Lib.hid hp2
  have HG2:=Lib.hid (grown_trans (below_grown (r:=r) HB.out) hg2)
  have HR2:=Lib.hid (HR0.out.grown hg2 (Nat.ne_of_gt HR.out))
  have HZ2:Hid (Z=(bnd (negM L en) fun n=>match n with
   | some n=>ret (PE.val1 ⟨1,-(n:Int),⟨#[]⟩⟩)
   | none=>bnd (exF L en FU .unary) fun x=>ret (PE.node 3 [x])) s.next):=Lib.hid (by rw [HZ.out,isY HBN.out,if_pos rfl];rfl)
  have HLT9:Hid (s.k < s.next.k):=Lib.hid (Nat.lt_succ_self _)
  generalize s.next=s9 at *
  have hnn:(tokP L en s9.k).k=3→s9.k < L.length∧(tokP L en s9.k).n ≤ 9223372036854775808∧negM L en s9=(some (tokP L en s9.k).n,s9.next):=fun e=>by
   refine ⟨tokP_lt (L:=L) (en:=en) (by rw [e];decide),(tok_ok HA.out (by rw [e];decide)).2,?_⟩
   unfold negM;rw [if_pos e]
  have hno:(tokP L en s9.k).k ≠ 3→negM L en s9=(none,s9):=fun e=>by unfold negM;rw [if_neg e]
  have HNN:=Lib.hid hnn
  have HNO:=Lib.hid hno
  clear hnn hno
  generalize tokP L en s9.k=T at *
  clear hp2 hg2 HI
  go_wp2_with fail
  refine HT.out.mono ?_
  rintro e3 w3 ⟨rfl,hb3⟩
  have hb4:=next hb3 ((Below.refl _ w3).alloc (Nat.le_refl _) (.cells (tkC T) 128))
  have HP4:=Lib.hid (HP2.out.later hb4)
  have hR:=row_alloc w3 128 (tkC T)
  have HG4:=Lib.hid (grown_trans HG2.out (below_grown hb4))
  have HR4:=Lib.hid (HR2.out.later hb4)
  have q0:=hR.cell (i:=0) (v:=.int .u8 (T.k:Int)) rfl
  have HRT:=Lib.hid hR
  have HNR:=Lib.hid (Nat.ne_of_gt (HP2.out.later hb3).lt)
  have HSZ3:=Lib.hid hb3.size
  clear hR hb3 hb4 HT
  go_upto_region 4 with fail
  generalize w3.alloc (.cells (tkC T) 128)=w4 at *
  generalize w3.heap.size=b at *
  by_cases h3:T.k=3
  ·have e3:((T.k:Int) == 3)=true:=by simp [h3]
   obtain ⟨hlt,hn,hneg⟩:=HNN.out h3
   have HZ3:Hid (Z=(PE.val1 ⟨1,-(T.n:Int),⟨#[]⟩⟩,s9.next)):=Lib.hid (by rw [HZ2.out,bndE hneg];rfl)
   have HN5:=Lib.hid (HP4.out.next hlt)
   have HG5:=Lib.hid (grown_trans HG4.out (grown_set w4 r 1 (.int .i64 ((s9.k:Int) + 1))))
   have HR5:=Lib.hid (HR4.out.grown (grown_set w4 r 1 (.int .i64 ((s9.k:Int) + 1))) (Nat.ne_of_gt HR.out))
   have hq2:=(HRT.out.grown (grown_set w4 r 1 (.int .i64 ((s9.k:Int) + 1))) HNR.out).cell (i:=2) (v:=.int .u64 (T.n:Int)) rfl
   have HQ2:=Lib.hid hq2
   have j1:(0:Int) ≤ (s9.k:Int):=by omega
   have j2:(s9.k:Int) ≤ 4096:=by have:=HP4.out.hk;have:=HP4.out.hl;omega
   have HW:=Lib.hid (neg_wrap T.n hn)
   obtain ⟨c0,c1,c2,c3,c4,f1,f3,f4,_,_,_,_,_⟩:=HP4.out
   clear h3 hlt hn hneg hq2
   go_upto_region 6 with fail
   clear c0 c1 c2 c3 c4 f1 f3 f4
   generalize w4.setCell ⟨r,1,none⟩ (.int .i64 ((s9.k:Int) + 1))=w5 at *
   have q2:=HQ2.out
   have hb5:=HR5.out.b (n:=8) rfl
   have hw:=HW.out
   go_wp2_with fail
   exact bodyPost_ret (v:=.agg #[.int .u8 1,.int .u8 1,.int .i64 (-(T.n:Int)),.string ⟨#[]⟩,.string ⟨#[]⟩,.string ⟨#[]⟩,.int .i64 0,.slice none 0 0]) (res_row Tryz.results145 ex_struct ex_size _ _ w.heap.size _ _ rfl (HR5.out.set _) rfl) rfl
    ⟨_,rfl,by rw [HZ3.out];exact (val_ex ⟨1,-(T.n:Int),⟨#[]⟩⟩).v,by rw [HZ3.out];exact HN5.out.other (grown_setRow _ _ _) HR.out,grown_fill HG5.out (Nat.le_refl _) _⟩
  ·have e3:((T.k:Int) == 3)=false:=by simp;omega
   have hc:=HH1.out s9 HLT9.out w4 HP4.out
   obtain ⟨⟨x,s1⟩,hx⟩:∃ z,exF L en FU .unary s9=z:=⟨_,rfl⟩
   rw [hx] at hc
   have HC:Hid (Calls Tryz.prog 145 #[.pointer (some ⟨r,0,none⟩)] w4 _):=Lib.hid hc
   have HZ3:Hid (Z=(PE.node 3 [x],s1)):=Lib.hid (by rw [HZ2.out,bndE (HNO.out h3)];show bnd _ _ s9=_;rw [bndE hx];rfl)
   clear h3 hc hx
   go_wp2_with fail
   refine HC.out.mono ?_
   rintro e5 w5 ⟨v,rfl,hn5,hp5,hg5⟩
   obtain ⟨c,rfl,hx5⟩:=ExN.of hn5
   have hok:=hx5.ok
   have HP5:=Lib.hid hp5
   have HG5:=Lib.hid (grown_trans HG4.out hg5)
   have HR5:=Lib.hid (HR4.out.grown hg5 (Nat.ne_of_gt HR.out))
   have HLT5:Hid (w.heap.size < w4.heap.size):=Lib.hid HR4.out.lt
   have HC6:=Lib.hid (node1W 3 hx5 hg5.size)
   clear hn5 hp5 hg5 hx5 HC q0
   go_wp2_with fail
   refine HC6.out.mono ?_
   rintro e6 w6 ⟨d,rfl,hk6,hx6,hbel6⟩
   have HP6:=Lib.hid (HP5.out.later hbel6)
   have HG6:=Lib.hid (grown_trans HG5.out (below_grown hbel6))
   have HR6:=Lib.hid (HR5.out.later hbel6)
   have hb6:=HR6.out.b (n:=8) rfl
   have HX6:=Lib.hid hx6
   clear hx6 hbel6 hok HC6
   go_wp2_with fail
   exact bodyPost_ret (v:=.agg d) (res_row Tryz.results145 ex_struct ex_size _ _ w.heap.size _ d rfl (HR6.out.set d) HX6.out.size) rfl ⟨_,rfl,by rw [HZ3.out];exact exN_fin HX6.out HLT5.out (Nat.le_of_lt HLT5.out) d,by rw [HZ3.out];exact HP6.out.other (grown_setRow _ _ d) HR.out,grown_fill HG6.out (Nat.le_refl _) d⟩
set_option maxRecDepth 100000 in
set_option maxHeartbeats 8000000 in
theorem prim1W (q:Nat) (v:V) (w:World) (hq:w.cell? ⟨q,0,none⟩=some (.pointer (some ⟨r,0,none⟩))) (h:PB w0 r tv L en s w) (hlt:s.k < L.length):Calls Tryz.prog 191 #[.agg #[.int .u8 (v.k:Int),.int .i64 v.n,.string v.s],.pointer (some ⟨q,0,none⟩)] w fun e w'=>
 e = .returned (.agg #[.int .u8 1,.int .u8 (v.k:Int),.int .i64 v.n,.string v.s,.string ⟨#[]⟩,.string ⟨#[]⟩,.int .i64 0,.slice none 0 0])∧PB w0 r tv L en s.next w'∧w.grownBy w' (some r):=by
 have hr:=h.lt
 have hb:Below w.heap.size w ((w.alloc (.cells #[.int .u8 (v.k:Int),.int .i64 v.n,.string v.s] 46)).alloc (.cells exZ 48)):=by go_grown
 have hr0:Row w.heap.size 46 #[.int .u8 (v.k:Int),.int .i64 v.n,.string v.s] ((w.alloc (.cells #[.int .u8 (v.k:Int),.int .i64 v.n,.string v.s] 46)).alloc (.cells exZ 48)):=(row_alloc _ _ _).later ((Below.refl _ _).alloc (Nat.le_refl _) _)
 have hr1:Row (w.heap.size + 1) 48 exZ ((w.alloc (.cells #[.int .u8 (v.k:Int),.int .i64 v.n,.string v.s] 46)).alloc (.cells exZ 48)):=by
  have:=row_alloc (w.alloc (.cells #[.int .u8 (v.k:Int),.int .i64 v.n,.string v.s] 46)) 48 exZ
  simpa using this
 have hq2:=(hb.cell (cell_lt hq)).trans hq
 have HP:=Lib.hid (h.later hb)
 have HB:=Lib.hid hb
 have HR0:=Lib.hid hr0
 have HR1:=Lib.hid hr1
 have HR:=Lib.hid hr
 have HLT:=Lib.hid hlt
 have j1:(0:Int) ≤ (s.k:Int):=by omega
 have j2:(s.k:Int) ≤ 4096:=by have:=h.hk;have:=h.hl;omega
 clear hq hb hr0 hr1 hr h hlt
 go_enter Tryz.func191,Tryz.ntmps191
 go_upto_region 1 with fail
 generalize (w.alloc (.cells #[.int .u8 (v.k:Int),.int .i64 v.n,.string v.s] 46)).alloc (.cells exZ 48)=w1 at *
 have HN5:=Lib.hid (HP.out.next HLT.out)
 have HG5:=Lib.hid (grown_trans (below_grown (r:=r) HB.out) (grown_set w1 r 1 (.int .i64 ((s.k:Int) + 1))))
 have HR5:=Lib.hid (HR1.out.grown (grown_set w1 r 1 (.int .i64 ((s.k:Int) + 1))) (by have:=HR.out;omega))
 have hr5:=HR0.out.grown (grown_set w1 r 1 (.int .i64 ((s.k:Int) + 1))) (Nat.ne_of_gt HR.out)
 have v0:=hr5.cell (i:=0) (v:=.int .u8 (v.k:Int)) rfl
 have v1:=hr5.cell (i:=1) (v:=.int .i64 v.n) rfl
 have v2:=hr5.cell (i:=2) (v:=.string v.s) rfl
 have HV0:=Lib.hid v0
 have HV1:=Lib.hid v1
 have HV2:=Lib.hid v2
 obtain ⟨c0,c1,c2,c3,c4,f1,f3,f4,_,_,_,_,_⟩:=HP.out
 clear hr5 v0 v1 v2
 go_upto_region 2 with fail
 clear c0 c1 c2 c3 c4 f1 f3 f4 hq2
 generalize w1.setCell ⟨r,1,none⟩ (.int .i64 ((s.k:Int) + 1))=w5 at *
 have v0:=HV0.out
 have v1:=HV1.out
 have v2:=HV2.out
 have hb5:=HR5.out.b (n:=8) rfl
 go_wp2_with fail
 exact bodyPost_ret (v:=.agg #[.int .u8 1,.int .u8 (v.k:Int),.int .i64 v.n,.string v.s,.string ⟨#[]⟩,.string ⟨#[]⟩,.int .i64 0,.slice none 0 0]) (res_row Tryz.results191 ex_struct ex_size _ _ (w.heap.size + 1) _ _ rfl (HR5.out.set _) rfl) rfl
  ⟨rfl,HN5.out.other (grown_setRow _ _ _) (by have:=HR.out;omega),grown_fill HG5.out (by omega) _⟩
end
end Go.Proofs.YtmdogmpcmkfjpaaGreatDoor.Dt
