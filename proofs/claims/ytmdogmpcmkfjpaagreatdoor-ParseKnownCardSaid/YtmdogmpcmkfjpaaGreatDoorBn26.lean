import Derived.Deep.CutBlock
import Derived.Test.YtmdogmpcmkfjpaaGreatDoorBn25
/- Part of the proof (merged). -/
namespace Go.Proofs.YtmdogmpcmkfjpaaGreatDoor.Dt
open Go.RowKit Go.Proofs.YtmdogmpcmkfjpaaGreatDoor.By
attribute [local go_sem ↓] veilSt_ex veilLd_ex veilBs_ex veilSt_it veilLd_it veilSt_od veilLd_od veilSt_se veilLd_se veilB_it veilB_od veilB_se
attribute [local go_sem] run_exSt run_exNew run_exLd okRow8 Value.oneCell' run_bs1v run_itSt run_itNew run_itLd run_odSt run_odNew run_seSt run_seNew run_bItem run_bOrder run_bSet
section
variable {w0:World} {r:Nat} {tv:Value} {L:List Tk} {en:Int} {s:PS}
abbrev itZ:Array Value:=#[.int .u8 0,.int .u8 0,.int .i64 0,.string ⟨#[]⟩,.string ⟨#[]⟩,.string ⟨#[]⟩,.int .i64 0,.slice none 0 0,.string ⟨#[]⟩]
abbrev odZ:Array Value:=#[.int .u8 0,.int .u8 0,.int .i64 0,.string ⟨#[]⟩,.string ⟨#[]⟩,.string ⟨#[]⟩,.int .i64 0,.slice none 0 0,.bool false]
abbrev seZ:Array Value:=#[.string ⟨#[]⟩,.int .u8 0,.int .u8 0,.int .i64 0,.string ⟨#[]⟩,.string ⟨#[]⟩,.string ⟨#[]⟩,.int .i64 0,.slice none 0 0]
theorem okItem {c:Array Value} (s:ByteArray) (h:okRow 8 c=true):okRow 9 (c.push (.string s))=true:=by
 obtain ⟨h1,h2⟩:=okRow_iff.1 h
 refine okRow_iff.2 ⟨by simp [h1],?_⟩
 rw [Array.all_push,h2]
 simp [Value.oneCell']
theorem okOrder {c:Array Value} (b:Bool) (h:okRow 8 c=true):okRow 9 (c.push (.bool b))=true:=by
 obtain ⟨h1,h2⟩:=okRow_iff.1 h
 refine okRow_iff.2 ⟨by simp [h1],?_⟩
 rw [Array.all_push,h2]
 simp [Value.oneCell']
theorem okSet {c:Array Value} (s:ByteArray) (h:okRow 8 c=true):okRow 9 (#[.string s] ++ c)=true:=by
 obtain ⟨h1,h2⟩:=okRow_iff.1 h
 refine okRow_iff.2 ⟨by simp [h1],?_⟩
 rw [Array.all_append,h2]
 simp [Value.oneCell']
theorem ag_fin {α:Type} {R:World→List Value→α→Prop} {S:Nat→Prop} {m q:Nat} {w:World} {cs d:Array Value} {x:α} (h:Dep S w fun u=>R u cs.toList x) (hq:¬ S q) (hm:∀ b,S b→m ≤ b):New m (w.setRow q d) fun u=>AgV R u (.agg cs) x:=
 (h.step (S':=fun b=>m ≤ b) (by simp) fun b h1 _=>⟨hm b h1,setRow_other w q b d (fun e=>hq (e ▸ h1))⟩).imp fun u hu=>⟨cs.toList,by simp,hu⟩
set_option maxRecDepth 100000 in
set_option maxHeartbeats 8000000 in
theorem rowRun (hall:AllOk L) (q:Nat) (w1:World) (k0:Nat) (hq:∀ w',w1.grownBy w' (some r)→w'.cell? ⟨q,0,none⟩=some (.pointer (some ⟨r,0,none⟩))) :
 PRun w0 r tv L en w1 k0 79 #[.pointer (some ⟨q,0,none⟩)] (insideM L en (exprM L en) FU) ExsR:=by
 intro s w hk hg h
 have hq0:=hq w hg
 have HC:=Lib.hid (insideExpr (fun s=>(Sim.exprM (L:=L) (L':=L) (en:=en) (en':=en) (d:=0)).mono s |>.1) w s.k (exprRun hall w s.k) s (Nat.le_refl _) h)
 clear hq h hg hk
 go_enter Tryz.func79,Tryz.ntmps79
 go_wp2_with fail
 refine HC.out.mono ?_
 rintro e2 w2 ⟨v,rfl,hn,hp,hg2⟩
 have HN:=Lib.hid hn
 have HP:=Lib.hid hp
 have HG:=Lib.hid hg2
 clear hn hp hg2 hq0
 go_wp2_with fail
 go_ret
 exact ⟨_,rfl,HN.out,HP.out,HG.out⟩
set_option maxRecDepth 100000 in
set_option maxHeartbeats 8000000 in
theorem setRun (hall:AllOk L) (q:Nat) (w1:World) (k0:Nat) (hq:∀ w',w1.grownBy w' (some r)→w'.cell? ⟨q,0,none⟩=some (.pointer (some ⟨r,0,none⟩))) :
 PRun w0 r tv L en w1 k0 82 #[.pointer (some ⟨q,0,none⟩)] (setM L en) (AgV SetR):=by
 intro s w hk hg h
 have HQ:=Lib.hid (fun W g=>hq W (grown_trans hg g))
 have hb:=(Below.refl _ w).alloc (Nat.le_refl _) (.cells seZ 94)
 have hr0:=row_alloc w 94 seZ
 obtain ⟨Z,hZ⟩:∃ Z,Z=setM L en s:=⟨_,rfl⟩
 rw [← hZ]
 obtain ⟨⟨n,s1⟩,h1⟩:∃ z,nameM L en s=z:=⟨_,rfl⟩
 obtain ⟨s2,h2⟩:∃ z,(mustM L en [BEQ] s1).2=z:=⟨_,rfl⟩
 obtain ⟨⟨x,s3⟩,h3⟩:∃ z,exprM L en s2=z:=⟨_,rfl⟩
 have HZ:Hid (Z=((n,x),s3)):=Lib.hid (by rw [hZ];unfold setM;rw [bndE h1,bndE (x:=()) (s1:=s2) (by rw [← h2]),bndE h3];rfl)
 have hn:=pnameW _ (h.later hb)
 rw [h1] at hn
 have HN:=Lib.hid hn
 have H2:=Lib.hid h2
 have H3:=Lib.hid h3
 have HB:=Lib.hid hb
 have HR0:=Lib.hid hr0
 have HR:=Lib.hid h.lt
 have HA:=Lib.hid hall
 have hq0:=HQ.out _ (below_grown hb)
 clear hq h hg hk hb hr0 hZ h1 h2 h3 hn hall
 go_enter Tryz.func82,Tryz.ntmps82
 go_upto_region 1 with fail
 generalize w.alloc (.cells seZ 94)=w1 at *
 go_wp2_with fail
 refine HN.out.mono ?_
 rintro e2 w2 ⟨rfl,hp2,hg2⟩
 have HG2:=Lib.hid (grown_trans (below_grown (r:=r) HB.out) hg2)
 have HR2:=Lib.hid (HR0.out.grown hg2 (Nat.ne_of_gt HR.out))
 have hm:=mustLit BEQ w2 hp2
 rw [H2.out] at hm
 have HM:=Lib.hid hm
 have hq0:=HQ.out _ HG2.out
 clear hp2 hg2 hm HN
 go_wp2_with fail
 refine HM.out.mono ?_
 rintro e3 w3 ⟨rfl,hp3,hg3⟩
 have HG3:=Lib.hid (grown_trans HG2.out hg3)
 have HR3:=Lib.hid (HR2.out.grown hg3 (Nat.ne_of_gt HR.out))
 have hc:=exprP HA.out s2 w3 hp3
 rw [H3.out] at hc
 have HC:=Lib.hid hc
 have hq0:=HQ.out _ HG3.out
 clear hp3 hg3 hc HM
 go_wp2_with fail
 refine HC.out.mono ?_
 rintro e4 w4 ⟨v,rfl,hn4,hp4,hg4⟩
 obtain ⟨c,rfl,hx⟩:=ExN.of hn4
 have HG4:=Lib.hid (grown_trans HG3.out hg4)
 have HR4:=Lib.hid (HR3.out.grown hg4 (Nat.ne_of_gt HR.out))
 have HP4:=Lib.hid hp4
 have HX:=Lib.hid hx
 have hok:=hx.ok
 have hokS:=okSet n hx.ok
 have hrb:=HR4.out.b (n:=9) rfl
 have HLT:Hid (w.heap.size < w3.heap.size):=Lib.hid HR3.out.lt
 clear hn4 hp4 hg4 hx HC hq0
 go_wp2_with fail
 exact bodyPost_ret (v:=.agg (#[.string n] ++ c)) (res_row Tryz.results82 se_struct se_size _ _ w.heap.size _ _ rfl (HR4.out.set _) (okRow_iff.1 hokS).1) rfl
  ⟨_,rfl,by rw [HZ.out];exact ag_fin (S:=fun b=>w3.heap.size ≤ b) (HX.out.new.imp fun u hu=>⟨c.toList,by simp,hu⟩) (by have:=HLT.out;omega) (fun b h=>by have:=HLT.out;omega),by rw [HZ.out];exact HP4.out.other (grown_setRow _ _ _) HR.out,grown_fill HG4.out (Nat.le_refl _) _⟩
set_option maxRecDepth 100000 in
set_option maxHeartbeats 8000000 in
theorem itemRun (hall:AllOk L) (q:Nat) (w1:World) (k0:Nat) (hq:∀ w',w1.grownBy w' (some r)→w'.cell? ⟨q,0,none⟩=some (.pointer (some ⟨r,0,none⟩))) :
 PRun w0 r tv L en w1 k0 124 #[.pointer (some ⟨q,0,none⟩)] (itemM L en) (AgV ItemR):=by
 intro s w hk hg h
 have HQ:=Lib.hid (fun W g=>hq W (grown_trans hg g))
 have hb:=(Below.refl _ w).alloc (Nat.le_refl _) (.cells itZ 106)
 have hr0:=row_alloc w 106 itZ
 obtain ⟨Z,hZ⟩:∃ Z,Z=itemM L en s:=⟨_,rfl⟩
 rw [← hZ]
 obtain ⟨⟨x,s1⟩,h1⟩:∃ z,exprM L en s=z:=⟨_,rfl⟩
 have HZ:Hid (Z=(bnd (isM L en WAS) fun b=>if b then bnd (nameM L en) fun m=>ret (x,m) else ret (x,⟨#[]⟩)) s1):=Lib.hid (by rw [hZ];unfold itemM;rw [bndE h1])
 have hc:=exprP hall s _ (h.later hb)
 rw [h1] at hc
 have HC:=Lib.hid hc
 have HB:=Lib.hid hb
 have HR0:=Lib.hid hr0
 have HR:=Lib.hid h.lt
 have hq0:=HQ.out _ (below_grown hb)
 clear hq h hg hk hb hr0 hZ h1 hc hall
 go_enter Tryz.func124,Tryz.ntmps124
 go_upto_region 1 with fail
 generalize w.alloc (.cells itZ 106)=w1 at *
 go_wp2_with fail
 refine HC.out.mono ?_
 rintro e2 w2 ⟨v,rfl,hn2,hp2,hg2⟩
 obtain ⟨c,rfl,hx⟩:=ExN.of hn2
 have hok:=hx.ok
 have hokI:=okItem ⟨#[]⟩ hx.ok
 have hb3:=(Below.refl _ w2).alloc (Nat.le_refl _) (.cells (c.push (.string ⟨#[]⟩)) 106)
 have HP3:=Lib.hid (hp2.later hb3)
 have HG3:=Lib.hid (grown_trans (grown_trans (below_grown (r:=r) HB.out) hg2) (below_grown hb3))
 have HRS:=Lib.hid ((HR0.out.grown hg2 (Nat.ne_of_gt HR.out)).later hb3)
 have HRG:=Lib.hid (row_alloc w2 106 (c.push (.string ⟨#[]⟩)))
 have HSZ:Hid (w.heap.size < w1.heap.size∧w1.heap.size ≤ w2.heap.size):=Lib.hid ⟨HR0.out.lt,hg2.size⟩
 have HX:=Lib.hid (hx.step (S':=fun b=>w.heap.size ≤ b∧b ≠ w.heap.size∧b ≠ w2.heap.size) (Nat.le_refl _) (fun b h1 h2=>⟨by have:=HSZ.out;omega,rfl⟩) |>.later hb3)
 have HOK:=Lib.hid hok
 have HOKI:=Lib.hid hokI
 clear hn2 hp2 hg2 hx hb3 HC
 go_upto_region 2 with fail
 generalize w2.alloc (.cells (c.push (.string ⟨#[]⟩)) 106)=w3 at *
 generalize w2.heap.size=g at *
 clear hok hokI
 have hq0:=HQ.out _ HG3.out
 have HI:=Lib.hid (isW WAS w3 HP3.out)
 obtain ⟨B,hB⟩:∃ B,isB L en WAS s1=B:=⟨_,rfl⟩
 rw [isM_snd,hB] at HI
 have HBB:=Lib.hid hB
 have hSr:¬ (w.heap.size ≤ r∧r ≠ w.heap.size∧r ≠ g):=by have:=HR.out;omega
 have HSR:=Lib.hid hSr
 clear hB hSr
 cases B
 ·have HZ2:Hid (Z=((x,⟨#[]⟩),s1)):=Lib.hid (by rw [HZ.out,isN HBB.out];rfl)
  go_wp2_with fail
  refine HI.out.mono ?_
  rintro e4 w4 ⟨rfl,hp4,hg4⟩
  have HP4:Hid (PB w0 r tv L en s1 w4):=Lib.hid hp4
  have HG4:=Lib.hid (grown_trans HG3.out hg4)
  have HX4:=Lib.hid (HX.out.grown hg4 HSR.out)
  have HRS4:=Lib.hid (HRS.out.grown hg4 (Nat.ne_of_gt HR.out))
  have hrg4:=HRG.out.grown hg4 (by have:=HSZ.out;have:=HR.out;omega)
  have hb4:=HRS4.out.b (n:=9) rfl
  have hb5:=hrg4.b (n:=9) (okRow_iff.1 HOKI.out).1
  have ho5:=hrg4.of
  have hokI:=HOKI.out
  clear hp4 hg4 HI hrg4 hq0
  go_wp2_with fail
  exact bodyPost_ret (v:=.agg (c.push (.string ⟨#[]⟩))) (res_row Tryz.results124 it_struct it_size _ _ w.heap.size _ _ rfl (HRS4.out.set _) (okRow_iff.1 hokI).1) rfl
   ⟨_,rfl,by rw [HZ2.out];exact ag_fin (HX4.out.new.imp fun u hu=>⟨c.toList,by simp,hu⟩) (by omega) (fun b h=>h.1),by rw [HZ2.out];exact HP4.out.other (grown_setRow _ _ _) HR.out,grown_fill HG4.out (Nat.le_refl _) _⟩
 ·obtain ⟨⟨m,s2⟩,h2⟩:∃ z,nameM L en s1.next=z:=⟨_,rfl⟩
  have HZ2:Hid (Z=((x,m),s2)):=Lib.hid (by rw [HZ.out,isY HBB.out,if_pos rfl,bndE h2];rfl)
  have H2:=Lib.hid h2
  clear h2
  go_wp2_with fail
  refine HI.out.mono ?_
  rintro e4 w4 ⟨rfl,hp4,hg4⟩
  have hp4:PB w0 r tv L en s1.next w4:=hp4
  have hn:=pnameW w4 hp4
  rw [H2.out] at hn
  have HN:=Lib.hid hn
  have HG4:=Lib.hid (grown_trans HG3.out hg4)
  have HX4:=Lib.hid (HX.out.grown hg4 HSR.out)
  have HRS4:=Lib.hid (HRS.out.grown hg4 (Nat.ne_of_gt HR.out))
  have HRG4:=Lib.hid (HRG.out.grown hg4 (by have:=HSZ.out;have:=HR.out;omega))
  have hq0:=HQ.out _ HG4.out
  clear hp4 hg4 HI hn
  go_wp2_with fail
  refine HN.out.mono ?_
  rintro e5 w5 ⟨rfl,hp5,hg5⟩
  have HG5:=Lib.hid (grown_trans HG4.out hg5)
  have HP5:=Lib.hid hp5
  have HX5:=Lib.hid (HX4.out.grown hg5 HSR.out)
  have HRS5:=Lib.hid (HRS4.out.grown hg5 (Nat.ne_of_gt HR.out))
  have HRG5:=Lib.hid (HRG4.out.grown hg5 (by have:=HSZ.out;have:=HR.out;omega))
  have hc8:c.size=8:=(okRow_iff.1 HOK.out).1
  have c1:=HRG5.out.cell (i:=8) (v:=.string ⟨#[]⟩) (by rw [Array.getElem?_push,hc8];rfl)
  have f1:=HRG5.out.free 8
  have heq:=setCell_eq_setRow w5 g 8 _ _ _ (.string m) HRG5.out
  have hset:(c.push (.string ⟨#[]⟩)).setIfInBounds 8 (.string m)=c.push (.string m):=by
   obtain ⟨a0,a1,a2,a3,a4,a5,a6,a7,rfl⟩:=arr8 hc8
   rfl
  rw [hset] at heq
  have HRG6:Hid (Row g 106 (c.push (.string m)) (w5.setCell ⟨g,8,none⟩ (.string m))):=Lib.hid (by rw [heq];exact HRG5.out.set _)
  have HRS6:Hid (Row w.heap.size 106 itZ (w5.setCell ⟨g,8,none⟩ (.string m))):=Lib.hid (by rw [heq];exact (setRow_other w5 g _ _ (by have:=HSZ.out;omega)).trans HRS5.out)
  have HX6:Hid (ExD (fun b=>w.heap.size ≤ b∧b ≠ w.heap.size∧b ≠ g) (w5.setCell ⟨g,8,none⟩ (.string m)) c x):=Lib.hid (by rw [heq];exact ExD.set HX5.out (by omega))
  have HP6:Hid (PB w0 r tv L en s2 (w5.setCell ⟨g,8,none⟩ (.string m))):=Lib.hid (by rw [heq];exact PB.other HP5.out (grown_setRow _ _ _) (by have:=HSZ.out;have:=HR.out;omega))
  have HG6:Hid (w.grownBy (w5.setCell ⟨g,8,none⟩ (.string m)) (some r)):=Lib.hid (by rw [heq];exact grown_fill HG5.out (by have:=HSZ.out;omega) _)
  clear hp5 hg5 HN heq hset hc8 hq0
  go_upto_region 4 with fail
  clear c1 f1
  generalize w5.setCell ⟨g,8,none⟩ (.string m)=w6 at *
  have hb4:=HRS6.out.b (n:=9) rfl
  have hokI:=okItem m HOK.out
  have hb5:=HRG6.out.b (n:=9) (okRow_iff.1 hokI).1
  have ho5:=HRG6.out.of
  go_wp2_with fail
  exact bodyPost_ret (v:=.agg (c.push (.string m))) (res_row Tryz.results124 it_struct it_size _ _ w.heap.size _ _ rfl (HRS6.out.set _) (okRow_iff.1 hokI).1) rfl
   ⟨_,rfl,by rw [HZ2.out];exact ag_fin (HX6.out.new.imp fun u hu=>⟨c.toList,by simp,hu⟩) (by omega) (fun b h=>h.1),by rw [HZ2.out];exact HP6.out.other (grown_setRow _ _ _) HR.out,grown_fill HG6.out (Nat.le_refl _) _⟩
end
end Go.Proofs.YtmdogmpcmkfjpaaGreatDoor.Dt
namespace Go.Proofs.YtmdogmpcmkfjpaaGreatDoor.Dt
open Go.RowKit Go.Proofs.YtmdogmpcmkfjpaaGreatDoor.By
attribute [local go_sem ↓] veilSt_ex veilLd_ex veilBs_ex veilSt_od veilLd_od veilB_od veilSt_co veilLd_co
attribute [local go_sem] run_exSt run_exNew run_exLd okRow8 okRow3 Value.oneCell' run_bs1v run_odSt run_odNew run_bOrder run_coSt run_coNew run_coLd
section
variable {w0:World} {r:Nat} {tv:Value} {L:List Tk} {en:Int} {s:PS}
def OdKn (r:Nat) (c:Array Value) (B:Bool) (j:Nat) (v:Value) (_:World):Prop:=match j with
 | 0=>v = .agg c
 | 1=>v = .pointer (some ⟨r,0,none⟩)
 | 2=>v = .bool B
 | _=>v = .agg (c.push (.bool B))
set_option maxRecDepth 100000 in
set_option maxHeartbeats 8000000 in
theorem orderRun (hall:AllOk L) (q:Nat) (w1:World) (k0:Nat) (hq:∀ w',w1.grownBy w' (some r)→w'.cell? ⟨q,0,none⟩=some (.pointer (some ⟨r,0,none⟩))) :
 PRun w0 r tv L en w1 k0 127 #[.pointer (some ⟨q,0,none⟩)] (orderM L en) (AgV OrderR):=by
 intro s w hk hg h
 have HQ:=Lib.hid (fun W g=>hq W (grown_trans hg g))
 have hb:=(Below.refl _ w).alloc (Nat.le_refl _) (.cells odZ 114)
 have hr0:=row_alloc w 114 odZ
 obtain ⟨Z,hZ⟩:∃ Z,Z=orderM L en s:=⟨_,rfl⟩
 rw [← hZ]
 obtain ⟨⟨x,s1⟩,h1⟩:∃ z,exprM L en s=z:=⟨_,rfl⟩
 obtain ⟨⟨B,s2⟩,h2⟩:∃ z,isM L en WDESC s1=z:=⟨_,rfl⟩
 have HZ:Hid (Z=((x,B),s2)):=Lib.hid (by rw [hZ];unfold orderM;rw [bndE h1,bndE h2];rfl)
 have hc:=exprP hall s _ (h.later hb)
 rw [h1] at hc
 have HC:=Lib.hid hc
 have HB:=Lib.hid hb
 have HR0:=Lib.hid hr0
 have HR:=Lib.hid h.lt
 have H2:=Lib.hid h2
 have hq0:=HQ.out _ (below_grown hb)
 clear hq h hg hk hb hr0 hZ h1 hc hall h2
 go_enter Tryz.func127,Tryz.ntmps127
 go_upto_region 1 with fail
 generalize w.alloc (.cells odZ 114)=w1 at *
 go_wp2_with fail
 refine HC.out.mono ?_
 rintro e2 w2 ⟨v,rfl,hn2,hp2,hg2⟩
 obtain ⟨c,rfl,hx⟩:=ExN.of hn2
 have hok:=hx.ok
 have hb3:=(Below.refl _ w2).alloc (Nat.le_refl _) (.cells c 48)
 have HP3:=Lib.hid (hp2.later hb3)
 have HG3:=Lib.hid (grown_trans (grown_trans (below_grown (r:=r) HB.out) hg2) (below_grown hb3))
 have HRS:=Lib.hid ((HR0.out.grown hg2 (Nat.ne_of_gt HR.out)).later hb3)
 have HRG:=Lib.hid (row_alloc w2 48 c)
 have HSZ:Hid (w.heap.size < w1.heap.size∧w1.heap.size ≤ w2.heap.size):=Lib.hid ⟨HR0.out.lt,hg2.size⟩
 have HX:=Lib.hid (hx.step (S':=fun b=>w.heap.size ≤ b∧b ≠ w.heap.size∧b ≠ w2.heap.size) (Nat.le_refl _) (fun b h1 h2=>⟨by have:=HSZ.out;omega,rfl⟩) |>.later hb3)
 have HOK:=Lib.hid hok
 clear hn2 hp2 hg2 hx hb3 HC
 go_upto_region 2 with fail
 generalize w2.alloc (.cells c 48)=w3 at *
 generalize w2.heap.size=g at *
 clear hok hq0
 have hSr:¬ (w.heap.size ≤ r∧r ≠ w.heap.size∧r ≠ g):=by have:=HR.out;omega
 refine wp_region_kig 4 r (OdKn r c B) (fun dn W=>PB w0 r tv L en (if dn 2 then s2 else s1) W) 9 rfl (by kernel_rfl) (by kernel_rfl) (fun j v w1 w2 h _ _=>h) ?_ ?_ ?_ ?_
 ·intro dn dn' W hdd hst
  rw [← hdd 2 (by decide)]
  exact hst
 ·exact HP3.out.later (Below.drew (Below.refl _ _))
 ·intro j hj dn A W hother hgW hst hdj hd
  match j,hj with
  | 0,hj=>
   have h0:=tmps_at (show A.eval (.tmp 2) = .pointer (some ⟨g,0,none⟩) from hother 2 (by kernel_rfl))
   have hr5:=HRG.out.grown hgW (by have:=HSZ.out;have:=HR.out;omega)
   have hb5:=hr5.b (n:=8) (okRow_iff.1 HOK.out).1
   have ho5:=hr5.of
   clear hother hd hj hr5
   exact kig_same rfl rfl (.agg c) (by simp only [execOp];go_simp) rfl hst
  | 1,hj=>
   have h0:=tmps_at (show A.eval (.tmp 0) = .pointer (some ⟨q,0,none⟩) from hother 0 (by kernel_rfl))
   have hc:=HQ.out W (grown_trans HG3.out hgW)
   clear hother hd hj
   exact kig_same rfl rfl (.pointer (some ⟨r,0,none⟩)) (by simp only [execOp];go_simp) rfl hst
  | 2,hj=>
   have h0:=tmps_at ((hd _ rfl ⟨1,.data⟩ (by simp) rfl).2.eq (.pointer (some ⟨r,0,none⟩)) (fun _ h=>h) 6 (by kernel_rfl) (by decide))
   have hst5:PB w0 r tv L en s1 W:=by have h:=hst;simp only [hdj] at h;exact h
   have hcall:=isW WDESC W hst5
   rw [show isB L en WDESC s1=B from congrArg Prod.fst H2.out,show (isM L en WDESC s1).2=s2 from congrArg Prod.snd H2.out] at hcall
   clear hother hd hj
   refine kig_call rfl rfl 74 #[.pointer (some ⟨r,0,none⟩),.string WDESC] (by simp only [execOp];go_simp) (hcall.mono ?_)
   rintro e8 w8 ⟨rfl,hp8,hg8⟩
   exact ⟨_,rfl,hg8,rfl,hp8⟩
  | 3,hj=>
   have h0:=tmps_at ((hd _ rfl ⟨0,.data⟩ (by simp) rfl).2.eq (.agg c) (fun _ h=>h) 5 (by kernel_rfl) (by decide))
   have h1:=tmps_at ((hd _ rfl ⟨2,.data⟩ (by simp) rfl).2.eq (.bool B) (fun _ h=>h) 7 (by kernel_rfl) (by decide))
   have hok:=HOK.out
   clear hother hd hj
   exact kig_same rfl rfl (.agg (c.push (.bool B))) (by simp only [execOp];go_simp) rfl hst
  | k + 4,hj=>omega
 ·intro us W hgW hst hk
  have u3:us 3 = .agg (c.push (.bool B)):=hk 3 (by decide)
  have HX5:=Lib.hid (HX.out.grown hgW hSr)
  have HR5:=Lib.hid (HRS.out.grown hgW (Nat.ne_of_gt HR.out))
  have HG5:=Lib.hid (grown_trans HG3.out hgW)
  have HP5:Hid (PB w0 r tv L en s2 W):=Lib.hid hst
  have hokI:=okOrder B HOK.out
  have hrb:=HR5.out.b (n:=9) rfl
  clear hk hst hgW hSr
  simp only [List.drop_succ_cons,List.drop_zero,putAll,dstOf,Act.put,List.getElem?_toArray,List.getElem?_cons_zero,List.getElem?_cons_succ,Option.bind_some]
  simp only [List.setIfInBounds_toArray,List.set_cons_zero,List.set_cons_succ]
  rw [u3]
  go_wp2_with fail
  exact bodyPost_ret (v:=.agg (c.push (.bool B))) (res_row Tryz.results127 od_struct od_size _ _ w.heap.size _ _ rfl (HR5.out.set _) (okRow_iff.1 hokI).1) rfl
   ⟨_,rfl,by rw [HZ.out];exact ag_fin (HX5.out.new.imp fun u hu=>⟨c.toList,by simp,hu⟩) (by omega) (fun b h=>h.1),by rw [HZ.out];exact HP5.out.other (grown_setRow _ _ _) HR.out,grown_fill HG5.out (Nat.le_refl _) _⟩
theorem ty_index (i:Nat) (x:ByteArray × Nat) (h:types[i]? = some x) (W:World):(Instr.index 184 (.agg #[.string WINTEGER,.string WTEXT,.string WBLOB]) (.int .i64 (i:Int))).run Tryz.prog W = .ok (.string x.1) W:=by
 match i,h with
 | 0,h=>cases h;exact grp_ix0 _ _ _ W
 | 1,h=>cases h;exact grp_ix1 _ _ _ W
 | 2,h=>cases h;exact grp_ix2 _ _ _ W
 | _ + 3,h=>simp [types] at h
theorem ty_op (i:Nat) (x:ByteArray × Nat) (h:types[i]? = some x):x.2=1 + i∧i < 3:=by
 match i,h with
 | 0,h=>cases h;exact ⟨rfl,by decide⟩
 | 1,h=>cases h;exact ⟨rfl,by decide⟩
 | 2,h=>cases h;exact ⟨rfl,by decide⟩
 | _ + 3,h=>simp [types] at h
abbrev coC (n:ByteArray) (ty:Nat) (b:Bool):Array Value:=#[.string n,.int .u8 (ty:Int),.bool b]
structure CO (w0:World) (r:Nat) (tv:Value) (L:List Tk) (en:Int) (w:World) (g:Nat) (s:PS) (c:Array Value) (W:World):Prop where
 pb:PB w0 r tv L en s W
 gr:w.grownBy W (some r)
 rs:Row w.heap.size 89 #[.string ⟨#[]⟩,.int .u8 0,.bool false] W
 row:Row g 89 c W
 hr:r < w.heap.size
 hg:w.heap.size < g
theorem CO.grown {w W W':World} {g:Nat} {s s':PS} {c:Array Value} (h:CO w0 r tv L en w g s c W) (k:W.grownBy W' (some r)) (hp:PB w0 r tv L en s' W'):CO w0 r tv L en w g s' c W':=by
 have h1:=h.hr
 have h2:=h.hg
 exact ⟨hp,grown_trans h.gr k,h.rs.grown k (by omega),h.row.grown k (by omega),h1,h2⟩
theorem CO.set {w W:World} {g:Nat} {s:PS} {c:Array Value} (h:CO w0 r tv L en w g s c W) (i:Nat) (v:Value):CO w0 r tv L en w g s (c.setIfInBounds i v) (W.setCell ⟨g,i,none⟩ v):=by
 have h1:=h.hr
 have h2:=h.hg
 rw [setCell_eq_setRow W g i c _ _ v h.row]
 exact ⟨h.pb.other (grown_setRow _ _ _) (by omega),grown_fill h.gr (by omega) _,(setRow_other W g _ _ (by omega)).trans h.rs,h.row.set _,h1,h2⟩
def CoRel (w0:World) (r:Nat) (tv:Value) (L:List Tk) (en:Int) (w:World) (g:Nat) (n:ByteArray) (s1:PS) (W:World):Prop:=
 ∃ ty s2,CO w0 r tv L en w g s2 (coC n ty false) W∧ty ≤ 3∧((ty ≠ 0∧oneOf L en types s1=(some ty,s2)) ∨ (ty=0∧oneOf L en types s1=(none,s2)))
set_option maxRecDepth 100000 in
set_option maxHeartbeats 8000000 in
theorem columnW (w:World) (h:PB w0 r tv L en s w):Calls Tryz.prog 120 #[.pointer (some ⟨r,0,none⟩)] w fun e w'=>
 e = .returned (.agg (coC (colM L en s).1.name (colM L en s).1.ty (colM L en s).1.nn))∧PB w0 r tv L en (colM L en s).2 w'∧w.grownBy w' (some r):=by
 obtain ⟨Z,hZ⟩:∃ Z,Z=colM L en s:=⟨_,rfl⟩
 rw [← hZ]
 have hb:=(Below.refl _ w).alloc (Nat.le_refl _) (.cells #[.string ⟨#[]⟩,.int .u8 0,.bool false] 89)
 have hr0:=row_alloc w 89 #[.string ⟨#[]⟩,.int .u8 0,.bool false]
 obtain ⟨⟨n,s1⟩,h1⟩:∃ z,nameM L en s=z:=⟨_,rfl⟩
 have hn:=pnameW _ (h.later hb)
 rw [h1] at hn
 have HN:=Lib.hid hn
 have HZ:Hid (Z=(bnd (oneOf L en types) fun o=>bnd (match o with | some o=>ret o | none=>bnd (failM L en 6) fun _=>ret 0) fun ty=>
  bnd (isM L en WNOT) fun b=>if b then bnd (mustM L en [WNULL]) fun _=>ret ⟨n,ty,true⟩ else ret ⟨n,ty,false⟩) s1):=Lib.hid (by rw [hZ];unfold colM;rw [bndE h1];rfl)
 have HR0:=Lib.hid hr0
 have HB:=Lib.hid hb
 have HR:=Lib.hid h.lt
 clear h hZ hb hr0 hn h1
 go_enter Tryz.func120,Tryz.ntmps120
 go_upto_region 1 with fail
 generalize w.alloc (.cells #[.string ⟨#[]⟩,.int .u8 0,.bool false] 89)=w1 at *
 go_wp2_with fail
 refine HN.out.mono ?_
 rintro e2 w2 ⟨rfl,hp2,hg2⟩
 have hb3:=(Below.refl _ w2).alloc (Nat.le_refl _) (.cells (coC n 0 false) 89)
 have HC3:Hid (CO w0 r tv L en w w2.heap.size s1 (coC n 0 false) (w2.alloc (.cells (coC n 0 false) 89))):=Lib.hid ⟨PB.later hp2 hb3,grown_trans (grown_trans (below_grown (r:=r) HB.out) hg2) (below_grown hb3),(HR0.out.grown hg2 (Nat.ne_of_gt HR.out)).later hb3,row_alloc _ _ _,HR.out,(HR0.out.grown hg2 (Nat.ne_of_gt HR.out)).lt⟩
 clear hp2 hg2 hb3 HN
 go_upto_region 2 with fail
 generalize w2.alloc (.cells (coC n 0 false) 89)=w3 at *
 generalize w2.heap.size=g at *
 go_upto_block 0 with fail
 go_cut [] (fun wx=>CoRel w0 r tv L en w g n s1 wx)
 case first=>
  go_wp2_with fail
  go_loopg [10] 3 (fun gk iv wr=>∃ (i:Nat),iv = .int .i64 (i:Int)∧gk=3 - i∧i ≤ 3∧Hid (CO w0 r tv L en w g s1 (coC n 0 false) wr)∧Hid (oneOf L en types s1=oneOf L en (types.drop i) s1))
  case atStart=>exact ⟨0,rfl,rfl,by decide,HC3,Lib.hid rfl⟩
  case round=>
   obtain ⟨i,rfl,rfl,hi,HC,HO⟩:=hrel
   by_cases hlt:i < 3
   ·obtain ⟨⟨t,o⟩,ht⟩:∃ q,types[i]? = some q:=⟨types[i]'(by show i < 3;exact hlt),by simp⟩
    have hd:types.drop i=(t,o) :: types.drop (i + 1):=by
     rw [List.drop_eq_getElem_cons (show i < types.length from hlt),(List.getElem?_eq_some_iff.1 ht).2]
    obtain ⟨hop,_⟩:=ty_op i _ ht
    have HO2:Hid (oneOf L en types s1=oneOf L en ((t,o) :: types.drop (i + 1)) s1):=Lib.hid (by rw [← hd];exact HO.out)
    have hix:∀ W,(Instr.index 184 (.agg #[.string WINTEGER,.string WTEXT,.string WBLOB]) (.int .i64 (i:Int))).run Tryz.prog W = .ok (.string t) W:=ty_index i (t,o) ht
    have HI:=Lib.hid (isW t wr HC.out.pb)
    have ilt:(i:Int) < 3:=by omega
    have ige:(0:Int) ≤ (i:Int):=by omega
    have HLTI:=Lib.hid hlt
    have HOP:Hid (o=1 + i):=Lib.hid hop
    clear hd ht hlt hop
    obtain ⟨B,hB⟩:∃ B,isB L en t s1=B:=⟨_,rfl⟩
    rw [isM_snd,hB] at HI
    have HB2:=Lib.hid hB
    clear hB
    cases B
    ·have HNO:Hid (oneOf L en types s1=oneOf L en (types.drop (i + 1)) s1):=Lib.hid (by rw [HO2.out,oneOf_no HB2.out])
     go_wp2_with fail
     refine HI.out.mono ?_
     rintro e5 w6 ⟨rfl,hp5,hg5⟩
     have HC6:=Lib.hid (HC.out.grown hg5 hp5)
     clear hp5 hg5 hix
     go_wp2_with fail
     go_roundg (3 - (i + 1))
     case measure=>exact Nat.sub_lt_sub_left HLTI.out (Nat.lt_succ_self _)
     case rel=>exact ⟨i + 1,by go_num,rfl,HLTI.out,HC6,HNO⟩
    ·have HYES:Hid (oneOf L en types s1=(some o,s1.next)):=Lib.hid (by rw [HO2.out,oneOf_yes HB2.out])
     go_wp2_with fail
     refine HI.out.mono ?_
     rintro e5 w6 ⟨rfl,hp5,hg5⟩
     have hC6:CO w0 r tv L en w g s1.next (coC n 0 false) w6:=HC.out.grown hg5 hp5
     have c1:=hC6.row.cell (i:=1) (v:=.int .u8 0) rfl
     have f1:=hC6.row.free 1
     have ho:1 + (i:Int)=(o:Int):=by have:=HOP.out;omega
     have HC7:Hid (CO w0 r tv L en w g s1.next (coC n o false) (w6.setCell ⟨g,1,none⟩ (.int .u8 (1 + (i:Int))))):=Lib.hid (by rw [ho];exact hC6.set 1 (.int .u8 (o:Int)))
     have HO3:Hid (o ≠ 0∧o ≤ 3):=Lib.hid (by have:=HOP.out;have:=HLTI.out;omega)
     clear hp5 hg5 hix hC6 ho
     go_wp2_with fail
     go_meet
     exact ⟨o,s1.next,HC7.out,HO3.out.2,.inl ⟨HO3.out.1,HYES.out⟩⟩
   ·obtain rfl:i=3:=by omega
    clear hlt hi
    go_wp2_with fail
    go_meet
    exact ⟨0,s1,HC.out,by decide,.inr ⟨rfl,by rw [HO.out];rfl⟩⟩
 case rest=>
  rename World=>w4
  obtain ⟨ty,s2,hC4,h3,hone⟩:=hcut
  have HC4:=Lib.hid hC4
  have HONE:=Lib.hid hone
  have c1:=hC4.row.cell (i:=1) (v:=.int .u8 (ty:Int)) rfl
  rcases hone with ⟨ht0,hon⟩ | ⟨ht0,hon⟩
  ·have e0:((ty:Int) == 0)=false:=by simp;omega
   have HZ5:Hid (Z=(bnd (isM L en WNOT) fun b=>if b then bnd (mustM L en [WNULL]) fun _=>ret ⟨n,ty,true⟩ else ret ⟨n,ty,false⟩) s2):=Lib.hid (by rw [HZ.out,bndE hon];rfl)
   have HI:=Lib.hid (isW WNOT w4 HC4.out.pb)
   obtain ⟨B,hB⟩:∃ B,isB L en WNOT s2=B:=⟨_,rfl⟩
   rw [isM_snd,hB] at HI
   have HBB:=Lib.hid hB
   clear hB hon hC4 ht0
   cases B
   ·have HZ6:Hid (Z=(⟨n,ty,false⟩,s2)):=Lib.hid (by rw [HZ5.out,isN HBB.out];rfl)
    go_wp2_with fail
    refine HI.out.mono ?_
    rintro e6 w6 ⟨rfl,hp6,hg6⟩
    have HC6:Hid (CO w0 r tv L en w g s2 (coC n ty false) w6):=Lib.hid (HC4.out.grown hg6 hp6)
    clear hp6 hg6 HI
    have hb6:=HC6.out.row.b (n:=3) rfl
    have ho6:=HC6.out.row.of
    have hr6:=HC6.out.rs.b (n:=3) rfl
    go_wp2_with fail
    exact bodyPost_ret (v:=.agg (coC n ty false)) (res_row Tryz.results120 co_struct co_size _ _ w.heap.size _ _ rfl (HC6.out.rs.set _) rfl) rfl ⟨by rw [HZ6.out],by rw [HZ6.out];exact HC6.out.pb.other (grown_setRow _ _ _) HC6.out.hr,grown_fill HC6.out.gr (Nat.le_refl _) _⟩
   ·obtain ⟨s6,h6⟩:∃ z,(mustM L en [WNULL] (s2).next).2=z:=⟨_,rfl⟩
    have HZ6:Hid (Z=(⟨n,ty,true⟩,s6)):=Lib.hid (by rw [HZ5.out,isY HBB.out,if_pos rfl,bndE (x:=()) (s1:=s6) (by rw [← h6])];rfl)
    have H6:=Lib.hid h6
    clear h6
    go_wp2_with fail
    refine HI.out.mono ?_
    rintro e6 w6 ⟨rfl,hp6,hg6⟩
    have HC6:Hid (CO w0 r tv L en w g (s2).next (coC n ty false) w6):=Lib.hid (HC4.out.grown hg6 hp6)
    have hm:=mustLit WNULL w6 HC6.out.pb
    rw [H6.out] at hm
    have HM:=Lib.hid hm
    clear hp6 hg6 HI hm
    go_wp2_with fail
    refine HM.out.mono ?_
    rintro e7 w7 ⟨rfl,hp7,hg7⟩
    have hC7:CO w0 r tv L en w g s6 (coC n ty false) w7:=HC6.out.grown hg7 hp7
    have c2:=hC7.row.cell (i:=2) (v:=.bool false) rfl
    have f2:=hC7.row.free 2
    have HC8:Hid (CO w0 r tv L en w g s6 (coC n ty true) (w7.setCell ⟨g,2,none⟩ (.bool true))):=Lib.hid (hC7.set 2 (.bool true))
    clear hp7 hg7 HM hC7
    go_upto_region 13 with fail
    clear c2 f2
    generalize w7.setCell ⟨g,2,none⟩ (.bool true)=w8 at *
    have hb6:=HC8.out.row.b (n:=3) rfl
    have ho6:=HC8.out.row.of
    have hr6:=HC8.out.rs.b (n:=3) rfl
    go_wp2_with fail
    exact bodyPost_ret (v:=.agg (coC n ty true)) (res_row Tryz.results120 co_struct co_size _ _ w.heap.size _ _ rfl (HC8.out.rs.set _) rfl) rfl ⟨by rw [HZ6.out],by rw [HZ6.out];exact HC8.out.pb.other (grown_setRow _ _ _) HC8.out.hr,grown_fill HC8.out.gr (Nat.le_refl _) _⟩
  ·have e0:((ty:Int) == 0)=true:=by simp;omega
   have HF:=Lib.hid (failW w4 6 HC4.out.pb)
   have HZ5:Hid (Z=(bnd (isM L en WNOT) fun b=>if b then bnd (mustM L en [WNULL]) fun _=>ret ⟨n,0,true⟩ else ret ⟨n,0,false⟩) (failP L en 6 s2)):=Lib.hid (by rw [HZ.out,bndE hon];rfl)
   subst ht0
   clear hon hC4
   generalize failP L en 6 s2=s5 at *
   go_wp2_with fail
   refine HF.out.mono ?_
   rintro e5 w5 ⟨rfl,hp5,hg5⟩
   have HC5:Hid (CO w0 r tv L en w g s5 (coC n 0 false) w5):=Lib.hid (HC4.out.grown hg5 hp5)
   clear hp5 hg5 c1 HF
   have HI:=Lib.hid (isW WNOT w5 HC5.out.pb)
   obtain ⟨B,hB⟩:∃ B,isB L en WNOT s5=B:=⟨_,rfl⟩
   rw [isM_snd,hB] at HI
   have HBB:=Lib.hid hB
   clear hB
   cases B
   ·have HZ6:Hid (Z=(⟨n,0,false⟩,s5)):=Lib.hid (by rw [HZ5.out,isN HBB.out];rfl)
    go_wp2_with fail
    refine HI.out.mono ?_
    rintro e6 w6 ⟨rfl,hp6,hg6⟩
    have HC6:Hid (CO w0 r tv L en w g s5 (coC n 0 false) w6):=Lib.hid (HC5.out.grown hg6 hp6)
    clear hp6 hg6 HI
    have hb6:=HC6.out.row.b (n:=3) rfl
    have ho6:=HC6.out.row.of
    have hr6:=HC6.out.rs.b (n:=3) rfl
    go_wp2_with fail
    exact bodyPost_ret (v:=.agg (coC n 0 false)) (res_row Tryz.results120 co_struct co_size _ _ w.heap.size _ _ rfl (HC6.out.rs.set _) rfl) rfl ⟨by rw [HZ6.out],by rw [HZ6.out];exact HC6.out.pb.other (grown_setRow _ _ _) HC6.out.hr,grown_fill HC6.out.gr (Nat.le_refl _) _⟩
   ·obtain ⟨s6,h6⟩:∃ z,(mustM L en [WNULL] (s5).next).2=z:=⟨_,rfl⟩
    have HZ6:Hid (Z=(⟨n,0,true⟩,s6)):=Lib.hid (by rw [HZ5.out,isY HBB.out,if_pos rfl,bndE (x:=()) (s1:=s6) (by rw [← h6])];rfl)
    have H6:=Lib.hid h6
    clear h6
    go_wp2_with fail
    refine HI.out.mono ?_
    rintro e6 w6 ⟨rfl,hp6,hg6⟩
    have HC6:Hid (CO w0 r tv L en w g (s5).next (coC n 0 false) w6):=Lib.hid (HC5.out.grown hg6 hp6)
    have hm:=mustLit WNULL w6 HC6.out.pb
    rw [H6.out] at hm
    have HM:=Lib.hid hm
    clear hp6 hg6 HI hm
    go_wp2_with fail
    refine HM.out.mono ?_
    rintro e7 w7 ⟨rfl,hp7,hg7⟩
    have hC7:CO w0 r tv L en w g s6 (coC n 0 false) w7:=HC6.out.grown hg7 hp7
    have c2:=hC7.row.cell (i:=2) (v:=.bool false) rfl
    have f2:=hC7.row.free 2
    have HC8:Hid (CO w0 r tv L en w g s6 (coC n 0 true) (w7.setCell ⟨g,2,none⟩ (.bool true))):=Lib.hid (hC7.set 2 (.bool true))
    clear hp7 hg7 HM hC7
    go_upto_region 13 with fail
    clear c2 f2
    generalize w7.setCell ⟨g,2,none⟩ (.bool true)=w8 at *
    have hb6:=HC8.out.row.b (n:=3) rfl
    have ho6:=HC8.out.row.of
    have hr6:=HC8.out.rs.b (n:=3) rfl
    go_wp2_with fail
    exact bodyPost_ret (v:=.agg (coC n 0 true)) (res_row Tryz.results120 co_struct co_size _ _ w.heap.size _ _ rfl (HC8.out.rs.set _) rfl) rfl ⟨by rw [HZ6.out],by rw [HZ6.out];exact HC8.out.pb.other (grown_setRow _ _ _) HC8.out.hr,grown_fill HC8.out.gr (Nat.le_refl _) _⟩
end
end Go.Proofs.YtmdogmpcmkfjpaaGreatDoor.Dt
