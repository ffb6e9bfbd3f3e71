import Derived.Test.YtmdogmpcmkfjpaaGreatDoorBn27
/- Part of the proof (merged). -/
namespace Go.Proofs.YtmdogmpcmkfjpaaGreatDoor.Dt
open Go.RowKit Go.Proofs.YtmdogmpcmkfjpaaGreatDoor.By
attribute [local go_sem ↓] veilSt_sm veilLd_sm veilSt_co veilLd_co
attribute [local go_sem] run_smSt run_smNew run_smLd okRow16 okRow3 Value.oneCell' run_coSt run_coNew run_coLd
section
variable {w0:World} {r:Nat} {tv:Value} {L:List Tk} {en:Int} {s:PS}
theorem nameRun (w1:World) (k0:Nat):PRun w0 r tv L en w1 k0 76 #[.pointer (some ⟨r,0,none⟩)] (nameM L en) SvR:=fun _ w _ _ h=>(pnameW w h).mono fun _ _ ⟨he,hp,hg⟩=>⟨_,he,New.const rfl,hp,hg⟩
theorem namesW {s:PS} (w:World) (h:PB w0 r tv L en s w):Calls Tryz.prog 77 #[.pointer (some ⟨r,0,none⟩),.func (.func 76) #[.pointer (some ⟨r,0,none⟩)] #[]] w fun e w'=>
 ∃ v,e = .returned v∧New w.heap.size w' (fun u=>StrsR u v (namesM L en s).1)∧PB w0 r tv L en (namesM L en s).2 w'∧w.grownBy w' (some r):=
 insideString (L:=L) (en:=en) (fun s=>(Sim.nameM (L:=L) (L':=L) (en:=en) (en':=en) (d:=0)).mono s |>.1) w s.k (nameRun w s.k) s (Nat.le_refl _) h
theorem colsLeft_le {s:PS} : colsLeft L s ≤ L.length + 2:=by
 unfold colsLeft
 split
 ·exact Nat.sub_le _ _
 ·omega
abbrev stT (t:ByteArray) (v:Value):Array Value:=#[.int .u8 1,.string t,.string ⟨#[]⟩,.bool false,v,.slice none 0 0,.slice none 0 0,.slice none 0 0,.slice none 0 0,.slice none 0 0,.slice none 0 0,.slice none 0 0,.slice none 0 0,.slice none 0 0,.slice none 0 0,.int .i64 0]
structure CT (w0:World) (r:Nat) (tv:Value) (L:List Tk) (en:Int) (w:World) (g:Nat) (s:PS) (t:ByteArray) (v:Value) (cols:List PCol) (ccs:List (List Value)) (W:World):Prop where
 pb:PB w0 r tv L en s W
 gr:w.grownBy W (some r)
 rs:Row w.heap.size 31 stZ W
 row:Row g 31 (stT t v) W
 own:OwnL 89 3 ColR (g + 1) W v cols ccs
 hr:r < w.heap.size
 hg:w.heap.size < g
section
variable {w W W':World} {g:Nat} {s':PS} {t:ByteArray} {v:Value} {cols:List PCol} {ccs:List (List Value)}
theorem CT.grown (h:CT w0 r tv L en w g s t v cols ccs W) (k:W.grownBy W' (some r)) (hp:PB w0 r tv L en s' W'):CT w0 r tv L en w g s' t v cols ccs W':=by
 have h1:=h.hr
 have h2:=h.hg
 exact ⟨hp,grown_trans h.gr k,h.rs.grown k (by omega),h.row.grown k (by omega),h.own.grown k (by omega),h1,h2⟩
structure CX (w0:World) (r:Nat) (tv:Value) (L:List Tk) (en:Int) (w:World) (g:Nat) (s:PS) (t:ByteArray) (v v':Value) (cols:List PCol) (ccs:List (List Value)) (W:World):Prop where
 pb:PB w0 r tv L en s W
 gr:w.grownBy W (some r)
 rs:Row w.heap.size 31 stZ W
 row:Row g 31 (stT t v) W
 own:OwnL 89 3 ColR (g + 1) W v' cols ccs
 hr:r < w.heap.size
 hg:w.heap.size < g
theorem CT.app {v':Value} (c:PCol) (h:CT w0 r tv L en w g s t v cols ccs W) (hown:W'.ownsRow (g + 1) 89 3 v' (ccs.length + 1) (ccs.flatten ++ (coC c.name c.ty c.nn).toList)) (k:W.grownBy W' v.ownBlock) (hv:v'.ownBlock=v.ownBlock ∨ v'.ownBlock=some W.heap.size) :
 CX w0 r tv L en w g s t v v' (cols ++ [c]) (ccs ++ [(coC c.name c.ty c.nn).toList]) W':=by
 have h1:=h.hr
 have h2:=h.hg
 have hlo:∀ j,v.ownBlock=some j→g + 1 ≤ j:=fun j hj=>(World.ownsRow.lt h.own.own j hj).1
 have hkeep:∀ b,b ≤ g→W'.heap[b]? = W.heap[b]? :=fun b hb=>k.block b (by have:=h.row.lt;omega) (fun e=>by have:=hlo b e.symm;omega)
 exact ⟨h.pb.row k (fun j hj=>by have:=hlo j hj;omega),grown_row h.gr k (fun j hj=>by have:=hlo j hj;omega),(hkeep _ (by omega)).trans h.rs,(hkeep _ (Nat.le_refl _)).trans h.row,
  h.own.snoc hown k hv rfl (New.const (n:=W.heap.size) rfl) h.row.lt (fun j hj=>(World.ownsRow.lt h.own.own j hj).2),h1,h2⟩
theorem CX.put {v':Value} (h:CX w0 r tv L en w g s t v v' cols ccs W):CT w0 r tv L en w g s t v' cols ccs (W.setCell ⟨g,4,none⟩ v'):=by
 have h1:=h.hr
 have h2:=h.hg
 rw [setCell_eq_setRow W g 4 _ _ _ v' h.row]
 exact ⟨h.pb.other (grown_setRow _ _ _) (by omega),grown_fill h.gr (by omega) _,(setRow_other W g _ _ (by omega)).trans h.rs,h.row.set _,h.own.grown (grown_setRow W g _) (Nat.lt_succ_self _),h1,h2⟩
theorem CT.toST (h:CT w0 r tv L en w g s t v cols ccs W):ST w0 r tv L en false w w.heap.size g s (stT t v) { kind:=1,table:=t,cols:=cols } W:=by
 have h2:=h.hg
 refine ⟨h.pb,h.gr,(fun e=>by cases e),h.rs,⟨h.row,?_,by omega⟩,h.hr,Nat.le_refl _,h2,(fun e=>by cases e)⟩
 refine (Dep.step h.own.done (Nat.le_refl _) fun b hb _=>⟨(by omega:w.heap.size < b∧b ≠ w.heap.size∧b ≠ g),rfl⟩).imp fun u hu=>?_
 exact ⟨_,_,_,_,_,_,_,_,_,_,_,rfl,hu,SlR.nil _ _ _,SlR.nil _ _ _,SlR.nil _ _ _,SlR.nil _ _ _,SlR.nil _ _ _,SlR.nil _ _ _,SlR.nil _ _ _,SlR.nil _ _ _,SlR.nil _ _ _,SlR.nil _ _ _⟩
end
def ColsKn (r g lo:Nat) (v:Value) (c:PCol) (j:Nat) (u:Value) (W:World):Prop:=match j with
 | 0=>u = .pointer (some ⟨g,4,none⟩)
 | 1=>u=v
 | 2=>u = .pointer (some ⟨r,0,none⟩)
 | 3=>u = .agg (coC c.name c.ty c.nn)
 | _=>∃ b,u = .slice (some ⟨b,0,none⟩) 1 1∧Row b 89 (coC c.name c.ty c.nn) W∧lo ≤ b
theorem ColsKn.later {g lo:Nat} {v:Value} {c:PCol} (hr:r < lo) (w0:World) (j:Nat) (u:Value) (w1 w2:World) (h:ColsKn r g lo v c j u w1) (_:w0.grownBy w1 (some r)) (k:w1.grownBy w2 (some r)):ColsKn r g lo v c j u w2:=by
 match j,h with
 | 0,h=>exact h
 | 1,h=>exact h
 | 2,h=>exact h
 | 3,h=>exact h
 | _ + 4,⟨b,e,h,hb⟩=>exact ⟨b,e,h.grown k (by omega),hb⟩
set_option maxRecDepth 100000 in
set_option maxHeartbeats 64000000 in
theorem createW (w:World) (h:PB w0 r tv L en s w):Calls Tryz.prog 75 #[.pointer (some ⟨r,0,none⟩)] w fun e w'=>
 ∃ v,e = .returned v∧New w.heap.size w' (fun u=>AgV StR u v (createM L en s).1)∧PB w0 r tv L en (createM L en s).2 w'∧w.grownBy w' (some r):=by
 obtain ⟨Z,hZ⟩:∃ Z,Z=createM L en s:=⟨_,rfl⟩
 rw [← hZ]
 have hr0:=row_alloc w 31 stZ
 have hb:=(Below.refl _ w).alloc (Nat.le_refl _) (.cells stZ 31)
 have HR:=Lib.hid h.lt
 have HL:=Lib.hid h.hl
 have HB:=Lib.hid hb
 have HR0:=Lib.hid hr0
 have HI:=Lib.hid (isW WTABLE _ (h.later hb))
 unfold createM at hZ
 have HZ:=Lib.hid hZ
 clear h hr0 hb hZ
 obtain ⟨B,hB⟩:∃ B,isB L en WTABLE s=B:=⟨_,rfl⟩
 rw [isM_snd,hB] at HI
 have HBN:=Lib.hid hB
 clear hB
 go_enter Tryz.func75,Tryz.ntmps75
 go_upto_region 1 with fail
 generalize w.alloc (.cells stZ 31)=w1 at *
 cases B
 ·obtain ⟨B3,hB3⟩:∃ B,isB L en WUNIQUE s=B:=⟨_,rfl⟩
  obtain ⟨s3,hs3⟩:∃ z,(isM L en WUNIQUE s).2=z:=⟨_,rfl⟩
  have HZ3:Hid (Z=(bnd (mustM L en [WINDEX]) fun _=>bnd (nameM L en) fun n=>bnd (mustM L en [WON]) fun _=>bnd (nameM L en) fun t=>bnd (namesM L en) fun k=>
   ret { kind:=3,uniq:=B3,name:=n,table:=t,key:=k }) s3):=Lib.hid (by rw [HZ.out,isN HBN.out,if_neg Bool.false_ne_true,bndE (x:=B3) (s1:=s3) (by rw [← hB3,← hs3];rfl)])
  go_wp2_with fail
  refine HI.out.mono ?_
  rintro e2 w2 ⟨rfl,hp2,hg2⟩
  have hp2:PB w0 r tv L en s w2:=hp2
  have hi:=isW WUNIQUE w2 hp2
  rw [hB3,hs3] at hi
  have HI3:=Lib.hid hi
  have HG2:=Lib.hid (grown_trans (below_grown (r:=r) HB.out) hg2)
  have HR2:=Lib.hid (HR0.out.grown hg2 (Nat.ne_of_gt HR.out))
  clear hp2 hg2 hi HI hB3 hs3
  have hok16:okRow 16 #[.int .u8 3,.string ⟨#[]⟩,.string ⟨#[]⟩,.bool B3,.slice none 0 0,.slice none 0 0,.slice none 0 0,.slice none 0 0,.slice none 0 0,.slice none 0 0,.slice none 0 0,.slice none 0 0,.slice none 0 0,.slice none 0 0,.slice none 0 0,.int .i64 0]=true:=by rw [okRow16];rfl
  go_wp2_with fail
  refine HI3.out.mono ?_
  rintro e3 v3 ⟨rfl,hp3,hg3⟩
  obtain ⟨cs0,HT0⟩:∃ cs0,cs0 = #[.int .u8 3,.string ⟨#[]⟩,.string ⟨#[]⟩,.bool B3,.slice none 0 0,.slice none 0 0,.slice none 0 0,.slice none 0 0,.slice none 0 0,.slice none 0 0,.slice none 0 0,.slice none 0 0,.slice none 0 0,.slice none 0 0,.slice none 0 0,.int .i64 0]∧Hid (ST w0 r tv L en false w (w.heap.size) v3.heap.size s3 cs0 { kind:=3,uniq:=B3 } (v3.alloc (.cells cs0 31))):=⟨_,rfl,Lib.hid (by
   have hr3:=HR2.out.grown hg3 (Nat.ne_of_gt HR.out)
   have hlt:=hr3.lt
   have hb:=(Below.refl _ v3).alloc (Nat.le_refl _) (.cells #[.int .u8 3,.string ⟨#[]⟩,.string ⟨#[]⟩,.bool B3,.slice none 0 0,.slice none 0 0,.slice none 0 0,.slice none 0 0,.slice none 0 0,.slice none 0 0,.slice none 0 0,.slice none 0 0,.slice none 0 0,.slice none 0 0,.slice none 0 0,.int .i64 0] 31)
   exact ⟨PB.later hp3 hb,grown_trans (grown_trans HG2.out hg3) (below_grown hb),(fun e=>by cases e),hr3.later hb,sg_new v3 3 ⟨#[]⟩ ⟨#[]⟩ B3 0 (by omega),HR.out,Nat.le_refl _,hlt,(fun e=>by cases e)⟩)⟩
  obtain ⟨hcs,HT0⟩:=HT0
  go_upto_region 12 with fail
  rw [← hcs]
  clear hp3 hg3 hok16 hcs HI3
  generalize v3.alloc (.cells cs0 31)=w3 at *
  generalize v3.heap.size=g at *
  obtain ⟨s4,h4⟩:∃ z,(mustM L en [WINDEX] (s3)).2=z:=⟨_,rfl⟩
  have hc4:=mustLit WINDEX w3 HT0.out.pb
  rw [h4] at hc4
  have HC4:=Lib.hid hc4
  have HE4:Hid (mustM L en [WINDEX] (s3)=((),s4)):=Lib.hid (by rw [← h4])
  clear h4 hc4
  go_wp2_with fail
  refine HC4.out.mono ?_
  rintro e4 w4 ⟨rfl,hp4,hg4⟩
  have HT4:=Lib.hid (HT0.out.grown hg4 hp4)
  clear hp4 hg4 HC4
  obtain ⟨⟨m5,s5⟩,h5⟩:∃ z,nameM L en (s4)=z:=⟨_,rfl⟩
  have hc5:=pnameW w4 HT4.out.pb
  rw [h5] at hc5
  have HC5:=Lib.hid hc5
  have HE5:=Lib.hid h5
  clear h5 hc5
  go_wp2_with fail
  refine HC5.out.mono ?_
  rintro e5 v5 ⟨rfl,hp5,hg5⟩
  have hS5:=HT4.out.grown hg5 hp5
  obtain ⟨o5,c5⟩:=hS5.sg.cell 2 (by decide)
  have f5:=hS5.sg.row.free 2
  have hT5:=hS5.lay (hS5.sg.put_name m5)
  clear hp5 hg5 HC5 hS5
  have HT5:=Lib.hid hT5
  clear hT5
  go_upto_region 14 with fail
  clear c5 f5
  generalize v5.setCell ⟨g,2,none⟩ (.string m5)=w5 at *
  generalize cs0.setIfInBounds 2 (.string m5)=cs5 at *
  obtain ⟨s6,h6⟩:∃ z,(mustM L en [WON] (s5)).2=z:=⟨_,rfl⟩
  have hc6:=mustLit WON w5 HT5.out.pb
  rw [h6] at hc6
  have HC6:=Lib.hid hc6
  have HE6:Hid (mustM L en [WON] (s5)=((),s6)):=Lib.hid (by rw [← h6])
  clear h6 hc6
  go_wp2_with fail
  refine HC6.out.mono ?_
  rintro e6 w6 ⟨rfl,hp6,hg6⟩
  have HT6:=Lib.hid (HT5.out.grown hg6 hp6)
  clear hp6 hg6 HC6
  obtain ⟨⟨m7,s7⟩,h7⟩:∃ z,nameM L en (s6)=z:=⟨_,rfl⟩
  have hc7:=pnameW w6 HT6.out.pb
  rw [h7] at hc7
  have HC7:=Lib.hid hc7
  have HE7:=Lib.hid h7
  clear h7 hc7
  go_wp2_with fail
  refine HC7.out.mono ?_
  rintro e7 v7 ⟨rfl,hp7,hg7⟩
  have hS7:=HT6.out.grown hg7 hp7
  obtain ⟨o7,c7⟩:=hS7.sg.cell 1 (by decide)
  have f7:=hS7.sg.row.free 1
  have hT7:=hS7.lay (hS7.sg.put_table m7)
  clear hp7 hg7 HC7 hS7
  have HT7:=Lib.hid hT7
  clear hT7
  go_upto_region 16 with fail
  clear c7 f7
  generalize v7.setCell ⟨g,1,none⟩ (.string m7)=w7 at *
  generalize cs5.setIfInBounds 1 (.string m7)=cs7 at *
  obtain ⟨⟨l8,s8⟩,h8⟩:∃ z,namesM L en (s7)=z:=⟨_,rfl⟩
  have hc8:=namesW w7 HT7.out.pb
  rw [h8] at hc8
  have HC8:=Lib.hid hc8
  have HE8:=Lib.hid h8
  clear h8 hc8
  go_wp2_with fail
  refine HC8.out.mono ?_
  rintro e8 v8 ⟨u8,rfl,hn8,hp8,hg8⟩
  obtain ⟨a8,b8,rfl,_⟩:=hn8.here.shape
  have hS8:=HT7.out.grown hg8 hp8
  have hd8:=HT7.out.dep hn8 HT7.out.lt
  clear hn8
  obtain ⟨o8,c8⟩:=hS8.sg.cell 5 (by decide)
  have f8:=hS8.sg.row.free 5
  have hT8:=hS8.lay (hS8.sg.put_key _ l8 hd8)
  clear hd8 hp8 hg8 HC8 hS8
  have HT8:=Lib.hid hT8
  clear hT8
  go_upto_region 17 with fail
  clear c8 f8
  generalize v8.setCell ⟨g,5,none⟩ (.slice a8 l8.length b8)=w8 at *
  generalize cs7.setIfInBounds 5 (.slice a8 l8.length b8)=cs8 at *
  have HZ9:Hid (Z=(_,s8)):=Lib.hid (by rw [HZ3.out,bndE HE4.out,bndE HE5.out,bndE HE6.out,bndE HE7.out,bndE HE8.out];rfl)
  have hb:=HT8.out.sg.rb
  have ho:=HT8.out.sg.row.of
  have hr:=HT8.out.rb
  have hok:=HT8.out.sg.ok
  go_wp2_with fail
  exact bodyPost_ret (v:=.agg cs8) (res_row Tryz.results75 sm_struct sm_size _ _ (w.heap.size) _ _ rfl (HT8.out.rs.set _) HT8.out.sg.size) rfl ⟨_,rfl,by rw [HZ9.out];exact HT8.out.fin⟩
 ·obtain ⟨⟨t,s2⟩,h2⟩:∃ z,nameM L en s.next=z:=⟨_,rfl⟩
  have H2:=Lib.hid h2
  clear h2
  go_wp2_with fail
  refine HI.out.mono ?_
  rintro e2 w2 ⟨rfl,hp2,hg2⟩
  have hp2:PB w0 r tv L en s.next w2:=hp2
  have hn:=pnameW w2 hp2
  rw [H2.out] at hn
  have HN:=Lib.hid hn
  have HG2:=Lib.hid (grown_trans (below_grown (r:=r) HB.out) hg2)
  have HR2:=Lib.hid (HR0.out.grown hg2 (Nat.ne_of_gt HR.out))
  clear hp2 hg2 hn HI
  have hok16:okRow 16 (stT t (.slice none 0 0))=true:=by rw [okRow16];rfl
  go_wp2_with fail
  refine HN.out.mono ?_
  rintro e3 v3 ⟨rfl,hp3,hg3⟩
  have HC0:Hid (CT w0 r tv L en w v3.heap.size s2 t (.slice none 0 0) [] [] (v3.alloc (.cells (stT t (.slice none 0 0)) 31))):=Lib.hid (by
   have hr3:=HR2.out.grown hg3 (Nat.ne_of_gt HR.out)
   have hlt:=hr3.lt
   have hb:=(Below.refl _ v3).alloc (Nat.le_refl _) (.cells (stT t (.slice none 0 0)) 31)
   exact ⟨PB.later hp3 hb,grown_trans (grown_trans HG2.out hg3) (below_grown hb),hr3.later hb,row_alloc _ _ _,OwnL.nil _ _ _ _ _,HR.out,hlt⟩)
  clear hp3 hg3 HN
  go_upto_region 3 with fail
  clear hok16
  generalize v3.alloc (.cells (stT t (.slice none 0 0)) 31)=w3 at *
  generalize v3.heap.size=g at *
  obtain ⟨s3,h3⟩:∃ z,(mustM L en [BOPEN] s2).2=z:=⟨_,rfl⟩
  have hm:=mustLit BOPEN w3 HC0.out.pb
  rw [h3] at hm
  have HM:=Lib.hid hm
  obtain ⟨ZC,hZC⟩:∃ z,colsM L en FU [] s3=z:=⟨_,rfl⟩
  have HZ3:Hid (Z=(bnd (mustM L en [WKEY]) fun _=>bnd (namesM L en) fun k=>bnd (mustM L en [BCLOSE]) fun _=>ret { kind:=1,table:=t,cols:=ZC.1,key:=k }) ZC.2):=Lib.hid (by
   rw [HZ.out,isY HBN.out,if_pos rfl,bndE H2.out,bndE (x:=()) (s1:=s3) (by rw [← h3]),bndE (x:=ZC.1) (s1:=ZC.2) (by rw [hZC])])
  have HZC:=Lib.hid hZC
  clear h3 hm hZC
  go_wp2_with fail
  refine HM.out.mono ?_
  rintro e4 w4 ⟨rfl,hp4,hg4⟩
  have HC4:=Lib.hid (HC0.out.grown hg4 hp4)
  clear hp4 hg4 HM
  go_wp2_with fail
  go_loopg [] (colsLeft L s3) (fun gk wr=>∃ (cols:List PCol) (ccs:List (List Value)) (v:Value) (sj:PS) (f:Nat),gk=colsLeft L sj∧Hid (CT w0 r tv L en w g sj t v cols ccs wr)∧Hid (ZC=colsM L en f cols sj)∧Hid (colsLeft L sj ≤ f)∧Hid (sj.e=0→cols.length ≤ sj.k))
  case atStart=>exact ⟨[],[],_,s3,FU,rfl,HC4,Lib.hid HZC.out.symm,Lib.hid (Nat.le_trans colsLeft_le (by have:=HL.out;show _ ≤ 100000;omega)),Lib.hid (fun _=>Nat.zero_le _)⟩
  case round=>
   obtain ⟨cols,ccs,v,sj,f,rfl,HC,HRC,HF,HCL⟩:=hrel
   obtain ⟨f',rfl⟩:∃ f',f=f' + 1:=⟨f - 1,by have:=HF.out;have h1:=HC.out.pb.hk;unfold colsLeft at this;split at this <;> omega⟩
   have HO:=Lib.hid (okP wr HC.out.pb)
   obtain ⟨va,vc,rfl⟩:=HC.out.own.shape
   by_cases h0:sj.e=0
   ·have d0:decide (sj.e=0)=true:=decide_eq_true h0
    rw [d0] at HO
    have H0:=Lib.hid h0
    have c4:=HC.out.row.cell (i:=4) (v:=.slice va cols.length vc) rfl
    clear h0 d0
    by_cases hem:cols = []
    ·have hne:((cols.length:Int) == 0)=true:=by rw [hem];rfl
     have HEM:Hid (cols.isEmpty=true):=Lib.hid (by rw [hem];rfl)
     clear hem
     go_wp2_with fail
     refine HO.out.mono ?_
     rintro e5 w5 ⟨rfl,rfl⟩
     have HST:Hid (ZC=(bnd (colM L en) fun c=>bnd (mustM L en [BCOMMA]) fun _=>colsM L en f' (cols ++ [c])) sj):=Lib.hid (by rw [HRC.out,cols_step H0.out,HEM.out,if_pos rfl];rfl)
     have HCB:=HC
     go_upto_region 5 with fail
     clear c4 hne
     obtain ⟨⟨c,s4⟩,hc⟩:∃ z,colM L en sj=z:=⟨_,rfl⟩
     obtain ⟨s5,h5⟩:∃ z,(mustM L en [BCOMMA] s4).2=z:=⟨_,rfl⟩
     have HCM:=Lib.hid hc
     have HMK:Hid (sj.k ≤ s4.k):=Lib.hid (by have:=col_mono (L:=L) (en:=en) sj;rw [hc] at this;exact this)
     have HST2:Hid (ZC=colsM L en f' (cols ++ [c]) s5):=Lib.hid (by rw [HST.out,bndE hc,bndE (x:=()) (s1:=s5) (by rw [← h5])])
     have HM1:Hid ((s5.e=0∧s4.e=0∧s5.k=s4.k + 1) ∨ s5.e ≠ 0):=Lib.hid (by have:=must1 (L:=L) (en:=en) (t:=BCOMMA) (s:=s4);rw [h5] at this;exact this)
     have H5:=Lib.hid h5
     clear hc h5
     have hgw:=HCB.out.gr
     refine wp_region_kig 5 r (ColsKn r g w.heap.size (.slice va (cols).length vc) c) (fun dn W=>PB w0 r tv L en (if dn 3 then s4 else sj) W) 69 rfl (by kernel_rfl) (by kernel_rfl) (ColsKn.later HR.out _) ?_ ?_ ?_ ?_
     ·intro dn dn' W hdd hst
      rw [← hdd 3 (by decide)]
      exact hst
     ·exact HCB.out.pb.later (Below.drew (Below.refl _ _))
     ·intro j hj dn A W hother hgW hst hdj hd
      match j,hj with
      | 0,hj=>
       have h0:=tmps_at (show A.eval (.tmp 3) = .pointer (some ⟨g,0,none⟩) from hother 3 (by kernel_rfl))
       clear hother hd hj
       exact kig_same rfl rfl (.pointer (some ⟨g,4,none⟩)) (by simp only [execOp];go_simp) rfl hst
      | 1,hj=>
       have h0:=tmps_at ((hd _ rfl ⟨0,.data⟩ (by simp) rfl).2.eq (.pointer (some ⟨g,4,none⟩)) (fun _ h=>h) 26 (by kernel_rfl) (by decide))
       have hcl:=(HCB.out.row.grown hgW (by have:=HCB.out.hg;have:=HR.out;omega)).cell (i:=4) (v:=.slice va (cols).length vc) rfl
       clear hother hd hj
       exact kig_same rfl rfl (.slice va (cols).length vc) (by simp only [execOp];go_simp) rfl hst
      | 2,hj=>
       have h0:=tmps_at (show A.eval (.tmp 0) = .pointer (some ⟨r,0,none⟩) from hother 0 (by kernel_rfl))
       clear hother hd hj
       exact kig_same rfl rfl (.pointer (some ⟨r,0,none⟩)) (by simp only [execOp];go_simp) rfl hst
      | 3,hj=>
       have h0:=tmps_at ((hd _ rfl ⟨2,.data⟩ (by simp) rfl).2.eq (.pointer (some ⟨r,0,none⟩)) (fun _ h=>h) 28 (by kernel_rfl) (by decide))
       have hst5:PB w0 r tv L en sj W:=by have h:=hst;simp only [hdj] at h;exact h
       have hcall:=columnW W hst5
       rw [HCM.out] at hcall
       clear hother hd hj
       refine kig_call rfl rfl 120 #[.pointer (some ⟨r,0,none⟩)] (by simp only [execOp];go_simp) (hcall.mono ?_)
       rintro e8 w8 ⟨rfl,hp8,hg8⟩
       exact ⟨_,rfl,hg8,rfl,hp8⟩
      | 4,hj=>
       have h0:=tmps_at ((hd _ rfl ⟨3,.data⟩ (by simp) rfl).2.eq (.agg (coC c.name c.ty c.nn)) (fun _ h=>h) 29 (by kernel_rfl) (by decide))
       have hbw:=(Below.refl _ W).alloc (Nat.le_refl _) (.cells (coC c.name c.ty c.nn) 89)
       have hst8:=hst.later hbw
       clear hother hd hj
       exact kig_val rfl rfl (.slice (some ⟨W.heap.size,0,none⟩) 1 1) (W.alloc (.cells (coC c.name c.ty c.nn) 89)) (by simp only [execOp];go_simp) (below_grown hbw) ⟨_,rfl,row_alloc _ _ _,(grown_trans hgw hgW).size⟩ hst8
      | k + 5,hj=>omega
     ·intro us W hgW hst hk
      have u0:us 0 = .pointer (some ⟨g,4,none⟩):=hk 0 (by decide)
      have u1:us 1 = .slice va (cols).length vc:=hk 1 (by decide)
      have u2:us 2 = .pointer (some ⟨r,0,none⟩):=hk 2 (by decide)
      have u3:us 3 = .agg (coC c.name c.ty c.nn):=hk 3 (by decide)
      obtain ⟨b4,u4,hrow4,_⟩:=hk 4 (by decide)
      have HCW:Hid (CT w0 r tv L en w g s4 t (.slice va (cols).length vc) (cols) ccs W):=Lib.hid (HCB.out.grown hgW hst)
      have HR4:=Lib.hid hrow4
      have HLEN:Hid (ccs.length ≤ 4096):=Lib.hid (by have h1:=HCB.out.own.len;have h2:=HCL.out H0.out;have h3:=HCB.out.pb.hk;have h4:=HL.out;omega)
      clear hk hst hgW hgw hrow4
      simp only [List.drop_succ_cons,List.drop_zero,putAll,dstOf,Act.put,List.getElem?_toArray,List.getElem?_cons_zero,List.getElem?_cons_succ,Option.bind_some]
      simp only [List.setIfInBounds_toArray,List.set_cons_zero,List.set_cons_succ]
      rw [u0,u1,u2,u3,u4]
      clear u0 u1 u2 u3 u4
      go_wp2_with (at_builtin;refine wpList_append_one rfl (.tmp 27) (.tmp 30) 22 rfl (g + 1) 89 3 24 elCol (.slice va (cols).length vc) ccs.length ccs.flatten rfl HCW.out.own.own b4 1 (coC c.name c.ty c.nn).toList rfl rfl (fun j u hj=>HR4.out.cell (by simpa using hj)) (by simp [Value.oneCell']) (by have:=HLEN.out;unfold maxLen;omega) (by have:=HLEN.out;omega) HCW.out.row.lt ?_;intro v' w5 hown5 hg5 hv5;have HCX:=Lib.hid (HCW.out.app c hown5 hg5 hv5);clear hown5 hv5 hg5;obtain ⟨va',vc',hv'⟩:=HCX.out.own.shape;rw [List.length_append,List.length_singleton] at hv';subst hv';have c4:=HCX.out.row.cell (i:=4) (v:=.slice va (cols).length vc) rfl;have f4:=HCX.out.row.free 4)
      have HCY:=Lib.hid (HCX.out.put)
      have hm:=mustLit BCOMMA _ HCY.out.pb
      have hz:(w5.setCell ⟨g,4,none⟩ (.slice va' (cols.length + 1) vc')).heap.size=w5.heap.size:=by simp
      rw [H5.out,hz] at hm
      have HM:=Lib.hid hm
      clear hm hz
      go_wp2_with fail
      clear c4 f4
      refine HM.out.mono ?_
      rintro e7 w7 ⟨rfl,hp7,hg7⟩
      have HC7:=Lib.hid (HCY.out.grown hg7 hp7)
      clear hp7 hg7 HM
      go_wp2_with fail
      go_roundg (colsLeft L s5)
      case measure=>have h1:=HM1.out;have h2:=HMK.out;have h3:=HCB.out.pb.hk;have h4:=H0.out;unfold colsLeft;rw [if_pos h4];split <;> omega
      case rel=>
       refine ⟨cols ++ [c],_,_,s5,f',rfl,HC7,HST2,Lib.hid ?_,Lib.hid ?_⟩
       ·have h1:=HM1.out;have h2:=HMK.out;have h3:=HCB.out.pb.hk;have h4:=H0.out;have h5:=HF.out;unfold colsLeft at h5 ⊢;rw [if_pos h4] at h5;split <;> omega
       ·intro he;have h1:=HM1.out;have h2:=HMK.out;have h3:=HCL.out H0.out;rw [List.length_append];show List.length (cols) + 1 ≤ _;omega
    ·have hpos:0 < cols.length:=List.length_pos_iff.2 hem
     have hne:((cols.length:Int) == 0)=false:=by simp;omega
     have HI5:=Lib.hid (isW WPRIMARY wr HC.out.pb)
     obtain ⟨B5,hB5⟩:∃ B,isB L en WPRIMARY sj=B:=⟨_,rfl⟩
     rw [isM_snd,hB5] at HI5
     have HB5:=Lib.hid hB5
     have HEM:Hid (cols.isEmpty=false):=Lib.hid (by cases cols with | nil=>exact absurd rfl hem | cons _ _=>rfl)
     clear hB5 hem hpos
     cases B5
     ·go_wp2_with fail
      refine HO.out.mono ?_
      rintro e5 w5 ⟨rfl,rfl⟩
      go_wp2_with fail
      refine HI5.out.mono ?_
      rintro e6 w6 ⟨rfl,hp6,hg6⟩
      have HCB:Hid (CT w0 r tv L en w g sj t (.slice va cols.length vc) cols ccs w6):=Lib.hid (HC.out.grown hg6 hp6)
      have HST:Hid (ZC=(bnd (colM L en) fun c=>bnd (mustM L en [BCOMMA]) fun _=>colsM L en f' (cols ++ [c])) sj):=Lib.hid (by rw [HRC.out,cols_step H0.out,HEM.out,if_neg Bool.false_ne_true,isN HB5.out];rfl)
      clear hp6 hg6 HI5 c4 hne
      go_upto_region 5 with fail
      obtain ⟨⟨c,s4⟩,hc⟩:∃ z,colM L en sj=z:=⟨_,rfl⟩
      obtain ⟨s5,h5⟩:∃ z,(mustM L en [BCOMMA] s4).2=z:=⟨_,rfl⟩
      have HCM:=Lib.hid hc
      have HMK:Hid (sj.k ≤ s4.k):=Lib.hid (by have:=col_mono (L:=L) (en:=en) sj;rw [hc] at this;exact this)
      have HST2:Hid (ZC=colsM L en f' (cols ++ [c]) s5):=Lib.hid (by rw [HST.out,bndE hc,bndE (x:=()) (s1:=s5) (by rw [← h5])])
      have HM1:Hid ((s5.e=0∧s4.e=0∧s5.k=s4.k + 1) ∨ s5.e ≠ 0):=Lib.hid (by have:=must1 (L:=L) (en:=en) (t:=BCOMMA) (s:=s4);rw [h5] at this;exact this)
      have H5:=Lib.hid h5
      clear hc h5
      have hgw:=HCB.out.gr
      refine wp_region_kig 5 r (ColsKn r g w.heap.size (.slice va (cols).length vc) c) (fun dn W=>PB w0 r tv L en (if dn 3 then s4 else sj) W) 69 rfl (by kernel_rfl) (by kernel_rfl) (ColsKn.later HR.out _) ?_ ?_ ?_ ?_
      ·intro dn dn' W hdd hst
       rw [← hdd 3 (by decide)]
       exact hst
      ·exact HCB.out.pb.later (Below.drew (Below.refl _ _))
      ·intro j hj dn A W hother hgW hst hdj hd
       match j,hj with
       | 0,hj=>
        have h0:=tmps_at (show A.eval (.tmp 3) = .pointer (some ⟨g,0,none⟩) from hother 3 (by kernel_rfl))
        clear hother hd hj
        exact kig_same rfl rfl (.pointer (some ⟨g,4,none⟩)) (by simp only [execOp];go_simp) rfl hst
       | 1,hj=>
        have h0:=tmps_at ((hd _ rfl ⟨0,.data⟩ (by simp) rfl).2.eq (.pointer (some ⟨g,4,none⟩)) (fun _ h=>h) 26 (by kernel_rfl) (by decide))
        have hcl:=(HCB.out.row.grown hgW (by have:=HCB.out.hg;have:=HR.out;omega)).cell (i:=4) (v:=.slice va (cols).length vc) rfl
        clear hother hd hj
        exact kig_same rfl rfl (.slice va (cols).length vc) (by simp only [execOp];go_simp) rfl hst
       | 2,hj=>
        have h0:=tmps_at (show A.eval (.tmp 0) = .pointer (some ⟨r,0,none⟩) from hother 0 (by kernel_rfl))
        clear hother hd hj
        exact kig_same rfl rfl (.pointer (some ⟨r,0,none⟩)) (by simp only [execOp];go_simp) rfl hst
       | 3,hj=>
        have h0:=tmps_at ((hd _ rfl ⟨2,.data⟩ (by simp) rfl).2.eq (.pointer (some ⟨r,0,none⟩)) (fun _ h=>h) 28 (by kernel_rfl) (by decide))
        have hst5:PB w0 r tv L en sj W:=by have h:=hst;simp only [hdj] at h;exact h
        have hcall:=columnW W hst5
        rw [HCM.out] at hcall
        clear hother hd hj
        refine kig_call rfl rfl 120 #[.pointer (some ⟨r,0,none⟩)] (by simp only [execOp];go_simp) (hcall.mono ?_)
        rintro e8 w8 ⟨rfl,hp8,hg8⟩
        exact ⟨_,rfl,hg8,rfl,hp8⟩
       | 4,hj=>
        have h0:=tmps_at ((hd _ rfl ⟨3,.data⟩ (by simp) rfl).2.eq (.agg (coC c.name c.ty c.nn)) (fun _ h=>h) 29 (by kernel_rfl) (by decide))
        have hbw:=(Below.refl _ W).alloc (Nat.le_refl _) (.cells (coC c.name c.ty c.nn) 89)
        have hst8:=hst.later hbw
        clear hother hd hj
        exact kig_val rfl rfl (.slice (some ⟨W.heap.size,0,none⟩) 1 1) (W.alloc (.cells (coC c.name c.ty c.nn) 89)) (by simp only [execOp];go_simp) (below_grown hbw) ⟨_,rfl,row_alloc _ _ _,(grown_trans hgw hgW).size⟩ hst8
       | k + 5,hj=>omega
      ·intro us W hgW hst hk
       have u0:us 0 = .pointer (some ⟨g,4,none⟩):=hk 0 (by decide)
       have u1:us 1 = .slice va (cols).length vc:=hk 1 (by decide)
       have u2:us 2 = .pointer (some ⟨r,0,none⟩):=hk 2 (by decide)
       have u3:us 3 = .agg (coC c.name c.ty c.nn):=hk 3 (by decide)
       obtain ⟨b4,u4,hrow4,_⟩:=hk 4 (by decide)
       have HCW:Hid (CT w0 r tv L en w g s4 t (.slice va (cols).length vc) (cols) ccs W):=Lib.hid (HCB.out.grown hgW hst)
       have HR4:=Lib.hid hrow4
       have HLEN:Hid (ccs.length ≤ 4096):=Lib.hid (by have h1:=HCB.out.own.len;have h2:=HCL.out H0.out;have h3:=HCB.out.pb.hk;have h4:=HL.out;omega)
       clear hk hst hgW hgw hrow4
       simp only [List.drop_succ_cons,List.drop_zero,putAll,dstOf,Act.put,List.getElem?_toArray,List.getElem?_cons_zero,List.getElem?_cons_succ,Option.bind_some]
       simp only [List.setIfInBounds_toArray,List.set_cons_zero,List.set_cons_succ]
       rw [u0,u1,u2,u3,u4]
       clear u0 u1 u2 u3 u4
       go_wp2_with (at_builtin;refine wpList_append_one rfl (.tmp 27) (.tmp 30) 22 rfl (g + 1) 89 3 24 elCol (.slice va (cols).length vc) ccs.length ccs.flatten rfl HCW.out.own.own b4 1 (coC c.name c.ty c.nn).toList rfl rfl (fun j u hj=>HR4.out.cell (by simpa using hj)) (by simp [Value.oneCell']) (by have:=HLEN.out;unfold maxLen;omega) (by have:=HLEN.out;omega) HCW.out.row.lt ?_;intro v' w5 hown5 hg5 hv5;have HCX:=Lib.hid (HCW.out.app c hown5 hg5 hv5);clear hown5 hv5 hg5;obtain ⟨va',vc',hv'⟩:=HCX.out.own.shape;rw [List.length_append,List.length_singleton] at hv';subst hv';have c4:=HCX.out.row.cell (i:=4) (v:=.slice va (cols).length vc) rfl;have f4:=HCX.out.row.free 4)
       have HCY:=Lib.hid (HCX.out.put)
       have hm:=mustLit BCOMMA _ HCY.out.pb
       have hz:(w5.setCell ⟨g,4,none⟩ (.slice va' (cols.length + 1) vc')).heap.size=w5.heap.size:=by simp
       rw [H5.out,hz] at hm
       have HM:=Lib.hid hm
       clear hm hz
       go_wp2_with fail
       clear c4 f4
       refine HM.out.mono ?_
       rintro e7 w7 ⟨rfl,hp7,hg7⟩
       have HC7:=Lib.hid (HCY.out.grown hg7 hp7)
       clear hp7 hg7 HM
       go_wp2_with fail
       go_roundg (colsLeft L s5)
       case measure=>have h1:=HM1.out;have h2:=HMK.out;have h3:=HCB.out.pb.hk;have h4:=H0.out;unfold colsLeft;rw [if_pos h4];split <;> omega
       case rel=>
        refine ⟨cols ++ [c],_,_,s5,f',rfl,HC7,HST2,Lib.hid ?_,Lib.hid ?_⟩
        ·have h1:=HM1.out;have h2:=HMK.out;have h3:=HCB.out.pb.hk;have h4:=H0.out;have h5:=HF.out;unfold colsLeft at h5 ⊢;rw [if_pos h4] at h5;split <;> omega
        ·intro he;have h1:=HM1.out;have h2:=HMK.out;have h3:=HCL.out H0.out;rw [List.length_append];show List.length (cols) + 1 ≤ _;omega
     ·go_wp2_with fail
      refine HO.out.mono ?_
      rintro e5 w5 ⟨rfl,rfl⟩
      go_wp2_with fail
      refine HI5.out.mono ?_
      rintro e6 w8 ⟨rfl,hp6,hg6⟩
      obtain ⟨sF,hsF⟩:∃ z,z=sj.next:=⟨_,rfl⟩
      have HCF:Hid (CT w0 r tv L en w g sF t (.slice va cols.length vc) cols ccs w8):=Lib.hid (by rw [hsF];exact HC.out.grown hg6 hp6)
      have HZF:Hid (Z=(bnd (mustM L en [WKEY]) fun _=>bnd (namesM L en) fun k=>bnd (mustM L en [BCLOSE]) fun _=>ret { kind:=1,table:=t,cols:=cols,key:=k }) sF):=Lib.hid (by
       have hz:ZC=(cols,sF):=by rw [HRC.out,cols_step H0.out,HEM.out,if_neg Bool.false_ne_true,isY HB5.out,hsF];rfl
       rw [HZ3.out,hz])
      clear hp6 hg6 HI5 c4 hne hsF
      obtain ⟨cs8,hcs8,HT⟩:∃ cs8,cs8=stT t (.slice va cols.length vc)∧Hid (ST w0 r tv L en false w (w.heap.size) g sF cs8 { kind:=1,table:=t,cols:=cols } w8):=⟨_,rfl,Lib.hid HCF.out.toST⟩
      clear hcs8
      obtain ⟨s9,h9⟩:∃ z,(mustM L en [WKEY] (sF)).2=z:=⟨_,rfl⟩
      have hc9:=mustLit WKEY w8 HT.out.pb
      rw [h9] at hc9
      have HC9:=Lib.hid hc9
      have HE9:Hid (mustM L en [WKEY] (sF)=((),s9)):=Lib.hid (by rw [← h9])
      clear h9 hc9
      go_wp2_with fail
      refine HC9.out.mono ?_
      rintro e9 w9 ⟨rfl,hp9,hg9⟩
      have HT9:=Lib.hid (HT.out.grown hg9 hp9)
      clear hp9 hg9 HC9
      obtain ⟨⟨l10,s10⟩,h10⟩:∃ z,namesM L en (s9)=z:=⟨_,rfl⟩
      have hc10:=namesW w9 HT9.out.pb
      rw [h10] at hc10
      have HC10:=Lib.hid hc10
      have HE10:=Lib.hid h10
      clear h10 hc10
      go_wp2_with fail
      refine HC10.out.mono ?_
      rintro e10 v10 ⟨u10,rfl,hn10,hp10,hg10⟩
      obtain ⟨a10,b10,rfl,_⟩:=hn10.here.shape
      have hS10:=HT9.out.grown hg10 hp10
      have hd10:=HT9.out.dep hn10 HT9.out.lt
      clear hn10
      obtain ⟨o10,c10⟩:=hS10.sg.cell 5 (by decide)
      have f10:=hS10.sg.row.free 5
      have hT10:=hS10.lay (hS10.sg.put_key _ l10 hd10)
      clear hd10 hp10 hg10 HC10 hS10
      have HT10:=Lib.hid hT10
      clear hT10
      go_upto_region 9 with fail
      clear c10 f10
      generalize v10.setCell ⟨g,5,none⟩ (.slice a10 l10.length b10)=w10 at *
      generalize cs8.setIfInBounds 5 (.slice a10 l10.length b10)=cs10 at *
      obtain ⟨s11,h11⟩:∃ z,(mustM L en [BCLOSE] (s10)).2=z:=⟨_,rfl⟩
      have hc11:=mustLit BCLOSE w10 HT10.out.pb
      rw [h11] at hc11
      have HC11:=Lib.hid hc11
      have HE11:Hid (mustM L en [BCLOSE] (s10)=((),s11)):=Lib.hid (by rw [← h11])
      clear h11 hc11
      go_wp2_with fail
      refine HC11.out.mono ?_
      rintro e11 w11 ⟨rfl,hp11,hg11⟩
      have HT11:=Lib.hid (HT10.out.grown hg11 hp11)
      clear hp11 hg11 HC11
      have HZE:Hid (Z=(_,s11)):=Lib.hid (by rw [HZF.out,bndE HE9.out,bndE HE10.out,bndE HE11.out];rfl)
      have hb:=HT11.out.sg.rb
      have ho:=HT11.out.sg.row.of
      have hr:=HT11.out.rb
      have hok:=HT11.out.sg.ok
      go_wp2_with fail
      exact bodyPost_ret (v:=.agg cs10) (res_row Tryz.results75 sm_struct sm_size _ _ (w.heap.size) _ _ rfl (HT11.out.rs.set _) HT11.out.sg.size) rfl ⟨_,rfl,by rw [HZE.out];exact HT11.out.fin⟩
   ·have d0:decide (sj.e=0)=false:=decide_eq_false h0
    rw [d0] at HO
    have HZF:Hid (Z=(bnd (mustM L en [WKEY]) fun _=>bnd (namesM L en) fun k=>bnd (mustM L en [BCLOSE]) fun _=>ret { kind:=1,table:=t,cols:=cols,key:=k }) sj):=Lib.hid (by
     have hz:ZC=(cols,sj):=by rw [HRC.out,cols_bad h0]
     rw [HZ3.out,hz])
    obtain ⟨cs8,hcs8,HT⟩:∃ cs8,cs8=stT t (.slice va cols.length vc)∧Hid (ST w0 r tv L en false w (w.heap.size) g sj cs8 { kind:=1,table:=t,cols:=cols } wr):=⟨_,rfl,Lib.hid HC.out.toST⟩
    clear h0 d0 hcs8
    go_wp2_with fail
    refine HO.out.mono ?_
    rintro e5 w5 ⟨rfl,rfl⟩
    obtain ⟨s9,h9⟩:∃ z,(mustM L en [WKEY] (sj)).2=z:=⟨_,rfl⟩
    have hc9:=mustLit WKEY wr HT.out.pb
    rw [h9] at hc9
    have HC9:=Lib.hid hc9
    have HE9:Hid (mustM L en [WKEY] (sj)=((),s9)):=Lib.hid (by rw [← h9])
    clear h9 hc9
    go_wp2_with fail
    refine HC9.out.mono ?_
    rintro e9 w9 ⟨rfl,hp9,hg9⟩
    have HT9:=Lib.hid (HT.out.grown hg9 hp9)
    clear hp9 hg9 HC9
    obtain ⟨⟨l10,s10⟩,h10⟩:∃ z,namesM L en (s9)=z:=⟨_,rfl⟩
    have hc10:=namesW w9 HT9.out.pb
    rw [h10] at hc10
    have HC10:=Lib.hid hc10
    have HE10:=Lib.hid h10
    clear h10 hc10
    go_wp2_with fail
    refine HC10.out.mono ?_
    rintro e10 v10 ⟨u10,rfl,hn10,hp10,hg10⟩
    obtain ⟨a10,b10,rfl,_⟩:=hn10.here.shape
    have hS10:=HT9.out.grown hg10 hp10
    have hd10:=HT9.out.dep hn10 HT9.out.lt
    clear hn10
    obtain ⟨o10,c10⟩:=hS10.sg.cell 5 (by decide)
    have f10:=hS10.sg.row.free 5
    have hT10:=hS10.lay (hS10.sg.put_key _ l10 hd10)
    clear hd10 hp10 hg10 HC10 hS10
    have HT10:=Lib.hid hT10
    clear hT10
    go_upto_region 9 with fail
    clear c10 f10
    generalize v10.setCell ⟨g,5,none⟩ (.slice a10 l10.length b10)=w10 at *
    generalize cs8.setIfInBounds 5 (.slice a10 l10.length b10)=cs10 at *
    obtain ⟨s11,h11⟩:∃ z,(mustM L en [BCLOSE] (s10)).2=z:=⟨_,rfl⟩
    have hc11:=mustLit BCLOSE w10 HT10.out.pb
    rw [h11] at hc11
    have HC11:=Lib.hid hc11
    have HE11:Hid (mustM L en [BCLOSE] (s10)=((),s11)):=Lib.hid (by rw [← h11])
    clear h11 hc11
    go_wp2_with fail
    refine HC11.out.mono ?_
    rintro e11 w11 ⟨rfl,hp11,hg11⟩
    have HT11:=Lib.hid (HT10.out.grown hg11 hp11)
    clear hp11 hg11 HC11
    have HZE:Hid (Z=(_,s11)):=Lib.hid (by rw [HZF.out,bndE HE9.out,bndE HE10.out,bndE HE11.out];rfl)
    have hb:=HT11.out.sg.rb
    have ho:=HT11.out.sg.row.of
    have hr:=HT11.out.rb
    have hok:=HT11.out.sg.ok
    go_wp2_with fail
    exact bodyPost_ret (v:=.agg cs10) (res_row Tryz.results75 sm_struct sm_size _ _ (w.heap.size) _ _ rfl (HT11.out.rs.set _) HT11.out.sg.size) rfl ⟨_,rfl,by rw [HZE.out];exact HT11.out.fin⟩
end
end Go.Proofs.YtmdogmpcmkfjpaaGreatDoor.Dt
