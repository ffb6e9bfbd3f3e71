import Derived.Test.YtmdogmpcmkfjpaaGreatDoorBq20
set_option maxRecDepth 100000
set_option maxHeartbeats 64000000
/- Part. -/
namespace Go.Proofs.YtmdogmpcmkfjpaaGreatDoor.Dt
open Go.RowKit Go.Proofs.YtmdogmpcmkfjpaaGreatDoor.By
theorem Zcd (a b c d e f g h i j k l m n o p:Value):Zav 16 #[a,b,c,d,e,f,g,h,i,j,k,l,m,n,o,p]=(a.oneCell' && (b.oneCell' && (c.oneCell' && (d.oneCell' && (e.oneCell' && (f.oneCell' && (g.oneCell' && (h.oneCell' && (i.oneCell' && (j.oneCell' && (k.oneCell' && (l.oneCell' && (m.oneCell' && (n.oneCell' && (o.oneCell' && p.oneCell'))))))))))))))):=by simp [Zav]
section
variable {w0:World} {r:Nat} {tv:Value} {L:List Tk} {en:Int}
structure ST (w0:World) (r:Nat) (tv:Value) (L:List Tk) (en:Int) (B:Bool) (w:World) (q g:Nat) (s:PS) (cs:Array Value) (x:PSt) (W:World):Prop where
 pb:PB w0 r tv L en s W
 gr:w.grownBy W (some r)
 bx:B=true→Row w.heap.size 75 #[pV r] W
 rs:Row q 31 stZ W
 sg:SG (fun b=>w.heap.size < b∧b ≠ q∧b ≠ g) g cs x W
 hr:r < w.heap.size
 hq:w.heap.size ≤ q
 hqg:q < g
 hB:B=true→w.heap.size < q
variable {B:Bool} {w:World} {q g:Nat} {s s':PS} {cs:Array Value} {x:PSt} {W W':World}
theorem ST.grown (h:ST w0 r tv L en B w q g s cs x W) (k:W.grownBy W' (some r)) (hp:PB w0 r tv L en s' W'):ST w0 r tv L en B w q g s' cs x W':=by
 have h1:=h.hr
 have h2:=h.hq
 have h3:=h.hqg
 exact ⟨hp,Za h.gr k,fun e=>(h.bx e).grown k kW,h.rs.grown k kW,h.sg.grown k kW kW,h1,h2,h3,h.hB⟩
theorem ST.later (h:ST w0 r tv L en B w q g s cs x W) (k:Below W.heap.size W W'):ST w0 r tv L en B w q g s cs x W':=h.grown (below_grown k) (h.pb.later k)
theorem ST.cell (h:ST w0 r tv L en true w q g s cs x W):W.cell? ⟨w.heap.size,0,none⟩=some (pV r):=(h.bx rfl).cell rfl
theorem ST.rb (h:ST w0 r tv L en B w q g s cs x W):Zj1 16 W q=true:=h.rs.b rfl
theorem ST.fin (h:ST w0 r tv L en B w q g s cs x W):New w.heap.size (W.setRow q cs) (fun u=>AgV StR u (.agg cs) x)∧PB w0 r tv L en s (W.setRow q cs)∧w.grownBy (W.setRow q cs) (some r):=
 ⟨Zlv h.sg.st kW (fun b h=>by omega),h.pb.other (Zi _ _ _) (by have:=h.hr;have:=h.hq;omega),Zn h.gr h.hq _⟩
theorem ST.lay (h:ST w0 r tv L en B w q g s cs x W) {i:Nat} {v:Value} {y:PSt} (hs:SG (fun b=>w.heap.size < b∧b ≠ q∧b ≠ g) g (cs.setIfInBounds i v) y (W.setCell ⟨g,i,none⟩ v)):ST w0 r tv L en B w q g s (cs.setIfInBounds i v) y (W.setCell ⟨g,i,none⟩ v):=by
 have h1:=h.hr
 have h2:=h.hq
 have h3:=h.hqg
 have e:=setCell_eq_setRow W g i cs _ _ v h.sg.row
 rw [e] at hs ⊢
 exact ⟨h.pb.other (Zi _ _ _) kW,Zn h.gr kW _,fun e=>(setRow_other W g _ _ kW).trans (h.bx e),(setRow_other W g _ _ kW).trans h.rs,hs,h1,h2,h3,h.hB⟩
theorem ST.dep (h:ST w0 r tv L en B w q g s cs x W) {n:Nat} {P:World→Prop} (hP:New n W' P) (hn:g < n):Dep (fun b=>w.heap.size < b∧b ≠ q∧b ≠ g) W' P:=
 hP.step (Nat.le_refl _) fun b hb _=>⟨by have:=h.hq;have:=h.hqg;omega,rfl⟩
theorem ST.lt (h:ST w0 r tv L en B w q g s cs x W):g < W.heap.size:=h.sg.row.lt
theorem sg_new {S:Nat→Prop} (W:World) (k:Nat) (t m:ByteArray) (u:Bool) (li:Int) (hS:¬ S W.heap.size):SG S W.heap.size #[.int .u8 (k:Int),.string t,.string m,.bool u,nS,nS,nS,nS,nS,nS,nS,nS,nS,nS,nS,.int .i64 li]
 { kind:=k,table:=t,name:=m,uniq:=u,limit:=li } (W.alloc (.cells #[.int .u8 (k:Int),.string t,.string m,.bool u,nS,nS,nS,nS,nS,nS,nS,nS,nS,nS,nS,.int .i64 li] 31)):=
 ⟨Zc _ _ _,fun _ _=>⟨_,_,_,_,_,_,_,_,_,_,_,rfl,SlR.nil _ _ _,SlR.nil _ _ _,SlR.nil _ _ _,SlR.nil _ _ _,SlR.nil _ _ _,SlR.nil _ _ _,SlR.nil _ _ _,SlR.nil _ _ _,SlR.nil _ _ _,SlR.nil _ _ _,SlR.nil _ _ _⟩,hS⟩
theorem Zhq {S:Nat→Prop} {W:World} (k:Nat) (t m:ByteArray) (u:Bool) (li:Int):Dep S W fun v=>StR v (#[.int .u8 (k:Int),.string t,.string m,.bool u,nS,nS,nS,nS,nS,nS,nS,nS,nS,nS,nS,.int .i64 li]:Array Value).toList
 { kind:=k,table:=t,name:=m,uniq:=u,limit:=li } :=fun _ _=>⟨_,_,_,_,_,_,_,_,_,_,_,rfl,SlR.nil _ _ _,SlR.nil _ _ _,SlR.nil _ _ _,SlR.nil _ _ _,SlR.nil _ _ _,SlR.nil _ _ _,SlR.nil _ _ _,SlR.nil _ _ _,SlR.nil _ _ _,SlR.nil _ _ _,SlR.nil _ _ _⟩
def Zen (L:List Tk) (s:PS):Nat:=if s.e=0 then L.length + 2 - s.k else 1
theorem must1 {t:ByteArray} {s:PS} : ((mustM L en [t] s).2.e=0∧s.e=0∧(mustM L en [t] s).2.k=s.k + 1) ∨ (mustM L en [t] s).2.e ≠ 0:=by
 cases hb:isB L en t s with
 | true=>
  rw [Zq6 hb]
  have:=(Ze1.1 hb).1
  exact .inl ⟨this,this,rfl⟩
 | false=>
  rw [Zu3 hb]
  exact .inr (Zac (L:=L) (en:=en) 6 s kD).2
theorem Zkk {f:Nat} {cs:List Zeu} {s:PS} (he:s.e=0):colsM L en (f + 1) cs s=(bnd (if cs.isEmpty then ret false else isM L en Zbl) fun b=>if b then ret cs else bnd (colM L en) fun c=>bnd (mustM L en [Zy]) fun _=>colsM L en f (cs ++ [c])) s:=by
 show bnd okM _ s=_
 rw [okY he,if_pos rfl]
theorem cols_bad {f:Nat} {cs:List Zeu} {s:PS} (he:s.e ≠ 0):colsM L en (f + 1) cs s=(cs,s):=by
 show bnd okM _ s=_
 rw [okN he,if_neg bF];rfl
theorem col_mono (s:PS):s.k ≤ (colM L en s).2.k:=((Sim.colM (L:=L) (L':=L) (en:=en) (en':=en) (d:=0)).mono s).1
end
end Go.Proofs.YtmdogmpcmkfjpaaGreatDoor.Dt
namespace Go.Proofs.YtmdogmpcmkfjpaaGreatDoor.Dt
open Go.RowKit Go.Proofs.YtmdogmpcmkfjpaaGreatDoor.By
attribute [local go_sem ↓] Zhe Ze5 Zhg Zhi
attribute [local go_sem] Zmf Zhw Zej Zcd Zj5 Value.oneCell' Zi7 Zhy Zi8
section
variable {w0:World} {r:Nat} {tv:Value} {L:List Tk} {en:Int} {s:PS}
theorem nameRun (w1:World) (k0:Nat):Zks w0 r tv L en w1 k0 76 #[pV r] (nameM L en) SvR:=fun _ w _ _ h=>(Zdp w h).mono fun _ _ ⟨he,hp,hg⟩=>⟨_,he,New.const rfl,hp,hg⟩
theorem Zuw {s:PS} (w:World) (h:PB w0 r tv L en s w):Calls Tryz.prog 77 #[pV r,.func (.func 76) #[pV r] #[]] w fun e w'=>
 ∃ v,e = .returned v∧New w.heap.size w' (fun u=>Zwu u v (namesM L en s).1)∧PB w0 r tv L en (namesM L en s).2 w'∧w.grownBy w' (some r):=
 Zof (L:=L) (en:=en) (fun s=>(Sim.nameM (L:=L) (L':=L) (en:=en) (en':=en) (d:=0)).mono s |>.1) w s.k (nameRun w s.k) s (Nat.le_refl _) h
theorem Zp8 {s:PS} : Zen L s ≤ L.length + 2:=by
 unfold Zen
 split
 ·exact Nat.sub_le _ _
 omega
abbrev stT (t:ByteArray) (v:Value):Array Value:=#[.int .u8 1,.string t,eS,.bool false,v,nS,nS,nS,nS,nS,nS,nS,nS,nS,nS,iZ]
structure CT (w0:World) (r:Nat) (tv:Value) (L:List Tk) (en:Int) (w:World) (g:Nat) (s:PS) (t:ByteArray) (v:Value) (cols:List Zeu) (ccs:List (List Value)) (W:World):Prop where
 pb:PB w0 r tv L en s W
 gr:w.grownBy W (some r)
 rs:Row w.heap.size 31 stZ W
 row:Row g 31 (stT t v) W
 own:Ze3 89 3 Zs7 (g + 1) W v cols ccs
 hr:r < w.heap.size
 hg:w.heap.size < g
section
variable {w W W':World} {g:Nat} {s':PS} {t:ByteArray} {v:Value} {cols:List Zeu} {ccs:List (List Value)}
theorem CT.grown (h:CT w0 r tv L en w g s t v cols ccs W) (k:W.grownBy W' (some r)) (hp:PB w0 r tv L en s' W'):CT w0 r tv L en w g s' t v cols ccs W':=by
 have h1:=h.hr
 have h2:=h.hg
 exact ⟨hp,Za h.gr k,h.rs.grown k kW,h.row.grown k kW,h.own.grown k kW,h1,h2⟩
structure CX (w0:World) (r:Nat) (tv:Value) (L:List Tk) (en:Int) (w:World) (g:Nat) (s:PS) (t:ByteArray) (v v':Value) (cols:List Zeu) (ccs:List (List Value)) (W:World):Prop where
 pb:PB w0 r tv L en s W
 gr:w.grownBy W (some r)
 rs:Row w.heap.size 31 stZ W
 row:Row g 31 (stT t v) W
 own:Ze3 89 3 Zs7 (g + 1) W v' cols ccs
 hr:r < w.heap.size
 hg:w.heap.size < g
theorem CT.app {v':Value} (c:Zeu) (h:CT w0 r tv L en w g s t v cols ccs W) (hown:W'.ownsRow (g + 1) 89 3 v' (ccs.length + 1) (ccs.flatten ++ (coC c.name c.ty c.nn).toList)) (k:W.grownBy W' v.ownBlock) (hv:v'.ownBlock=v.ownBlock ∨ v'.ownBlock=some W.heap.size) :
 CX w0 r tv L en w g s t v v' (cols ++ [c]) (ccs ++ [(coC c.name c.ty c.nn).toList]) W':=by
 have h1:=h.hr
 have h2:=h.hg
 have hlo:∀ j,v.ownBlock=some j→g + 1 ≤ j:=fun j hj=>(World.ownsRow.lt h.own.own j hj).1
 have hkeep:∀ b,b ≤ g→W'.heap[b]? = W.heap[b]? :=fun b hb=>k.block b (by have:=h.row.lt;omega) (fun e=>by have:=hlo b e.symm;omega)
 exact ⟨h.pb.row k (fun j hj=>by have:=hlo j hj;omega),Zds h.gr k (fun j hj=>by have:=hlo j hj;omega),(hkeep _ kW).trans h.rs,(hkeep _ (Nat.le_refl _)).trans h.row,
  h.own.snoc hown k hv rfl (New.const (n:=W.heap.size) rfl) h.row.lt (fun j hj=>(World.ownsRow.lt h.own.own j hj).2),h1,h2⟩
theorem CX.put {v':Value} (h:CX w0 r tv L en w g s t v v' cols ccs W):CT w0 r tv L en w g s t v' cols ccs (W.setCell ⟨g,4,none⟩ v'):=by
 have h1:=h.hr
 have h2:=h.hg
 rw [setCell_eq_setRow W g 4 _ _ _ v' h.row]
 exact ⟨h.pb.other (Zi _ _ _) kW,Zn h.gr kW _,(setRow_other W g _ _ kW).trans h.rs,h.row.set _,h.own.grown (Zi W g _) (Nat.lt_succ_self _),h1,h2⟩
theorem CT.toST (h:CT w0 r tv L en w g s t v cols ccs W):ST w0 r tv L en false w w.heap.size g s (stT t v) { kind:=1,table:=t,cols:=cols } W:=by
 have h2:=h.hg
 refine ⟨h.pb,h.gr,(fun e=>by cases e),h.rs,⟨h.row,?_,by omega⟩,h.hr,Nat.le_refl _,h2,(fun e=>by cases e)⟩
 refine (Dep.step h.own.done (Nat.le_refl _) fun b hb _=>⟨(by omega:w.heap.size < b∧b ≠ w.heap.size∧b ≠ g),rfl⟩).imp fun u hu=>?_
 exact ⟨_,_,_,_,_,_,_,_,_,_,_,rfl,hu,SlR.nil _ _ _,SlR.nil _ _ _,SlR.nil _ _ _,SlR.nil _ _ _,SlR.nil _ _ _,SlR.nil _ _ _,SlR.nil _ _ _,SlR.nil _ _ _,SlR.nil _ _ _,SlR.nil _ _ _⟩
end
def Zo7 (r g lo:Nat) (v:Value) (c:Zeu) (j:Nat) (u:Value) (W:World):Prop:=match j with
 | 0=>u = .pointer (some ⟨g,4,none⟩)
 | 1=>u=v
 | 2=>u = pV r
 | 3=>u = .agg (coC c.name c.ty c.nn)
 | _=>∃ b,u = .slice (some ⟨b,0,none⟩) 1 1∧Row b 89 (coC c.name c.ty c.nn) W∧lo ≤ b
theorem Zo7.later {g lo:Nat} {v:Value} {c:Zeu} (hr:r < lo) (w0:World) (j:Nat) (u:Value) (w1 w2:World) (h:Zo7 r g lo v c j u w1) (_:w0.grownBy w1 (some r)) (k:w1.grownBy w2 (some r)):Zo7 r g lo v c j u w2:=by
 match j,h with
 | 0,h=>exact h
 | 1,h=>exact h
 | 2,h=>exact h
 | 3,h=>exact h
 | _ + 4,⟨b,e,h,hb⟩=>exact ⟨b,e,h.grown k kW,hb⟩
theorem createW (w:World) (h:PB w0 r tv L en s w):Calls Tryz.prog 75 #[pV r] w fun e w'=>
 ∃ v,e = .returned v∧New w.heap.size w' (fun u=>AgV StR u v (createM L en s).1)∧PB w0 r tv L en (createM L en s).2 w'∧w.grownBy w' (some r):=by
 obtain ⟨Z,hZ⟩:∃ Z,Z=createM L en s:=⟨_,rfl⟩
 rw [← hZ]
 have hr0:=Zc w 31 stZ
 have hb:=(Below.refl _ w).alloc (Nat.le_refl _) (.cells stZ 31)
 have HR:=Lh h.lt
 have HL:=Lh h.hl
 have HB:=Lh hb
 have HR0:=Lh hr0
 have HI:=Lh (isW Zcj _ (h.later hb))
 unfold createM at hZ
 have HZ:=Lh hZ
 clear h hr0 hb hZ
 obtain ⟨B,hB⟩:∃ B,isB L en Zcj s=B:=⟨_,rfl⟩
 rw [Z2,hB] at HI
 have HBN:=Lh hB
 clear hB
 go_enter Tryz.func75,Tryz.ntmps75
 go_upto_region 1 with fail
 generalize w.alloc (.cells stZ 31)=w1 at *
 cases B
 ·obtain ⟨B3,hB3⟩:∃ B,isB L en Zde s=B:=⟨_,rfl⟩
  obtain ⟨s3,hs3⟩:∃ z,(isM L en Zde s).2=z:=⟨_,rfl⟩
  have HZ3:Hid (Z=(bnd (mustM L en [Zbo]) fun _=>bnd (nameM L en) fun n=>bnd (mustM L en [WON]) fun _=>bnd (nameM L en) fun t=>bnd (namesM L en) fun k=>
   ret { kind:=3,uniq:=B3,name:=n,table:=t,key:=k }) s3):=Lh (by rw [HZ.out,isN HBN.out,if_neg bF,Za1 (x:=B3) (s1:=s3) (by rw [← hB3,← hs3];rfl)])
  go_wp2_with fail
  refine HI.out.mono ?_
  rintro e2 w2 ⟨rfl,hp2,hg2⟩
  have hp2:PB w0 r tv L en s w2:=hp2
  have hi:=isW Zde w2 hp2
  rw [hB3,hs3] at hi
  have HI3:=Lh hi
  have HG2:=Lh (Za (below_grown (r:=r) HB.out) hg2)
  have HR2:=Lh (HR0.out.grown hg2 (Nat.ne_of_gt HR.out))
  clear hp2 hg2 hi HI hB3 hs3
  have hok16:Zav 16 #[.int .u8 3,eS,eS,.bool B3,nS,nS,nS,nS,nS,nS,nS,nS,nS,nS,nS,iZ]=true:=by rw [Zcd];rfl
  go_wp2_with fail
  refine HI3.out.mono ?_
  rintro e3 v3 ⟨rfl,hp3,hg3⟩
  obtain ⟨cs0,HT0⟩:∃ cs0,cs0 = #[.int .u8 3,eS,eS,.bool B3,nS,nS,nS,nS,nS,nS,nS,nS,nS,nS,nS,iZ]∧Hid (ST w0 r tv L en false w (w.heap.size) v3.heap.size s3 cs0 { kind:=3,uniq:=B3 } (v3.alloc (.cells cs0 31))):=⟨_,rfl,Lh (by
   have hr3:=HR2.out.grown hg3 (Nat.ne_of_gt HR.out)
   have hlt:=hr3.lt
   have hb:=(Below.refl _ v3).alloc (Nat.le_refl _) (.cells #[.int .u8 3,eS,eS,.bool B3,nS,nS,nS,nS,nS,nS,nS,nS,nS,nS,nS,iZ] 31)
   exact ⟨PB.later hp3 hb,Za (Za HG2.out hg3) (below_grown hb),(fun e=>by cases e),hr3.later hb,sg_new v3 3 ⟨#[]⟩ ⟨#[]⟩ B3 0 kW,HR.out,Nat.le_refl _,hlt,(fun e=>by cases e)⟩)⟩
  obtain ⟨hcs,HT0⟩:=HT0
  go_upto_region 12 with fail
  rw [← hcs]
  clear hp3 hg3 hok16 hcs HI3
  generalize v3.alloc (.cells cs0 31)=w3 at *
  generalize v3.heap.size=g at *
  obtain ⟨s4,h4⟩:∃ z,(mustM L en [Zbo] (s3)).2=z:=⟨_,rfl⟩
  have hc4:=Zaw Zbo w3 HT0.out.pb
  rw [h4] at hc4
  have HC4:=Lh hc4
  have HE4:Hid (mustM L en [Zbo] (s3)=((),s4)):=Lh (by rw [← h4])
  clear h4 hc4
  go_wp2_with fail
  refine HC4.out.mono ?_
  rintro e4 w4 ⟨rfl,hp4,hg4⟩
  have HT4:=Lh (HT0.out.grown hg4 hp4)
  clear hp4 hg4 HC4
  obtain ⟨⟨m5,s5⟩,h5⟩:∃ z,nameM L en (s4)=z:=⟨_,rfl⟩
  have hc5:=Zdp w4 HT4.out.pb
  rw [h5] at hc5
  have HC5:=Lh hc5
  have HE5:=Lh h5
  clear h5 hc5
  go_wp2_with fail
  refine HC5.out.mono ?_
  rintro e5 v5 ⟨rfl,hp5,hg5⟩
  have hS5:=HT4.out.grown hg5 hp5
  obtain ⟨o5,c5⟩:=hS5.sg.cell 2 kD
  have f5:=hS5.sg.row.free 2
  have hT5:=hS5.lay (hS5.sg.put_name m5)
  clear hp5 hg5 HC5 hS5
  have HT5:=Lh hT5
  clear hT5
  go_upto_region 14 with fail
  clear c5 f5
  generalize v5.setCell ⟨g,2,none⟩ (.string m5)=w5 at *
  generalize cs0.setIfInBounds 2 (.string m5)=cs5 at *
  obtain ⟨s6,h6⟩:∃ z,(mustM L en [WON] (s5)).2=z:=⟨_,rfl⟩
  have hc6:=Zaw WON w5 HT5.out.pb
  rw [h6] at hc6
  have HC6:=Lh hc6
  have HE6:Hid (mustM L en [WON] (s5)=((),s6)):=Lh (by rw [← h6])
  clear h6 hc6
  go_wp2_with fail
  refine HC6.out.mono ?_
  rintro e6 w6 ⟨rfl,hp6,hg6⟩
  have HT6:=Lh (HT5.out.grown hg6 hp6)
  clear hp6 hg6 HC6
  obtain ⟨⟨m7,s7⟩,h7⟩:∃ z,nameM L en (s6)=z:=⟨_,rfl⟩
  have hc7:=Zdp w6 HT6.out.pb
  rw [h7] at hc7
  have HC7:=Lh hc7
  have HE7:=Lh h7
  clear h7 hc7
  go_wp2_with fail
  refine HC7.out.mono ?_
  rintro e7 v7 ⟨rfl,hp7,hg7⟩
  have hS7:=HT6.out.grown hg7 hp7
  obtain ⟨o7,c7⟩:=hS7.sg.cell 1 kD
  have f7:=hS7.sg.row.free 1
  have hT7:=hS7.lay (hS7.sg.put_table m7)
  clear hp7 hg7 HC7 hS7
  have HT7:=Lh hT7
  clear hT7
  go_upto_region 16 with fail
  clear c7 f7
  generalize v7.setCell ⟨g,1,none⟩ (.string m7)=w7 at *
  generalize cs5.setIfInBounds 1 (.string m7)=cs7 at *
  obtain ⟨⟨l8,s8⟩,h8⟩:∃ z,namesM L en (s7)=z:=⟨_,rfl⟩
  have hc8:=Zuw w7 HT7.out.pb
  rw [h8] at hc8
  have HC8:=Lh hc8
  have HE8:=Lh h8
  clear h8 hc8
  go_wp2_with fail
  refine HC8.out.mono ?_
  rintro e8 v8 ⟨u8,rfl,hn8,hp8,hg8⟩
  obtain ⟨a8,b8,rfl,_⟩:=hn8.here.shape
  have hS8:=HT7.out.grown hg8 hp8
  have hd8:=HT7.out.dep hn8 HT7.out.lt
  clear hn8
  obtain ⟨o8,c8⟩:=hS8.sg.cell 5 kD
  have f8:=hS8.sg.row.free 5
  have hT8:=hS8.lay (hS8.sg.put_key _ l8 hd8)
  clear hd8 hp8 hg8 HC8 hS8
  have HT8:=Lh hT8
  clear hT8
  go_upto_region 17 with fail
  clear c8 f8
  generalize v8.setCell ⟨g,5,none⟩ (.slice a8 l8.length b8)=w8 at *
  generalize cs7.setIfInBounds 5 (.slice a8 l8.length b8)=cs8 at *
  have HZ9:Hid (Z=(_,s8)):=Lh (by rw [HZ3.out,Za1 HE4.out,Za1 HE5.out,Za1 HE6.out,Za1 HE7.out,Za1 HE8.out];rfl)
  have hb:=HT8.out.sg.rb
  have ho:=HT8.out.sg.row.of
  have hr:=HT8.out.rb
  have hok:=HT8.out.sg.ok
  go_wp2_with fail
  exact bodyPost_ret (v:=.agg cs8) (Zq Tryz.results75 Zar Zbh _ _ (w.heap.size) _ _ rfl (HT8.out.rs.set _) HT8.out.sg.size) rfl ⟨_,rfl,by rw [HZ9.out];exact HT8.out.fin⟩
 obtain ⟨⟨t,s2⟩,h2⟩:∃ z,nameM L en s.next=z:=⟨_,rfl⟩
 have H2:=Lh h2
 clear h2
 go_wp2_with fail
 refine HI.out.mono ?_
 rintro e2 w2 ⟨rfl,hp2,hg2⟩
 have hp2:PB w0 r tv L en s.next w2:=hp2
 have hn:=Zdp w2 hp2
 rw [H2.out] at hn
 have HN:=Lh hn
 have HG2:=Lh (Za (below_grown (r:=r) HB.out) hg2)
 have HR2:=Lh (HR0.out.grown hg2 (Nat.ne_of_gt HR.out))
 clear hp2 hg2 hn HI
 have hok16:Zav 16 (stT t (nS))=true:=by rw [Zcd];rfl
 go_wp2_with fail
 refine HN.out.mono ?_
 rintro e3 v3 ⟨rfl,hp3,hg3⟩
 have HC0:Hid (CT w0 r tv L en w v3.heap.size s2 t (nS) [] [] (v3.alloc (.cells (stT t (nS)) 31))):=Lh (by
  have hr3:=HR2.out.grown hg3 (Nat.ne_of_gt HR.out)
  have hlt:=hr3.lt
  have hb:=(Below.refl _ v3).alloc (Nat.le_refl _) (.cells (stT t (nS)) 31)
  exact ⟨PB.later hp3 hb,Za (Za HG2.out hg3) (below_grown hb),hr3.later hb,Zc _ _ _,Ze3.nil _ _ _ _ _,HR.out,hlt⟩)
 clear hp3 hg3 HN
 go_upto_region 3 with fail
 clear hok16
 generalize v3.alloc (.cells (stT t (nS)) 31)=w3 at *
 generalize v3.heap.size=g at *
 obtain ⟨s3,h3⟩:∃ z,(mustM L en [Z9] s2).2=z:=⟨_,rfl⟩
 have hm:=Zaw Z9 w3 HC0.out.pb
 rw [h3] at hm
 have HM:=Lh hm
 obtain ⟨ZC,hZC⟩:∃ z,colsM L en FU [] s3=z:=⟨_,rfl⟩
 have HZ3:Hid (Z=(bnd (mustM L en [Zm1]) fun _=>bnd (namesM L en) fun k=>bnd (mustM L en [Zp]) fun _=>ret { kind:=1,table:=t,cols:=ZC.1,key:=k }) ZC.2):=Lh (by
  rw [HZ.out,isY HBN.out,if_pos rfl,Za1 H2.out,Za1 (x:=()) (s1:=s3) (by rw [← h3]),Za1 (x:=ZC.1) (s1:=ZC.2) (by rw [hZC])])
 have HZC:=Lh hZC
 clear h3 hm hZC
 go_wp2_with fail
 refine HM.out.mono ?_
 rintro e4 w4 ⟨rfl,hp4,hg4⟩
 have HC4:=Lh (HC0.out.grown hg4 hp4)
 clear hp4 hg4 HM
 go_wp2_with fail
 go_loopg [] (Zen L s3) (fun gk wr=>∃ (cols:List Zeu) (ccs:List (List Value)) (v:Value) (sj:PS) (f:Nat),gk=Zen L sj∧Hid (CT w0 r tv L en w g sj t v cols ccs wr)∧Hid (ZC=colsM L en f cols sj)∧Hid (Zen L sj ≤ f)∧Hid (sj.e=0→cols.length ≤ sj.k))
 case atStart=>exact ⟨[],[],_,s3,FU,rfl,HC4,Lh HZC.out.symm,Lh (Nat.le_trans Zp8 (by have:=HL.out;show _ ≤ 100000;omega)),Lh (fun _=>Nat.zero_le _)⟩
 case round=>
  obtain ⟨cols,ccs,v,sj,f,rfl,HC,HRC,HF,HCL⟩:=hrel
  obtain ⟨f',rfl⟩:∃ f',f=f' + 1:=⟨f - 1,by have:=HF.out;have h1:=HC.out.pb.hk;unfold Zen at this;split at this <;> omega⟩
  have HO:=Lh (okP wr HC.out.pb)
  obtain ⟨va,vc,rfl⟩:=HC.out.own.shape
  by_cases h0:sj.e=0
  ·have d0:decide (sj.e=0)=true:=decide_eq_true h0
   rw [d0] at HO
   have H0:=Lh h0
   have c4:=HC.out.row.cell (i:=4) (v:=.slice va cols.length vc) rfl
   clear h0 d0
   by_cases hem:cols = []
   ·have hne:((cols.length:Int) == 0)=true:=by rw [hem];rfl
    have HEM:Hid (cols.isEmpty=true):=Lh (by rw [hem];rfl)
    clear hem
    go_wp2_with fail
    refine HO.out.mono ?_
    rintro e5 w5 ⟨rfl,rfl⟩
    have HST:Hid (ZC=(bnd (colM L en) fun c=>bnd (mustM L en [Zy]) fun _=>colsM L en f' (cols ++ [c])) sj):=Lh (by rw [HRC.out,Zkk H0.out,HEM.out,if_pos rfl];rfl)
    have HCB:=HC
    go_upto_region 5 with fail
    clear c4 hne
    exact ks2
   have hpos:0 < cols.length:=List.length_pos_iff.2 hem
   have hne:((cols.length:Int) == 0)=false:=kQ
   have HI5:=Lh (isW Zbl wr HC.out.pb)
   obtain ⟨B5,hB5⟩:∃ B,isB L en Zbl sj=B:=⟨_,rfl⟩
   rw [Z2,hB5] at HI5
   have HB5:=Lh hB5
   have HEM:Hid (cols.isEmpty=false):=Lh (by cases cols with | nil=>exact absurd rfl hem | cons _ _=>rfl)
   clear hB5 hem hpos
   cases B5
   ·go_wp2_with fail
    refine HO.out.mono ?_
    rintro e5 w5 ⟨rfl,rfl⟩
    go_wp2_with fail
    refine HI5.out.mono ?_
    rintro e6 w6 ⟨rfl,hp6,hg6⟩
    have HCB:Hid (CT w0 r tv L en w g sj t (.slice va cols.length vc) cols ccs w6):=Lh (HC.out.grown hg6 hp6)
    have HST:Hid (ZC=(bnd (colM L en) fun c=>bnd (mustM L en [Zy]) fun _=>colsM L en f' (cols ++ [c])) sj):=Lh (by rw [HRC.out,Zkk H0.out,HEM.out,if_neg bF,isN HB5.out];rfl)
    clear hp6 hg6 HI5 c4 hne
    go_upto_region 5 with fail
    exact ks2
   go_wp2_with fail
   refine HO.out.mono ?_
   rintro e5 w5 ⟨rfl,rfl⟩
   go_wp2_with fail
   refine HI5.out.mono ?_
   rintro e6 w8 ⟨rfl,hp6,hg6⟩
   obtain ⟨sF,hsF⟩:∃ z,z=sj.next:=⟨_,rfl⟩
   have HCF:Hid (CT w0 r tv L en w g sF t (.slice va cols.length vc) cols ccs w8):=Lh (by rw [hsF];exact HC.out.grown hg6 hp6)
   have HZF:Hid (Z=(bnd (mustM L en [Zm1]) fun _=>bnd (namesM L en) fun k=>bnd (mustM L en [Zp]) fun _=>ret { kind:=1,table:=t,cols:=cols,key:=k }) sF):=Lh (by
    have hz:ZC=(cols,sF):=by rw [HRC.out,Zkk H0.out,HEM.out,if_neg bF,isY HB5.out,hsF];rfl
    rw [HZ3.out,hz])
   clear hp6 hg6 HI5 c4 hne hsF
   obtain ⟨cs8,hcs8,HT⟩:∃ cs8,cs8=stT t (.slice va cols.length vc)∧Hid (ST w0 r tv L en false w (w.heap.size) g sF cs8 { kind:=1,table:=t,cols:=cols } w8):=⟨_,rfl,Lh HCF.out.toST⟩
   clear hcs8
   obtain ⟨s9,h9⟩:∃ z,(mustM L en [Zm1] (sF)).2=z:=⟨_,rfl⟩
   have hc9:=Zaw Zm1 w8 HT.out.pb
   rw [h9] at hc9
   have HC9:=Lh hc9
   have HE9:Hid (mustM L en [Zm1] (sF)=((),s9)):=Lh (by rw [← h9])
   exact ks5
  have d0:decide (sj.e=0)=false:=decide_eq_false h0
  rw [d0] at HO
  have HZF:Hid (Z=(bnd (mustM L en [Zm1]) fun _=>bnd (namesM L en) fun k=>bnd (mustM L en [Zp]) fun _=>ret { kind:=1,table:=t,cols:=cols,key:=k }) sj):=Lh (by
   have hz:ZC=(cols,sj):=by rw [HRC.out,cols_bad h0]
   rw [HZ3.out,hz])
  obtain ⟨cs8,hcs8,HT⟩:∃ cs8,cs8=stT t (.slice va cols.length vc)∧Hid (ST w0 r tv L en false w (w.heap.size) g sj cs8 { kind:=1,table:=t,cols:=cols } wr):=⟨_,rfl,Lh HC.out.toST⟩
  clear h0 d0 hcs8
  go_wp2_with fail
  refine HO.out.mono ?_
  rintro e5 w5 ⟨rfl,rfl⟩
  obtain ⟨s9,h9⟩:∃ z,(mustM L en [Zm1] (sj)).2=z:=⟨_,rfl⟩
  have hc9:=Zaw Zm1 wr HT.out.pb
  rw [h9] at hc9
  have HC9:=Lh hc9
  have HE9:Hid (mustM L en [Zm1] (sj)=((),s9)):=Lh (by rw [← h9])
  exact ks5
end
end Go.Proofs.YtmdogmpcmkfjpaaGreatDoor.Dt
