import Derived.Test.YtmdogmpcmkfjpaaGreatDoorBq22
set_option maxRecDepth 100000
set_option maxHeartbeats 64000000
/- Part. -/
namespace Go.Proofs.YtmdogmpcmkfjpaaGreatDoor.Dt
open Go.RowKit Go.Proofs.YtmdogmpcmkfjpaaGreatDoor.By
section
variable {w0:World} {r:Nat} {tv:Value} {L:List Tk} {en:Int}
def ch6 (L:List Tk) (en:Int) (i:List (PE × ByteArray)) (j:List Zec) (w g h:List PE) (o:List (PE × Bool)):Rd PSt:=bnd (limitM L en) fun m=>ret { kind:=8,items:=i,src:=j,wh:=w,group:=g,having:=h,order:=o,limit:=m }
def ch5 (L:List Tk) (en:Int) (i:List (PE × ByteArray)) (j:List Zec) (w g h:List PE):Rd PSt:=bnd (byM L en Zbz (orderM L en)) fun o=>ch6 L en i j w g h o
def ch4 (L:List Tk) (en:Int) (i:List (PE × ByteArray)) (j:List Zec) (w g:List PE):Rd PSt:=bnd (maybeM L en Zbi) fun h=>ch5 L en i j w g h
def ch3 (L:List Tk) (en:Int) (i:List (PE × ByteArray)) (j:List Zec) (w:List PE):Rd PSt:=bnd (byM L en Zbp (exprM L en)) fun g=>ch4 L en i j w g
def ch2 (L:List Tk) (en:Int) (i:List (PE × ByteArray)) (j:List Zec):Rd PSt:=bnd (maybeM L en Z6) fun w=>ch3 L en i j w
def ch1 (L:List Tk) (en:Int) (i:List (PE × ByteArray)):Rd PSt:=bnd (mustM L en [Zck]) fun _=>bnd (sourceM L en) fun x=>bnd (joinsM L en FU [x]) fun j=>ch2 L en i j
def Zrf (L:List Tk) (en:Int):Rd (List (PE × ByteArray)):=bnd (isM L en Zao) fun b=>if b then ret [] else listM L en (itemM L en) FU
theorem Zwo (s:PS):chooseM L en s=bnd (Zrf L en) (ch1 L en) s:=rfl
theorem joins_no {f:Nat} {l:List Zec} {s:PS} (h:isB L en Zfy s=false):joinsM L en (f + 1) l s=(l,s):=by
 show bnd (isM L en Zfy) _ s=_
 rw [isN h,if_neg bF];rfl
theorem Zve {f:Nat} {l:List Zec} {s:PS} (h:isB L en Zfy s=true):joinsM L en (f + 1) l s=(bnd (sourceM L en) fun x=>bnd (mustM L en [WON]) fun _=>bnd (exprM L en) fun y=>joinsM L en f (l ++ [{ x with on:=[y] }])) s.next:=by
 show bnd (isM L en Zfy) _ s=_
 rw [isY h,if_pos rfl]
theorem by_no {α:Type} {t:ByteArray} {one:Rd α} {s:PS} (h:isB L en t s=false):byM L en t one s=([],s):=by
 show bnd (isM L en t) _ s=_
 rw [isN h,if_neg bF];rfl
theorem by_yes {α:Type} {t:ByteArray} {one:Rd α} {s:PS} (h:isB L en t s=true):byM L en t one s=(bnd (mustM L en [WBY]) fun _=>listM L en one FU) s.next:=by
 show bnd (isM L en t) _ s=_
 rw [isY h,if_pos rfl]
theorem items_no {s:PS} (h:isB L en Zao s=false):Zrf L en s=listM L en (itemM L en) FU s:=by
 show bnd (isM L en Zao) _ s=_
 rw [isN h,if_neg bF]
theorem Zvf {s:PS} (h:isB L en Zao s=true):Zrf L en s=([],s.next):=by
 show bnd (isM L en Zao) _ s=_
 rw [isY h,if_pos rfl];rfl
theorem ch6_no {i:List (PE × ByteArray)} {j:List Zec} {w g h:List PE} {o:List (PE × Bool)} {s:PS} (hb:isB L en Zdv s=false):ch6 L en i j w g h o s=({ kind:=8,items:=i,src:=j,wh:=w,group:=g,having:=h,order:=o,limit:=-1 },s):=by
 unfold ch6
 rw [Za1 (x:=(-1:Int)) (s1:=s)]
 ·rfl
 show bnd (isM L en Zdv) _ s=_
 rw [isN hb,if_neg bF];rfl
theorem ch6_yes {i:List (PE × ByteArray)} {j:List Zec} {w g h:List PE} {o:List (PE × Bool)} {s s1:PS} {m:Int} (hb:isB L en Zdv s=true) (hn:numM L en s.next=(m,s1)):ch6 L en i j w g h o s=({ kind:=8,items:=i,src:=j,wh:=w,group:=g,having:=h,order:=o,limit:=m },s1):=by
 unfold ch6
 rw [Za1 (x:=m) (s1:=s1)]
 ·rfl
 show bnd (isM L en Zdv) _ s=_
 rw [isY hb,if_pos rfl]
 exact hn
structure JT (w0:World) (r:Nat) (tv:Value) (L:List Tk) (en:Int) (w:World) (g n:Nat) (s:PS) (d:Array Value) (x:PSt) (v v':Value) (l:List Zec) (ccs:List (List Value)) (W:World):Prop where
 pb:PB w0 r tv L en s W
 gr:w.grownBy W (some r)
 bx:Row w.heap.size 75 #[pV r] W
 rs:Row (w.heap.size + 1) 31 stZ W
 row:Row g 31 (d.setIfInBounds 10 v) W
 dep:Dep (fun b=>(w.heap.size < b∧b ≠ w.heap.size + 1∧b ≠ g)∧b < n) W fun u=>StR u d.toList x
 own:Ze3 110 3 Zo2 n W v' l ccs
 hr:r < w.heap.size
 hg:w.heap.size + 1 < g
 hn:g < n
 hnw:n ≤ W.heap.size
variable {w W W':World} {g n:Nat} {s s':PS} {d:Array Value} {x:PSt} {v v':Value} {l:List Zec} {ccs:List (List Value)}
theorem JT.size (h:JT w0 r tv L en w g n s d x v v' l ccs W):d.size=16:=by simpa using (Zeq _ _ _ h.dep.here).1
theorem JT.start {t a:ByteArray} {cs:Array Value} (h:ST w0 r tv L en true w (w.heap.size + 1) g s cs x W) (hp:PB w0 r tv L en s' W') (k:W.grownBy W' (some r)) :
 JT w0 r tv L en w g W'.heap.size s' cs x (.slice (some ⟨W'.heap.size,0,none⟩) 1 1) (.slice (some ⟨W'.heap.size,0,none⟩) 1 1) [⟨t,a,[]⟩] [[.string t,.string a,nS]]
  ((W'.alloc (.cells #[.string t,.string a,nS] 110)).setCell ⟨g,10,none⟩ (.slice (some ⟨W'.heap.size,0,none⟩) 1 1)):=by
 have h':=h.grown k hp
 have hb:=(Below.refl W'.heap.size W').alloc (Nat.le_refl _) (.cells #[.string t,.string a,nS] 110)
 have h2:=h'.later hb
 have hlt:=h'.lt
 have e:=setCell_eq_setRow _ g 10 cs _ _ (.slice (some ⟨W'.heap.size,0,none⟩) 1 1) h2.sg.row
 have h1:=h.hr
 have h3:=h.hqg
 rw [e]
 refine ⟨h2.pb.other (Zi _ _ _) kW,Zn h2.gr kW _,(setRow_other _ g _ _ kW).trans (h2.bx rfl),(setRow_other _ g _ _ kW).trans h2.rs,h2.sg.row.set _,?_,?_,h1,h3,hlt,by simp⟩
 ·refine Dep.step h'.sg.st ?_ fun b hb2 hlt2=>⟨⟨hb2,hlt2⟩,(setRow_other _ g _ _ hb2.2.2).trans (hb.block b hlt2)⟩
  simp
 have ho:=World.ownsRow_lit (base:=W'.heap.size) (e:=110) (size:=3) W' #[.string t,.string a,nS] 1 (Nat.le_refl _) kD rfl
 have hO:Ze3 110 3 Zo2 W'.heap.size (W'.alloc (.cells #[.string t,.string a,nS] 110)) (.slice (some ⟨W'.heap.size,0,none⟩) 1 1) [⟨t,a,[]⟩] [[.string t,.string a,nS]]:=
  ⟨ho,rfl,fun i c y hc hy=>by
   rcases i with _ | i
   ·simp at hc hy
    subst hc hy
    exact ⟨rfl,fun u _=>⟨_,rfl,SlR.nil _ _ _⟩⟩
   ·simp at hc⟩
 exact hO.grown (Zi _ _ _) hlt
theorem JT.grown (h:JT w0 r tv L en w g n s d x v v' l ccs W) (k:W.grownBy W' (some r)) (hp:PB w0 r tv L en s' W'):JT w0 r tv L en w g n s' d x v v' l ccs W':=by
 have h1:=h.hr
 have h2:=h.hg
 have h3:=h.hn
 exact ⟨hp,Za h.gr k,h.bx.grown k kW,h.rs.grown k kW,h.row.grown k kW,
  Dep.step h.dep k.size fun b hb hlt=>⟨hb,k.block b hlt (fun e=>by cases e;omega)⟩,h.own.grown k kW,h1,h2,h3,Nat.le_trans h.hnw k.size⟩
theorem JT.cell (h:JT w0 r tv L en w g n s d x v v' l ccs W):W.cell? ⟨w.heap.size,0,none⟩=some (pV r):=h.bx.cell rfl
theorem JT.c10 (h:JT w0 r tv L en w g n s d x v v' l ccs W):W.cell? ⟨g,10,none⟩=some v:=h.row.cell (by have:=h.size;simp [this])
theorem JT.app {v1:Value} {y:Zec} {c:List Value} {m:Nat} (h:JT w0 r tv L en w g n s d x v v l ccs W) (hown:W'.ownsRow n 110 3 v1 (ccs.length + 1) (ccs.flatten ++ c)) (k:W.grownBy W' v.ownBlock)
 (hv:v1.ownBlock=v.ownBlock ∨ v1.ownBlock=some W.heap.size) (hc:c.length=3) (hy:New m W fun u=>Zo2 u c y) (hnm:n ≤ m) (hm:∀ k,v.ownBlock=some k→k < m):JT w0 r tv L en w g n s d x v v1 (l ++ [y]) (ccs ++ [c]) W':=by
 have h1:=h.hr
 have h2:=h.hg
 have h3:=h.hn
 have hlo:∀ j,v.ownBlock=some j→n ≤ j:=fun j hj=>(World.ownsRow.lt h.own.own j hj).1
 have hkeep:∀ b,b < n→b < W.heap.size→W'.heap[b]? = W.heap[b]? :=fun b hb hbl=>k.block b hbl (fun e=>by have:=hlo b e.symm;omega)
 have hgl:=h.row.lt
 exact ⟨h.pb.row k (fun j hj=>by have:=hlo j hj;omega),Zds h.gr k (fun j hj=>by have:=hlo j hj;omega),(hkeep _ kW kW).trans h.bx,(hkeep _ kW kW).trans h.rs,(hkeep _ kW hgl).trans h.row,
  Dep.step h.dep k.size fun b hb hlt=>⟨hb,hkeep b hb.2 hlt⟩,h.own.snoc hown k hv hc hy hnm hm,h1,h2,h3,Nat.le_trans h.hnw k.size⟩
theorem JT.put (h:JT w0 r tv L en w g n s d x v v' l ccs W):JT w0 r tv L en w g n s d x v' v' l ccs (W.setCell ⟨g,10,none⟩ v'):=by
 have h1:=h.hr
 have h2:=h.hg
 have h3:=h.hn
 have e:=setCell_eq_setRow _ g 10 _ _ _ v' h.row
 rw [e]
 have e2:(d.setIfInBounds 10 v).setIfInBounds 10 v'=d.setIfInBounds 10 v':=by
  simp
 rw [e2]
 have hr:=h.row.set (d.setIfInBounds 10 v')
 exact ⟨h.pb.other (Zi _ _ _) kW,Zn h.gr kW _,(setRow_other _ g _ _ kW).trans h.bx,(setRow_other _ g _ _ kW).trans h.rs,hr,
  Dep.step h.dep kY fun b hb _=>⟨hb,setRow_other _ g b _ hb.1.2.2⟩,h.own.grown (Zi _ _ _) h3,h1,h2,h3,by simpa using h.hnw⟩
theorem JT.toST (h:JT w0 r tv L en w g n s d x v v l ccs W):ST w0 r tv L en true w (w.heap.size + 1) g s (d.setIfInBounds 10 v) { x with src:=l } W:=by
 have h1:=h.hr
 have h2:=h.hg
 have h3:=h.hn
 refine ⟨h.pb,h.gr,fun _=>h.bx,h.rs,⟨h.row,?_,by omega⟩,h1,by omega,h2,fun _=>by omega⟩
 refine Dep.imp2 (P:=fun u=>StR u d.toList x) (Q:=fun u=>SlR 3 Zo2 u v l) (Dep.step h.dep (Nat.le_refl _) fun b hb _=>⟨hb.1,rfl⟩) (Dep.step h.own.done (Nat.le_refl _) fun b hb _=>⟨⟨by omega,by omega,by omega⟩,rfl⟩) ?_
 rintro u ⟨c4,c5,c6,c7,c8,c9,c10,c11,c12,c13,c14,e,h4,h5,h6,h7,h8,h9,h10,h11,h12,h13,h14⟩ hs
 exact ⟨c4,c5,c6,c7,c8,c9,v,c11,c12,c13,c14,by rw [Array.toList_setIfInBounds,e];rfl,h4,h5,h6,h7,h8,h9,hs,h11,h12,h13,h14⟩
end
end Go.Proofs.YtmdogmpcmkfjpaaGreatDoor.Dt
namespace Go.Proofs.YtmdogmpcmkfjpaaGreatDoor.Dt
open Go.RowKit Go.Proofs.YtmdogmpcmkfjpaaGreatDoor.By
attribute [local go_sem ↓] Zd9 Zbv Zcb Znh Znj Zhe Ze5 Zhg Zhi
attribute [local go_sem] Zc6 Zbx Zc7 Zfg Zfq Zqq Zn1 Zqr Zmf Zhw Zej Zcd Zj5 Value.oneCell' Zi7 Zhy Zi8
section
variable {w0:World} {r:Nat} {tv:Value} {L:List Tk} {en:Int} {s:PS}
theorem chooseW (hall:Zbs L) (w:World) (h:PB w0 r tv L en s w):Calls Tryz.prog 84 #[pV r] w fun e w'=>
 ∃ v,e = .returned v∧New w.heap.size w' (fun u=>AgV StR u v (chooseM L en s).1)∧PB w0 r tv L en (chooseM L en s).2 w'∧w.grownBy w' (some r):=by
 obtain ⟨Z,hZ⟩:∃ Z,Z=chooseM L en s:=⟨_,rfl⟩
 rw [← hZ]
 obtain ⟨⟨i1,s1⟩,h1⟩:∃ z,Zrf L en s=z:=⟨_,rfl⟩
 have HZ1:Hid (Z=ch1 L en i1 s1):=Lh (by rw [hZ,Zwo,Za1 h1])
 have HI1:=Lh h1
 have HA:=Lh hall
 have HL:=Lh h.hl
 have HR:=Lh h.lt
 have hb:Below w.heap.size w ((w.alloc (.cells #[pV r] 75)).alloc (.cells stZ 31)):=by go_grown
 have hP0:SP w0 r tv L en w s ((w.alloc (.cells #[pV r] 75)).alloc (.cells stZ 31)):=⟨h.later hb,below_grown hb,(Zc _ _ _).later (bA),by
  have:=Zc (w.alloc (.cells #[pV r] 75)) 31 stZ
  simpa using this,h.lt⟩
 have HP0:=Lh hP0
 clear h hb hZ hall hP0 h1
 go_enter Tryz.func84,Tryz.ntmps84
 go_upto_region 1 with fail
 generalize (w.alloc (.cells #[pV r] 75)).alloc (.cells stZ 31)=w0x at *
 obtain ⟨cs0,hcs0,HT0⟩:∃ z,z = #[.int .u8 8,eS,eS,.bool false,nS,nS,nS,nS,nS,nS,nS,nS,nS,nS,nS,.int .i64 (-1)]∧Hid (ST w0 r tv L en true w (w.heap.size + 1) w0x.heap.size s z { kind:=8,limit:=-1 } (w0x.alloc (.cells z 31))):=⟨_,rfl,Lh (HP0.out.st 8 ⟨#[]⟩ ⟨#[]⟩ false (-1))⟩
 have hok16:Zav 16 #[.int .u8 8,eS,eS,.bool false,nS,nS,nS,nS,nS,nS,nS,nS,nS,nS,nS,.int .i64 (-1)]=true:=by rw [Zcd];rfl
 go_upto_region 2 with fail
 rw [← hcs0]
 clear hok16 hcs0
 generalize w0x.alloc (.cells cs0 31)=w1 at *
 generalize w0x.heap.size=g at *
 have HI2:=Lh (isW Zao w1 HT0.out.pb)
 obtain ⟨B2,hB2⟩:∃ B,isB L en Zao s=B:=⟨_,rfl⟩
 rw [Z2,hB2] at HI2
 have HB2:=Lh hB2
 have hq:=HT0.out.cell
 clear hB2
 go_wp2_with fail
 refine HI2.out.mono ?_
 rintro e2 v2 ⟨rfl,hp2,hg2⟩
 have HS2:=Lh (HT0.out.grown hg2 hp2)
 clear hp2 hg2 hq HI2
 go_upto_if 9 with fail
 go_cut [] (fun wx=>∃ cs:Array Value,ST w0 r tv L en true w (w.heap.size + 1) g s1 cs { kind:=8,items:=i1,limit:=-1 } wx)
 case first=>
  cases B2
  ·obtain ⟨⟨l3,s3⟩,h3⟩:∃ z,listM L en (itemM L en) FU (s)=z:=⟨_,rfl⟩
   have hc3:=listItem (L:=L) (en:=en) (fun s=>(Sim.itemM (L:=L) (L':=L) (en:=en) (en':=en) (d:=0)).mono s |>.1) _ w.heap.size rfl v2 s.k (itemRun HA.out w.heap.size v2 s.k HS2.out.q) s (Nat.le_refl _) HS2.out.pb
   rw [h3] at hc3
   have HC3:=Lh hc3
   have HE3:=Lh h3
   clear h3 hc3
   have hq:=HS2.out.cell
   go_wp2_with fail
   refine HC3.out.mono ?_
   rintro e3 v3 ⟨u3,rfl,hn3,hp3,hg3⟩
   obtain ⟨a3,b3,rfl,-⟩:=hn3.here.shape
   have hS3:=HS2.out.grown hg3 hp3
   have hd3:=HS2.out.dep hn3 HS2.out.lt
   clear hn3
   obtain ⟨o3,c3⟩:=hS3.sg.cell 9 kD
   have f3:=hS3.sg.row.free 9
   have HT3:=Lh (hS3.lay (hS3.sg.put_items _ l3 hd3))
   clear hd3 hp3 hg3 HC3 hS3 hq
   go_wp2_with fail
   go_meet
   obtain ⟨rfl,rfl⟩:i1=l3∧s1=s3:=by have e:=HI1.out;rw [items_no HB2.out,HE3.out] at e;cases e;exact ⟨rfl,rfl⟩
   exact ⟨_,HT3.out⟩
  obtain ⟨rfl,rfl⟩:i1 = []∧s1=s.next:=by have e:=HI1.out;rw [Zvf HB2.out] at e;cases e;exact ⟨rfl,rfl⟩
  go_wp2_with fail
  go_meet
  exact ⟨_,HS2.out⟩
 rename World=>w2
 obtain ⟨cs2,hT2⟩:=hcut
 have HT2:=Lh hT2
 clear hT2
 obtain ⟨s4,h4⟩:∃ z,(mustM L en [Zck] (s1)).2=z:=⟨_,rfl⟩
 have hc4:=Zaw Zck w2 HT2.out.pb
 rw [h4] at hc4
 have HC4:=Lh hc4
 have HE4:Hid (mustM L en [Zck] (s1)=((),s4)):=Lh (by rw [← h4])
 clear h4 hc4
 have hq:=HT2.out.cell
 go_wp2_with fail
 refine HC4.out.mono ?_
 rintro e4 w4 ⟨rfl,hp4,hg4⟩
 have HT4:=Lh (HT2.out.grown hg4 hp4)
 clear hp4 hg4 HC4 hq
 obtain ⟨⟨x0,s5⟩,h5⟩:∃ z,sourceM L en s4=z:=⟨_,rfl⟩
 have hc5:=Zt3 w4 HT4.out.pb
 have hon:=Znu (L:=L) (en:=en) s4
 rw [h5] at hc5 hon
 have HC5:=Lh hc5
 have HE5:=Lh h5
 obtain ⟨⟨j0,s6⟩,h6⟩:∃ z,joinsM L en FU [x0] s5=z:=⟨_,rfl⟩
 have HZ6:Hid (Z=ch2 L en i1 j0 s6):=Lh (by rw [HZ1.out];unfold ch1;rw [Za1 HE4.out,Za1 h5,Za1 h6])
 have HJ6:=Lh h6
 obtain ⟨t0,a0,on0⟩:=x0
 obtain rfl:on0 = []:=hon
 clear h5 h6 hc5 HZ1 HE4
 have hq:=HT4.out.cell
 go_wp2_with fail
 refine HC5.out.mono ?_
 rintro e5 w5 ⟨rfl,hp5,hg5⟩
 have HJ0:=Lh (JT.start (t:=t0) (a:=a0) HT4.out hp5 hg5)
 obtain ⟨o5,c5⟩:=((HT4.out.grown hg5 hp5).later ((Below.refl _ w5).alloc (Nat.le_refl _) (.cells #[.string t0,.string a0,nS] 110))).sg.cell 10 kD
 have f5:=((HT4.out.grown hg5 hp5).later ((Below.refl _ w5).alloc (Nat.le_refl _) (.cells #[.string t0,.string a0,nS] 110))).sg.row.free 10
 clear hp5 hg5 HC5 hq
 go_upto_block 0 with fail
 clear c5 f5 o5
 generalize (w5.alloc (.cells #[.string t0,.string a0,nS] 110)).setCell ⟨g,10,none⟩ (.slice (some ⟨w5.heap.size,0,none⟩) 1 1)=wA at *
 generalize w5.heap.size=n at *
 go_cut [] (fun wx=>∃ cs:Array Value,ST w0 r tv L en true w (w.heap.size + 1) g s6 cs { kind:=8,items:=i1,src:=j0,limit:=-1 } wx)
 case rest=>
  rename World=>w6
  obtain ⟨cs6,hT6⟩:=hcut
  have HT6:=Lh hT6
  clear hT6 HJ0 HJ6 HE5 HT4 HT2 HS2 HT0 HP0 HI1 HB2 HR
  obtain ⟨⟨l7,s7⟩,h7⟩:∃ z,maybeM L en Z6 (s6)=z:=⟨_,rfl⟩
  have hc7:=Zq7 HA.out Z6 w6 HT6.out.pb
  rw [h7] at hc7
  have HC7:=Lh hc7
  have HE7:=Lh h7
  clear h7 hc7
  have hq:=HT6.out.cell
  go_wp2_with fail
  refine HC7.out.mono ?_
  rintro e7 v7 ⟨u7,rfl,hn7,hp7,hg7⟩
  obtain ⟨a7,b7,rfl,-⟩:=hn7.here.shape
  have hS7:=HT6.out.grown hg7 hp7
  have hd7:=HT6.out.dep hn7 HT6.out.lt
  clear hn7
  obtain ⟨o7,c7⟩:=hS7.sg.cell 11 kD
  have f7:=hS7.sg.row.free 11
  have hT7:=hS7.lay (hS7.sg.put_wh _ l7 hd7)
  clear hd7 hp7 hg7 HC7 hS7 hq
  have HT7:=Lh hT7
  clear hT7
  go_upto_region 12 with fail
  clear c7 f7
  generalize v7.setCell ⟨g,11,none⟩ (.slice a7 l7.length b7)=w7 at *
  generalize cs6.setIfInBounds 11 (.slice a7 l7.length b7)=cs7 at *
  have HZ7:Hid (Z=ch3 L en i1 j0 l7 s7):=Lh (by rw [HZ6.out];unfold ch2;rw [Za1 HE7.out])
  obtain ⟨⟨g9,s9⟩,h9⟩:∃ z,byM L en Zbp (exprM L en) s7=z:=⟨_,rfl⟩
  have HZ9:Hid (Z=ch4 L en i1 j0 l7 g9 s9):=Lh (by rw [HZ7.out];unfold ch3;rw [Za1 h9])
  have HG9:=Lh h9
  clear h9 HZ7 HZ6 HE7
  have HI8:=Lh (isW Zbp w7 HT7.out.pb)
  obtain ⟨B8,hB8⟩:∃ B,isB L en Zbp s7=B:=⟨_,rfl⟩
  rw [Z2,hB8] at HI8
  have HB8:=Lh hB8
  have hq:=HT7.out.cell
  clear hB8
  go_wp2_with fail
  refine HI8.out.mono ?_
  rintro e8 v8 ⟨rfl,hp8,hg8⟩
  have HS8:=Lh (HT7.out.grown hg8 hp8)
  clear hp8 hg8 hq HI8
  go_upto_if 42 with fail
  go_cut [] (fun wx=>∃ cs:Array Value,ST w0 r tv L en true w (w.heap.size + 1) g s9 cs { kind:=8,items:=i1,src:=j0,wh:=l7,group:=g9,limit:=-1 } wx)
  case first=>
   cases B8
   ·obtain ⟨rfl,rfl⟩:g9 = []∧s9=s7:=by have e:=HG9.out;rw [by_no HB8.out] at e;cases e;exact ⟨rfl,rfl⟩
    go_wp2_with fail
    go_meet
    exact ⟨_,HS8.out⟩
   have HS8b:Hid (ST w0 r tv L en true w (w.heap.size + 1) g s7.next cs7 { kind:=8,items:=i1,src:=j0,wh:=l7,limit:=-1 } v8):=HS8
   obtain ⟨s28,h28⟩:∃ z,(mustM L en [WBY] (s7.next)).2=z:=⟨_,rfl⟩
   have hc28:=Zaw WBY v8 HS8b.out.pb
   rw [h28] at hc28
   have HC28:=Lh hc28
   have HE28:Hid (mustM L en [WBY] (s7.next)=((),s28)):=Lh (by rw [← h28])
   clear h28 hc28
   have hq:=HS8b.out.cell
   go_wp2_with fail
   refine HC28.out.mono ?_
   rintro e28 w28 ⟨rfl,hp28,hg28⟩
   have HT28:=Lh (HS8b.out.grown hg28 hp28)
   clear hp28 hg28 HC28 hq
   obtain ⟨⟨l29,s29⟩,h29⟩:∃ z,listM L en (exprM L en) FU (s28)=z:=⟨_,rfl⟩
   have hc29:=Zrb (L:=L) (en:=en) (fun s=>(Sim.exprM (L:=L) (L':=L) (en:=en) (en':=en) (d:=0)).mono s |>.1) _ rfl w28 s28.k (Zv6 HA.out w28 s28.k) s28 (Nat.le_refl _) HT28.out.pb
   rw [h29] at hc29
   have HC29:=Lh hc29
   have HE29:=Lh h29
   clear h29 hc29
   have hq:=HT28.out.cell
   go_wp2_with fail
   refine HC29.out.mono ?_
   rintro e29 v29 ⟨u29,rfl,hn29,hp29,hg29⟩
   obtain ⟨a29,b29,rfl,-⟩:=hn29.here.shape
   have hS29:=HT28.out.grown hg29 hp29
   have hd29:=HT28.out.dep hn29 HT28.out.lt
   clear hn29
   obtain ⟨o29,c29⟩:=hS29.sg.cell 12 kD
   have f29:=hS29.sg.row.free 12
   have HT29:=Lh (hS29.lay (hS29.sg.put_group _ l29 hd29))
   clear hd29 hp29 hg29 HC29 hS29 hq
   go_wp2_with fail
   go_meet
   obtain ⟨rfl,rfl⟩:g9=l29∧s9=s29:=by have e:=HG9.out;rw [by_yes HB8.out,Za1 HE28.out,HE29.out] at e;cases e;exact ⟨rfl,rfl⟩
   exact ⟨_,HT29.out⟩
  rename World=>w8
  obtain ⟨cs8,hT8⟩:=hcut
  have HT8:=Lh hT8
  clear hT8
  obtain ⟨⟨l10,s10⟩,h10⟩:∃ z,maybeM L en Zbi (s9)=z:=⟨_,rfl⟩
  have hc10:=Zq7 HA.out Zbi w8 HT8.out.pb
  rw [h10] at hc10
  have HC10:=Lh hc10
  have HE10:=Lh h10
  clear h10 hc10
  have hq:=HT8.out.cell
  go_wp2_with fail
  refine HC10.out.mono ?_
  rintro e10 v10 ⟨u10,rfl,hn10,hp10,hg10⟩
  obtain ⟨a10,b10,rfl,-⟩:=hn10.here.shape
  have hS10:=HT8.out.grown hg10 hp10
  have hd10:=HT8.out.dep hn10 HT8.out.lt
  clear hn10
  obtain ⟨o10,c10⟩:=hS10.sg.cell 13 kD
  have f10:=hS10.sg.row.free 13
  have hT10:=hS10.lay (hS10.sg.put_having _ l10 hd10)
  clear hd10 hp10 hg10 HC10 hS10 hq
  have HT10:=Lh hT10
  clear hT10
  go_upto_region 16 with fail
  clear c10 f10
  generalize v10.setCell ⟨g,13,none⟩ (.slice a10 l10.length b10)=w10 at *
  generalize cs8.setIfInBounds 13 (.slice a10 l10.length b10)=cs10 at *
  obtain ⟨⟨o12,s12⟩,h12⟩:∃ z,byM L en Zbz (orderM L en) s10=z:=⟨_,rfl⟩
  have HZ12:Hid (Z=ch6 L en i1 j0 l7 g9 l10 o12 s12):=Lh (by rw [HZ9.out];unfold ch4;rw [Za1 HE10.out];unfold ch5;rw [Za1 h12])
  have HG12:=Lh h12
  clear h12 HZ9 HE10
  have HI11:=Lh (isW Zbz w10 HT10.out.pb)
  obtain ⟨B11,hB11⟩:∃ B,isB L en Zbz s10=B:=⟨_,rfl⟩
  rw [Z2,hB11] at HI11
  have HB11:=Lh hB11
  have hq:=HT10.out.cell
  clear hB11
  go_wp2_with fail
  refine HI11.out.mono ?_
  rintro e11 v11 ⟨rfl,hp11,hg11⟩
  have HS11:=Lh (HT10.out.grown hg11 hp11)
  clear hp11 hg11 hq HI11
  go_upto_if 55 with fail
  go_cut [] (fun wx=>∃ cs:Array Value,ST w0 r tv L en true w (w.heap.size + 1) g s12 cs { kind:=8,items:=i1,src:=j0,wh:=l7,group:=g9,having:=l10,order:=o12,limit:=-1 } wx)
  case first=>
   cases B11
   ·obtain ⟨rfl,rfl⟩:o12 = []∧s12=s10:=by have e:=HG12.out;rw [by_no HB11.out] at e;cases e;exact ⟨rfl,rfl⟩
    go_wp2_with fail
    go_meet
    exact ⟨_,HS11.out⟩
   have HS11b:Hid (ST w0 r tv L en true w (w.heap.size + 1) g s10.next cs10 { kind:=8,items:=i1,src:=j0,wh:=l7,group:=g9,having:=l10,limit:=-1 } v11):=HS11
   obtain ⟨s31,h31⟩:∃ z,(mustM L en [WBY] (s10.next)).2=z:=⟨_,rfl⟩
   have hc31:=Zaw WBY v11 HS11b.out.pb
   rw [h31] at hc31
   have HC31:=Lh hc31
   have HE31:Hid (mustM L en [WBY] (s10.next)=((),s31)):=Lh (by rw [← h31])
   clear h31 hc31
   have hq:=HS11b.out.cell
   go_wp2_with fail
   refine HC31.out.mono ?_
   rintro e31 w31 ⟨rfl,hp31,hg31⟩
   have HT31:=Lh (HS11b.out.grown hg31 hp31)
   clear hp31 hg31 HC31 hq
   obtain ⟨⟨l32,s32⟩,h32⟩:∃ z,listM L en (orderM L en) FU (s31)=z:=⟨_,rfl⟩
   have hc32:=Zu9 (L:=L) (en:=en) (fun s=>(Sim.orderM (L:=L) (L':=L) (en:=en) (en':=en) (d:=0)).mono s |>.1) _ w.heap.size rfl w31 s31.k (orderRun HA.out w.heap.size w31 s31.k HT31.out.q) s31 (Nat.le_refl _) HT31.out.pb
   rw [h32] at hc32
   have HC32:=Lh hc32
   have HE32:=Lh h32
   clear h32 hc32
   have hq:=HT31.out.cell
   go_wp2_with fail
   refine HC32.out.mono ?_
   rintro e32 v32 ⟨u32,rfl,hn32,hp32,hg32⟩
   obtain ⟨a32,b32,rfl,-⟩:=hn32.here.shape
   have hS32:=HT31.out.grown hg32 hp32
   have hd32:=HT31.out.dep hn32 HT31.out.lt
   clear hn32
   obtain ⟨o32,c32⟩:=hS32.sg.cell 14 kD
   have f32:=hS32.sg.row.free 14
   have HT32:=Lh (hS32.lay (hS32.sg.put_order _ l32 hd32))
   clear hd32 hp32 hg32 HC32 hS32 hq
   go_wp2_with fail
   go_meet
   obtain ⟨rfl,rfl⟩:o12=l32∧s12=s32:=by have e:=HG12.out;rw [by_yes HB11.out,Za1 HE31.out,HE32.out] at e;cases e;exact ⟨rfl,rfl⟩
   exact ⟨_,HT32.out⟩
  rename World=>w11
  obtain ⟨cs11,hT11⟩:=hcut
  have HT11:=Lh hT11
  clear hT11
  have HI13:=Lh (isW Zdv w11 HT11.out.pb)
  obtain ⟨B13,hB13⟩:∃ B,isB L en Zdv s12=B:=⟨_,rfl⟩
  rw [Z2,hB13] at HI13
  have HB13:=Lh hB13
  have hq:=HT11.out.cell
  clear hB13
  cases B13
  ·go_wp2_with fail
   refine HI13.out.mono ?_
   rintro e13 w13 ⟨rfl,hp13,hg13⟩
   have HT13:Hid (ST w0 r tv L en true w (w.heap.size + 1) g s12 cs11 { kind:=8,items:=i1,src:=j0,wh:=l7,group:=g9,having:=l10,order:=o12,limit:=-1 } w13):=Lh (HT11.out.grown hg13 hp13)
   have HZF:Hid (Z=({ kind:=8,items:=i1,src:=j0,wh:=l7,group:=g9,having:=l10,order:=o12,limit:=-1 },s12)):=Lh (by rw [HZ12.out,ch6_no HB13.out])
   clear hp13 hg13 hq HI13
   have hb:=HT13.out.sg.rb
   have ho:=HT13.out.sg.row.of
   have hr:=HT13.out.rb
   have hok:=HT13.out.sg.ok
   have HFIN:Hid (New w.heap.size (w13.setRow (w.heap.size + 1) cs11) (fun u=>AgV StR u (.agg cs11) Z.1)∧PB w0 r tv L en Z.2 (w13.setRow (w.heap.size + 1) cs11)∧w.grownBy (w13.setRow (w.heap.size + 1) cs11) (some r)):=Lh (by rw [HZF.out];exact HT13.out.fin)
   have HSZ:Hid (cs11.size=16):=Lh HT13.out.sg.size
   have HRW:=Lh (HT13.out.rs.set cs11)
   clear HT13 HZF
   go_wp2_with (refine bodyPost_ret (v:=.agg cs11) (Zq Tryz.results84 Zar Zbh _ _ (w.heap.size + 1) _ _ rfl HRW.out HSZ.out) rfl ?_;exact ⟨_,rfl,HFIN.out⟩)
  go_wp2_with fail
  refine HI13.out.mono ?_
  rintro e13 v13 ⟨rfl,hp13,hg13⟩
  obtain ⟨sl,hsl⟩:∃ z,z=s12.next:=⟨_,rfl⟩
  have HT13:Hid (ST w0 r tv L en true w (w.heap.size + 1) g sl cs11 { kind:=8,items:=i1,src:=j0,wh:=l7,group:=g9,having:=l10,order:=o12,limit:=-1 } v13):=Lh (HT11.out.grown hg13 (by rw [hsl];exact hp13))
  have HZL:Hid (∀ m s1,numM L en sl=(m,s1)→Z=({ kind:=8,items:=i1,src:=j0,wh:=l7,group:=g9,having:=l10,order:=o12,limit:=m },s1)):=Lh (fun m s1 h=>by rw [HZ12.out,ch6_yes (m:=m) (s1:=s1) HB13.out (by rw [← hsl];exact h)])
  have HTK:=Lh (Zk9 v13 HT13.out.pb)
  obtain ⟨T,hT⟩:∃ T,Zag L en sl.k=T:=⟨_,rfl⟩
  rw [hT] at HTK
  have HTT:=Lh hT
  clear hp13 hg13 hq HI13 hT hsl
  have hq:=HT13.out.cell
  go_wp2_with fail
  refine HTK.out.mono ?_
  rintro e14 v14 ⟨rfl,hb14⟩
  have HT14:=Lh ((HT13.out.later hb14).later ((Below.refl _ v14).alloc (Nat.le_refl _) (.cells #[.int .u8 (T.k:Int),.string T.s,.int .u64 (T.n:Int),.int .i64 T.a] 128)))
  have HX14:=Lh (Zc v14 128 #[.int .u8 (T.k:Int),.string T.s,.int .u64 (T.n:Int),.int .i64 T.a])
  have HZ14:Hid (g < v14.heap.size):=Lh (HT13.out.later hb14).lt
  clear hb14 hq HTK
  go_upto_region 23 with fail
  generalize v14.alloc (.cells #[.int .u8 (T.k:Int),.string T.s,.int .u64 (T.n:Int),.int .i64 T.a] 128)=w14 at *
  generalize v14.heap.size=gt at *
  have t0:=HX14.out.cell (i:=0) (v:=.int .u8 (T.k:Int)) rfl
  have t2:=HX14.out.cell (i:=2) (v:=.int .u64 (T.n:Int)) rfl
  have hq:=HT14.out.cell
  by_cases hk:T.k=3
  ·by_cases hn:1073741824 < T.n
   ·have e1:((T.k:Int) != 3)=false:=by simp [hk]
    have e2:(1073741824:Int) < (T.n:Int):=kW
    have HZF:Hid (Z=({ kind:=8,items:=i1,src:=j0,wh:=l7,group:=g9,having:=l10,order:=o12,limit:=-1 },Zem L en 5 sl)):=Lh (HZL.out _ _ (by unfold numM;rw [HTT.out,if_neg (by simp [hk]),if_pos hn]))
    have HF:=Lh (Zol w14 5 HT14.out.pb)
    clear hk hn HZL
    exact ks16
   have e1:((T.k:Int) != 3)=false:=by simp [hk]
   have e2:¬ (1073741824:Int) < (T.n:Int):=kW
   have e3:(T.n:Int) ≤ 1073741824:=kW
   have e4:(0:Int) ≤ (T.n:Int):=kW
   have HZF:Hid (Z=({ kind:=8,items:=i1,src:=j0,wh:=l7,group:=g9,having:=l10,order:=o12,limit:=(T.n:Int) },sl.next)):=Lh (HZL.out _ _ (by unfold numM;rw [HTT.out,if_neg (by simp [hk]),if_neg hn]))
   have HKL:Hid (sl.k < L.length):=Lh (Zf8 (L:=L) (en:=en) (by rw [HTT.out,hk];decide))
   have HL4:=Lh HT14.out.pb.hl
   obtain ⟨oL,cL⟩:=HT14.out.sg.cell 15 kD
   have fL:=HT14.out.sg.row.free 15
   have HTL:=Lh (HT14.out.lay (HT14.out.sg.put_limit (T.n:Int)))
   clear hk hn HZL
   go_upto_region 22 with fail
   clear cL fL oL t0 t2 hq e1 e2 e3 e4
   generalize w14.setCell ⟨g,15,none⟩ (.int .i64 (T.n:Int))=w15 at *
   generalize cs11.setIfInBounds 15 (.int .i64 (T.n:Int))=cs15 at *
   have hq:=HTL.out.cell
   have p1:=HTL.out.pb.c1
   have f1:=HTL.out.pb.f1
   have HT15:Hid (ST w0 r tv L en true w (w.heap.size + 1) g sl.next cs15 { kind:=8,items:=i1,src:=j0,wh:=l7,group:=g9,having:=l10,order:=o12,limit:=(T.n:Int) } (w15.setCell ⟨r,1,none⟩ (.int .i64 ((sl.k:Int) + 1)))):=Lh (HTL.out.grown (Z3 w15 r 1 _) (HTL.out.pb.next HKL.out))
   have h1:(sl.k:Int) ≤ 4096:=Int.ofNat_le.2 (Nat.le_trans (Nat.le_of_lt HKL.out) HL4.out)
   have h0:(0:Int) ≤ (sl.k:Int):=kW
   go_upto_region 27 with fail
   clear p1 f1 hq h1 h0
   generalize w15.setCell ⟨r,1,none⟩ (.int .i64 ((sl.k:Int) + 1))=w16 at *
   have hb:=HT15.out.sg.rb
   have ho:=HT15.out.sg.row.of
   have hr:=HT15.out.rb
   have hok:=HT15.out.sg.ok
   have HFIN:Hid (New w.heap.size (w16.setRow (w.heap.size + 1) cs15) (fun u=>AgV StR u (.agg cs15) Z.1)∧PB w0 r tv L en Z.2 (w16.setRow (w.heap.size + 1) cs15)∧w.grownBy (w16.setRow (w.heap.size + 1) cs15) (some r)):=Lh kb77
   have HSZ:Hid (cs15.size=16):=Lh HT15.out.sg.size
   have HRW:=Lh (HT15.out.rs.set cs15)
   clear HT15 HZF
   go_wp2_with (refine bodyPost_ret (v:=.agg cs15) (Zq Tryz.results84 Zar Zbh _ _ (w.heap.size + 1) _ _ rfl HRW.out HSZ.out) rfl ?_;exact ⟨_,rfl,HFIN.out⟩)
  have e1:((T.k:Int) != 3)=true:=kQ
  have HZF:Hid (Z=({ kind:=8,items:=i1,src:=j0,wh:=l7,group:=g9,having:=l10,order:=o12,limit:=-1 },Zem L en 6 sl)):=Lh (HZL.out _ _ (by unfold numM;rw [HTT.out,if_pos hk]))
  have HF:=Lh (Zol w14 6 HT14.out.pb)
  clear hk HZL
  exact ks16
 go_wp2_with fail
 go_loopg [] (L.length + 1 - s5.k) (fun gk wr=>∃ (l:List Zec) (ccs:List (List Value)) (v:Value) (sj:PS) (f:Nat),gk=L.length + 1 - sj.k∧Hid (JT w0 r tv L en w g n sj cs2 { kind:=8,items:=i1,limit:=-1 } v v l ccs wr)∧Hid ((j0,s6)=joinsM L en f l sj)∧Hid (L.length + 1 - sj.k ≤ f)∧Hid (l.length ≤ sj.k + 1))
 case atStart=>exact ⟨_,_,_,s5,FU,rfl,HJ0,Lh HJ6.out.symm,Lh (by have:=HL.out;show _ ≤ 100000;omega),Lh kY⟩
 case round=>
  obtain ⟨l,ccs,v,sj,f,rfl,HJ,HRC,HF,HLE⟩:=hrel
  obtain ⟨f',rfl⟩:∃ f',f=f' + 1:=⟨f - 1,by have:=HF.out;have h1:=HJ.out.pb.hk;omega⟩
  have HI7:=Lh (isW Zfy wr HJ.out.pb)
  obtain ⟨B7,hB7⟩:∃ B,isB L en Zfy sj=B:=⟨_,rfl⟩
  rw [Z2,hB7] at HI7
  have HB7:=Lh hB7
  have hq:=HJ.out.cell
  clear hB7
  cases B7
  ·obtain ⟨rfl,rfl⟩:j0=l∧s6=sj:=by have e:=HRC.out;rw [joins_no HB7.out] at e;cases e;exact ⟨rfl,rfl⟩
   go_wp2_with fail
   refine HI7.out.mono ?_
   rintro e7 w6 ⟨rfl,hp7,hg7⟩
   have HT6:=Lh (HJ.out.grown hg7 hp7).toST
   clear hp7 hg7 HI7 hq
   go_wp2_with fail
   go_meet
   exact ⟨_,HT6.out⟩
  obtain ⟨⟨x1,s8⟩,h8⟩:∃ z,sourceM L en sj.next=z:=⟨_,rfl⟩
  obtain ⟨s9,h9⟩:∃ z,(mustM L en [WON] s8).2=z:=⟨_,rfl⟩
  obtain ⟨⟨y,s10⟩,h10⟩:∃ z,exprM L en s9=z:=⟨_,rfl⟩
  have HRC2:Hid ((j0,s6)=joinsM L en f' (l ++ [{ x1 with on:=[y] }]) s10):=Lh (by rw [HRC.out,Zve HB7.out,Za1 h8,Za1 (x:=()) (s1:=s9) (by rw [← h9]),Za1 h10])
  have HK:Hid (sj.k + 1 ≤ s10.k):=Lh (by
   have k1:sj.next.k ≤ s8.k:=by have:=(Sim.sourceM (L:=L) (L':=L) (en:=en) (en':=en) (d:=0)).mono sj.next |>.1;rw [h8] at this;exact this
   have k2:s8.k ≤ s9.k:=by have:=(Sim.mustM (L:=L) (L':=L) (en:=en) (en':=en) (d:=0) [WON]).mono s8 |>.1;rw [h9] at this;exact this
   have k3:s9.k ≤ s10.k:=by have:=(Sim.exprM (L:=L) (L':=L) (en:=en) (en':=en) (d:=0)).mono s9 |>.1;rw [h10] at this;exact this
   have k0:sj.next.k=sj.k + 1:=rfl
   omega)
  have HE8:=Lh h8
  have HE9:=Lh h9
  have HE10:=Lh h10
  have hon:=Znu (L:=L) (en:=en) sj.next
  rw [h8] at hon
  obtain ⟨t1,a1,on1⟩:=x1
  obtain rfl:on1 = []:=hon
  clear h8 h9 h10
  go_wp2_with fail
  refine HI7.out.mono ?_
  rintro e7 w7 ⟨rfl,hp7,hg7⟩
  have HJ7:Hid (JT w0 r tv L en w g n sj.next cs2 { kind:=8,items:=i1,limit:=-1 } v v l ccs w7):=Lh (HJ.out.grown hg7 hp7)
  clear hp7 hg7 HI7 hq
  have hc8:=Zt3 w7 HJ7.out.pb
  rw [HE8.out] at hc8
  have HC8:=Lh hc8
  have hq:=HJ7.out.cell
  have hok3:Zav 3 #[.string t1,.string a1,nS]=true:=by rw [Zj5];rfl
  clear hc8
  go_wp2_with fail
  refine HC8.out.mono ?_
  rintro e8 v8 ⟨rfl,hp8,hg8⟩
  have HJ8:=Lh (HJ7.out.grown hg8 hp8)
  have HG8:Hid (w7.grownBy (v8.alloc (.cells #[.string t1,.string a1,nS] 110)) (some r)):=Lh (Za hg8 (Zfu _ _ _))
  have HP8:Hid (PB w0 r tv L en s8 (v8.alloc (.cells #[.string t1,.string a1,nS] 110))):=Lh (PB.later hp8 ((Below.refl _ v8).alloc (Nat.le_refl _) _))
  have HX8:=Lh (Zc v8 110 #[.string t1,.string a1,nS])
  have HZ8:Hid (w7.heap.size ≤ v8.heap.size):=Lh hg8.size
  clear hp8 hg8 hq HC8
  go_upto_region 8 with fail
  clear hok3
  generalize v8.alloc (.cells #[.string t1,.string a1,nS] 110)=w8 at *
  generalize v8.heap.size=gx at *
  have hc9:=Zaw WON w8 HP8.out
  rw [HE9.out] at hc9
  have HC9:=Lh hc9
  have hq:=(HJ7.out.bx.grown HG8.out (Nat.ne_of_gt HR.out)).cell (i:=0) (v:=pV r) rfl
  clear hc9
  go_wp2_with fail
  refine HC9.out.mono ?_
  rintro e9 w9 ⟨rfl,hp9,hg9⟩
  have HG9:=Lh (Za HG8.out hg9)
  have HX9:=Lh (HX8.out.grown hg9 kb61)
  have hc10:=Zso HA.out s9 w9 hp9
  rw [HE10.out] at hc10
  have HC10:=Lh hc10
  clear hp9 hg9 hq hc10 HC9
  have hq:=(HJ7.out.bx.grown HG9.out (Nat.ne_of_gt HR.out)).cell (i:=0) (v:=pV r) rfl
  go_wp2_with fail
  refine HC10.out.mono ?_
  rintro e10 v10 ⟨u10,rfl,hn10,hp10,hg10⟩
  obtain ⟨c,rfl,hx10⟩:=ExN.of hn10
  have hok:=hx10.ok
  have HGA:Hid (w7.grownBy (v10.alloc (.cells c 48)) (some r)):=Lh (Za (Za HG9.out hg10) (Zfu _ _ _))
  have HPA:Hid (PB w0 r tv L en s10 (v10.alloc (.cells c 48))):=Lh (PB.later hp10 ((Below.refl _ v10).alloc (Nat.le_refl _) _))
  have HXA:=Lh ((HX9.out.grown hg10 kb61).later ((Below.refl _ v10).alloc (Nat.le_refl _) (.cells c 48)))
  have HSZ:Hid (gx < w9.heap.size):=Lh HX9.out.lt
  have HKD:=Lh (kid1 (hx10.mono (m:=w9.heap.size) (Nat.le_refl _)) hg10.size)
  have cx:=HXA.out.cell (i:=2) (v:=nS) rfl
  have fx:=HXA.out.free 2
  clear hn10 hp10 hg10 hx10 HC10 hq
  go_upto_region 10 with fail
  clear cx fx hok
  have hex:=setCell_eq_setRow (v10.alloc (.cells c 48)) gx 2 _ _ _ (.slice (some ⟨v10.heap.size,0,none⟩) 1 1) HXA.out
  have HXB:Hid (Row gx 110 #[.string t1,.string a1,.slice (some ⟨v10.heap.size,0,none⟩) 1 1] ((v10.alloc (.cells c 48)).setCell ⟨gx,2,none⟩ (.slice (some ⟨v10.heap.size,0,none⟩) 1 1))):=Lh (by rw [hex];exact HXA.out.set _)
  have HJB:Hid (JT w0 r tv L en w g n s10 cs2 { kind:=8,items:=i1,limit:=-1 } v v l ccs ((v10.alloc (.cells c 48)).setCell ⟨gx,2,none⟩ (.slice (some ⟨v10.heap.size,0,none⟩) 1 1))):=Lh (by
   rw [hex]
   exact HJ7.out.grown (Zn HGA.out HZ8.out _) (HPA.out.other (Zi _ _ _) kb61))
  have HYB:Hid (New w9.heap.size ((v10.alloc (.cells c 48)).setCell ⟨gx,2,none⟩ (.slice (some ⟨v10.heap.size,0,none⟩) 1 1)) fun u=>Zo2 u [.string t1,.string a1,.slice (some ⟨v10.heap.size,0,none⟩) 1 1] ⟨t1,a1,[y]⟩):=Lh (by
   rw [hex]
   exact (Dep.step HKD.out kY fun b hb _=>⟨hb,setRow_other _ gx b _ kb39⟩).imp fun u hu=>⟨_,rfl,hu⟩)
  have HNZ:Hid (n ≤ w9.heap.size∧∀ k,v.ownBlock=some k→k < w9.heap.size):=Lh (by
   have h1:=HG9.out.size
   refine ⟨?_,fun k hk=>?_⟩
   ·have h3:=HJ7.out.hnw
    omega
   ·have:=(World.ownsRow.lt HJ7.out.own.own k hk).2
    omega)
  generalize (v10.alloc (.cells c 48)).setCell ⟨gx,2,none⟩ (.slice (some ⟨v10.heap.size,0,none⟩) 1 1)=w10 at *
  generalize v10.heap.size=gy at *
  clear hex HXA HPA HGA HKD
  have HLEN:Hid (ccs.length ≤ 4097):=Lh (by have h1:=HJB.out.own.len;have h2:=HLE.out;have h3:=HJ.out.pb.hk;have h4:=HL.out;omega)
  obtain ⟨va,vc,hvs⟩:=HJB.out.own.shape
  subst hvs
  have c10:=HJB.out.c10
  have hbx:=HXB.out.b (n:=3) rfl
  have hox:=HXB.out.of
  have hrb:Zav 3 #[.string t1,.string a1,.slice (some ⟨gy,0,none⟩) 1 1]=true:=by rw [Zj5];rfl
  have hal:=(Below.refl w10.heap.size w10).alloc (Nat.le_refl _) (.cells #[.string t1,.string a1,.slice (some ⟨gy,0,none⟩) 1 1] 110)
  have HOA:=Lh (HJB.out.own.later hal)
  have HJA:=Lh (HJB.out.grown (Zfu w10 _ r) (HJB.out.pb.later hal))
  have HYA:=Lh (New.below HYB.out hal)
  have HNA:=Lh (Zc w10 110 #[.string t1,.string a1,.slice (some ⟨gy,0,none⟩) 1 1])
  clear hal
  go_wp2_with (at_builtin;refine Zae rfl (.tmp 33) (.tmp 35) 27 rfl n 110 3 56 elSrc (.slice va l.length vc) ccs.length ccs.flatten rfl HOA.out.own w10.heap.size 1 [.string t1,.string a1,.slice (some ⟨gy,0,none⟩) 1 1] rfl rfl (fun j u hj=>HNA.out.cell (by simpa using hj)) (by simp [Value.oneCell']) (by have:=HLEN.out;unfold maxLen;omega) (by have:=HLEN.out;omega) HJA.out.hnw ?_;intro v' w11 hown hg11 hv11;have HJX:=Lh (HJA.out.app hown hg11 hv11 rfl HYA.out HNZ.out.1 HNZ.out.2);clear hown hg11 hv11;obtain ⟨va',vc',hv'⟩:=HJX.out.own.shape;rw [List.length_append,List.length_singleton] at hv';subst hv';have c10:=HJX.out.c10;have f10:=HJX.out.row.free 10)
  have HJY:=Lh (HJX.out.put)
  clear c10 f10
  go_roundg (L.length + 1 - s10.k)
  case measure=>have h1:=HK.out;have h3:=HJ.out.pb.hk;omega
  refine ⟨_,_,_,s10,f',rfl,HJY,HRC2,Lh (by have:=HF.out;have:=HK.out;omega),Lh (by rw [List.length_append];have:=HLE.out;have:=HK.out;show l.length + 1 ≤ _;omega)⟩
end
end Go.Proofs.YtmdogmpcmkfjpaaGreatDoor.Dt
