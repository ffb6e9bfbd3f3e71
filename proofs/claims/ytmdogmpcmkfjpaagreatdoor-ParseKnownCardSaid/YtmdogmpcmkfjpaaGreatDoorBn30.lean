import Derived.Test.YtmdogmpcmkfjpaaGreatDoorBn29
/- Part of the proof (merged). -/
namespace Go.Proofs.YtmdogmpcmkfjpaaGreatDoor.Dt
open Go.RowKit Go.Proofs.YtmdogmpcmkfjpaaGreatDoor.By
section
variable {w0:World} {r:Nat} {tv:Value} {L:List Tk} {en:Int}
def ch6 (L:List Tk) (en:Int) (i:List (PE × ByteArray)) (j:List PSrc) (w g h:List PE) (o:List (PE × Bool)):Rd PSt:=bnd (limitM L en) fun m=>ret { kind:=8,items:=i,src:=j,wh:=w,group:=g,having:=h,order:=o,limit:=m }
def ch5 (L:List Tk) (en:Int) (i:List (PE × ByteArray)) (j:List PSrc) (w g h:List PE):Rd PSt:=bnd (byM L en WORDER (orderM L en)) fun o=>ch6 L en i j w g h o
def ch4 (L:List Tk) (en:Int) (i:List (PE × ByteArray)) (j:List PSrc) (w g:List PE):Rd PSt:=bnd (maybeM L en WHAVING) fun h=>ch5 L en i j w g h
def ch3 (L:List Tk) (en:Int) (i:List (PE × ByteArray)) (j:List PSrc) (w:List PE):Rd PSt:=bnd (byM L en WGROUP (exprM L en)) fun g=>ch4 L en i j w g
def ch2 (L:List Tk) (en:Int) (i:List (PE × ByteArray)) (j:List PSrc):Rd PSt:=bnd (maybeM L en WWHERE) fun w=>ch3 L en i j w
def ch1 (L:List Tk) (en:Int) (i:List (PE × ByteArray)):Rd PSt:=bnd (mustM L en [WFROM]) fun _=>bnd (sourceM L en) fun x=>bnd (joinsM L en FU [x]) fun j=>ch2 L en i j
def itemsM (L:List Tk) (en:Int):Rd (List (PE × ByteArray)):=bnd (isM L en BSTAR) fun b=>if b then ret [] else listM L en (itemM L en) FU
theorem choose_eq (s:PS):chooseM L en s=bnd (itemsM L en) (ch1 L en) s:=rfl
theorem joins_no {f:Nat} {l:List PSrc} {s:PS} (h:isB L en WJOIN s=false):joinsM L en (f + 1) l s=(l,s):=by
 show bnd (isM L en WJOIN) _ s=_
 rw [isN h,if_neg Bool.false_ne_true];rfl
theorem joins_yes {f:Nat} {l:List PSrc} {s:PS} (h:isB L en WJOIN s=true):joinsM L en (f + 1) l s=(bnd (sourceM L en) fun x=>bnd (mustM L en [WON]) fun _=>bnd (exprM L en) fun y=>joinsM L en f (l ++ [{ x with on:=[y] }])) s.next:=by
 show bnd (isM L en WJOIN) _ s=_
 rw [isY h,if_pos rfl]
theorem by_no {α:Type} {t:ByteArray} {one:Rd α} {s:PS} (h:isB L en t s=false):byM L en t one s=([],s):=by
 show bnd (isM L en t) _ s=_
 rw [isN h,if_neg Bool.false_ne_true];rfl
theorem by_yes {α:Type} {t:ByteArray} {one:Rd α} {s:PS} (h:isB L en t s=true):byM L en t one s=(bnd (mustM L en [WBY]) fun _=>listM L en one FU) s.next:=by
 show bnd (isM L en t) _ s=_
 rw [isY h,if_pos rfl]
theorem items_no {s:PS} (h:isB L en BSTAR s=false):itemsM L en s=listM L en (itemM L en) FU s:=by
 show bnd (isM L en BSTAR) _ s=_
 rw [isN h,if_neg Bool.false_ne_true]
theorem items_yes {s:PS} (h:isB L en BSTAR s=true):itemsM L en s=([],s.next):=by
 show bnd (isM L en BSTAR) _ s=_
 rw [isY h,if_pos rfl];rfl
theorem ch6_no {i:List (PE × ByteArray)} {j:List PSrc} {w g h:List PE} {o:List (PE × Bool)} {s:PS} (hb:isB L en WLIMIT s=false):ch6 L en i j w g h o s=({ kind:=8,items:=i,src:=j,wh:=w,group:=g,having:=h,order:=o,limit:=-1 },s):=by
 unfold ch6
 rw [bndE (x:=(-1:Int)) (s1:=s)]
 ·rfl
 ·show bnd (isM L en WLIMIT) _ s=_
  rw [isN hb,if_neg Bool.false_ne_true];rfl
theorem ch6_yes {i:List (PE × ByteArray)} {j:List PSrc} {w g h:List PE} {o:List (PE × Bool)} {s s1:PS} {m:Int} (hb:isB L en WLIMIT s=true) (hn:numM L en s.next=(m,s1)):ch6 L en i j w g h o s=({ kind:=8,items:=i,src:=j,wh:=w,group:=g,having:=h,order:=o,limit:=m },s1):=by
 unfold ch6
 rw [bndE (x:=m) (s1:=s1)]
 ·rfl
 ·show bnd (isM L en WLIMIT) _ s=_
  rw [isY hb,if_pos rfl]
  exact hn
structure JT (w0:World) (r:Nat) (tv:Value) (L:List Tk) (en:Int) (w:World) (g n:Nat) (s:PS) (d:Array Value) (x:PSt) (v v':Value) (l:List PSrc) (ccs:List (List Value)) (W:World):Prop where
 pb:PB w0 r tv L en s W
 gr:w.grownBy W (some r)
 bx:Row w.heap.size 75 #[.pointer (some ⟨r,0,none⟩)] W
 rs:Row (w.heap.size + 1) 31 stZ W
 row:Row g 31 (d.setIfInBounds 10 v) W
 dep:Dep (fun b=>(w.heap.size < b∧b ≠ w.heap.size + 1∧b ≠ g)∧b < n) W fun u=>StR u d.toList x
 own:OwnL 110 3 SrcR n W v' l ccs
 hr:r < w.heap.size
 hg:w.heap.size + 1 < g
 hn:g < n
 hnw:n ≤ W.heap.size
variable {w W W':World} {g n:Nat} {s s':PS} {d:Array Value} {x:PSt} {v v':Value} {l:List PSrc} {ccs:List (List Value)}
theorem JT.size (h:JT w0 r tv L en w g n s d x v v' l ccs W):d.size=16:=by simpa using (stCells _ _ _ h.dep.here).1
theorem JT.start {t a:ByteArray} {cs:Array Value} (h:ST w0 r tv L en true w (w.heap.size + 1) g s cs x W) (hp:PB w0 r tv L en s' W') (k:W.grownBy W' (some r)) :
 JT w0 r tv L en w g W'.heap.size s' cs x (.slice (some ⟨W'.heap.size,0,none⟩) 1 1) (.slice (some ⟨W'.heap.size,0,none⟩) 1 1) [⟨t,a,[]⟩] [[.string t,.string a,.slice none 0 0]]
  ((W'.alloc (.cells #[.string t,.string a,.slice none 0 0] 110)).setCell ⟨g,10,none⟩ (.slice (some ⟨W'.heap.size,0,none⟩) 1 1)):=by
 have h':=h.grown k hp
 have hb:=(Below.refl W'.heap.size W').alloc (Nat.le_refl _) (.cells #[.string t,.string a,.slice none 0 0] 110)
 have h2:=h'.later hb
 have hlt:=h'.lt
 have e:=setCell_eq_setRow _ g 10 cs _ _ (.slice (some ⟨W'.heap.size,0,none⟩) 1 1) h2.sg.row
 have h1:=h.hr
 have h3:=h.hqg
 rw [e]
 refine ⟨h2.pb.other (grown_setRow _ _ _) (by omega),grown_fill h2.gr (by omega) _,(setRow_other _ g _ _ (by omega)).trans (h2.bx rfl),(setRow_other _ g _ _ (by omega)).trans h2.rs,h2.sg.row.set _,?_,?_,h1,h3,hlt,by simp⟩
 ·refine Dep.step h'.sg.st ?_ fun b hb2 hlt2=>⟨⟨hb2,hlt2⟩,(setRow_other _ g _ _ hb2.2.2).trans (hb.block b hlt2)⟩
  simp
 ·have ho:=World.ownsRow_lit (base:=W'.heap.size) (e:=110) (size:=3) W' #[.string t,.string a,.slice none 0 0] 1 (Nat.le_refl _) (by decide) rfl
  have hO:OwnL 110 3 SrcR W'.heap.size (W'.alloc (.cells #[.string t,.string a,.slice none 0 0] 110)) (.slice (some ⟨W'.heap.size,0,none⟩) 1 1) [⟨t,a,[]⟩] [[.string t,.string a,.slice none 0 0]]:=
   ⟨ho,rfl,fun i c y hc hy=>by
    rcases i with _ | i
    ·simp at hc hy
     subst hc hy
     exact ⟨rfl,fun u _=>⟨_,rfl,SlR.nil _ _ _⟩⟩
    ·simp at hc⟩
  exact hO.grown (grown_setRow _ _ _) hlt
theorem JT.grown (h:JT w0 r tv L en w g n s d x v v' l ccs W) (k:W.grownBy W' (some r)) (hp:PB w0 r tv L en s' W'):JT w0 r tv L en w g n s' d x v v' l ccs W':=by
 have h1:=h.hr
 have h2:=h.hg
 have h3:=h.hn
 exact ⟨hp,grown_trans h.gr k,h.bx.grown k (by omega),h.rs.grown k (by omega),h.row.grown k (by omega),
  Dep.step h.dep k.size fun b hb hlt=>⟨hb,k.block b hlt (fun e=>by cases e;omega)⟩,h.own.grown k (by omega),h1,h2,h3,Nat.le_trans h.hnw k.size⟩
theorem JT.cell (h:JT w0 r tv L en w g n s d x v v' l ccs W):W.cell? ⟨w.heap.size,0,none⟩=some (.pointer (some ⟨r,0,none⟩)):=h.bx.cell rfl
theorem JT.c10 (h:JT w0 r tv L en w g n s d x v v' l ccs W):W.cell? ⟨g,10,none⟩=some v:=h.row.cell (by have:=h.size;simp [this])
theorem JT.app {v1:Value} {y:PSrc} {c:List Value} {m:Nat} (h:JT w0 r tv L en w g n s d x v v l ccs W) (hown:W'.ownsRow n 110 3 v1 (ccs.length + 1) (ccs.flatten ++ c)) (k:W.grownBy W' v.ownBlock)
 (hv:v1.ownBlock=v.ownBlock ∨ v1.ownBlock=some W.heap.size) (hc:c.length=3) (hy:New m W fun u=>SrcR u c y) (hnm:n ≤ m) (hm:∀ k,v.ownBlock=some k→k < m):JT w0 r tv L en w g n s d x v v1 (l ++ [y]) (ccs ++ [c]) W':=by
 have h1:=h.hr
 have h2:=h.hg
 have h3:=h.hn
 have hlo:∀ j,v.ownBlock=some j→n ≤ j:=fun j hj=>(World.ownsRow.lt h.own.own j hj).1
 have hkeep:∀ b,b < n→b < W.heap.size→W'.heap[b]? = W.heap[b]? :=fun b hb hbl=>k.block b hbl (fun e=>by have:=hlo b e.symm;omega)
 have hgl:=h.row.lt
 exact ⟨h.pb.row k (fun j hj=>by have:=hlo j hj;omega),grown_row h.gr k (fun j hj=>by have:=hlo j hj;omega),(hkeep _ (by omega) (by omega)).trans h.bx,(hkeep _ (by omega) (by omega)).trans h.rs,(hkeep _ (by omega) hgl).trans h.row,
  Dep.step h.dep k.size fun b hb hlt=>⟨hb,hkeep b hb.2 hlt⟩,h.own.snoc hown k hv hc hy hnm hm,h1,h2,h3,Nat.le_trans h.hnw k.size⟩
theorem JT.put (h:JT w0 r tv L en w g n s d x v v' l ccs W):JT w0 r tv L en w g n s d x v' v' l ccs (W.setCell ⟨g,10,none⟩ v'):=by
 have h1:=h.hr
 have h2:=h.hg
 have h3:=h.hn
 have e:=setCell_eq_setRow _ g 10 _ _ _ v' h.row
 rw [e]
 have e2:(d.setIfInBounds 10 v).setIfInBounds 10 v'=d.setIfInBounds 10 v':=by
  simp
 rw [e2]
 have hr:=h.row.set (d.setIfInBounds 10 v')
 exact ⟨h.pb.other (grown_setRow _ _ _) (by omega),grown_fill h.gr (by omega) _,(setRow_other _ g _ _ (by omega)).trans h.bx,(setRow_other _ g _ _ (by omega)).trans h.rs,hr,
  Dep.step h.dep (by simp) fun b hb _=>⟨hb,setRow_other _ g b _ hb.1.2.2⟩,h.own.grown (grown_setRow _ _ _) h3,h1,h2,h3,by simpa using h.hnw⟩
theorem JT.toST (h:JT w0 r tv L en w g n s d x v v l ccs W):ST w0 r tv L en true w (w.heap.size + 1) g s (d.setIfInBounds 10 v) { x with src:=l } W:=by
 have h1:=h.hr
 have h2:=h.hg
 have h3:=h.hn
 refine ⟨h.pb,h.gr,fun _=>h.bx,h.rs,⟨h.row,?_,by omega⟩,h1,by omega,h2,fun _=>by omega⟩
 refine Dep.imp2 (P:=fun u=>StR u d.toList x) (Q:=fun u=>SlR 3 SrcR u v l) (Dep.step h.dep (Nat.le_refl _) fun b hb _=>⟨hb.1,rfl⟩) (Dep.step h.own.done (Nat.le_refl _) fun b hb _=>⟨⟨by omega,by omega,by omega⟩,rfl⟩) ?_
 rintro u ⟨c4,c5,c6,c7,c8,c9,c10,c11,c12,c13,c14,e,h4,h5,h6,h7,h8,h9,h10,h11,h12,h13,h14⟩ hs
 exact ⟨c4,c5,c6,c7,c8,c9,v,c11,c12,c13,c14,by rw [Array.toList_setIfInBounds,e];rfl,h4,h5,h6,h7,h8,h9,hs,h11,h12,h13,h14⟩
end
end Go.Proofs.YtmdogmpcmkfjpaaGreatDoor.Dt
