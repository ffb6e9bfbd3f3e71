import Derived.Laws.Tables
import Derived.Laws.Rows
import Derived.Test.YtmdogmpcmkfjpaaGreatDoorProg
import Derived.ProofKit
import Derived.Test.YtmdogmpcmkfjpaaGreatDoorBj04
import Derived.Test.YtmdogmpcmkfjpaaGreatDoorBj14
import Derived.Test.YtmdogmpcmkfjpaaGreatDoorBj07
import Derived.Test.YtmdogmpcmkfjpaaGreatDoorBj11
/- Part of the proof (merged). -/
namespace Go.Proofs.YtmdogmpcmkfjpaaGreatDoor.Dt
open Go.RowKit Go.Proofs.YtmdogmpcmkfjpaaGreatDoor.By
def Dep (S:Nat→Prop) (w:World) (P:World→Prop):Prop:=∀ w',(∀ b,S b→b < w.heap.size→w'.heap[b]? = w.heap[b]?)→P w'
theorem Dep.here {S:Nat→Prop} {w:World} {P:World→Prop} (h:Dep S w P):P w:=h w fun _ _ _=>rfl
theorem Dep.step {S S':Nat→Prop} {w w':World} {P:World→Prop} (h:Dep S w P) (hz:w.heap.size ≤ w'.heap.size) (hs:∀ b,S b→b < w.heap.size→S' b∧w'.heap[b]? = w.heap[b]?):Dep S' w' P:=
 fun u hu=>h u fun b hb hlt=>(hu b (hs b hb hlt).1 (Nat.lt_of_lt_of_le hlt hz)).trans (hs b hb hlt).2
theorem Dep.imp {S:Nat→Prop} {w:World} {P Q:World→Prop} (h:Dep S w P) (hpq:∀ u,P u→Q u):Dep S w Q:=fun u hu=>hpq u (h u hu)
theorem Dep.imp2 {S:Nat→Prop} {w:World} {P Q R:World→Prop} (h:Dep S w P) (h2:Dep S w Q) (hpq:∀ u,P u→Q u→R u):Dep S w R:=fun u hu=>hpq u (h u hu) (h2 u hu)
theorem Dep.sub {S S':Nat→Prop} {w:World} {P:World→Prop} (h:Dep S w P) (hs:∀ b,S b→b < w.heap.size→S' b):Dep S' w P:=h.step (Nat.le_refl _) fun b h1 h2=>⟨hs b h1 h2,rfl⟩
def New (n:Nat) (w:World) (P:World→Prop):Prop:=Dep (fun b=>n ≤ b) w P
theorem New.here {n:Nat} {w:World} {P:World→Prop} (h:New n w P):P w:=Dep.here h
theorem New.const {n:Nat} {w:World} {P:Prop} (h:P):New n w (fun _=>P):=fun _ _=>h
theorem New.imp {n:Nat} {w:World} {P Q:World→Prop} (h:New n w P) (hpq:∀ u,P u→Q u):New n w Q:=Dep.imp h hpq
theorem New.mono {n m:Nat} {w:World} {P:World→Prop} (h:New n w P) (hm:m ≤ n):New m w P:=Dep.sub h fun _ hb _=>Nat.le_trans hm hb
theorem New.below {n:Nat} {w w':World} {P:World→Prop} (h:New n w P) (hb:Below w.heap.size w w'):New n w' P:=Dep.step h hb.size fun b h1 h2=>⟨h1,hb.block b h2⟩
theorem New.grown {n r:Nat} {w w':World} {P:World→Prop} (h:New n w P) (g:w.grownBy w' (some r)) (hr:r < n):New n w' P:=
 Dep.step h g.size fun b h1 h2=>⟨h1,g.block b h2 (fun e=>by cases e;omega)⟩
theorem New.stay {n r:Nat} {w w':World} {P:World→Prop} (h:New n w P) (g:w.grownBy w' (some r)) (hr:r < n):P w':=(h.grown g hr).here
def SlR {α:Type} (size:Nat) (R:World→List Value→α→Prop) (w:World) (v:Value) (l:List α):Prop:=
 ∃ cs:List (List Value),SlAt size (fun c=>c) w v cs∧cs.length=l.length∧∀ (i:Nat) (c:List Value) (x:α),cs[i]? = some c→l[i]? = some x→c.length=size∧R w c x
theorem SlR.shape {α:Type} {size:Nat} {R:World→List Value→α→Prop} {w:World} {v:Value} {l:List α} (h:SlR size R w v l):∃ a c,v = .slice a l.length c∧l.length ≤ c:=by
 obtain ⟨cs,⟨a,c,rfl,hc,_⟩,hl,_⟩:=h
 exact ⟨a,c,by rw [hl],by omega⟩
theorem SlR.nil {α:Type} (size:Nat) (R:World→List Value→α→Prop) (w:World):SlR size R w (.slice none 0 0) ([]:List α):=
 ⟨[],SlAt.nil _ _ _,rfl,fun i c x h=>by simp at h⟩
theorem SlR.get {α:Type} {size:Nat} {R:World→List Value→α→Prop} {w:World} {a:Option Addr} {n c k:Nat} {l:List α} {x:α} (h:SlR size R w (.slice a n c) l) (hk:l[k]? = some x) :
 ∃ b o cs,a=some ⟨b,o,none⟩∧cs.length=size∧R w cs x∧∀ (j:Nat) (u:Value),cs[j]? = some u→w.cell? ⟨b,o + k * size + j,none⟩=some u:=by
 obtain ⟨cs,⟨a',c',e,hc,h⟩,hl,hR⟩:=h
 simp only [Value.slice.injEq] at e
 obtain ⟨rfl,_,_⟩:=e
 have hlt:k < cs.length:=by rw [hl];exact (List.getElem?_eq_some_iff.1 hk).1
 obtain ⟨b,o,rfl,h'⟩:=h k cs[k] (by simp [hlt])
 obtain ⟨h1,h2⟩:=hR k cs[k] x (by simp [hlt]) hk
 exact ⟨b,o,cs[k],rfl,h1,h2,h'⟩
def PE.cells (x:PE) (kv:Value):List Value:=[.int .u8 (x.op:Int),.int .u8 (x.v.k:Int),.int .i64 x.v.n,.string x.v.s,.string x.t,.string x.m,.int .i64 x.n,kv]
inductive ExR (w:World):List Value→PE→Prop where
 | mk (x:PE) (kv:Value) (cs:List (List Value)) (h:SlAt 8 (fun c=>c) w kv cs) (hl:cs.length=x.kids.length) (h8:∀ (i:Nat) (c:List Value),cs[i]? = some c→c.length=8)
  (hk:∀ (i:Nat) (c:List Value) (y:PE),cs[i]? = some c→x.kids[i]? = some y→ExR w c y):ExR w (x.cells kv) x
abbrev ExsR (w:World) (v:Value) (l:List PE):Prop:=SlR 8 ExR w v l
theorem exR_iff {w:World} {cs:List Value} {x:PE} : ExR w cs x ↔ ∃ kv,cs=x.cells kv∧ExsR w kv x.kids:=by
 constructor
 ·exact fun h=>match h with
  | .mk _ kv cs ha hl h8 hk=>⟨kv,rfl,cs,ha,hl,fun i c y hc hy=>⟨h8 i c hc,hk i c y hc hy⟩⟩
 ·rintro ⟨kv,rfl,cs,h,hl,hk⟩
  refine .mk x kv cs h hl (fun i c hc=>?_) (fun i c y hc hy=>(hk i c y hc hy).2)
  have hlt:i < x.kids.length:=by rw [← hl];exact (List.getElem?_eq_some_iff.1 hc).1
  exact (hk i c x.kids[i] hc (by simp [hlt])).1
def ExV (w:World) (v:Value) (x:PE):Prop:=∃ cs,v = .agg cs.toArray∧ExR w cs x
theorem exV_of {w:World} {x:PE} {kv:Value} (h:ExsR w kv x.kids):ExV w (.agg #[.int .u8 (x.op:Int),.int .u8 (x.v.k:Int),.int .i64 x.v.n,.string x.v.s,.string x.t,.string x.m,.int .i64 x.n,kv]) x:=
 ⟨x.cells kv,rfl,exR_iff.2 ⟨kv,rfl,h⟩⟩
theorem ExV.open {w:World} {v:Value} {x:PE} (h:ExV w v x):∃ kv,v = .agg #[.int .u8 (x.op:Int),.int .u8 (x.v.k:Int),.int .i64 x.v.n,.string x.v.s,.string x.t,.string x.m,.int .i64 x.n,kv]∧ExsR w kv x.kids:=by
 obtain ⟨cs,rfl,h1⟩:=h
 obtain ⟨kv,rfl,h2⟩:=exR_iff.1 h1
 exact ⟨kv,rfl,h2⟩
structure PB (w0:World) (r:Nat) (tv:Value) (L:List Tk) (en:Int) (s:PS) (w:World):Prop where
 c0:w.cell? ⟨r,0,none⟩=some tv
 c1:w.cell? ⟨r,1,none⟩=some (.int .i64 (s.k:Int))
 c2:w.cell? ⟨r,2,none⟩=some (.int .i64 en)
 c3:w.cell? ⟨r,3,none⟩=some (.int .i64 (s.e:Int))
 c4:w.cell? ⟨r,4,none⟩=some (.int .i64 s.a)
 f1:w.frozen? ⟨r,1,none⟩=false
 f3:w.frozen? ⟨r,3,none⟩=false
 f4:w.frozen? ⟨r,4,none⟩=false
 tk:TksAt w0 tv L
 hb:Below w0.heap.size w0 w
 hr:w0.heap.size ≤ r
 hl:L.length ≤ 4096
 hk:s.k ≤ L.length
variable {w0 w w':World} {r:Nat} {tv:Value} {L:List Tk} {en:Int} {s:PS}
theorem PB.lt (h:PB w0 r tv L en s w):r < w.heap.size:=cell_lt h.c0
theorem PB.tks (h:PB w0 r tv L en s w):TksAt w tv L:=h.tk.below h.hb
theorem PB.later (h:PB w0 r tv L en s w) (hb:Below w.heap.size w w'):PB w0 r tv L en s w':=
 ⟨(hb.cell h.lt).trans h.c0,(hb.cell h.lt).trans h.c1,(hb.cell h.lt).trans h.c2,(hb.cell h.lt).trans h.c3,(hb.cell h.lt).trans h.c4,(hb.frozen h.lt).trans h.f1,(hb.frozen h.lt).trans h.f3,(hb.frozen h.lt).trans h.f4,
   h.tk,next h.hb hb,h.hr,h.hl,h.hk⟩
theorem PB.other {k:Nat} (h:PB w0 r tv L en s w) (g:w.grownBy w' (some k)) (hk:r < k):PB w0 r tv L en s w':=by
 have hc:∀ i,w'.cell? ⟨r,i,none⟩=w.cell? ⟨r,i,none⟩:=fun i=>World.cell?_of_block (w:=w) (g.block r h.lt (fun e=>by cases e;omega))
 have hf:∀ i,w'.frozen? ⟨r,i,none⟩=w.frozen? ⟨r,i,none⟩:=fun i=>by
  unfold World.frozen?
  rw [g.block r h.lt (fun e=>by cases e;omega)]
 exact ⟨(hc 0).trans h.c0,(hc 1).trans h.c1,(hc 2).trans h.c2,(hc 3).trans h.c3,(hc 4).trans h.c4,(hf 1).trans h.f1,(hf 3).trans h.f3,(hf 4).trans h.f4,h.tk,
  ⟨g.os.trans h.hb.os,g.tape.trans h.hb.tape,g.output.trans h.hb.output,Nat.le_trans h.hb.size g.size,fun b hb=>(g.block b (Nat.lt_of_lt_of_le hb h.hb.size) (fun e=>by cases e;have:=h.hr;omega)).trans (h.hb.block b hb)⟩,h.hr,h.hl,h.hk⟩
theorem PB.tok (h:PB w0 r tv L en s w) (hk:s.k < L.length):∃ b o c,tv = .slice (some ⟨b,o,none⟩) L.length c∧w.cell? ⟨b,o + s.k * 4,none⟩=some (.int .u8 ((tokP L en s.k).k:Int))∧w.cell? ⟨b,o + s.k * 4 + 1,none⟩=some (.string (tokP L en s.k).s) ∧
 w.cell? ⟨b,o + s.k * 4 + 2,none⟩=some (.int .u64 ((tokP L en s.k).n:Int))∧w.cell? ⟨b,o + s.k * 4 + 3,none⟩=some (.int .i64 (tokP L en s.k).a):=by
 have ht:=h.tks
 obtain ⟨a,c,rfl⟩:=ht.shape
 have e:L[s.k]? = some (tokP L en s.k):=by unfold tokP;rw [List.getElem?_eq_getElem hk];rfl
 obtain ⟨b,o,rfl,_,h0,h1,h2,h3⟩:=at4 ht e
 exact ⟨b,o,c,rfl,h0,h1,h2,h3⟩
theorem PB.next (h:PB w0 r tv L en s w) (hk:s.k < L.length):PB w0 r tv L en s.next (w.setCell ⟨r,1,none⟩ (.int .i64 ((s.k:Int) + 1))):=by
 refine ⟨(set_else3 w r 1 0 _ (by decide)).trans h.c0,?_,(set_else3 w r 1 2 _ (by decide)).trans h.c2,(set_else3 w r 1 3 _ (by decide)).trans h.c3,(set_else3 w r 1 4 _ (by decide)).trans h.c4,?_,?_,?_,h.tk,?_,h.hr,h.hl,hk⟩
 ·have:=set_same3 w ⟨r,1,none⟩ (.int .i64 ((s.k:Int) + 1)) _ h.c1
  simpa using this
 ·rw [World.frozen?_setCell];exact h.f1
 ·rw [World.frozen?_setCell];exact h.f3
 ·rw [World.frozen?_setCell];exact h.f4
 ·exact below_set h.hb h.hr
theorem PB.fail (h:PB w0 r tv L en s w) (e:Nat) (a:Int):PB w0 r tv L en { s with e:=e,a:=a } ((w.setCell ⟨r,3,none⟩ (.int .i64 (e:Int))).setCell ⟨r,4,none⟩ (.int .i64 a)):=by
 refine ⟨(set_else3 _ r 4 0 _ (by decide)).trans ((set_else3 w r 3 0 _ (by decide)).trans h.c0),(set_else3 _ r 4 1 _ (by decide)).trans ((set_else3 w r 3 1 _ (by decide)).trans h.c1),
  (set_else3 _ r 4 2 _ (by decide)).trans ((set_else3 w r 3 2 _ (by decide)).trans h.c2),(set_else3 _ r 4 3 _ (by decide)).trans (set_same3 w ⟨r,3,none⟩ _ _ h.c3),set_same3 _ ⟨r,4,none⟩ _ _ ((set_else3 w r 3 4 _ (by decide)).trans h.c4),?_,?_,?_,h.tk,?_,h.hr,h.hl,h.hk⟩
 ·rw [World.frozen?_setCell,World.frozen?_setCell];exact h.f1
 ·rw [World.frozen?_setCell,World.frozen?_setCell];exact h.f3
 ·rw [World.frozen?_setCell,World.frozen?_setCell];exact h.f4
 ·exact below_set (below_set h.hb h.hr) h.hr
def PRun (w0:World) (r:Nat) (tv:Value) (L:List Tk) (en:Int) (w1:World) (k0:Nat) {α:Type} (f:FuncId) (args:Array Value) (M:Rd α) (R:World→Value→α→Prop):Prop:=
 ∀ (s:PS) (w:World),k0 ≤ s.k→w1.grownBy w (some r)→PB w0 r tv L en s w→Calls Tryz.prog f args w fun e w'=>∃ v,e = .returned v∧New w.heap.size w' (fun u=>R u v (M s).1)∧PB w0 r tv L en (M s).2 w'∧w.grownBy w' (some r)
theorem PRun.grown {w1 w2:World} {k0 k1:Nat} {α:Type} {f:FuncId} {args:Array Value} {M:Rd α} {R:World→Value→α→Prop} (h:PRun w0 r tv L en w1 k0 f args M R) (g:w1.grownBy w2 (some r)) (hk:k0 ≤ k1):PRun w0 r tv L en w2 k1 f args M R:=
 fun s w h1 h2 h3=>h s w (Nat.le_trans hk h1) (grown_trans g h2) h3
end Go.Proofs.YtmdogmpcmkfjpaaGreatDoor.Dt
namespace Go.Proofs.YtmdogmpcmkfjpaaGreatDoor.Dt
open Go.RowKit Go.Proofs.YtmdogmpcmkfjpaaGreatDoor.By
abbrev Row (g:Nat) (t:TypeId) (cs:Array Value) (w:World):Prop:=w.heap[g]? = some (.cells cs t (0,0))
theorem Row.lt {g:Nat} {t:TypeId} {cs:Array Value} {w:World} (h:Row g t cs w):g < w.heap.size:=(Array.getElem?_eq_some_iff.1 h).1
theorem Row.later {g:Nat} {t:TypeId} {cs:Array Value} {w w':World} (h:Row g t cs w) (hb:Below w.heap.size w w'):Row g t cs w':=(hb.block g h.lt).trans h
theorem Row.grown {g r:Nat} {t:TypeId} {cs:Array Value} {w w':World} (h:Row g t cs w) (k:w.grownBy w' (some r)) (hr:g ≠ r):Row g t cs w':=(k.block g h.lt (fun e=>hr (by cases e;rfl))).trans h
theorem row_alloc (w:World) (t:TypeId) (cs:Array Value):Row w.heap.size t cs (w.alloc (.cells cs t)):=by
 show (w.heap.push _)[w.heap.size]? = _
 simp
theorem Row.set {g:Nat} {t:TypeId} {cs:Array Value} {w:World} (h:Row g t cs w) (cs':Array Value):Row g t cs' (w.setRow g cs'):=setRow_heap w g cs cs' t _ h
theorem Row.cell {g i:Nat} {t:TypeId} {cs:Array Value} {w:World} {v:Value} (h:Row g t cs w) (hi:cs[i]? = some v):w.cell? ⟨g,i,none⟩=some v:=by
 unfold World.cell?
 rw [h]
 simpa using hi
theorem grown_setRow (w:World) (g:Nat) (cs:Array Value):w.grownBy (w.setRow g cs) (some g):=⟨rfl,rfl,rfl,by simp,fun k _ hk=>setRow_other w g k cs (fun e=>hk (by rw [e]))⟩
theorem below_setRow' {B g:Nat} {w0 w:World} (h:Below B w0 w) (hg:B ≤ g) (cs:Array Value):Below B w0 (w.setRow g cs):=
 ⟨h.os,h.tape,h.output,by simpa using h.size,fun k hk=>(setRow_other w g k cs (by omega)).trans (h.block k hk)⟩
theorem grown_fill {w w':World} {r g:Nat} (h:w.grownBy w' (some r)) (hg:w.heap.size ≤ g) (cs:Array Value):w.grownBy (w'.setRow g cs) (some r):=
 ⟨h.os,h.tape,h.output,by simpa using h.size,fun k hk hn=>(setRow_other w' g k cs (by omega)).trans (h.block k hk hn)⟩
theorem grown_alloc (w:World) (o:Obj) (r:Nat):w.grownBy (w.alloc o) (some r):=below_grown ((Below.refl _ w).alloc (Nat.le_refl _) o)
theorem ex_cells {w:World} {cs:List Value} {x:PE} (h:ExR w cs x):cs.length=8∧∀ v ∈ cs,v.oneCell'=true:=by
 obtain ⟨kv,rfl,h2⟩:=exR_iff.1 h
 obtain ⟨a,c,rfl,_⟩:=h2.shape
 exact ⟨rfl,fun v hv=>by simp [PE.cells] at hv;rcases hv with rfl | rfl | rfl | rfl | rfl | rfl | rfl | rfl <;> rfl⟩
structure ExD (S:Nat→Prop) (w:World) (cs:Array Value) (x:PE):Prop where
 size:cs.size=8
 one:cs.all (·.oneCell')=true
 new:Dep S w fun u=>ExR u cs.toList x
abbrev ExN (n:Nat) (w:World) (cs:Array Value) (x:PE):Prop:=ExD (fun b=>n ≤ b) w cs x
theorem ExD.of {S:Nat→Prop} {w:World} {v:Value} {x:PE} (h:Dep S w fun u=>ExV u v x):∃ cs,v = .agg cs∧ExD S w cs x:=by
 obtain ⟨cs,rfl,hx⟩:=h.here
 obtain ⟨hl,h1⟩:=ex_cells hx
 refine ⟨cs.toArray,rfl,by simpa using hl,by simpa using h1,h.imp fun u hu=>?_⟩
 obtain ⟨cs',e,hx'⟩:=hu
 cases e
 simpa using hx'
theorem ExN.of {n:Nat} {w:World} {v:Value} {x:PE} (h:New n w fun u=>ExV u v x):∃ cs,v = .agg cs∧ExN n w cs x:=ExD.of h
theorem ExD.v {S:Nat→Prop} {w:World} {cs:Array Value} {x:PE} (h:ExD S w cs x):Dep S w fun u=>ExV u (.agg cs) x:=h.new.imp fun u hu=>⟨cs.toList,by simp,hu⟩
theorem ExD.step {S S':Nat→Prop} {w w':World} {cs:Array Value} {x:PE} (h:ExD S w cs x) (hz:w.heap.size ≤ w'.heap.size) (hs:∀ b,S b→b < w.heap.size→S' b∧w'.heap[b]? = w.heap[b]?):ExD S' w' cs x:=⟨h.size,h.one,h.new.step hz hs⟩
theorem ExD.later {S:Nat→Prop} {w w':World} {cs:Array Value} {x:PE} (h:ExD S w cs x) (hb:Below w.heap.size w w'):ExD S w' cs x:=h.step hb.size fun b h1 h2=>⟨h1,hb.block b h2⟩
theorem ExD.grown {S:Nat→Prop} {r:Nat} {w w':World} {cs:Array Value} {x:PE} (h:ExD S w cs x) (g:w.grownBy w' (some r)) (hr:¬ S r):ExD S w' cs x:=h.step g.size fun b h1 h2=>⟨h1,g.block b h2 (fun e=>by cases e;exact hr h1)⟩
theorem ExN.grown {n r:Nat} {w w':World} {cs:Array Value} {x:PE} (h:ExN n w cs x) (g:w.grownBy w' (some r)) (hr:r < n):ExN n w' cs x:=ExD.grown h g (by omega)
theorem ExN.mono {n m:Nat} {w:World} {cs:Array Value} {x:PE} (h:ExN n w cs x) (hm:m ≤ n):ExN m w cs x:=h.step (Nat.le_refl _) fun _ hb _=>⟨Nat.le_trans hm hb,rfl⟩
theorem ExD.set {S:Nat→Prop} {g:Nat} {w:World} {cs d:Array Value} {x:PE} (h:ExD S w cs x) (hg:¬ S g):ExD S (w.setRow g d) cs x:=h.step (by simp) fun b h1 _=>⟨h1,setRow_other w g b d (fun e=>hg (e ▸ h1))⟩
theorem exs_row {S:Nat→Prop} {g:Nat} {w:World} {t:TypeId} {css:List (Array Value)} {xs:List PE} (hr:Row g t (css.map Array.toList).flatten.toArray w) (hg:S g) (hl:css.length=xs.length)
 (hx:∀ (i:Nat) (c:Array Value) (x:PE),css[i]? = some c→xs[i]? = some x→ExD S w c x):Dep S w fun u=>ExsR u (.slice (some ⟨g,0,none⟩) xs.length xs.length) xs:=by
 intro u hu
 have hru:Row g t (css.map Array.toList).flatten.toArray u:=(hu g hg hr.lt).trans hr
 have h8:∀ (i:Nat) (c:Array Value),css[i]? = some c→c.size=8:=fun i c hc=>by
  have hi:i < xs.length:=by rw [← hl];exact (List.getElem?_eq_some_iff.1 hc).1
  exact (hx i c xs[i] hc (by simp [hi])).size
 refine ⟨css.map Array.toList,⟨_,_,by rw [List.length_map,hl],by rw [List.length_map,hl];exact Nat.le_refl _,fun i x hi=>⟨g,0,rfl,fun j v hj=>?_⟩⟩,by rw [List.length_map,hl],fun i c x hc hxi=>?_⟩
 ·refine hru.cell ?_
  have key:∀ (l:List (Array Value)) (i:Nat) (x:List Value) (j:Nat) (v:Value),(∀ c ∈ l,c.size=8)→(l.map Array.toList)[i]? = some x→x[j]? = some v→(l.map Array.toList).flatten[i * 8 + j]? = some v:=by
   intro l
   induction l with
   | nil=>intro i x j v _ h;simp at h
   | cons c l ih=>
    intro i x j v h8 hx hj
    have hc8:c.toList.length=8:=by simpa using h8 c (by simp)
    rcases i with _ | i
    ·simp at hx;subst hx
     have:j < 8:=by rw [← hc8];exact (List.getElem?_eq_some_iff.1 hj).1
     simp only [List.map_cons,List.flatten_cons]
     rw [List.getElem?_append_left (by omega),Nat.zero_mul,Nat.zero_add]
     exact hj
    ·simp only [List.map_cons,List.flatten_cons]
     rw [List.getElem?_append_right (by omega),show (i + 1) * 8 + j - c.toList.length=i * 8 + j by omega]
     exact ih i x j v (fun c hc=>h8 c (by simp [hc])) (by simpa using hx) hj
  rw [Nat.zero_add]
  simpa using key css i x j v (fun c hc=>by obtain ⟨i,hi⟩:=List.getElem?_of_mem hc;exact h8 i c hi) hi hj
 ·rw [List.getElem?_map] at hc
  cases hcc:css[i]? with
  | none=>rw [hcc] at hc;cases hc
  | some c'=>
   rw [hcc] at hc
   cases hc
   have:=hx i c' x hcc hxi
   exact ⟨by simpa using this.size,this.new u hu⟩
theorem exs_row1 {S:Nat→Prop} {g:Nat} {w:World} {t:TypeId} {c:Array Value} {x:PE} (hr:Row g t c w) (hg:S g) (hx:ExD S w c x):Dep S w fun u=>ExsR u (.slice (some ⟨g,0,none⟩) 1 1) [x]:=
 exs_row (css:=[c]) (xs:=[x]) (by simpa using hr) hg rfl (fun i c' x' hc hx'=>by
  rcases i with _ | i
  ·simp at hc hx';subst hc hx';exact hx
  ·simp at hc)
theorem exs_row2 {S:Nat→Prop} {g:Nat} {w:World} {t:TypeId} {c d:Array Value} {x y:PE} (hr:Row g t (c ++ d) w) (hg:S g) (hx:ExD S w c x) (hy:ExD S w d y):Dep S w fun u=>ExsR u (.slice (some ⟨g,0,none⟩) 2 2) [x,y]:=
 exs_row (css:=[c,d]) (xs:=[x,y]) (by simpa [← Array.toList_append] using hr) hg rfl (fun i c' x' hc hx'=>by
  rcases i with _ | _ | i
  ·simp at hc hx';subst hc hx';exact hx
  ·simp at hc hx';subst hc hx';exact hy
  ·simp at hc)
theorem ex_size:(Tryz.prog.info? 48).map (·.size)=some 8:=by kernel_rfl
def isSt:TypeDesc→Bool
 | .struct _=>true
 | _=>false
theorem st_of {P:Program} {T:TypeId} (h:(P.underlying T).map isSt=some true):∃ fs,P.underlying T=some (.struct fs):=by
 cases hq:P.underlying T with
 | none=>rw [hq] at h;cases h
 | some d=>
  rw [hq] at h
  cases d with
  | struct fs=>exact ⟨fs,rfl⟩
  | _=>cases h
theorem ex_struct:∃ fs,Tryz.prog.underlying 48=some (.struct fs):=st_of (by kernel_rfl)
theorem arr8 {c:Array Value} (h:c.size=8):∃ a0 a1 a2 a3 a4 a5 a6 a7,c = #[a0,a1,a2,a3,a4,a5,a6,a7]:=by
 obtain ⟨a,b,d,e,f,g,i,j,h⟩:=list8 (l:=c.toList) (by simpa using h)
 exact ⟨a,b,d,e,f,g,i,j,Array.toList_inj.1 h⟩
theorem run_bs1 (w:World) (c:Array Value) (h:c.size=8):(Instr.buildSlice 28 1 #[(0,.agg c)]).run Tryz.prog w = .ok (.slice (some ⟨w.heap.size,0,none⟩) 1 1) (w.alloc (.cells c 48)):=by
 obtain ⟨a0,a1,a2,a3,a4,a5,a6,a7,rfl⟩:=arr8 h
 go_simp
theorem run_bs2 (w:World) (c d:Array Value) (h:c.size=8) (h2:d.size=8):(Instr.buildSlice 28 2 #[(0,.agg c),(1,.agg d)]).run Tryz.prog w = .ok (.slice (some ⟨w.heap.size,0,none⟩) 2 2) (w.alloc (.cells (c ++ d) 48)):=by
 obtain ⟨a0,a1,a2,a3,a4,a5,a6,a7,rfl⟩:=arr8 h
 obtain ⟨b0,b1,b2,b3,b4,b5,b6,b7,rfl⟩:=arr8 h2
 go_simp
def veilSt (T:TypeId) (a:Addr) (v:Value):=storeVar T a v
def veilLd (T:TypeId) (a:Addr):=loadVar T a
theorem run_veilSt {T:TypeId} {n:Nat} (hi:(Tryz.prog.info? T).map (·.size)=some n) (W:World) (g:Nat) (old cells:Array Value) (t:TypeId) (hg:W.heap[g]? = some (.cells old t (0,0))) (ho:old.size=n) (hc:cells.size=n) (h1:cells.all (·.oneCell')=true) :
 (veilSt T ⟨g,0,none⟩ (.agg cells)).run Tryz.prog W = .ok () (W.setRow g cells):=
 run_storeVar_row W g t T old cells hg (by rw [hi,hc]) (ho.trans hc.symm) h1
theorem setRow_alloc (w:World) (cs cs':Array Value) (t:TypeId):(w.alloc (.cells cs t)).setRow w.heap.size cs'=w.alloc (.cells cs' t):=by
 have hm:∀ (a:Array Obj) (x:Obj) (f:Obj→Obj),(a.push x).modify a.size f=a.push (f x):=by
  intro a x f
  apply Array.ext
  ·simp
  ·intro i h1 h2
   simp only [Array.size_modify,Array.size_push] at h1
   rcases Nat.lt_or_ge i a.size with hi | hi
   ·simp [Array.getElem_modify,Array.getElem_push,hi,show a.size ≠ i by omega]
   ·obtain rfl:i=a.size:=by omega
    simp [Array.getElem_modify,Array.getElem_push]
 unfold World.setRow World.alloc
 simp only [hm]
theorem run_veilNew {T:TypeId} {n:Nat} (hi:(Tryz.prog.info? T).map (·.size)=some n) (W:World) (old cells:Array Value) (t:TypeId) (ho:old.size=n) (hc:cells.size=n) (h1:cells.all (·.oneCell')=true) :
 (veilSt T ⟨W.heap.size,0,none⟩ (.agg cells)).run Tryz.prog (W.alloc (.cells old t)) = .ok () (W.alloc (.cells cells t)):=by
 rw [run_veilSt hi _ _ old cells t (row_alloc W t old) ho hc h1,setRow_alloc]
theorem run_veilLd {T:TypeId} {n:Nat} {fs:Array Field} (hu:Tryz.prog.underlying T=some (.struct fs)) (hi:(Tryz.prog.info? T).map (·.size)=some n) (W:World) (g:Nat) (cells:Array Value) (t:TypeId) (hg:W.heap[g]? = some (.cells cells t (0,0))) (hc:cells.size=n) :
 (veilLd T ⟨g,0,none⟩).run Tryz.prog W = .ok (.agg cells) W:=
 run_loadVar_row W g t T cells (0,0) _ hg hu rfl (by rw [hi,hc])
theorem tk_size:(Tryz.prog.info? 128).map (·.size)=some 4:=by kernel_rfl
theorem tk_struct:∃ fs,Tryz.prog.underlying 128=some (.struct fs):=st_of (by kernel_rfl)
abbrev tkC (t:Tk):Array Value:=#[.int .u8 (t.k:Int),.string t.s,.int .u64 (t.n:Int),.int .i64 t.a]
abbrev tkZ:Array Value:=#[.int .u8 0,.string ⟨#[]⟩,.int .u64 0,.int .i64 0]
abbrev exZ:Array Value:=#[.int .u8 0,.int .u8 0,.int .i64 0,.string ⟨#[]⟩,.string ⟨#[]⟩,.string ⟨#[]⟩,.int .i64 0,.slice none 0 0]
theorem veilSt_ex (a:Addr) (v:Value):storeVar 48 a v=veilSt 48 a v:=rfl
theorem veilLd_ex (a:Addr):loadVar 48 a=veilLd 48 a:=rfl
theorem veilSt_tk (a:Addr) (v:Value):storeVar 128 a v=veilSt 128 a v:=rfl
def rowB (n:Nat) (w:World) (g:Nat):Bool:=match w.heap[g]? with
 | some (.cells cs _ fr)=>decide (fr=(0,0)) && decide (cs.size=n)
 | _=>false
def rowOf (w:World) (g:Nat):Array Value:=match w.heap[g]? with
 | some (.cells cs _ _)=>cs
 | _=>#[]
theorem Row.b {g n:Nat} {t:TypeId} {cs:Array Value} {w:World} (h:Row g t cs w) (hs:cs.size=n):rowB n w g=true:=by
 unfold rowB
 rw [h]
 simp [hs]
theorem Row.of {g:Nat} {t:TypeId} {cs:Array Value} {w:World} (h:Row g t cs w):rowOf w g=cs:=by
 unfold rowOf
 rw [h]
theorem rowB_row {g n:Nat} {w:World} (h:rowB n w g=true):∃ t cs,Row g t cs w∧cs.size=n∧rowOf w g=cs:=by
 unfold rowB at h
 split at h
 ·rename_i cs t fr e
  simp only [Bool.and_eq_true,decide_eq_true_eq] at h
  obtain ⟨rfl,hs⟩:=h
  exact ⟨t,cs,e,hs,Row.of e⟩
 ·cases h
def okRow (n:Nat) (cs:Array Value):Bool:=decide (cs.size=n) && cs.all (·.oneCell')
theorem okRow_iff {n:Nat} {cs:Array Value} : okRow n cs=true ↔ cs.size=n∧cs.all (·.oneCell')=true:=by unfold okRow;rw [Bool.and_eq_true,decide_eq_true_eq]
theorem okRow8 (a b c d e f g i:Value):okRow 8 #[a,b,c,d,e,f,g,i]=(a.oneCell' && (b.oneCell' && (c.oneCell' && (d.oneCell' && (e.oneCell' && (f.oneCell' && (g.oneCell' && i.oneCell'))))))):=by simp [okRow]
theorem okRow4 (a b c d:Value):okRow 4 #[a,b,c,d]=(a.oneCell' && (b.oneCell' && (c.oneCell' && d.oneCell'))):=by simp [okRow]
theorem ExD.ok {S:Nat→Prop} {w:World} {cs:Array Value} {x:PE} (h:ExD S w cs x):okRow 8 cs=true:=okRow_iff.2 ⟨h.size,h.one⟩
theorem run_exSt (W:World) (g:Nat) (cells:Array Value) (hg:rowB 8 W g=true) (h1:okRow 8 cells=true) :
 (veilSt 48 ⟨g,0,none⟩ (.agg cells)).run Tryz.prog W = .ok () (W.setRow g cells):=by
 obtain ⟨t,old,hr,ho,_⟩:=rowB_row hg
 obtain ⟨hc,h1⟩:=okRow_iff.1 h1
 exact run_veilSt ex_size W g old cells t hr ho hc h1
theorem run_exNew (W:World) (old cells:Array Value) (t:TypeId) (ho:old.size=8) (h1:okRow 8 cells=true) :
 (veilSt 48 ⟨W.heap.size,0,none⟩ (.agg cells)).run Tryz.prog (W.alloc (.cells old t)) = .ok () (W.alloc (.cells cells t)):=by
 obtain ⟨hc,h1⟩:=okRow_iff.1 h1
 exact run_veilNew ex_size W old cells t ho hc h1
theorem run_exLd (W:World) (g:Nat) (hg:rowB 8 W g=true):(veilLd 48 ⟨g,0,none⟩).run Tryz.prog W = .ok (.agg (rowOf W g)) W:=by
 obtain ⟨t,cs,hr,ho,e⟩:=rowB_row hg
 obtain ⟨fs,h⟩:=ex_struct
 rw [e]
 exact run_veilLd h ex_size W g cs t hr ho
theorem run_tkSt (W:World) (g:Nat) (cells:Array Value) (hg:rowB 4 W g=true) (h1:okRow 4 cells=true) :
 (veilSt 128 ⟨g,0,none⟩ (.agg cells)).run Tryz.prog W = .ok () (W.setRow g cells):=by
 obtain ⟨t,old,hr,ho,_⟩:=rowB_row hg
 obtain ⟨hc,h1⟩:=okRow_iff.1 h1
 exact run_veilSt tk_size W g old cells t hr ho hc h1
theorem run_tkNew (W:World) (old cells:Array Value) (t:TypeId) (ho:old.size=4) (h1:okRow 4 cells=true) :
 (veilSt 128 ⟨W.heap.size,0,none⟩ (.agg cells)).run Tryz.prog (W.alloc (.cells old t)) = .ok () (W.alloc (.cells cells t)):=by
 obtain ⟨hc,h1⟩:=okRow_iff.1 h1
 exact run_veilNew tk_size W old cells t ho hc h1
theorem res_row {fn:Func} {p:Tmp} {ty:TypeId} {n:Nat} (h:fn.results = #[.cell p ty]) (hs:∃ fs,Tryz.prog.underlying ty=some (.struct fs)) (hi:(Tryz.prog.info? ty).map (·.size)=some n) (tmps:Array Value) (w:World) (g:Nat) (t:TypeId) (cs:Array Value)
 (hp:tmps.getD p undef = .pointer (some ⟨g,0,none⟩)) (hg:Row g t cs w) (hc:cs.size=n):(results fn tmps).run Tryz.prog w = .ok (.agg cs) w:=by
 obtain ⟨fs,hu⟩:=hs
 exact results_cell_row h tmps w g t cs (0,0) _ hp hg hu rfl (by rw [hi,hc])
structure WS (w1:World) (b:Nat) (l:List UInt8) (w:World):Prop where
 bld:BuildW w1.heap.size b l w
 low:Below w1.heap.size w1 w
section
variable {w1 w w':World} {b:Nat} {l l':List UInt8}
theorem WS.lt (h:WS w1 b l w):b < w.heap.size:=h.bld.lt
theorem WS.later (h:WS w1 b l w) (hb:Below w.heap.size w w'):WS w1 b l w':=⟨h.bld.later hb,next h.low hb⟩
theorem below_trans {n:Nat} {w w1 w2:World} (h:Below n w w1) (k:Below n w1 w2):Below n w w2:=
 h.trans k
structure BX (b q:Nat) (t:TypeId) (cs:Array Value) (w:World):Prop where
 row:Row q t cs w
 ap:Apart q b w
theorem BX.keep {q:Nat} {t:TypeId} {cs:Array Value} (h:BX b q t cs w) (k:KeepW b w w'):BX b q t cs w':=⟨(k q h.ap).2.trans h.row,(k q h.ap).1⟩
theorem BX.later {q:Nat} {t:TypeId} {cs:Array Value} (h:BX b q t cs w) (hb:Below w.heap.size w w') (hl:b < w.heap.size):BX b q t cs w':=h.keep (KeepW.below hb hl)
theorem WS.box (h:WS w1 b l w) (t:TypeId) (cs:Array Value):BX b w.heap.size t cs (w.alloc (.cells cs t)):=
 ⟨row_alloc _ _ _,h.bld.new ((Below.refl _ w).alloc (Nat.le_refl _) _) (by simp)⟩
theorem WS.alloc (h:WS w1 b l w) (o:Obj):WS w1 b l (w.alloc o):=h.later ((Below.refl _ w).alloc (Nat.le_refl _) _)
theorem WS.keepAlloc (h:WS w1 b l w) (o:Obj):KeepW b w (w.alloc o):=KeepW.below ((Below.refl _ w).alloc (Nat.le_refl _) _) h.lt
end
def WPost (w1:World) (b:Nat) (l':List UInt8) (w:World) (e:Ending) (w':World):Prop:=e = .returned (.tuple #[])∧WS w1 b l' w'∧KeepW b w w'
theorem putsL_snoc (ws:List (List UInt8)) (x:List UInt8) (a:List UInt8):putsL (ws ++ [x]) a=putsL ws a ++ x ++ [32]:=by
 unfold putsL;simp
theorem putsL_len (ws:List (List UInt8)) (a:List UInt8):a.length ≤ (putsL ws a).length:=by
 unfold putsL;simp
theorem putsL_app (ws vs:List (List UInt8)) (a:List UInt8):putsL (ws ++ vs) a=putsL vs (putsL ws a):=by
 unfold putsL;simp
theorem ba_len (x:ByteArray):x.data.toList.length=x.size:=Array.length_toList
set_option maxRecDepth 100000 in
set_option maxHeartbeats 8000000 in
theorem putsW (ws:List ByteArray) (w1:World) (b:Nat) (l:List UInt8) (q:Nat) (w:World) (h:WS w1 b l w) (hx:BX b q 9 (ws.map Value.string).toArray w) (hlen:(putsL (ws.map W1) l).length ≤ 140737488355328) (hn:ws.length ≤ 1000) :
 Calls Tryz.prog 60 #[.pointer (some ⟨b,0,none⟩),.slice (some ⟨q,0,none⟩) ws.length ws.length] w (WPost w1 b (putsL (ws.map W1) l) w):=by
 have HW:=Lib.hid h
 have HX:=Lib.hid hx
 have HLN:=Lib.hid hlen
 have HN:=Lib.hid hn
 clear h hx hlen
 go_enter Tryz.func60,Tryz.ntmps60
 go_wp2_with fail
 go_loopg [8] ws.length (fun gk iv wr=>∃ (i:Nat),iv = .int .i64 (i:Int)∧gk=ws.length - i∧i ≤ ws.length∧Hid (WS w1 b (putsL ((ws.take i).map W1) l) wr)∧Hid (KeepW b w wr))
 case atStart=>exact ⟨0,rfl,rfl,Nat.zero_le _,Lib.hid (by simpa [putsL] using HW.out),Lib.hid (KeepW.refl _ _)⟩
 case round=>
  obtain ⟨i,rfl,rfl,hi,HS,HK⟩:=hrel
  by_cases hlt:i < ws.length
  ·obtain ⟨x,hx⟩:∃ x,ws[i]? = some x:=⟨ws[i],by simp⟩
   have c0:wr.cell? ⟨q,i,none⟩=some (.string x):=(HX.out.keep HK.out).row.cell (by simp [hx])
   have hsn:putsL ((ws.take (i + 1)).map W1) l=putsL ((ws.take i).map W1) l ++ x.data.toList ++ [32]:=by
    rw [List.take_add_one,hx,List.map_append]
    exact putsL_snoc _ _ _
   have hle:(putsL ((ws.take (i + 1)).map W1) l).length ≤ (putsL (ws.map W1) l).length:=by
    have e:ws.map W1=(ws.take (i + 1)).map W1 ++ (ws.drop (i + 1)).map W1:=by rw [← List.map_append,List.take_append_drop]
    rw [e,putsL_app]
    exact putsL_len _ _
   have HSN:=Lib.hid hsn
   have hb1:(putsL ((ws.take i).map W1) l).length + x.size + 1 ≤ 140737488355328:=by
    have h1:=HLN.out
    rw [hsn,List.length_append,List.length_append,ba_len] at hle
    have h3:([32]:List UInt8).length=1:=rfl
    omega
   have HB1:=Lib.hid hb1
   have ilt:(i:Int) < (ws.length:Int):=by omega
   have ige:(0:Int) ≤ (i:Int):=by omega
   have HLT:=Lib.hid hlt
   generalize hL:putsL ((ws.take i).map W1) l=L0 at *
   have HS1:=Lib.hid (writeStringR w1.heap.size b L0 x wr HS.out.bld (Nat.le_of_succ_le HB1.out) HS.out.bld.Bw)
   clear hx hsn hle hb1 hlt hL
   go_wp2_with fail
   refine HS1.out.mono ?_
   rintro e2 w2 ⟨rfl,hb2,hl2,hk2⟩
   have HS2:=Lib.hid (writeByteR w1.heap.size b (L0 ++ x.data.toList) 32 w2 hb2 (by have:=HB1.out;rw [List.length_append,ba_len];exact this) hb2.Bw)
   have HL2:=Lib.hid (below_trans HS.out.low hl2)
   have HK2:=Lib.hid (HK.out.trans hk2)
   clear hb2 hl2 hk2 HS1 c0
   go_wp2_with fail
   refine HS2.out.mono ?_
   rintro e3 w3 ⟨rfl,hb3,hl3,hk3⟩
   have HS3:Hid (WS w1 b (putsL ((ws.take (i + 1)).map W1) l) w3):=Lib.hid ⟨by rw [HSN.out];exact hb3,below_trans HL2.out hl3⟩
   have HK3:=Lib.hid (HK2.out.trans hk3)
   clear hb3 hl3 hk3 HS2
   go_wp2_with fail
   go_roundg (ws.length - (i + 1))
   case measure=>exact Nat.sub_lt_sub_left HLT.out (Nat.lt_succ_self _)
   case rel=>exact ⟨i + 1,by have h1:=HN.out;have h2:=HLT.out;go_num,rfl,HLT.out,HS3,HK3⟩
  ·obtain rfl:i=ws.length:=by omega
   have HSF:Hid (WS w1 b (putsL (ws.map W1) l) wr):=Lib.hid (by have h1:=HS.out;rw [List.take_length] at h1;exact h1)
   clear hlt hi
   go_wp2_with fail
   go_end0
   exact ⟨rfl,HSF.out,HK.out⟩
theorem putsN (ws:List ByteArray) (w1:World) (b:Nat) (l:List UInt8) (w:World) (h:WS w1 b l w) (hlen:(putsL (ws.map W1) l).length ≤ 140737488355328) (hn:ws.length ≤ 1000) :
 Calls Tryz.prog 60 #[.pointer (some ⟨b,0,none⟩),.slice (some ⟨w.heap.size,0,none⟩) ws.length ws.length] (w.alloc (.cells (ws.map Value.string).toArray 9)) (WPost w1 b (putsL (ws.map W1) l) w):=
 (putsW ws w1 b l w.heap.size _ (h.alloc _) (h.box _ _) hlen hn).mono fun _ _ ⟨he,hs,hk⟩=>⟨he,hs,(h.keepAlloc _).trans hk⟩
end Go.Proofs.YtmdogmpcmkfjpaaGreatDoor.Dt
namespace Go.Proofs.YtmdogmpcmkfjpaaGreatDoor.Num
theorem cv_u8:Tryz.prog.underlying 63=some (.slice 5):=by kernel_rfl
open Go.RowKit Go.Proofs.YtmdogmpcmkfjpaaGreatDoor.By
theorem elem_u8:Elem Tryz.prog 63 5 1 1 where
 slice:=cv_u8
 info:=by
  have h:(Tryz.prog.info? 5).map (fun i=>(i.zero,i.size,i.bytes))=some (some (.int .u8 0),1,1):=by kernel_rfl
  obtain ⟨i,hi,h1,h2,h3⟩:=info_parts h
  exact ⟨i,_,hi,h1,h2,h3,rfl⟩
 pos:=by decide
end Go.Proofs.YtmdogmpcmkfjpaaGreatDoor.Num
