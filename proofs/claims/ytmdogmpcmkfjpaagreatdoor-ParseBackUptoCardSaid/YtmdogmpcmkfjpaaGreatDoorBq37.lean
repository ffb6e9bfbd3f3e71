import Derived.Test.YtmdogmpcmkfjpaaGreatDoorBq36
import Derived.Test.YtmdogmpcmkfjpaaGreatDoorBq20
set_option maxRecDepth 100000
set_option maxHeartbeats 64000000
/- Part. -/
namespace Go.Proofs.YtmdogmpcmkfjpaaGreatDoor.Dt
open Go.RowKit Go.Proofs.YtmdogmpcmkfjpaaGreatDoor.By
set_option linter.unusedSimpArgs false
set_option linter.unusedVariables false
section
variable {w0 w:World} {lo:Nat} {bx:List (Nat × TypeId × Array Value)} {ov nv:Value} {E:List PE} {S:List ByteArray}
theorem rdz1 (W:World) (T:TypeId) (s:ByteArray):RdZ (W.alloc (.cells #[.string s] T)) 1 (.slice (some ⟨W.heap.size,0,none⟩) 1 1) 1 ([s].map .string):=by
 refine ⟨rfl,.inr ⟨_,1,rfl,fun j u hu=>?_⟩⟩
 rw [Addr.add_lit,Nat.zero_add]
 exact (Zc W T #[.string s]).cell kb34
theorem rdz2 (W:World) (T:TypeId) (s t:ByteArray):RdZ (W.alloc (.cells #[.string s,.string t] T)) 1 (.slice (some ⟨W.heap.size,0,none⟩) 2 2) 2 ([s,t].map .string):=by
 refine ⟨rfl,.inr ⟨_,2,rfl,fun j u hu=>?_⟩⟩
 rw [Addr.add_lit,Nat.zero_add]
 exact (Zc W T #[.string s,.string t]).cell kb34
theorem Zgf {α β:Type} (f:α→List β) (l:List α) (i:Nat):((l.take i).flatMap f).length ≤ (l.flatMap f).length:=by
 have e:l.flatMap f=(l.take i).flatMap f ++ (l.drop i).flatMap f:=by rw [← List.flatMap_append,List.take_append_drop]
 rw [e,List.length_append]
 omega
theorem conv_ty (W:World) (k:Nat) (hk:k < 256):(convert 63 9 (.slice (some ⟨W.heap.size,0,none⟩) 1 1)).run Tryz.prog (W.alloc (.cells #[.int .u8 (k:Int)] 5)) = .ok (.string (tyS k)) (W.alloc (.cells #[.int .u8 (k:Int)] 5)):=by
 refine conv_new W 63 5 9 kR kR kR _ _ 0 1 1 [UInt8.ofNat k] rfl (fun i h=>?_)
 have h0:i=0:=by simpa using h
 subst h0
 simp [byte,Nat.mod_eq_of_lt hk]
theorem Zms {α β:Type} (f:α→List β) (hf:∀ x,1 ≤ (f x).length):∀ l:List α,l.length ≤ (l.flatMap f).length
 | []=>Nat.le_refl _
 | x :: l=>by have h1:=Zms f hf l;have h2:=hf x;rw [List.flatMap_cons,List.length_append,List.length_cons];omega
theorem Zuf {w:World} {v:Value} {l:List ByteArray} (h:SlR 1 SR w v l):RdZ w 1 v l.length (l.map .string):=by
 obtain ⟨cs,h1,h2,h3⟩:=Zlf h
 have e:cs.flatten=l.map .string:=by
  have e1:cs=l.map fun s=>[Value.string s]:=by
   apply List.ext_getElem?
   intro i
   rcases Nat.lt_or_ge i cs.length with hi | hi
   ·have hl:i < l.length:=by rw [← h2];exact hi
    have:=(h3 i cs[i] l[i] (by simp [hi]) (by simp [hl])).2
    rw [List.getElem?_eq_getElem hi,List.getElem?_map,List.getElem?_eq_getElem hl,Option.map_some,this]
   ·rw [List.getElem?_eq_none hi,List.getElem?_eq_none (by rw [List.length_map,← h2];exact hi)]
  rw [e1]
  clear h1 h2 h3 e1 h
  induction l with
  | nil=>rfl
  | cons x l ih=>rw [List.map_cons,List.flatten_cons,ih];rfl
 rw [← e]
 exact h1
theorem Zca {i:Nat} (h:i ≤ 1000000000):Value.int .i64 (wrap64 ((i:Int) + 1)) = .int .i64 ((i + 1:Nat):Int):=congrArg _ (by unfold wrap64;omega)
def Zm4 (l:List PE):List PE:=l ++ [PE.zero]
theorem rdzZ (W:World):RdZ (W.alloc (.cells #[.int .u8 0,.int .u8 0,iZ,eS,eS,eS,iZ,nS] ETy)) 8 (.slice (some ⟨W.heap.size,0,none⟩) 1 1) [PE.zero].length [([.int .u8 0,.int .u8 0,iZ,eS,eS,eS,iZ,nS]:List Value)].flatten:=by
 refine ⟨rfl,.inr ⟨_,1,rfl,fun j u hu=>?_⟩⟩
 rw [Addr.add_lit,Nat.zero_add]
 exact (Zc W ETy #[.int .u8 0,.int .u8 0,iZ,eS,eS,eS,iZ,nS]).cell kb34
theorem zero_one (w:World):∀ (i:Nat) (c:List Value) (y:PE),[([.int .u8 0,.int .u8 0,iZ,eS,eS,eS,iZ,nS]:List Value)][i]? = some c→[PE.zero][i]? = some y→c.length=8∧ExR w c y:=fun i c y h1 h2=>by
 rcases i with _ | i
 ·cases h1
  cases h2
  exact ⟨rfl,Zby.2 ⟨_,rfl,SlR.nil _ _ _⟩⟩
 ·simp at h1
theorem rdzR1 {k:Nat} {T:TypeId} {W:World} {s:ByteArray} (h:Row k T #[.string s] W):RdZ W 1 (.slice (some ⟨k,0,none⟩) 1 1) [s].length ([s].map .string):=by
 refine ⟨rfl,.inr ⟨_,1,rfl,fun j u hu=>?_⟩⟩
 rw [Addr.add_lit,Nat.zero_add]
 exact h.cell kb34
theorem rdzRE {k:Nat} {T:TypeId} {W:World} {cs:Array Value} {x:PE} (h:Row k T cs W) (h8:cs.size=8):RdZ W 8 (.slice (some ⟨k,0,none⟩) 1 1) [x].length [cs.toList].flatten:=by
 refine ⟨by simp [h8],.inr ⟨_,1,rfl,fun j u hu=>?_⟩⟩
 rw [Addr.add_lit,Nat.zero_add]
 exact h.cell kb34
theorem Zrm {w:World} {cs:List Value} {x:PE} (h:ExR w cs x):∀ (i:Nat) (c:List Value) (y:PE),[cs][i]? = some c→[x][i]? = some y→c.length=8∧ExR w c y:=fun i c y h1 h2=>by
 rcases i with _ | i
 ·cases h1
  cases h2
  exact ⟨(Zc9 h).1,h⟩
 ·simp at h1
def Zs1 (s:Zec):List PE:=s.on ++ [PE.zero]
def Zpo (s:Zec):List ByteArray:=[s.table,s.as]
theorem rdzR2 {k:Nat} {T:TypeId} {W:World} {s t:ByteArray} (h:Row k T #[.string s,.string t] W):RdZ W 1 (.slice (some ⟨k,0,none⟩) 2 2) [s,t].length ([s,t].map .string):=by
 refine ⟨rfl,.inr ⟨_,2,rfl,fun j u hu=>?_⟩⟩
 rw [Addr.add_lit,Nat.zero_add]
 exact h.cell kb34
def Zs2 (o:PE × Bool):List ByteArray:=if o.2 then [⟨#[45]⟩] else []
theorem frz {k:Nat} {T:TypeId} {cs:Array Value} {W:World} (h:Row k T cs W) (i:Nat):W.frozen? ⟨k,i,none⟩=false:=by
 unfold Row at h
 unfold World.frozen?
 simp [h]
theorem FS.base (w:World):FS w w.heap.size [] (nS) (nS) [] [] w:=
 ⟨⟨[],World.ownsRow_nil _ _ _ _,rfl,fun i c x h=>by simp at h⟩,World.ownsRow_nil _ _ _ _,fun k h=>by simp [Value.ownBlock] at h,fun b hb=>by simp at hb,Below.refl _ _,Nat.le_refl _⟩
theorem FS.lit (h:FS w0 lo bx (nS) (nS) [] [] w) (s t:ByteArray):FS w0 lo bx (nS) (.slice (some ⟨w.heap.size,0,none⟩) 2 2) [] [s,t] (w.alloc (.cells #[.string s,.string t] STy)):=by
 have h1:=h.later ((Below.refl _ w).alloc (Nat.le_refl _) (.cells #[.string s,.string t] STy))
 refine ⟨h1.e,World.ownsRow_lit w #[.string s,.string t] 2 h.hl Zvd rfl,fun k hk=>by simp [Value.ownBlock] at hk,fun b hb=>⟨(h1.bx b hb).1,(h1.bx b hb).2.1,fun e=>?_⟩,h1.bl,h1.hl⟩
 have:=(h.bx b hb).1.lt
 simp [Value.ownBlock] at e
 omega
theorem FS.set {k:Nat} {T:TypeId} {cs:Array Value} (h:FS w0 lo ((k,T,cs) :: bx) ov nv E S w) (hd:∀ b ∈ bx,b.1 ≠ k) (hlo:lo ≤ k) (i:Nat) (v:Value) :
 FS w0 lo ((k,T,cs.setIfInBounds i v) :: bx) ov nv E S (w.setCell ⟨k,i,none⟩ v):=by
 obtain ⟨hr,ho,hn⟩:=h.bx (k,T,cs) kY
 rw [setCell_eq_setRow w k i cs _ _ v hr]
 have g:w.grownBy (w.setRow k (cs.setIfInBounds i v)) (some k):=⟨rfl,rfl,rfl,by simp,fun j _ hj=>setRow_other w k j _ (fun e=>hj Zvc)⟩
 obtain ⟨cs',h1,h2,h3⟩:=h.e
 refine ⟨⟨cs',World.ownsRow.kept h1 g ?_,h2,h3⟩,World.ownsRow.kept h.s g ?_,h.ne,fun b hb=>?_,h.bl.trans ((Below.refl lo w).grown g h.hl (fun j hj=>by cases hj;exact hlo)),Nat.le_trans h.hl g.size⟩
 ·cases hk:ov.ownBlock with
  | none=>exact .inl rfl
  | some j=>exact .inr (fun e=>ho (hk.trans e))
 ·cases hk:nv.ownBlock with
  | none=>exact .inl rfl
  | some j=>exact .inr (fun e=>hn (hk.trans e))
 rcases List.mem_cons.1 hb with rfl | hb
 ·refine ⟨?_,ho,hn⟩
  exact hr.set _
 obtain ⟨r1,r2,r3⟩:=h.bx b (by simp [hb])
 exact ⟨(g.block b.1 r1.lt (fun e=>hd b hb kb47)).trans r1,r2,r3⟩
theorem FS.fill {k:Nat} {T:TypeId} {z0 z1 z2 z3 z4 z5 z6 z7 z8 z9 z10 z11:Value} (h:FS w0 lo bx ov nv E S w) (hm:(k,T,#[z0,z1,z2,z3,z4,z5,z6,z7,z8,z9,z10,z11]) ∈ bx) (hlo:lo ≤ k) (v0 v1 v2 v3 v4 v5 v6 v7 v8 v9 v10 v11:Value) :
 FS w0 lo [(k,T,#[v0,v1,v2,v3,v4,v5,v6,v7,v8,v9,v10,v11])] ov nv E S (((((((((((((w.setCell ⟨k,0,none⟩ v0).setCell ⟨k,1,none⟩ v1).setCell ⟨k,2,none⟩ v2).setCell ⟨k,3,none⟩ v3).setCell ⟨k,4,none⟩ v4).setCell ⟨k,5,none⟩ v5).setCell ⟨k,6,none⟩ v6).setCell ⟨k,7,none⟩ v7).setCell ⟨k,8,none⟩ v8).setCell ⟨k,9,none⟩ v9).setCell ⟨k,10,none⟩ v10).setCell ⟨k,11,none⟩ v11)):=by
 have h0:FS w0 lo [(k,T,#[z0,z1,z2,z3,z4,z5,z6,z7,z8,z9,z10,z11])] ov nv E S w:=h.sub (by simpa using hm)
 have hd:∀ b ∈ ([]:List (Nat × TypeId × Array Value)),b.1 ≠ k:=kY
 have h1:FS w0 lo [(k,T,#[v0,z1,z2,z3,z4,z5,z6,z7,z8,z9,z10,z11])] ov nv E S (w.setCell ⟨k,0,none⟩ v0):=h0.set hd hlo 0 v0
 have h2:FS w0 lo [(k,T,#[v0,v1,z2,z3,z4,z5,z6,z7,z8,z9,z10,z11])] ov nv E S ((w.setCell ⟨k,0,none⟩ v0).setCell ⟨k,1,none⟩ v1):=h1.set hd hlo 1 v1
 have h3:FS w0 lo [(k,T,#[v0,v1,v2,z3,z4,z5,z6,z7,z8,z9,z10,z11])] ov nv E S (((w.setCell ⟨k,0,none⟩ v0).setCell ⟨k,1,none⟩ v1).setCell ⟨k,2,none⟩ v2):=h2.set hd hlo 2 v2
 have h4:FS w0 lo [(k,T,#[v0,v1,v2,v3,z4,z5,z6,z7,z8,z9,z10,z11])] ov nv E S ((((w.setCell ⟨k,0,none⟩ v0).setCell ⟨k,1,none⟩ v1).setCell ⟨k,2,none⟩ v2).setCell ⟨k,3,none⟩ v3):=h3.set hd hlo 3 v3
 have h5:FS w0 lo [(k,T,#[v0,v1,v2,v3,v4,z5,z6,z7,z8,z9,z10,z11])] ov nv E S (((((w.setCell ⟨k,0,none⟩ v0).setCell ⟨k,1,none⟩ v1).setCell ⟨k,2,none⟩ v2).setCell ⟨k,3,none⟩ v3).setCell ⟨k,4,none⟩ v4):=h4.set hd hlo 4 v4
 have h6:FS w0 lo [(k,T,#[v0,v1,v2,v3,v4,v5,z6,z7,z8,z9,z10,z11])] ov nv E S ((((((w.setCell ⟨k,0,none⟩ v0).setCell ⟨k,1,none⟩ v1).setCell ⟨k,2,none⟩ v2).setCell ⟨k,3,none⟩ v3).setCell ⟨k,4,none⟩ v4).setCell ⟨k,5,none⟩ v5):=h5.set hd hlo 5 v5
 have h7:FS w0 lo [(k,T,#[v0,v1,v2,v3,v4,v5,v6,z7,z8,z9,z10,z11])] ov nv E S (((((((w.setCell ⟨k,0,none⟩ v0).setCell ⟨k,1,none⟩ v1).setCell ⟨k,2,none⟩ v2).setCell ⟨k,3,none⟩ v3).setCell ⟨k,4,none⟩ v4).setCell ⟨k,5,none⟩ v5).setCell ⟨k,6,none⟩ v6):=h6.set hd hlo 6 v6
 have h8:FS w0 lo [(k,T,#[v0,v1,v2,v3,v4,v5,v6,v7,z8,z9,z10,z11])] ov nv E S ((((((((w.setCell ⟨k,0,none⟩ v0).setCell ⟨k,1,none⟩ v1).setCell ⟨k,2,none⟩ v2).setCell ⟨k,3,none⟩ v3).setCell ⟨k,4,none⟩ v4).setCell ⟨k,5,none⟩ v5).setCell ⟨k,6,none⟩ v6).setCell ⟨k,7,none⟩ v7):=h7.set hd hlo 7 v7
 have h9:FS w0 lo [(k,T,#[v0,v1,v2,v3,v4,v5,v6,v7,v8,z9,z10,z11])] ov nv E S (((((((((w.setCell ⟨k,0,none⟩ v0).setCell ⟨k,1,none⟩ v1).setCell ⟨k,2,none⟩ v2).setCell ⟨k,3,none⟩ v3).setCell ⟨k,4,none⟩ v4).setCell ⟨k,5,none⟩ v5).setCell ⟨k,6,none⟩ v6).setCell ⟨k,7,none⟩ v7).setCell ⟨k,8,none⟩ v8):=h8.set hd hlo 8 v8
 have h10:FS w0 lo [(k,T,#[v0,v1,v2,v3,v4,v5,v6,v7,v8,v9,z10,z11])] ov nv E S ((((((((((w.setCell ⟨k,0,none⟩ v0).setCell ⟨k,1,none⟩ v1).setCell ⟨k,2,none⟩ v2).setCell ⟨k,3,none⟩ v3).setCell ⟨k,4,none⟩ v4).setCell ⟨k,5,none⟩ v5).setCell ⟨k,6,none⟩ v6).setCell ⟨k,7,none⟩ v7).setCell ⟨k,8,none⟩ v8).setCell ⟨k,9,none⟩ v9):=h9.set hd hlo 9 v9
 have h11:FS w0 lo [(k,T,#[v0,v1,v2,v3,v4,v5,v6,v7,v8,v9,v10,z11])] ov nv E S (((((((((((w.setCell ⟨k,0,none⟩ v0).setCell ⟨k,1,none⟩ v1).setCell ⟨k,2,none⟩ v2).setCell ⟨k,3,none⟩ v3).setCell ⟨k,4,none⟩ v4).setCell ⟨k,5,none⟩ v5).setCell ⟨k,6,none⟩ v6).setCell ⟨k,7,none⟩ v7).setCell ⟨k,8,none⟩ v8).setCell ⟨k,9,none⟩ v9).setCell ⟨k,10,none⟩ v10):=h10.set hd hlo 10 v10
 have h12:FS w0 lo [(k,T,#[v0,v1,v2,v3,v4,v5,v6,v7,v8,v9,v10,v11])] ov nv E S ((((((((((((w.setCell ⟨k,0,none⟩ v0).setCell ⟨k,1,none⟩ v1).setCell ⟨k,2,none⟩ v2).setCell ⟨k,3,none⟩ v3).setCell ⟨k,4,none⟩ v4).setCell ⟨k,5,none⟩ v5).setCell ⟨k,6,none⟩ v6).setCell ⟨k,7,none⟩ v7).setCell ⟨k,8,none⟩ v8).setCell ⟨k,9,none⟩ v9).setCell ⟨k,10,none⟩ v10).setCell ⟨k,11,none⟩ v11):=h11.set hd hlo 11 v11
 exact h12
theorem Zur {α:Type} {e:TypeId} {size:Nat} {R:World→List Value→α→Prop} {v:Value} {l:List α} {cs:List (List Value)} (h:w.ownsRow lo e size v l.length cs.flatten) (hl:cs.length=l.length)
 (hR:∀ (i:Nat) (c:List Value) (x:α),cs[i]? = some c→l[i]? = some x→c.length=size∧R w c x):SlR size R w v l:=by
 have h1:Ze3 e size (fun _ c x=>R w c x) lo w v l cs:=⟨by rw [hl];exact h,hl,fun i c x hc hx=>⟨(hR i c x hc hx).1,fun _ _=>(hR i c x hc hx).2⟩⟩
 exact h1.done.here
theorem FS.exs (h:FS w0 w0.heap.size bx ov nv E S w):Zbq w ov E:=by
 obtain ⟨cs,h1,h2,h3⟩:=h.e
 exact Zur h1 h2 fun i c x hc hx=>⟨(h3 i c x hc hx).1,Zfj (h3 i c x hc hx).2 h.bl⟩
theorem Zri:∀ S:List ByteArray,(S.map fun s=>[Value.string s]).flatten=S.map .string
 | []=>rfl
 | s :: S=>by rw [List.map_cons,List.flatten_cons,Zri S];rfl
theorem FS.txts (h:FS w0 lo bx ov nv E S w):SlR 1 Zqc w nv S:=by
 have h1:w.ownsRow lo STy 1 nv S.length (S.map .string):=h.s
 rw [← Zri S] at h1
 refine Zur h1 kY fun i c x hc hx=>?_
 rw [List.getElem?_map,hx] at hc
 cases hc
 exact ⟨rfl,rfl⟩
end
abbrev ATy:TypeId:=58
theorem Zmz:(Tryz.prog.info? ATy).map (·.size)=some 12:=kR
theorem Zn3 (W:World) (g:Nat) (T:TypeId) (cells:Array Value) (hg:Row g T cells W) (hc:cells.size=12):(loadVar ATy ⟨g,0,none⟩).run Tryz.prog W = .ok (.agg cells) W:=by
 have h:(Tryz.prog.underlying ATy).map (fun d=>match d with | .array _ _=>true | _=>false)=some true:=kR
 cases hq:Tryz.prog.underlying ATy with
 | none=>rw [hq] at h;cases h
 | some d=>
  rw [hq] at h
  exact run_loadVar_row W g T ATy cells (0,0) d hg hq (by cases d <;> first | rfl | cases h) (by rw [Zmz,hc])
theorem res_flat {fn:Func} {p q r:Tmp} (h:fn.results = #[.tmp p,.tmp q,.cell r ATy]) (tmps:Array Value) (w:World) (k:Nat) (T:TypeId) (u v:Value) (ds:Array Value)
 (hp:tmps.getD p undef=u) (hq:tmps.getD q undef=v) (hr:tmps.getD r undef = pV k) (hk:Row k T ds w) (hd:ds.size=12):(results fn tmps).run Tryz.prog w = .ok (.tuple #[u,v,.agg ds]) w:=by
 have hp':tmps[p]?.getD undef=u:=by simpa using hp
 have hq':tmps[q]?.getD undef=v:=by simpa using hq
 have hr':tmps[r]?.getD undef = pV k:=by simpa using hr
 simp [results,h,hp',hq',hr',asAddr,Zn3 w k T ds hk hd]
theorem flatL (x:PSt) (cs:List Value) (w:World) (hr:StR w cs x) (hk:x.kind < 256) (hty:∀ c ∈ x.cols,c.ty < 256) (hE:(fE x).length ≤ 16000000) (hS:(fS x).length ≤ 16000000) :
 Calls Tryz.prog 23 #[.agg cs.toArray] w fun e w'=>∃ v1 v2,e = .returned (.tuple #[v1,v2,.agg (fN x)])∧Zbq w' v1 (fE x)∧SlR 1 Zqc w' v2 (fS x)∧Below w.heap.size w w':=by
 obtain ⟨c4,c5,c6,c7,c8,c9,c10,c11,c12,c13,c14,rfl,h4,h5,h6,h7,h8,h9,h10,h11,h12,h13,h14⟩:=hr
 obtain ⟨a4,n4,rfl,_⟩:=h4.shape
 obtain ⟨a5,n5,rfl,_⟩:=h5.shape
 obtain ⟨a6,n6,rfl,_⟩:=h6.shape
 obtain ⟨a7,n7,rfl,_⟩:=h7.shape
 obtain ⟨a8,n8,rfl,_⟩:=h8.shape
 obtain ⟨a9,n9,rfl,_⟩:=h9.shape
 obtain ⟨a10,n10,rfl,_⟩:=h10.shape
 obtain ⟨a11,n11,rfl,_⟩:=h11.shape
 obtain ⟨a12,n12,rfl,_⟩:=h12.shape
 obtain ⟨a13,n13,rfl,_⟩:=h13.shape
 obtain ⟨a14,n14,rfl,_⟩:=h14.shape
 have H4:=Lh h4
 have H5:=Lh h5
 have H6:=Lh h6
 have H7:=Lh h7
 have H8:=Lh h8
 have H9:=Lh h9
 have H10:=Lh h10
 have H11:=Lh h11
 have H12:=Lh h12
 have H13:=Lh h13
 have H14:=Lh h14
 have HKD:=Lh hk
 have HTY:=Lh hty
 have HE:=Lh hE
 have HS:=Lh hS
 obtain ⟨SB,hSB⟩:∃ SB:Array Value,SB = (sA x a4 n4 a5 n5 a6 n6 a7 n7 a8 n8 a9 n9 a10 n10 a11 n11 a12 n12 a13 n13 a14 n14):=⟨_,rfl⟩
 have G0:SB[0]? = some (.int .u8 (x.kind:Int)):=by rw [hSB];rfl
 have G1:SB[1]? = some (.string x.table):=by rw [hSB];rfl
 have G2:SB[2]? = some (.string x.name):=by rw [hSB];rfl
 have G3:SB[3]? = some (.bool x.uniq):=by rw [hSB];rfl
 have G4:SB[4]? = some (.slice a4 x.cols.length n4):=by rw [hSB];rfl
 have G5:SB[5]? = some (.slice a5 x.key.length n5):=by rw [hSB];rfl
 have G6:SB[6]? = some (.slice a6 x.names.length n6):=by rw [hSB];rfl
 have G7:SB[7]? = some (.slice a7 x.rows.length n7):=by rw [hSB];rfl
 have G8:SB[8]? = some (.slice a8 x.sets.length n8):=by rw [hSB];rfl
 have G9:SB[9]? = some (.slice a9 x.items.length n9):=by rw [hSB];rfl
 have G10:SB[10]? = some (.slice a10 x.src.length n10):=by rw [hSB];rfl
 have G11:SB[11]? = some (.slice a11 x.wh.length n11):=by rw [hSB];rfl
 have G12:SB[12]? = some (.slice a12 x.group.length n12):=by rw [hSB];rfl
 have G13:SB[13]? = some (.slice a13 x.having.length n13):=by rw [hSB];rfl
 have G14:SB[14]? = some (.slice a14 x.order.length n14):=by rw [hSB];rfl
 have G15:SB[15]? = some (.int .i64 x.limit):=by rw [hSB];rfl
 unfold sA at hSB
 rw [← hSB]
 clear hSB
 have hF1:=(FS.base w).alloc SB 31
 have hF2:=hF1.alloc #[iZ,iZ,iZ,iZ,iZ,iZ,iZ,iZ,iZ,iZ,iZ,iZ] 58
 have hz:(w.alloc (.cells SB 31)).heap.size=w.heap.size + 1:=kY
 rw [hz] at hF2
 have HF2:=Lh hF2
 clear h4 h5 h6 h7 h8 h9 h10 h11 h12 h13 h14 hk hty hE hS hF1 hF2 hz
 go_enter Tryz.func23,Tryz.ntmps23
 go_upto_region 2 with fail
 generalize (w.alloc (.cells SB 31)).alloc (.cells #[iZ,iZ,iZ,iZ,iZ,iZ,iZ,iZ,iZ,iZ,iZ,iZ] 58)=W2 at *
 have p1:=(HF2.out.bx (w.heap.size,31,SB) kY).1.cell G1
 have p2:=(HF2.out.bx (w.heap.size,31,SB) kY).1.cell G2
 go_upto_region 3 with fail
 have HF3:=Lh (HF2.out.lit x.table x.name)
 clear p1 p2 HF2
 generalize W2.alloc (.cells #[.string x.table,.string x.name] 9)=W3 at *
 generalize Value.slice (some ⟨W2.heap.size,0,none⟩) 2 2=nv at *
 have HS:=(HF3.out.bx (w.heap.size,31,SB) kY).1
 have p0:=HS.cell G0
 have p15:=HS.cell G15
 have p4:=HS.cell G4
 have p5:=HS.cell G5
 have p6:=HS.cell G6
 have p7:=HS.cell G7
 have p8:=HS.cell G8
 have p9:=HS.cell G9
 have p10:=HS.cell G10
 have p11:=HS.cell G11
 have p12:=HS.cell G12
 have p13:=HS.cell G13
 clear HS
 have hwk:wrap64 (x.kind:Int)=(x.kind:Int):=by have:=HKD.out;unfold wrap64;omega
 go_upto_region 4 with fail
 obtain ⟨NB,hNB⟩:∃ NB:Array Value,NB = #[.int .i64 (x.kind:Int),.int .i64 x.limit,.int .i64 (x.cols.length:Int),.int .i64 (x.key.length:Int),.int .i64 (x.names.length:Int),.int .i64 (x.rows.length:Int),.int .i64 (x.sets.length:Int),.int .i64 (x.items.length:Int),.int .i64 (x.src.length:Int),.int .i64 (x.wh.length:Int),.int .i64 (x.group.length:Int),.int .i64 (x.having.length:Int)]:=⟨_,rfl⟩
 have g0:NB[0]? = some (.int .i64 (x.kind:Int)):=by rw [hNB];rfl
 have HFN:Hid (fN x=if x.uniq then NB.setIfInBounds 0 (.int .i64 ((x.kind:Int) + 1000)) else NB):=Lh (by rw [hNB];unfold fN;cases x.uniq <;> simp)
 have h4:=HF3.out.alloc NB 58
 have hb:w.heap.size + 1 < W3.heap.size:=(HF3.out.bx (w.heap.size + 1,58,#[iZ,iZ,iZ,iZ,iZ,iZ,iZ,iZ,iZ,iZ,iZ,iZ]) kY).1.lt
 have HB7:Hid (w.heap.size + 1 < W3.heap.size):=Lh hb
 have HF4:=Lh h4
 clear h4 hb p0 p15 p4 p5 p6 p7 p8 p9 p10 p11 p12 p13 hwk HF3
 rw [← hNB]
 clear hNB
 generalize W3.alloc (.cells NB 58)=W4 at *
 generalize W3.heap.size=b7 at *
 have p3:=(HF4.out.bx (w.heap.size,31,SB) kY).1.cell G3
 go_upto_if 62 with fail
 go_cut [] (fun wx=>Hid (FS w w.heap.size [(b7,58,fN x),(w.heap.size + 1,58,#[iZ,iZ,iZ,iZ,iZ,iZ,iZ,iZ,iZ,iZ,iZ,iZ]),(w.heap.size,31,SB)] (nS) nv [] [x.table,x.name] wx))
 case first=>
  have q0:=(HF4.out.bx (b7,58,NB) kY).1.cell g0
  have f0:W4.frozen? ⟨b7,0,none⟩=false:=frz (HF4.out.bx (b7,58,NB) kY).1 0
  have HS4:=Lh (HF4.out.set (fun b hb=>by have:=HB7.out;simp only [List.mem_cons,List.not_mem_nil,or_false] at hb;rcases hb with rfl | rfl <;> simp <;> omega) (by have:=HB7.out;omega) 0 (.int .i64 ((x.kind:Int) + 1000)))
  have hwk:wrap64 ((x.kind:Int) + 1000)=(x.kind:Int) + 1000:=by have:=HKD.out;unfold wrap64;omega
  by_cases hu:x.uniq=true
  ·rw [hu,if_pos rfl] at HFN
   rw [hu]
   go_wp2_with fail
   go_meet
   rw [HFN.out]
   exact HS4
  rw [Bool.not_eq_true] at hu
  rw [hu,if_neg kY] at HFN
  rw [hu]
  go_wp2_with fail
  go_meet
  rw [HFN.out]
  exact HF4
 have HF5:=hcut
 clear hcut HF4 HFN p3 g0 HB7
 obtain ⟨BX,hBX⟩:∃ BX:List (Nat × TypeId × Array Value),BX = [(b7,58,fN x),(w.heap.size + 1,58,#[iZ,iZ,iZ,iZ,iZ,iZ,iZ,iZ,iZ,iZ,iZ,iZ]),(w.heap.size,31,SB)]:=⟨_,rfl⟩
 have HM0:Hid ((w.heap.size,31,SB) ∈ BX):=Lh (by rw [hBX];simp)
 have HM4:Hid ((w.heap.size + 1,58,#[iZ,iZ,iZ,iZ,iZ,iZ,iZ,iZ,iZ,iZ,iZ,iZ]) ∈ BX):=Lh (by rw [hBX];simp)
 have HM7:Hid ((b7,58,fN x) ∈ BX):=Lh (by rw [hBX];simp)
 rw [← hBX] at HF5
 have p4:=(HF5.out.bx _ HM0.out).1.cell G4
 have HBX:=Lh hBX
 clear hBX
 go_wp2_with fail
 have HLC:Hid (x.cols.length ≤ 16000000):=Lh (Nat.le_trans (Nat.le_trans (Zms Zi0 (fun c=>by unfold Zi0;rw [List.length_append];exact Nat.le_trans (show 1 ≤ 2 by decide) (Nat.le_add_right _ _)) x.cols) (by unfold fS;simp only [List.length_append];omega)) HS.out)
 have HSC:Hid (∀ i,([x.table,x.name] ++ (x.cols.take i).flatMap Zi0).length ≤ 16000000):=Lh (fun i=>Nat.le_trans (by have h1:=Zgf Zi0 x.cols i;unfold fS;simp only [List.length_append];omega) HS.out)
 go_loopg [6,70] x.cols.length (fun gk sv iv wr=>∃ (i:Nat),iv = .int .i64 (i:Int)∧gk=x.cols.length - i∧i ≤ x.cols.length∧Hid (FS w w.heap.size BX (nS) sv [] ([x.table,x.name] ++ (x.cols.take i).flatMap Zi0) wr))
 case atStart=>exact ⟨0,rfl,rfl,Nat.zero_le _,Lh (by simpa using HF5.out)⟩
 case round=>
  obtain ⟨i,rfl,rfl,hi,HFI⟩:=hrel
  clear HF5 p4
  by_cases hlt:i < x.cols.length
  ·obtain ⟨c,hc⟩:∃ c,x.cols[i]? = some c:=⟨x.cols[i],by simp⟩
   have HCT:Hid (c.ty < 256):=Lh (HTY.out c (List.mem_of_getElem? hc))
   have HTK:Hid ((x.cols.take (i + 1)).flatMap Zi0=(x.cols.take i).flatMap Zi0 ++ Zi0 c):=Lh (by rw [List.take_add_one,hc];simp)
   obtain ⟨cb,co,rfl,e0,e1,e2⟩:=Zrs H4.out hc
   have p0:=(HFI.out.bl.cell (Zd e0)).trans e0
   have p1:=(HFI.out.bl.cell (Zd e1)).trans e1
   have p2:=(HFI.out.bl.cell (Zd e2)).trans e2
   have ilt:(i:Int) < (x.cols.length:Int):=kW
   have ige:(0:Int) ≤ (i:Int):=kW
   have HLT:=Lh hlt
   clear e0 e1 e2 hc hlt
   go_upto_region 9 with fail
   have h9:=HFI.out.alloc #[.string c.name,.int .u8 (c.ty:Int),.bool c.nn] 89
   have HR9:=Lh (h9.bx (wr.heap.size,89,#[.string c.name,.int .u8 (c.ty:Int),.bool c.nn]) kY).1
   have HF9:=Lh h9
   clear h9 p0 p1 p2 HFI
   generalize wr.alloc (.cells #[.string c.name,.int .u8 (c.ty:Int),.bool c.nn] 89)=W9 at *
   generalize wr.heap.size=b9 at *
   have q0:=HR9.out.cell (i:=0) (v:=.string c.name) rfl
   have q1:=HR9.out.cell (i:=1) (v:=.int .u8 (c.ty:Int)) rfl
   have hcv:=conv_ty W9 c.ty HCT.out
   have h10:=(HF9.out.later ((Below.refl _ W9).alloc (Nat.le_refl _) (.cells #[.int .u8 (c.ty:Int)] 5)))
   have hr10:=rdz2 (W9.alloc (.cells #[.int .u8 (c.ty:Int)] 5)) STy c.name (tyS c.ty)
   have hz10:(W9.alloc (.cells #[.int .u8 (c.ty:Int)] 5)).heap.size=W9.heap.size + 1:=kY
   rw [hz10] at hr10
   have HR10:=Lh hr10
   clear hr10 hz10
   have HF10:=Lh (h10.later ((Below.refl _ _).alloc (Nat.le_refl _) (.cells #[.string c.name,.string (tyS c.ty)] STy)))
   clear h10
   have HSZ:Hid (([x.table,x.name] ++ (x.cols.take i).flatMap Zi0).length + [c.name,tyS c.ty].length ≤ 1000000000):=Lh (by have h1:=HSC.out i;show _ + 2 ≤ _;omega)
   go_upto_region 10 with (at_builtin;generalize (W9.alloc (.cells #[.int .u8 (c.ty:Int)] 5)).alloc (.cells #[.string c.name,.string (tyS c.ty)] STy)=W10 at *;generalize Value.slice (some ⟨W9.heap.size + 1,0,none⟩) 2 2=sv10 at *;obtain ⟨sv,w10,hr10,hF10⟩:=HF10.out.runS 23 _ [c.name,tyS c.ty] HR10.out HSZ.out;have HF11:=Lh hF10;clear hF10;refine Zgm rfl (.tmp 74) (.tmp 81) 23 rfl rfl rfl hr10 ?_;clear hr10)
   clear q0 q1 hcv HR10 HF10 HF9 HR9 HSZ
   have q2:=(HF11.out.bx (b9,89,#[.string c.name,.int .u8 (c.ty:Int),.bool c.nn]) kY).1.cell (i:=2) (v:=.bool c.nn) rfl
   cases hnn:c.nn
   ·rw [hnn] at q2
    have HFR:Hid (FS w w.heap.size BX (nS) sv [] ([x.table,x.name] ++ (x.cols.take (i + 1)).flatMap Zi0) w10):=Lh (by
     have e:Zi0 c = [c.name,tyS c.ty]:=by unfold Zi0;rw [hnn];rfl
     rw [HTK.out,e,← List.append_assoc];exact HF11.out.drop)
    clear HF11 hnn
    exact ks62
   rw [hnn] at q2
   have HR12:=Lh (rdz1 w10 STy ⟨#[33]⟩)
   have HF12:=Lh (HF11.out.later ((Below.refl _ _).alloc (Nat.le_refl _) (.cells #[.string ⟨#[33]⟩] STy)))
   have HSZ:Hid ((([x.table,x.name] ++ (x.cols.take i).flatMap Zi0) ++ [c.name,tyS c.ty]).length + [(⟨#[33]⟩:ByteArray)].length ≤ 1000000000):=Lh (by have h1:=HSC.out i;rw [List.length_append];show _ + 2 + 1 ≤ _;omega)
   have HNN:=Lh hnn
   clear HF11 hnn
   go_upto_region 12 with (at_builtin;generalize w10.alloc (.cells #[.string ⟨#[33]⟩] STy)=W12 at *;generalize Value.slice (some ⟨w10.heap.size,0,none⟩) 1 1=sv12 at *;obtain ⟨sw,w13,hr13,hF13⟩:=HF12.out.runS 23 _ [⟨#[33]⟩] HR12.out HSZ.out;have HF13:=Lh hF13;clear hF13;refine Zgm rfl (.tmp 85) (.tmp 86) 23 rfl rfl rfl hr13 ?_;clear hr13)
   have HFR:Hid (FS w w.heap.size BX (nS) sw [] ([x.table,x.name] ++ (x.cols.take (i + 1)).flatMap Zi0) w13):=Lh (by
    have e:Zi0 c = [c.name,tyS c.ty] ++ [⟨#[33]⟩]:=by unfold Zi0;rw [HNN.out];rfl
    rw [HTK.out,e,← List.append_assoc,← List.append_assoc];exact HF13.out.drop)
   clear HF12 HF13 HR12 HSZ HNN q2
   exact ks62
  obtain rfl:i=x.cols.length:=kW
  rw [List.take_length] at HFI
  clear hlt hi HSC HLC
  go_upto_region 13 with fail
  have HZ5:=Lh (Zuf H5.out)
  have HZ6:=Lh (Zuf H6.out)
  have HSZ:Hid (([x.table,x.name] ++ x.cols.flatMap Zi0).length + x.key.length + x.names.length ≤ 16000000):=Lh (Nat.le_trans (by unfold fS;simp only [List.length_append];omega) HS.out)
  generalize hS0:[x.table,x.name] ++ x.cols.flatMap Zi0=S0 at *
  have HS0:=Lh hS0
  clear hS0
  refine Zcz (RJ w w.heap.size BX (fun _ _=>nS) (fun dn us=>if dn 6 then us 6 else if dn 3 then us 3 else u6) (fun _=>[]) (fun dn=>S0 ++ (if dn 3 then x.key else []) ++ (if dn 6 then x.names else []))
   [(0,u6),(1,.pointer (some ⟨w.heap.size,5,none⟩)),(2,.slice a5 x.key.length n5),(4,.pointer (some ⟨w.heap.size,6,none⟩)),(5,.slice a6 x.names.length n6)] [] [(7,u6)] [(7,6)]) 199 kY kR kR
   (fun us hus=>⟨⟨BX,fun _ h=>h,by simpa using HFI.out.drew,fun l hl=>by cases hl⟩,fun p hp h=>Zod,fun p hp _=>(by obtain rfl:=List.mem_singleton.1 hp;exact hus 7 6 kY kR),fun p hp h=>Zod⟩) ?_ ?_
  ·
   intro i hi dn us F W hother hat hJ hdi hcl hd
   have hp1:=Z5 (show F.eval (.tmp 1) = .pointer (some ⟨w.heap.size,0,none⟩) from hother 1 kR)
   obtain ⟨bx,b1,b2,_⟩:=hJ.fs
   have p5:=(b2.bx _ (b1 _ HM0.out)).1.cell G5
   have p6:=(b2.bx _ (b1 _ HM0.out)).1.cell G6
   match i,hi,hdi with
   | 0,_,hdi=>
    have no7:dn 7=false:=by
     cases h7:dn 7 with
     | false=>rfl
     | true=>have:=hcl 7 _ rfl h7 ⟨0,.phase⟩ kY rfl;rw [hdi] at this;cases this
    have h6:=Z5 ((hat 7 6 kY kR kD).trans (hJ.old (7,u6) kY no7))
    exact Zai rfl rfl u6 W kb0 ⟨_,rfl,hJ.val 0 _ hdi rfl rfl rfl rfl kY kY kY⟩
   | 1,_,hdi=>exact Zai rfl rfl (.pointer (some ⟨w.heap.size,5,none⟩)) W kb0 ⟨_,rfl,hJ.val 1 _ hdi rfl rfl rfl rfl kY kY kY⟩
   | 2,_,hdi=>
    have h1:=Z5 ((hat 1 90 kY kR kD).trans (hJ.vs (1,_) (List.mem_of_getElem? (i:=1) rfl) (hd _ rfl ⟨1,.data⟩ kY rfl)))
    exact Zai rfl rfl (.slice a5 x.key.length n5) W kb0 ⟨_,rfl,hJ.val 2 _ hdi rfl rfl rfl rfl kY kY kY⟩
   | 3,_,hdi=>
    have no6:dn 6=false:=by
     cases h7:dn 6 with
     | false=>rfl
     | true=>have:=hcl 6 _ rfl h7 ⟨3,.data⟩ kY rfl;rw [hdi] at this;cases this
    obtain ⟨v',w',r1,r2⟩:=hJ.appS 3 hdi 23 _ x.key (HZ5.out.below b2.bl) (by have:=HSZ.out;simp [no6,hdi];omega) (fun v=>rfl) (fun v=>by simp [upd,Zf2,no6]) rfl (by simp [upd,no6,hdi]) kY kY kY
    rw [show (if dn 6=true then us 6 else if dn 3=true then us 3 else u6)=u6 by simp [no6,hdi]] at r1
    exact Zf0 rfl rfl (.tmp 89) (.tmp 91) 23 rfl ((hat 0 89 kY kR kD).trans (hJ.vs (0,_) (List.mem_of_getElem? (i:=0) rfl) (hd _ rfl ⟨0,.data⟩ kY rfl))) ((hat 2 91 kY kR kD).trans (hJ.vs (2,_) (List.mem_of_getElem? (i:=2) rfl) (hd _ rfl ⟨2,.data⟩ kY rfl))) r1 ⟨v',rfl,r2⟩
   | 4,_,hdi=>exact Zai rfl rfl (.pointer (some ⟨w.heap.size,6,none⟩)) W kb0 ⟨_,rfl,hJ.val 4 _ hdi rfl rfl rfl rfl kY kY kY⟩
   | 5,_,hdi=>
    have h1:=Z5 ((hat 4 93 kY kR kD).trans (hJ.vs (4,_) (List.mem_of_getElem? (i:=3) rfl) (hd _ rfl ⟨4,.data⟩ kY rfl)))
    exact Zai rfl rfl (.slice a6 x.names.length n6) W kb0 ⟨_,rfl,hJ.val 5 _ hdi rfl rfl rfl rfl kY kY kY⟩
   | 6,_,hdi=>
    have d3:=hd _ rfl ⟨3,.data⟩ kY rfl
    obtain ⟨v',w',r1,r2⟩:=hJ.appS 6 hdi 23 _ x.names (HZ6.out.below b2.bl) (by have:=HSZ.out;simp [d3,hdi];omega) (fun v=>rfl) (fun v=>by simp [upd,Zf2]) rfl (by simp [upd,d3,hdi]) kY kY kY
    rw [show (if dn 6=true then us 6 else if dn 3=true then us 3 else u6)=us 3 by simp [d3,hdi]] at r1
    exact Zf0 rfl rfl (.tmp 92) (.tmp 94) 23 rfl (hat 3 92 kY kR kD) ((hat 5 94 kY kR kD).trans (hJ.vs (5,_) (List.mem_of_getElem? (i:=4) rfl) (hd _ rfl ⟨5,.data⟩ kY rfl))) r1 ⟨v',rfl,r2⟩
   | 7,_,hdi=>
    have d6:=hd _ rfl ⟨6,.data⟩ kY rfl
    have h6:=Z5 (hat 6 95 kY kR kD)
    exact Zai rfl rfl (us 6) W kb0 ⟨_,rfl,hJ.val 7 _ hdi rfl rfl rfl rfl kY kY kb76⟩
   | n + 8,hi,_=>simp at hi;omega
  intro dn us w14 hall hJ
  have hu7:=(hJ.fin (7,6) kY (hall 7 kY)).1
  obtain ⟨bx,b1,b2,_⟩:=hJ.fs
  have hf:=b2.sub b1
  rw [hall 3 kY,hall 6 kY,if_pos rfl,if_pos rfl,if_pos rfl] at hf
  have HF14:=Lh hf
  clear hf b1 b2 hall hJ HFI HZ5 HZ6 HSZ
  simp only [List.length_cons,List.length_nil,Nat.zero_add,Nat.reduceAdd,Z1,Z7,List.getElem?_toArray,List.getElem?_cons_zero,List.getElem?_cons_succ,Option.bind_some,Act.put,hu7]
  clear hu7
  generalize us 6=sv14 at *
  simp only [List.setIfInBounds_toArray,List.set_cons_zero,List.set_cons_succ]
  generalize hS1:S0 ++ x.key ++ x.names=S1 at *
  have HS1:=Lh hS1
  clear hS1
  have HLC:Hid (x.rows.length ≤ 16000000):=Lh (Nat.le_trans (Nat.le_trans (Zms Zm4 (fun c=>by unfold Zm4;rw [List.length_append];exact Nat.le_add_left _ _) x.rows) (by unfold fE;simp only [List.length_append];unfold Zm4;omega)) HE.out)
  have HSC:Hid (∀ i,((x.rows.take i).flatMap Zm4).length ≤ 16000000):=Lh (fun i=>Nat.le_trans (by have h1:=Zgf Zm4 x.rows i;unfold fE;simp only [List.length_append];unfold Zm4 at h1 ⊢;omega) HE.out)
  have p7:=(HF14.out.bx _ HM0.out).1.cell G7
  go_wp2_with fail
  go_loopg [5,99] x.rows.length (fun gk ev iv wr=>∃ (i:Nat),iv = .int .i64 (i:Int)∧gk=x.rows.length - i∧i ≤ x.rows.length∧Hid (FS w w.heap.size BX ev sv14 ((x.rows.take i).flatMap Zm4) S1 wr))
  case atStart=>exact ⟨0,rfl,rfl,Nat.zero_le _,HF14⟩
  case round=>
   obtain ⟨i,rfl,rfl,hi,HFI⟩:=hrel
   clear HF14 p7
   by_cases hlt:i < x.rows.length
   ·obtain ⟨l,hl⟩:∃ l,x.rows[i]? = some l:=⟨x.rows[i],by simp⟩
    have HTK:Hid ((x.rows.take (i + 1)).flatMap Zm4=(x.rows.take i).flatMap Zm4 ++ Zm4 l):=Lh (by rw [List.take_add_one,hl];simp)
    have HSZ:Hid (((x.rows.take i).flatMap Zm4).length + l.length + 1 ≤ 16000000):=Lh (by have h1:=HSC.out (i + 1);rw [HTK.out,List.length_append] at h1;unfold Zm4 at h1;rw [List.length_append] at h1;exact h1)
    obtain ⟨cb,co,kv,rfl,hkv,e0⟩:=Zmj H7.out hl
    have p0:=(HFI.out.bl.cell (Zd e0)).trans e0
    obtain ⟨ds,hz,hd,hX⟩:=Zlf hkv
    obtain ⟨ka,kc,rfl,_⟩:=hkv.shape
    have HZ:=Lh hz
    have HD:=Lh hd
    have HX:=Lh hX
    have ilt:(i:Int) < (x.rows.length:Int):=kW
    have ige:(0:Int) ≤ (i:Int):=kW
    have HLT:=Lh hlt
    clear e0 hl hlt hkv hz hd hX
    go_upto_region 17 with fail
    clear p0
    go_upto_region 18 with (first
     | (at_builtin;obtain ⟨ev2,w2,hr2,hF2⟩:=HFI.out.runE 28 _ l ds (HZ.out.below HFI.out.bl) HD.out HX.out (by have:=HSZ.out;omega);have HF2:=Lh hF2;clear hF2 HFI;refine Zgm rfl (.tmp 103) (.tmp 104) 28 rfl rfl rfl hr2 ?_;clear hr2)
     | (at_builtin;have hz3:=rdzZ w2;have HF3:=Lh (HF2.out.later ((Below.refl _ _).alloc (Nat.le_refl _) (.cells #[.int .u8 0,.int .u8 0,.int .i64 0,eS,eS,eS,.int .i64 0,nS] ETy)));generalize w2.alloc (.cells #[.int .u8 0,.int .u8 0,.int .i64 0,eS,eS,eS,.int .i64 0,nS] ETy)=W3 at *;generalize Value.slice (some ⟨w2.heap.size,0,none⟩) 1 1=zv at *;obtain ⟨ev4,w4,hr4,hF4⟩:=HF3.out.runE 28 zv [PE.zero] [[.int .u8 0,.int .u8 0,.int .i64 0,eS,eS,eS,.int .i64 0,nS]] hz3 rfl (zero_one w) (by have:=HSZ.out;rw [List.length_append];exact Nat.le_trans this (by decide));have HF4:=Lh hF4;clear hF4 HF3 hz3 HF2;refine Zgm rfl (.tmp 105) (.tmp 107) 28 rfl rfl rfl hr4 ?_;clear hr4))
    have HFR:Hid (FS w w.heap.size BX ev4 sv14 ((x.rows.take (i + 1)).flatMap Zm4) S1 w4):=Lh (by rw [HTK.out];unfold Zm4 at HF4 ⊢;rw [← List.append_assoc];exact HF4.out)
    clear HF4
    go_wp2_with fail
    go_roundg (x.rows.length - (i + 1))
    case measure=>exact Nat.sub_lt_sub_left HLT.out (Nat.lt_succ_self _)
    case rel=>exact ⟨i + 1,Zca kb18,rfl,HLT.out,HFR⟩
   obtain rfl:i=x.rows.length:=kW
   rw [List.take_length] at HFI
   clear hlt hi HSC HLC
   have p8:=(HFI.out.bx _ HM0.out).1.cell G8
   have HLC:Hid (x.sets.length ≤ 16000000):=Lh (Nat.le_trans kb14 HS.out)
   have HSE:Hid ((x.rows.flatMap Zm4).length + x.sets.length ≤ 16000000):=Lh (Nat.le_trans kb53 HE.out)
   have HSS:Hid (S1.length + x.sets.length ≤ 16000000):=Lh kb21
   generalize hE1:x.rows.flatMap Zm4=E1 at *
   have HE1:=Lh hE1
   clear hE1
   go_wp2_with fail
   go_loopg [5,6,113] x.sets.length (fun gk ev sv iv wr=>∃ (i:Nat),iv = .int .i64 (i:Int)∧gk=x.sets.length - i∧i ≤ x.sets.length∧Hid (FS w w.heap.size BX ev sv (E1 ++ (x.sets.take i).map (·.2)) (S1 ++ (x.sets.take i).map (·.1)) wr))
   case atStart=>exact ⟨0,rfl,rfl,Nat.zero_le _,Lh (by simpa using HFI.out)⟩
   case round=>
    obtain ⟨i,rfl,rfl,hi,HFJ⟩:=hrel
    clear HFI p8
    by_cases hlt:i < x.sets.length
    ·obtain ⟨s,hs⟩:∃ s,x.sets[i]? = some s:=⟨x.sets[i],by simp⟩
     have HTK:Hid (x.sets.take (i + 1)=x.sets.take i ++ [s]):=Lh kb57
     have HTL:Hid ((x.sets.take i).length=i):=Lh (by rw [List.length_take];omega)
     obtain ⟨cb,co,kv,rfl,hkv,e0,e1,e2,e3,e4,e5,e6,e7,e8⟩:=Zqp H8.out hs
     have p0:=(HFJ.out.bl.cell (Zd e0)).trans e0
     have p1:=(HFJ.out.bl.cell (Zd e1)).trans e1
     have p2:=(HFJ.out.bl.cell (Zd e2)).trans e2
     have p3:=(HFJ.out.bl.cell (Zd e3)).trans e3
     have p4:=(HFJ.out.bl.cell (Zd e4)).trans e4
     have p5:=(HFJ.out.bl.cell (Zd e5)).trans e5
     have p6:=(HFJ.out.bl.cell (Zd e6)).trans e6
     have p7:=(HFJ.out.bl.cell (Zd e7)).trans e7
     have p8:=(HFJ.out.bl.cell (Zd e8)).trans e8
     obtain ⟨ka,kc,rfl,_⟩:=hkv.shape
     have HKV:=Lh hkv
     have ilt:(i:Int) < (x.sets.length:Int):=kW
     have ige:(0:Int) ≤ (i:Int):=kW
     have HLT:=Lh hlt
     clear e0 e1 e2 e3 e4 e5 e6 e7 e8 hs hlt hkv
     go_upto_region 22 with fail
     have h22:=HFJ.out.alloc #[.string s.1,.int .u8 (s.2.op:Int),.int .u8 (s.2.v.k:Int),.int .i64 s.2.v.n,.string s.2.v.s,.string s.2.t,.string s.2.m,.int .i64 s.2.n,.slice ka s.2.kids.length kc] 94
     have HF22:=Lh h22
     have hEX:ExR w ((eA s.2 ka kc):Array Value).toList s.2:=Zby.2 ⟨_,rfl,HKV.out⟩
     have HEX:=Lh hEX
     have HSZ1:Hid ((E1 ++ (x.sets.take i).map (·.2)).length + 1 ≤ 16000000∧(S1 ++ (x.sets.take i).map (·.1)).length + 1 ≤ 16000000):=Lh (by
      exact ks70)
     clear h22 hEX HFJ p0 p1 p2 p3 p4 p5 p6 p7 p8
     generalize wr.alloc (.cells #[.string s.1,.int .u8 (s.2.op:Int),.int .u8 (s.2.v.k:Int),.int .i64 s.2.v.n,.string s.2.v.s,.string s.2.t,.string s.2.m,.int .i64 s.2.n,.slice ka s.2.kids.length kc] 94)=w22 at *
     generalize wr.heap.size=b13 at *
     generalize hE2:E1 ++ (x.sets.take i).map (·.2)=E2 at *
     generalize hS2:S1 ++ (x.sets.take i).map (·.1)=S2 at *
     have HE2:=Lh hE2
     have HS2:=Lh hS2
     clear hE2 hS2
     refine Zcz (RJ w w.heap.size ((b13,94,#[.string s.1,.int .u8 (s.2.op:Int),.int .u8 (s.2.v.k:Int),.int .i64 s.2.v.n,.string s.2.v.s,.string s.2.t,.string s.2.m,.int .i64 s.2.n,.slice ka s.2.kids.length kc]) :: BX) (fun dn us=>if dn 9 then us 9 else u5) (fun dn us=>if dn 4 then us 4 else u6) (fun dn=>E2 ++ (if dn 9 then [s.2] else [])) (fun dn=>S2 ++ (if dn 4 then [s.1] else []))
      [(0,u6),(1,pV b13),(2,.string s.1),(5,u5),(6,.pointer (some ⟨b13,1,none⟩)),(7,.agg (eA s.2 ka kc))] [(3,STy,1,#[.string s.1]),(8,ETy,1,(eA s.2 ka kc))] [(10,u6),(11,u5)] [(10,4),(11,9)]) 199 kY kR kR
      (fun us hus=>⟨⟨_,fun _ h=>h,by simpa using HF22.out.drew,fun l hl h=>Zod⟩,fun p hp h=>Zod,fun p hp _=>kb19,fun p hp h=>Zod⟩) ?_ ?_
     ·
      intro i hi dn us F W hother hat hJ hdi hcl hd
      have hp13:=Z5 (show F.eval (.tmp 13) = pV b13 from hother 13 kR)
      obtain ⟨bx,b1,b2,b3⟩:=hJ.fs
      have rb:=(b2.bx _ (b1 (b13,94,#[.string s.1,.int .u8 (s.2.op:Int),.int .u8 (s.2.v.k:Int),.int .i64 s.2.v.n,.string s.2.v.s,.string s.2.t,.string s.2.m,.int .i64 s.2.n,.slice ka s.2.kids.length kc]) kY)).1
      match i,hi,hdi with
      | 0,_,hdi=>
       exact ks43
      | 1,_,hdi=>exact Zai rfl rfl (pV b13) W kb0 ⟨_,rfl,hJ.val 1 _ hdi rfl rfl rfl rfl kY kY kY⟩
      | 2,_,hdi=>
       have h1:=Z5 ((hat 1 118 kY kR kD).trans (hJ.vs (1,_) (List.mem_of_getElem? (i:=1) rfl) (hd _ rfl ⟨1,.data⟩ kY rfl)))
       have c0:=rb.cell (i:=0) (v:=.string s.1) rfl
       exact Zai rfl rfl (.string s.1) W kb0 ⟨_,rfl,hJ.val 2 _ hdi rfl rfl rfl rfl kY kY kY⟩
      | 3,_,hdi=>
       have h1:=Z5 ((hat 2 119 kY kR kD).trans (hJ.vs (2,_) (List.mem_of_getElem? (i:=2) rfl) (hd _ rfl ⟨2,.data⟩ kY rfl)))
       exact Zai rfl rfl (.slice (some ⟨W.heap.size,0,none⟩) 1 1) (W.alloc (.cells #[.string s.1] STy)) kb0 ⟨_,rfl,hJ.lit 3 1 STy #[.string s.1] hdi (fun _=>rfl) (fun _=>rfl) rfl rfl kY kY kY⟩
      | 4,_,hdi=>
       obtain ⟨k,k1,k2⟩:=b3 _ (List.mem_of_getElem? (i:=0) rfl) (hd _ rfl ⟨3,.data⟩ kY rfl)
       obtain ⟨v',w',r1,r2⟩:=hJ.appS 4 hdi 23 _ [s.1] (rdzR1 (b2.bx _ k2).1) kb74 (fun v=>rfl) (fun v=>by simp [upd,Zf2]) rfl kb80 kY kY kY
       rw [show (if dn 4=true then us 4 else u6)=u6 by simp [hdi]] at r1
       exact Zf0 rfl rfl (.tmp 117) (.tmp 120) 23 rfl ((hat 0 117 kY kR kD).trans (hJ.vs (0,_) (List.mem_of_getElem? (i:=0) rfl) (hd _ rfl ⟨0,.data⟩ kY rfl))) ((hat 3 120 kY kR kD).trans k1) r1 ⟨v',rfl,r2⟩
      | 5,_,hdi=>
       exact ks42
      | 6,_,hdi=>exact Zai rfl rfl (.pointer (some ⟨b13,1,none⟩)) W kb0 ⟨_,rfl,hJ.val 6 _ hdi rfl rfl rfl rfl kY kY kY⟩
      | 7,_,hdi=>
       have h1:=Z5 ((hat 6 123 kY kR kD).trans (hJ.vs (6,_) (List.mem_of_getElem? (i:=4) rfl) (hd _ rfl ⟨6,.data⟩ kY rfl)))
       have c1:=rb.cell (i:=1) (v:=.int .u8 (s.2.op:Int)) rfl
       have c2:=rb.cell (i:=2) (v:=.int .u8 (s.2.v.k:Int)) rfl
       have c3:=rb.cell (i:=3) (v:=.int .i64 s.2.v.n) rfl
       have c4:=rb.cell (i:=4) (v:=.string s.2.v.s) rfl
       have c5:=rb.cell (i:=5) (v:=.string s.2.t) rfl
       have c6:=rb.cell (i:=6) (v:=.string s.2.m) rfl
       have c7:=rb.cell (i:=7) (v:=.int .i64 s.2.n) rfl
       have c8:=rb.cell (i:=8) (v:=.slice ka s.2.kids.length kc) rfl
       exact Zai rfl rfl (.agg (eA s.2 ka kc)) W kb0 ⟨_,rfl,hJ.val 7 _ hdi rfl rfl rfl rfl kY kY kY⟩
      | 8,_,hdi=>
       have h1:=Z5 ((hat 7 124 kY kR kD).trans (hJ.vs (7,_) (List.mem_of_getElem? (i:=5) rfl) (hd _ rfl ⟨7,.data⟩ kY rfl)))
       exact Zai rfl rfl (.slice (some ⟨W.heap.size,0,none⟩) 1 1) (W.alloc (.cells (eA s.2 ka kc) ETy)) kb0 ⟨_,rfl,hJ.lit 8 1 ETy (eA s.2 ka kc) hdi (fun _=>rfl) (fun _=>rfl) rfl rfl kY kY kY⟩
      | 9,_,hdi=>
       obtain ⟨k,k1,k2⟩:=b3 _ (List.mem_of_getElem? (i:=1) rfl) (hd _ rfl ⟨8,.data⟩ kY rfl)
       obtain ⟨v',w',r1,r2⟩:=hJ.appE 9 hdi 28 _ [s.2] [((eA s.2 ka kc):Array Value).toList] (rdzRE (b2.bx _ k2).1 rfl) rfl (Zrm HEX.out) (by have:=HSZ1.out.1;simp [hdi];omega) (fun v=>by simp [upd,Zf2]) (fun v=>rfl) kb80 rfl kY kY kY
       rw [show (if dn 9=true then us 9 else u5)=u5 by simp [hdi]] at r1
       exact Zf0 rfl rfl (.tmp 122) (.tmp 125) 28 rfl ((hat 5 122 kY kR kD).trans (hJ.vs (5,_) (List.mem_of_getElem? (i:=3) rfl) (hd _ rfl ⟨5,.data⟩ kY rfl))) ((hat 8 125 kY kR kD).trans k1) r1 ⟨v',rfl,r2⟩
      | 10,_,hdi=>
       have d6:=hd _ rfl ⟨4,.data⟩ kY rfl
       have h6:=Z5 (hat 4 121 kY kR kD)
       exact Zai rfl rfl (us 4) W kb0 ⟨_,rfl,hJ.val 10 _ hdi rfl rfl rfl rfl kY kY kb76⟩
      | 11,_,hdi=>
       have d6:=hd _ rfl ⟨9,.data⟩ kY rfl
       have h6:=Z5 (hat 9 126 kY kR kD)
       exact Zai rfl rfl (us 9) W kb0 ⟨_,rfl,hJ.val 11 _ hdi rfl rfl rfl rfl kY kY kb76⟩
      | n + 12,hi,_=>simp at hi;omega
     intro dn us w23 hall hJ
     have hu10:=(hJ.fin (10,4) kY (hall 10 kY)).1
     have hu11:=(hJ.fin (11,9) kY (hall 11 kY)).1
     obtain ⟨bx,b1,b2,b3⟩:=hJ.fs
     have hf:=b2.sub (fun b hb=>b1 b (List.mem_cons_of_mem _ hb))
     rw [hall 9 kY,hall 4 kY,if_pos rfl,if_pos rfl,if_pos rfl,if_pos rfl] at hf
     have HFR:Hid (FS w w.heap.size BX (us 9) (us 4) (E1 ++ (x.sets.take (i + 1)).map (·.2)) (S1 ++ (x.sets.take (i + 1)).map (·.1)) w23):=Lh (by
      rw [HTK.out,List.map_append,List.map_append,← List.append_assoc,← List.append_assoc,HE2.out,HS2.out];exact hf)
     clear hf b1 b2 b3 hall hJ HF22 HSZ1 HEX
     simp only [List.length_cons,List.length_nil,Nat.zero_add,Nat.reduceAdd,Z1,Z7,List.getElem?_toArray,List.getElem?_cons_zero,List.getElem?_cons_succ,Option.bind_some,Act.put,hu10,hu11]
     clear hu10 hu11
     generalize us 9=ov23 at *
     generalize us 4=sv23 at *
     simp only [List.setIfInBounds_toArray,List.set_cons_zero,List.set_cons_succ]
     go_wp2_with fail
     go_roundg (x.sets.length - (i + 1))
     case measure=>exact Nat.sub_lt_sub_left HLT.out (Nat.lt_succ_self _)
     case rel=>exact ⟨i + 1,Zca kb18,rfl,HLT.out,HFR⟩
    obtain rfl:i=x.sets.length:=kW
    rw [List.take_length] at HFJ
    clear hlt hi HSE HSS HLC
    have p8:=(HFJ.out.bx _ HM0.out).1.cell G9
    have HLC:Hid (x.items.length ≤ 16000000):=Lh (Nat.le_trans kb14 HS.out)
    have HSE:Hid ((E1 ++ x.sets.map (·.2)).length + x.items.length ≤ 16000000):=Lh (by rw [← HE1.out];exact Nat.le_trans kb53 HE.out)
    have HSS:Hid ((S1 ++ x.sets.map (·.1)).length + x.items.length ≤ 16000000):=Lh kb21
    generalize hE3:E1 ++ x.sets.map (·.2)=E3 at *
    have HE3:=Lh hE3
    generalize hS3:S1 ++ x.sets.map (·.1)=S3 at *
    have HS3:=Lh hS3
    clear hE3 hS3
    go_wp2_with fail
    go_loopg [5,6,131] x.items.length (fun gk ev sv iv wr=>∃ (i:Nat),iv = .int .i64 (i:Int)∧gk=x.items.length - i∧i ≤ x.items.length∧Hid (FS w w.heap.size BX ev sv (E3 ++ (x.items.take i).map (·.1)) (S3 ++ (x.items.take i).map (·.2)) wr))
    case atStart=>exact ⟨0,rfl,rfl,Nat.zero_le _,Lh (by simpa using HFJ.out)⟩
    case round=>
     obtain ⟨i,rfl,rfl,hi,HFK⟩:=hrel
     clear HFJ p8
     by_cases hlt:i < x.items.length
     ·obtain ⟨s,hs⟩:∃ s,x.items[i]? = some s:=⟨x.items[i],by simp⟩
      have HTK:Hid (x.items.take (i + 1)=x.items.take i ++ [s]):=Lh kb57
      have HTL:Hid ((x.items.take i).length=i):=Lh (by rw [List.length_take];omega)
      obtain ⟨cb,co,kv,rfl,hkv,e0,e1,e2,e3,e4,e5,e6,e7,e8⟩:=Zp2 H9.out hs
      have p0:=(HFK.out.bl.cell (Zd e0)).trans e0
      have p1:=(HFK.out.bl.cell (Zd e1)).trans e1
      have p2:=(HFK.out.bl.cell (Zd e2)).trans e2
      have p3:=(HFK.out.bl.cell (Zd e3)).trans e3
      have p4:=(HFK.out.bl.cell (Zd e4)).trans e4
      have p5:=(HFK.out.bl.cell (Zd e5)).trans e5
      have p6:=(HFK.out.bl.cell (Zd e6)).trans e6
      have p7:=(HFK.out.bl.cell (Zd e7)).trans e7
      have p8:=(HFK.out.bl.cell (Zd e8)).trans e8
      obtain ⟨ka,kc,rfl,_⟩:=hkv.shape
      have HKV:=Lh hkv
      have ilt:(i:Int) < (x.items.length:Int):=kW
      have ige:(0:Int) ≤ (i:Int):=kW
      have HLT:=Lh hlt
      clear e0 e1 e2 e3 e4 e5 e6 e7 e8 hs hlt hkv
      go_upto_region 27 with fail
      have h22:=HFK.out.alloc #[.int .u8 (s.1.op:Int),.int .u8 (s.1.v.k:Int),.int .i64 s.1.v.n,.string s.1.v.s,.string s.1.t,.string s.1.m,.int .i64 s.1.n,.slice ka s.1.kids.length kc,.string s.2] 106
      have HF22:=Lh h22
      have hEX:ExR w ((eA s.1 ka kc):Array Value).toList s.1:=Zby.2 ⟨_,rfl,HKV.out⟩
      have HEX:=Lh hEX
      have HSZ1:Hid ((E3 ++ (x.items.take i).map (·.1)).length + 1 ≤ 16000000∧(S3 ++ (x.items.take i).map (·.2)).length + 1 ≤ 16000000):=Lh (by
       exact ks70)
      clear h22 hEX HFK p0 p1 p2 p3 p4 p5 p6 p7 p8
      generalize wr.alloc (.cells #[.int .u8 (s.1.op:Int),.int .u8 (s.1.v.k:Int),.int .i64 s.1.v.n,.string s.1.v.s,.string s.1.t,.string s.1.m,.int .i64 s.1.n,.slice ka s.1.kids.length kc,.string s.2] 106)=w22 at *
      generalize wr.heap.size=b13 at *
      generalize hE2:E3 ++ (x.items.take i).map (·.1)=E2 at *
      generalize hS2:S3 ++ (x.items.take i).map (·.2)=S2 at *
      have HE2:=Lh hE2
      have HS2:=Lh hS2
      clear hE2 hS2
      refine Zcz (RJ w w.heap.size ((b13,106,#[.int .u8 (s.1.op:Int),.int .u8 (s.1.v.k:Int),.int .i64 s.1.v.n,.string s.1.v.s,.string s.1.t,.string s.1.m,.int .i64 s.1.n,.slice ka s.1.kids.length kc,.string s.2]) :: BX) (fun dn us=>if dn 9 then us 9 else u5) (fun dn us=>if dn 4 then us 4 else u6) (fun dn=>E2 ++ (if dn 9 then [s.1] else [])) (fun dn=>S2 ++ (if dn 4 then [s.2] else []))
       [(0,u6),(1,.pointer (some ⟨b13,8,none⟩)),(2,.string s.2),(5,u5),(6,pV b13),(7,.agg (eA s.1 ka kc))] [(3,STy,1,#[.string s.2]),(8,ETy,1,(eA s.1 ka kc))] [(10,u6),(11,u5)] [(10,4),(11,9)]) 199 kY kR kR
       (fun us hus=>⟨⟨_,fun _ h=>h,by simpa using HF22.out.drew,fun l hl h=>Zod⟩,fun p hp h=>Zod,fun p hp _=>kb19,fun p hp h=>Zod⟩) ?_ ?_
      ·
       intro i hi dn us F W hother hat hJ hdi hcl hd
       have hp13:=Z5 (show F.eval (.tmp 15) = pV b13 from hother 15 kR)
       obtain ⟨bx,b1,b2,b3⟩:=hJ.fs
       have rb:=(b2.bx _ (b1 (b13,106,#[.int .u8 (s.1.op:Int),.int .u8 (s.1.v.k:Int),.int .i64 s.1.v.n,.string s.1.v.s,.string s.1.t,.string s.1.m,.int .i64 s.1.n,.slice ka s.1.kids.length kc,.string s.2]) kY)).1
       match i,hi,hdi with
       | 0,_,hdi=>
        exact ks43
       | 1,_,hdi=>exact Zai rfl rfl (.pointer (some ⟨b13,8,none⟩)) W kb0 ⟨_,rfl,hJ.val 1 _ hdi rfl rfl rfl rfl kY kY kY⟩
       | 2,_,hdi=>
        have h1:=Z5 ((hat 1 136 kY kR kD).trans (hJ.vs (1,_) (List.mem_of_getElem? (i:=1) rfl) (hd _ rfl ⟨1,.data⟩ kY rfl)))
        have d0:=rb.cell (i:=8) (v:=.string s.2) rfl
        exact Zai rfl rfl (.string s.2) W kb0 ⟨_,rfl,hJ.val 2 _ hdi rfl rfl rfl rfl kY kY kY⟩
       | 3,_,hdi=>
        have h1:=Z5 ((hat 2 137 kY kR kD).trans (hJ.vs (2,_) (List.mem_of_getElem? (i:=2) rfl) (hd _ rfl ⟨2,.data⟩ kY rfl)))
        exact Zai rfl rfl (.slice (some ⟨W.heap.size,0,none⟩) 1 1) (W.alloc (.cells #[.string s.2] STy)) kb0 ⟨_,rfl,hJ.lit 3 1 STy #[.string s.2] hdi (fun _=>rfl) (fun _=>rfl) rfl rfl kY kY kY⟩
       | 4,_,hdi=>
        obtain ⟨k,k1,k2⟩:=b3 _ (List.mem_of_getElem? (i:=0) rfl) (hd _ rfl ⟨3,.data⟩ kY rfl)
        obtain ⟨v',w',r1,r2⟩:=hJ.appS 4 hdi 23 _ [s.2] (rdzR1 (b2.bx _ k2).1) kb74 (fun v=>rfl) (fun v=>by simp [upd,Zf2]) rfl kb80 kY kY kY
        rw [show (if dn 4=true then us 4 else u6)=u6 by simp [hdi]] at r1
        exact Zf0 rfl rfl (.tmp 135) (.tmp 138) 23 rfl ((hat 0 135 kY kR kD).trans (hJ.vs (0,_) (List.mem_of_getElem? (i:=0) rfl) (hd _ rfl ⟨0,.data⟩ kY rfl))) ((hat 3 138 kY kR kD).trans k1) r1 ⟨v',rfl,r2⟩
       | 5,_,hdi=>
        exact ks42
       | 6,_,hdi=>exact Zai rfl rfl (pV b13) W kb0 ⟨_,rfl,hJ.val 6 _ hdi rfl rfl rfl rfl kY kY kY⟩
       | 7,_,hdi=>
        have h1:=Z5 ((hat 6 141 kY kR kD).trans (hJ.vs (6,_) (List.mem_of_getElem? (i:=4) rfl) (hd _ rfl ⟨6,.data⟩ kY rfl)))
        have c0:=rb.cell (i:=0) rfl;have c1:=rb.cell (i:=1) rfl;have c2:=rb.cell (i:=2) rfl;have c3:=rb.cell (i:=3) rfl;have c4:=rb.cell (i:=4) rfl;have c5:=rb.cell (i:=5) rfl;have c6:=rb.cell (i:=6) rfl;have c7:=rb.cell (i:=7) rfl
        exact Zai rfl rfl (.agg (eA s.1 ka kc)) W kb0 ⟨_,rfl,hJ.val 7 _ hdi rfl rfl rfl rfl kY kY kY⟩
       | 8,_,hdi=>
        have h1:=Z5 ((hat 7 142 kY kR kD).trans (hJ.vs (7,_) (List.mem_of_getElem? (i:=5) rfl) (hd _ rfl ⟨7,.data⟩ kY rfl)))
        exact Zai rfl rfl (.slice (some ⟨W.heap.size,0,none⟩) 1 1) (W.alloc (.cells (eA s.1 ka kc) ETy)) kb0 ⟨_,rfl,hJ.lit 8 1 ETy (eA s.1 ka kc) hdi (fun _=>rfl) (fun _=>rfl) rfl rfl kY kY kY⟩
       | 9,_,hdi=>
        obtain ⟨k,k1,k2⟩:=b3 _ (List.mem_of_getElem? (i:=1) rfl) (hd _ rfl ⟨8,.data⟩ kY rfl)
        obtain ⟨v',w',r1,r2⟩:=hJ.appE 9 hdi 28 _ [s.1] [((eA s.1 ka kc):Array Value).toList] (rdzRE (b2.bx _ k2).1 rfl) rfl (Zrm HEX.out) (by have:=HSZ1.out.1;simp [hdi];omega) (fun v=>by simp [upd,Zf2]) (fun v=>rfl) kb80 rfl kY kY kY
        rw [show (if dn 9=true then us 9 else u5)=u5 by simp [hdi]] at r1
        exact Zf0 rfl rfl (.tmp 140) (.tmp 143) 28 rfl ((hat 5 140 kY kR kD).trans (hJ.vs (5,_) (List.mem_of_getElem? (i:=3) rfl) (hd _ rfl ⟨5,.data⟩ kY rfl))) ((hat 8 143 kY kR kD).trans k1) r1 ⟨v',rfl,r2⟩
       | 10,_,hdi=>
        have d6:=hd _ rfl ⟨4,.data⟩ kY rfl
        have h6:=Z5 (hat 4 139 kY kR kD)
        exact Zai rfl rfl (us 4) W kb0 ⟨_,rfl,hJ.val 10 _ hdi rfl rfl rfl rfl kY kY kb76⟩
       | 11,_,hdi=>
        have d6:=hd _ rfl ⟨9,.data⟩ kY rfl
        have h6:=Z5 (hat 9 144 kY kR kD)
        exact Zai rfl rfl (us 9) W kb0 ⟨_,rfl,hJ.val 11 _ hdi rfl rfl rfl rfl kY kY kb76⟩
       | n + 12,hi,_=>simp at hi;omega
      intro dn us w23 hall hJ
      have hu10:=(hJ.fin (10,4) kY (hall 10 kY)).1
      have hu11:=(hJ.fin (11,9) kY (hall 11 kY)).1
      obtain ⟨bx,b1,b2,b3⟩:=hJ.fs
      have hf:=b2.sub (fun b hb=>b1 b (List.mem_cons_of_mem _ hb))
      rw [hall 9 kY,hall 4 kY,if_pos rfl,if_pos rfl,if_pos rfl,if_pos rfl] at hf
      have HFR:Hid (FS w w.heap.size BX (us 9) (us 4) (E3 ++ (x.items.take (i + 1)).map (·.1)) (S3 ++ (x.items.take (i + 1)).map (·.2)) w23):=Lh (by
       rw [HTK.out,List.map_append,List.map_append,← List.append_assoc,← List.append_assoc,HE2.out,HS2.out];exact hf)
      clear hf b1 b2 b3 hall hJ HF22 HSZ1 HEX
      simp only [List.length_cons,List.length_nil,Nat.zero_add,Nat.reduceAdd,Z1,Z7,List.getElem?_toArray,List.getElem?_cons_zero,List.getElem?_cons_succ,Option.bind_some,Act.put,hu10,hu11]
      clear hu10 hu11
      generalize us 9=ov23 at *
      generalize us 4=sv23 at *
      simp only [List.setIfInBounds_toArray,List.set_cons_zero,List.set_cons_succ]
      go_wp2_with fail
      go_roundg (x.items.length - (i + 1))
      case measure=>exact Nat.sub_lt_sub_left HLT.out (Nat.lt_succ_self _)
      case rel=>exact ⟨i + 1,Zca kb18,rfl,HLT.out,HFR⟩
     obtain rfl:i=x.items.length:=kW
     rw [List.take_length] at HFK
     clear hlt hi HSE HSS HLC
     have p10:=(HFK.out.bx _ HM0.out).1.cell G10
     generalize hE5:E3 ++ x.items.map (·.1)=E5 at *
     have HE5:=Lh hE5
     generalize hS5:S3 ++ x.items.map (·.2)=S5 at *
     have HS5:=Lh hS5
     clear hE5 hS5
     have HLC:Hid (x.src.length ≤ 16000000):=Lh (Nat.le_trans (Nat.le_trans (Zms Zpo (fun _=>show 1 ≤ 2 by decide) x.src) (by unfold fS Zpo;simp only [List.length_append];omega)) HS.out)
     have HSE:Hid (∀ i,(E5 ++ (x.src.take i).flatMap Zs1).length ≤ 16000000):=Lh (fun i=>by
      have h1:=Zgf Zs1 x.src i
      rw [← HE5.out,← HE3.out,← HE1.out,List.length_append]
      exact Nat.le_trans (Nat.add_le_add_left h1 _) (Nat.le_trans kb23 HE.out))
     have HSS:Hid (∀ i,(S5 ++ (x.src.take i).flatMap Zpo).length ≤ 16000000):=Lh (fun i=>by
      have h1:=Zgf Zpo x.src i
      rw [← HS5.out,← HS3.out,← HS1.out,← HS0.out,List.length_append]
      exact Nat.le_trans (Nat.add_le_add_left h1 _) (Nat.le_trans (by unfold fS Zpo;simp only [List.length_append,List.length_map];omega) HS.out))
     go_wp2_with fail
     go_loopg [5,6,149] x.src.length (fun gk ev sv iv wr=>∃ (i:Nat),iv = .int .i64 (i:Int)∧gk=x.src.length - i∧i ≤ x.src.length∧Hid (FS w w.heap.size BX ev sv (E5 ++ (x.src.take i).flatMap Zs1) (S5 ++ (x.src.take i).flatMap Zpo) wr))
     case atStart=>exact ⟨0,rfl,rfl,Nat.zero_le _,Lh (by simpa using HFK.out)⟩
     case round=>
      obtain ⟨i,rfl,rfl,hi,HFL⟩:=hrel
      clear HFK p10
      by_cases hlt:i < x.src.length
      ·obtain ⟨s,hs⟩:∃ s,x.src[i]? = some s:=⟨x.src[i],by simp⟩
       have HTK:Hid (x.src.take (i + 1)=x.src.take i ++ [s]):=Lh kb57
       obtain ⟨cb,co,kv,rfl,hkv,e0,e1,e2⟩:=Zqo H10.out hs
       have p0:=(HFL.out.bl.cell (Zd e0)).trans e0
       have p1:=(HFL.out.bl.cell (Zd e1)).trans e1
       have p2:=(HFL.out.bl.cell (Zd e2)).trans e2
       obtain ⟨ds,hz,hd,hX⟩:=Zlf hkv
       obtain ⟨ka,kc,rfl,_⟩:=hkv.shape
       have HZ:=Lh hz
       have HD:=Lh hd
       have HX:=Lh hX
       have ilt:(i:Int) < (x.src.length:Int):=kW
       have ige:(0:Int) ≤ (i:Int):=kW
       have HLT:=Lh hlt
       clear e0 e1 e2 hs hlt hkv hz hd hX
       go_upto_region 32 with fail
       have h22:=HFL.out.alloc #[.string s.table,.string s.as,.slice ka s.on.length kc] 110
       have HF22:=Lh h22
       have HSZ1:Hid ((E5 ++ (x.src.take i).flatMap Zs1).length + s.on.length + 1 ≤ 16000000∧(S5 ++ (x.src.take i).flatMap Zpo).length + 2 ≤ 16000000):=Lh (by
        have h1:=HSE.out (i + 1)
        have h2:=HSS.out (i + 1)
        rw [HTK.out,List.flatMap_append,← List.append_assoc,List.length_append] at h1 h2
        have e1:([s].flatMap Zs1).length=s.on.length + 1:=by simp [Zs1]
        have e2:([s].flatMap Zpo).length=2:=by simp [Zpo]
        rw [e1] at h1
        rw [e2] at h2
        exact ⟨h1,h2⟩)
       clear h22 HFL p0 p1 p2
       generalize wr.alloc (.cells #[.string s.table,.string s.as,.slice ka s.on.length kc] 110)=w22 at *
       generalize wr.heap.size=b13 at *
       generalize hE6:E5 ++ (x.src.take i).flatMap Zs1=E6 at *
       generalize hS6:S5 ++ (x.src.take i).flatMap Zpo=S6 at *
       have HE6:=Lh hE6
       have HS6:=Lh hS6
       clear hE6 hS6
       refine Zcz (RJ w w.heap.size ((b13,110,#[.string s.table,.string s.as,.slice ka s.on.length kc]) :: BX) (fun dn us=>if dn 13 then us 13 else if dn 10 then us 10 else u5) (fun dn us=>if dn 6 then us 6 else u6) (fun dn=>E6 ++ (if dn 10 then s.on else []) ++ (if dn 13 then [PE.zero] else [])) (fun dn=>S6 ++ (if dn 6 then [s.table,s.as] else []))
        [(0,u6),(1,pV b13),(2,.string s.table),(3,.pointer (some ⟨b13,1,none⟩)),(4,.string s.as),(7,u5),(8,.pointer (some ⟨b13,2,none⟩)),(9,.slice ka s.on.length kc),(11,.agg #[.int .u8 0,.int .u8 0,iZ,eS,eS,eS,iZ,nS])] [(5,STy,2,#[.string s.table,.string s.as]),(12,ETy,1,#[.int .u8 0,.int .u8 0,iZ,eS,eS,eS,iZ,nS])] [(14,u6),(15,u5)] [(14,6),(15,13)]) 199 kY kR kR
        (fun us hus=>⟨⟨_,fun _ h=>h,by simpa using HF22.out.drew,fun l hl h=>Zod⟩,fun p hp h=>Zod,fun p hp _=>(by simp only [List.mem_cons,List.not_mem_nil,or_false] at hp;rcases hp with rfl | rfl;exact hus 14 6 kY kR;exact hus 15 5 kY kR),fun p hp h=>Zod⟩) ?_ ?_
       ·
        intro i hi dn us F W hother hat hJ hdi hcl hd
        have hp17:=Z5 (show F.eval (.tmp 17) = pV b13 from hother 17 kR)
        obtain ⟨bx,b1,b2,b3⟩:=hJ.fs
        have rb:=(b2.bx _ (b1 (b13,110,#[.string s.table,.string s.as,.slice ka s.on.length kc]) kY)).1
        match i,hi,hdi with
        | 0,_,hdi=>
         have no:dn 14=false:=by
          cases h7:dn 14 with
          | false=>rfl
          | true=>have:=hcl 14 _ rfl h7 ⟨0,.phase⟩ kY rfl;rw [hdi] at this;cases this
         have h6:=Z5 ((hat 14 6 kY kR kD).trans (hJ.old (14,u6) kY no))
         exact Zai rfl rfl u6 W kb0 ⟨_,rfl,hJ.val 0 _ hdi rfl rfl rfl rfl kY kY kY⟩
        | 1,_,hdi=>exact Zai rfl rfl (pV b13) W kb0 ⟨_,rfl,hJ.val 1 _ hdi rfl rfl rfl rfl kY kY kY⟩
        | 2,_,hdi=>
         have h1:=Z5 ((hat 1 154 kY kR kD).trans (hJ.vs (1,_) (List.mem_of_getElem? (i:=1) rfl) (hd _ rfl ⟨1,.data⟩ kY rfl)))
         have c0:=rb.cell (i:=0) (v:=.string s.table) rfl
         exact Zai rfl rfl (.string s.table) W kb0 ⟨_,rfl,hJ.val 2 _ hdi rfl rfl rfl rfl kY kY kY⟩
        | 3,_,hdi=>exact Zai rfl rfl (.pointer (some ⟨b13,1,none⟩)) W kb0 ⟨_,rfl,hJ.val 3 _ hdi rfl rfl rfl rfl kY kY kY⟩
        | 4,_,hdi=>
         have h1:=Z5 ((hat 3 156 kY kR kD).trans (hJ.vs (3,_) (List.mem_of_getElem? (i:=3) rfl) (hd _ rfl ⟨3,.data⟩ kY rfl)))
         have c0:=rb.cell (i:=1) (v:=.string s.as) rfl
         exact Zai rfl rfl (.string s.as) W kb0 ⟨_,rfl,hJ.val 4 _ hdi rfl rfl rfl rfl kY kY kY⟩
        | 5,_,hdi=>
         have h1:=Z5 ((hat 2 155 kY kR kD).trans (hJ.vs (2,_) (List.mem_of_getElem? (i:=2) rfl) (hd _ rfl ⟨2,.data⟩ kY rfl)))
         have h2:=Z5 ((hat 4 157 kY kR kD).trans (hJ.vs (4,_) (List.mem_of_getElem? (i:=4) rfl) (hd _ rfl ⟨4,.data⟩ kY rfl)))
         exact Zai rfl rfl (.slice (some ⟨W.heap.size,0,none⟩) 2 2) (W.alloc (.cells #[.string s.table,.string s.as] STy)) kb0 ⟨_,rfl,hJ.lit 5 2 STy #[.string s.table,.string s.as] hdi (fun _=>rfl) (fun _=>rfl) rfl rfl kY kY kY⟩
        | 6,_,hdi=>
         obtain ⟨k,k1,k2⟩:=b3 _ (List.mem_of_getElem? (i:=0) rfl) (hd _ rfl ⟨5,.data⟩ kY rfl)
         obtain ⟨v',w',r1,r2⟩:=hJ.appS 6 hdi 23 _ [s.table,s.as] (rdzR2 (b2.bx _ k2).1) kb74 (fun v=>rfl) (fun v=>by simp [upd,Zf2]) rfl kb80 kY kY kY
         rw [show (if dn 6=true then us 6 else u6)=u6 by simp [hdi]] at r1
         exact Zf0 rfl rfl (.tmp 153) (.tmp 158) 23 rfl ((hat 0 153 kY kR kD).trans (hJ.vs (0,_) (List.mem_of_getElem? (i:=0) rfl) (hd _ rfl ⟨0,.data⟩ kY rfl))) ((hat 5 158 kY kR kD).trans k1) r1 ⟨v',rfl,r2⟩
        | 7,_,hdi=>
         have no:dn 15=false:=by
          cases h7:dn 15 with
          | false=>rfl
          | true=>have:=hcl 15 _ rfl h7 ⟨7,.phase⟩ kY rfl;rw [hdi] at this;cases this
         have h6:=Z5 ((hat 15 5 kY kR kD).trans (hJ.old (15,u5) kY no))
         exact Zai rfl rfl u5 W kb0 ⟨_,rfl,hJ.val 7 _ hdi rfl rfl rfl rfl kY kY kY⟩
        | 8,_,hdi=>exact Zai rfl rfl (.pointer (some ⟨b13,2,none⟩)) W kb0 ⟨_,rfl,hJ.val 8 _ hdi rfl rfl rfl rfl kY kY kY⟩
        | 9,_,hdi=>
         have h1:=Z5 ((hat 8 161 kY kR kD).trans (hJ.vs (8,_) (List.mem_of_getElem? (i:=6) rfl) (hd _ rfl ⟨8,.data⟩ kY rfl)))
         have c0:=rb.cell (i:=2) (v:=.slice ka s.on.length kc) rfl
         exact Zai rfl rfl (.slice ka s.on.length kc) W kb0 ⟨_,rfl,hJ.val 9 _ hdi rfl rfl rfl rfl kY kY kY⟩
        | 10,_,hdi=>
         have no:dn 13=false:=by
          cases h7:dn 13 with
          | false=>rfl
          | true=>have:=hcl 13 _ rfl h7 ⟨10,.data⟩ kY rfl;rw [hdi] at this;cases this
         obtain ⟨v',w',r1,r2⟩:=hJ.appE 10 hdi 28 _ s.on ds (HZ.out.below b2.bl) HD.out HX.out (by have:=HSZ1.out.1;simp [hdi,no];omega) (fun v=>by simp [upd,Zf2,no]) (fun v=>rfl) (by simp [upd,hdi,no]) rfl kY kY kY
         rw [show (if dn 13=true then us 13 else if dn 10=true then us 10 else u5)=u5 by simp [hdi,no]] at r1
         exact Zf0 rfl rfl (.tmp 160) (.tmp 162) 28 rfl ((hat 7 160 kY kR kD).trans (hJ.vs (7,_) (List.mem_of_getElem? (i:=5) rfl) (hd _ rfl ⟨7,.data⟩ kY rfl))) ((hat 9 162 kY kR kD).trans (hJ.vs (9,_) (List.mem_of_getElem? (i:=7) rfl) (hd _ rfl ⟨9,.data⟩ kY rfl))) r1 ⟨v',rfl,r2⟩
        | 11,_,hdi=>exact Zai rfl rfl (.agg #[.int .u8 0,.int .u8 0,iZ,eS,eS,eS,iZ,nS]) W kb0 ⟨_,rfl,hJ.val 11 _ hdi rfl rfl rfl rfl kY kY kY⟩
        | 12,_,hdi=>
         have h1:=Z5 ((hat 11 164 kY kR kD).trans (hJ.vs (11,_) (List.mem_of_getElem? (i:=8) rfl) (hd _ rfl ⟨11,.data⟩ kY rfl)))
         exact Zai rfl rfl (.slice (some ⟨W.heap.size,0,none⟩) 1 1) (W.alloc (.cells #[.int .u8 0,.int .u8 0,iZ,eS,eS,eS,iZ,nS] ETy)) kb0 ⟨_,rfl,hJ.lit 12 1 ETy #[.int .u8 0,.int .u8 0,iZ,eS,eS,eS,iZ,nS] hdi (fun _=>rfl) (fun _=>rfl) rfl rfl kY kY kY⟩
        | 13,_,hdi=>
         have d10:=hd _ rfl ⟨10,.data⟩ kY rfl
         obtain ⟨k,k1,k2⟩:=b3 _ (List.mem_of_getElem? (i:=1) rfl) (hd _ rfl ⟨12,.data⟩ kY rfl)
         obtain ⟨v',w',r1,r2⟩:=hJ.appE 13 hdi 28 _ [PE.zero] [(#[.int .u8 0,.int .u8 0,iZ,eS,eS,eS,iZ,nS]:Array Value).toList] (rdzRE (b2.bx _ k2).1 rfl) rfl (Zrm (Zby.2 ⟨_,rfl,SlR.nil _ _ _⟩)) (by have:=HSZ1.out.1;simp [hdi,d10];omega) (fun v=>by simp [upd,Zf2]) (fun v=>rfl) (by simp [upd,hdi,d10]) rfl kY kY kY
         rw [show (if dn 13=true then us 13 else if dn 10=true then us 10 else u5)=us 10 by simp [hdi,d10]] at r1
         exact Zf0 rfl rfl (.tmp 163) (.tmp 165) 28 rfl (hat 10 163 kY kR kD) ((hat 12 165 kY kR kD).trans k1) r1 ⟨v',rfl,r2⟩
        | 14,_,hdi=>
         have d6:=hd _ rfl ⟨6,.data⟩ kY rfl
         have h6:=Z5 (hat 6 159 kY kR kD)
         exact Zai rfl rfl (us 6) W kb0 ⟨_,rfl,hJ.val 14 _ hdi rfl rfl rfl rfl kY kY kb76⟩
        | 15,_,hdi=>
         have d6:=hd _ rfl ⟨13,.data⟩ kY rfl
         have h6:=Z5 (hat 13 166 kY kR kD)
         exact Zai rfl rfl (us 13) W kb0 ⟨_,rfl,hJ.val 15 _ hdi rfl rfl rfl rfl kY kY kb76⟩
        | n + 16,hi,_=>simp at hi;omega
       intro dn us w23 hall hJ
       have hu14:=(hJ.fin (14,6) kY (hall 14 kY)).1
       have hu15:=(hJ.fin (15,13) kY (hall 15 kY)).1
       obtain ⟨bx,b1,b2,b3⟩:=hJ.fs
       have hf:=b2.sub (fun b hb=>b1 b (List.mem_cons_of_mem _ hb))
       rw [hall 13 kY,hall 10 kY,hall 6 kY,if_pos rfl,if_pos rfl,if_pos rfl,if_pos rfl,if_pos rfl] at hf
       have HFR:Hid (FS w w.heap.size BX (us 13) (us 6) (E5 ++ (x.src.take (i + 1)).flatMap Zs1) (S5 ++ (x.src.take (i + 1)).flatMap Zpo) w23):=Lh (by
        have e1:[s].flatMap Zs1=s.on ++ [PE.zero]:=by simp [Zs1]
        have e2:[s].flatMap Zpo = [s.table,s.as]:=by simp [Zpo]
        rw [HTK.out,List.flatMap_append,List.flatMap_append,← List.append_assoc,← List.append_assoc,HE6.out,HS6.out,e1,e2,← List.append_assoc];exact hf)
       clear hf b1 b2 b3 hall hJ HF22 HSZ1
       simp only [List.length_cons,List.length_nil,Nat.zero_add,Nat.reduceAdd,Z1,Z7,List.getElem?_toArray,List.getElem?_cons_zero,List.getElem?_cons_succ,Option.bind_some,Act.put,hu14,hu15]
       clear hu14 hu15
       generalize us 13=ov23 at *
       generalize us 6=sv23 at *
       simp only [List.setIfInBounds_toArray,List.set_cons_zero,List.set_cons_succ]
       go_wp2_with fail
       go_roundg (x.src.length - (i + 1))
       case measure=>exact Nat.sub_lt_sub_left HLT.out (Nat.lt_succ_self _)
       case rel=>exact ⟨i + 1,Zca kb18,rfl,HLT.out,HFR⟩
      obtain rfl:i=x.src.length:=kW
      rw [List.take_length] at HFL
      clear hlt hi HSE HSS HLC
      generalize hE7:E5 ++ x.src.flatMap Zs1=E7 at *
      have HE7:=Lh hE7
      generalize hS7:S5 ++ x.src.flatMap Zpo=S7 at *
      have HS7:=Lh hS7
      clear hE7 hS7
      have HSE:Hid (E7.length + x.wh.length + x.group.length + x.having.length ≤ 16000000):=Lh (by
       rw [← HE7.out,← HE5.out,← HE3.out,← HE1.out]
       exact Nat.le_trans kb23 HE.out)
      obtain ⟨ds1,hz1,hd1,hX1⟩:=Zlf H11.out
      obtain ⟨ds2,hz2,hd2,hX2⟩:=Zlf H12.out
      obtain ⟨ds3,hz3,hd3,hX3⟩:=Zlf H13.out
      have HZ1:=Lh (And.intro hz1 (And.intro hd1 hX1))
      have HZ2:=Lh (And.intro hz2 (And.intro hd2 hX2))
      have HZ3:=Lh (And.intro hz3 (And.intro hd3 hX3))
      clear hz1 hd1 hX1 hz2 hd2 hX2 hz3 hd3 hX3
      go_upto_region 34 with fail
      refine Zcz (RJ w w.heap.size BX (fun dn us=>if dn 9 then us 9 else if dn 6 then us 6 else if dn 3 then us 3 else u5) (fun _ _=>u6) (fun dn=>E7 ++ (if dn 3 then x.wh else []) ++ (if dn 6 then x.group else []) ++ (if dn 9 then x.having else [])) (fun _=>S7)
       [(0,u5),(1,.pointer (some ⟨w.heap.size,11,none⟩)),(2,.slice a11 x.wh.length n11),(4,.pointer (some ⟨w.heap.size,12,none⟩)),(5,.slice a12 x.group.length n12),(7,.pointer (some ⟨w.heap.size,13,none⟩)),(8,.slice a13 x.having.length n13)] [] [(10,u5)] [(10,9)]) 199 kY kR kR
       (fun us hus=>⟨⟨BX,fun _ h=>h,by simpa using HFL.out.drew,fun l hl=>by cases hl⟩,fun p hp h=>Zod,fun p hp _=>(by obtain rfl:=List.mem_singleton.1 hp;exact hus 10 5 kY kR),fun p hp h=>Zod⟩) ?_ ?_
      ·
       intro i hi dn us F W hother hat hJ hdi hcl hd
       have hp1:=Z5 (show F.eval (.tmp 1) = .pointer (some ⟨w.heap.size,0,none⟩) from hother 1 kR)
       obtain ⟨bx,b1,b2,_⟩:=hJ.fs
       have rb:=(b2.bx _ (b1 _ HM0.out)).1
       match i,hi,hdi with
       | 0,_,hdi=>
        have no:dn 10=false:=by
         cases h7:dn 10 with
         | false=>rfl
         | true=>have:=hcl 10 _ rfl h7 ⟨0,.phase⟩ kY rfl;rw [hdi] at this;cases this
        have h6:=Z5 ((hat 10 5 kY kR kD).trans (hJ.old (10,u5) kY no))
        exact Zai rfl rfl u5 W kb0 ⟨_,rfl,hJ.val 0 _ hdi rfl rfl rfl rfl kY kY kY⟩
       | 1,_,hdi=>exact Zai rfl rfl (.pointer (some ⟨w.heap.size,11,none⟩)) W kb0 ⟨_,rfl,hJ.val 1 _ hdi rfl rfl rfl rfl kY kY kY⟩
       | 2,_,hdi=>
        have h1:=Z5 ((hat 1 169 kY kR kD).trans (hJ.vs (1,_) (List.mem_of_getElem? (i:=1) rfl) (hd _ rfl ⟨1,.data⟩ kY rfl)))
        have c0:=rb.cell G11
        exact Zai rfl rfl (.slice a11 x.wh.length n11) W kb0 ⟨_,rfl,hJ.val 2 _ hdi rfl rfl rfl rfl kY kY kY⟩
       | 4,_,hdi=>exact Zai rfl rfl (.pointer (some ⟨w.heap.size,12,none⟩)) W kb0 ⟨_,rfl,hJ.val 4 _ hdi rfl rfl rfl rfl kY kY kY⟩
       | 5,_,hdi=>
        have h1:=Z5 ((hat 4 172 kY kR kD).trans (hJ.vs (4,_) (List.mem_of_getElem? (i:=3) rfl) (hd _ rfl ⟨4,.data⟩ kY rfl)))
        have c0:=rb.cell G12
        exact Zai rfl rfl (.slice a12 x.group.length n12) W kb0 ⟨_,rfl,hJ.val 5 _ hdi rfl rfl rfl rfl kY kY kY⟩
       | 7,_,hdi=>exact Zai rfl rfl (.pointer (some ⟨w.heap.size,13,none⟩)) W kb0 ⟨_,rfl,hJ.val 7 _ hdi rfl rfl rfl rfl kY kY kY⟩
       | 8,_,hdi=>
        have h1:=Z5 ((hat 7 175 kY kR kD).trans (hJ.vs (7,_) (List.mem_of_getElem? (i:=5) rfl) (hd _ rfl ⟨7,.data⟩ kY rfl)))
        have c0:=rb.cell G13
        exact Zai rfl rfl (.slice a13 x.having.length n13) W kb0 ⟨_,rfl,hJ.val 8 _ hdi rfl rfl rfl rfl kY kY kY⟩
       | 3,_,hdi=>
        have no6:dn 6=false:=by
         cases h7:dn 6 with
         | false=>rfl
         | true=>have:=hcl 6 _ rfl h7 ⟨3,.data⟩ kY rfl;rw [hdi] at this;cases this
        have no9:dn 9=false:=by
         cases h7:dn 9 with
         | false=>rfl
         | true=>have:=hcl 9 _ rfl h7 ⟨6,.data⟩ kY rfl;rw [no6] at this;cases this
        obtain ⟨v',w',r1,r2⟩:=hJ.appE 3 hdi 28 _ x.wh ds1 (HZ1.out.1.below b2.bl) HZ1.out.2.1 HZ1.out.2.2 (by have:=HSE.out;simp [hdi,no6,no9];omega) (fun v=>by simp [upd,Zf2,hdi,no6,no9]) (fun v=>rfl) (by simp [upd,hdi,no6,no9]) rfl kY kY kY
        rw [show (if dn 9=true then us 9 else if dn 6=true then us 6 else if dn 3=true then us 3 else u5)=u5 by simp [hdi,no6,no9]] at r1
        exact Zf0 rfl rfl (.tmp 168) (.tmp 170) 28 rfl ((hat 0 168 kY kR kD).trans (hJ.vs (0,_) (List.mem_of_getElem? (i:=0) rfl) (hd _ rfl ⟨0,.data⟩ kY rfl))) ((hat 2 170 kY kR kD).trans (hJ.vs (2,_) (List.mem_of_getElem? (i:=2) rfl) (hd _ rfl ⟨2,.data⟩ kY rfl))) r1 ⟨v',rfl,r2⟩
       | 6,_,hdi=>
        have d3:=hd _ rfl ⟨3,.data⟩ kY rfl
        have no9:dn 9=false:=by
         cases h7:dn 9 with
         | false=>rfl
         | true=>have:=hcl 9 _ rfl h7 ⟨6,.data⟩ kY rfl;rw [hdi] at this;cases this
        obtain ⟨v',w',r1,r2⟩:=hJ.appE 6 hdi 28 _ x.group ds2 (HZ2.out.1.below b2.bl) HZ2.out.2.1 HZ2.out.2.2 (by have:=HSE.out;simp [hdi,d3,no9];omega) (fun v=>by simp [upd,Zf2,hdi,d3,no9]) (fun v=>rfl) (by simp [upd,hdi,d3,no9]) rfl kY kY kY
        rw [show (if dn 9=true then us 9 else if dn 6=true then us 6 else if dn 3=true then us 3 else u5)=us 3 by simp [hdi,d3,no9]] at r1
        exact Zf0 rfl rfl (.tmp 171) (.tmp 173) 28 rfl (hat 3 171 kY kR kD) ((hat 5 173 kY kR kD).trans (hJ.vs (5,_) (List.mem_of_getElem? (i:=4) rfl) (hd _ rfl ⟨5,.data⟩ kY rfl))) r1 ⟨v',rfl,r2⟩
       | 9,_,hdi=>
        have d6:=hd _ rfl ⟨6,.data⟩ kY rfl
        have d3:=hcl 6 _ rfl d6 ⟨3,.data⟩ kY rfl
        obtain ⟨v',w',r1,r2⟩:=hJ.appE 9 hdi 28 _ x.having ds3 (HZ3.out.1.below b2.bl) HZ3.out.2.1 HZ3.out.2.2 (by have:=HSE.out;simp [hdi,d3,d6];omega) (fun v=>by simp [upd,Zf2,hdi,d3,d6]) (fun v=>rfl) (by simp [upd,hdi,d3,d6]) rfl kY kY kY
        rw [show (if dn 9=true then us 9 else if dn 6=true then us 6 else if dn 3=true then us 3 else u5)=us 6 by simp [hdi,d3,d6]] at r1
        exact Zf0 rfl rfl (.tmp 174) (.tmp 176) 28 rfl (hat 6 174 kY kR kD) ((hat 8 176 kY kR kD).trans (hJ.vs (8,_) (List.mem_of_getElem? (i:=6) rfl) (hd _ rfl ⟨8,.data⟩ kY rfl))) r1 ⟨v',rfl,r2⟩
       | 10,_,hdi=>
        have d6:=hd _ rfl ⟨9,.data⟩ kY rfl
        have h6:=Z5 (hat 9 177 kY kR kD)
        exact Zai rfl rfl (us 9) W kb0 ⟨_,rfl,hJ.val 10 _ hdi rfl rfl rfl rfl kY kY kb76⟩
       | n + 11,hi,_=>simp at hi;omega
      intro dn us w35 hall hJ
      have hu10:=(hJ.fin (10,9) kY (hall 10 kY)).1
      obtain ⟨bx,b1,b2,b3⟩:=hJ.fs
      have hf:=b2.sub b1
      rw [hall 9 kY,hall 6 kY,hall 3 kY,if_pos rfl,if_pos rfl,if_pos rfl,if_pos rfl] at hf
      have HF35:=Lh hf
      clear hf b1 b2 b3 hall hJ HFL HZ1 HZ2 HZ3 HSE
      simp only [List.length_cons,List.length_nil,Nat.zero_add,Nat.reduceAdd,Z1,Z7,List.getElem?_toArray,List.getElem?_cons_zero,List.getElem?_cons_succ,Option.bind_some,Act.put,hu10]
      clear hu10
      generalize us 9=ov35 at *
      simp only [List.setIfInBounds_toArray,List.set_cons_zero,List.set_cons_succ]
      have p14:=(HF35.out.bx _ HM0.out).1.cell G14
      generalize hE9:E7 ++ x.wh ++ x.group ++ x.having=E9 at *
      have HE9:=Lh hE9
      clear hE9
      have HSE:Hid (E9.length + x.order.length ≤ 16000000):=Lh (by
       rw [← HE9.out,← HE7.out,← HE5.out,← HE3.out,← HE1.out]
       exact Nat.le_trans kb23 HE.out)
      have HSS:Hid (∀ i,(S7 ++ (x.order.take i).flatMap Zs2).length ≤ 16000000):=Lh (fun i=>by
       have h1:=Zgf Zs2 x.order i
       rw [← HS7.out,← HS5.out,← HS3.out,← HS1.out,← HS0.out,List.length_append]
       exact Nat.le_trans (Nat.add_le_add_left h1 _) (Nat.le_trans (by unfold fS Zpo Zs2;simp only [List.length_append,List.length_map];omega) HS.out))
      go_wp2_with fail
      go_loopg [5,6,181] x.order.length (fun gk ev sv iv wr=>∃ (i:Nat),iv = .int .i64 (i:Int)∧gk=x.order.length - i∧i ≤ x.order.length∧Hid (FS w w.heap.size BX ev sv (E9 ++ (x.order.take i).map (·.1)) (S7 ++ (x.order.take i).flatMap Zs2) wr))
      case atStart=>exact ⟨0,rfl,rfl,Nat.zero_le _,Lh (by simpa using HF35.out)⟩
      case round=>
       obtain ⟨i,rfl,rfl,hi,HFM⟩:=hrel
       clear HF35 p14
       by_cases hlt:i < x.order.length
       ·obtain ⟨s,hs⟩:∃ s,x.order[i]? = some s:=⟨x.order[i],by simp⟩
        have HTK:Hid (x.order.take (i + 1)=x.order.take i ++ [s]):=Lh kb57
        have HTL:Hid ((x.order.take i).length=i):=Lh (by rw [List.length_take];omega)
        obtain ⟨cb,co,kv,rfl,hkv,e0,e1,e2,e3,e4,e5,e6,e7,e8⟩:=Zmk H14.out hs
        have p0:=(HFM.out.bl.cell (Zd e0)).trans e0
        have p1:=(HFM.out.bl.cell (Zd e1)).trans e1
        have p2:=(HFM.out.bl.cell (Zd e2)).trans e2
        have p3:=(HFM.out.bl.cell (Zd e3)).trans e3
        have p4:=(HFM.out.bl.cell (Zd e4)).trans e4
        have p5:=(HFM.out.bl.cell (Zd e5)).trans e5
        have p6:=(HFM.out.bl.cell (Zd e6)).trans e6
        have p7:=(HFM.out.bl.cell (Zd e7)).trans e7
        have p8:=(HFM.out.bl.cell (Zd e8)).trans e8
        obtain ⟨ka,kc,rfl,_⟩:=hkv.shape
        have HKV:=Lh hkv
        have ilt:(i:Int) < (x.order.length:Int):=kW
        have ige:(0:Int) ≤ (i:Int):=kW
        have HLT:=Lh hlt
        clear e0 e1 e2 e3 e4 e5 e6 e7 e8 hs hlt hkv
        go_upto_region 38 with fail
        have h22:=HFM.out.alloc #[.int .u8 (s.1.op:Int),.int .u8 (s.1.v.k:Int),.int .i64 s.1.v.n,.string s.1.v.s,.string s.1.t,.string s.1.m,.int .i64 s.1.n,.slice ka s.1.kids.length kc,.bool s.2] 114
        have rb:=(h22.bx (wr.heap.size,114,#[.int .u8 (s.1.op:Int),.int .u8 (s.1.v.k:Int),.int .i64 s.1.v.n,.string s.1.v.s,.string s.1.t,.string s.1.m,.int .i64 s.1.n,.slice ka s.1.kids.length kc,.bool s.2]) kY).1
        have HF22:=Lh h22
        have hEX:ExR w ((eA s.1 ka kc):Array Value).toList s.1:=Zby.2 ⟨_,rfl,HKV.out⟩
        have HEX:=Lh hEX
        have HSZ1:Hid ((E9 ++ (x.order.take i).map (·.1)).length + 1 ≤ 16000000):=Lh (by
         have h1:=HSE.out;have h3:=HLT.out;have h4:=HTL.out
         rw [List.length_append,List.length_map,h4];omega)
        clear h22 hEX HFM p0 p1 p2 p3 p4 p5 p6 p7 p8
        generalize wr.alloc (.cells #[.int .u8 (s.1.op:Int),.int .u8 (s.1.v.k:Int),.int .i64 s.1.v.n,.string s.1.v.s,.string s.1.t,.string s.1.m,.int .i64 s.1.n,.slice ka s.1.kids.length kc,.bool s.2] 114)=w22 at *
        generalize wr.heap.size=b13 at *
        have HRB:=Lh rb
        have c0:=rb.cell (i:=0) rfl;have c1:=rb.cell (i:=1) rfl;have c2:=rb.cell (i:=2) rfl;have c3:=rb.cell (i:=3) rfl;have c4:=rb.cell (i:=4) rfl;have c5:=rb.cell (i:=5) rfl;have c6:=rb.cell (i:=6) rfl;have c7:=rb.cell (i:=7) rfl
        clear rb
        have HR10:=Lh (rdzRE (x:=s.1) (Zc w22 ETy (eA s.1 ka kc)) rfl)
        have HF10:=Lh (HF22.out.later ((Below.refl _ _).alloc (Nat.le_refl _) (.cells (eA s.1 ka kc) ETy)))
        go_upto_region 39 with (at_builtin;generalize w22.alloc (.cells (eA s.1 ka kc) ETy)=W10 at *;generalize Value.slice (some ⟨w22.heap.size,0,none⟩) 1 1=sv10 at *;obtain ⟨ev2,w10,hr10,hF10⟩:=HF10.out.runE 28 _ [s.1] _ HR10.out rfl (Zrm HEX.out) (Nat.le_trans HSZ1.out (by decide));have HF11:=Lh hF10;clear hF10;refine Zgm rfl (.tmp 185) (.tmp 188) 28 rfl rfl rfl hr10 ?_;clear hr10)
        clear c0 c1 c2 c3 c4 c5 c6 c7 HR10 HF10 HF22 HRB HSZ1 HEX
        have q8:=(HF11.out.bx (b13,114,#[.int .u8 (s.1.op:Int),.int .u8 (s.1.v.k:Int),.int .i64 s.1.v.n,.string s.1.v.s,.string s.1.t,.string s.1.m,.int .i64 s.1.n,.slice ka s.1.kids.length kc,.bool s.2]) kY).1.cell (i:=8) (v:=.bool s.2) rfl
        cases hnn:s.2
        ·rw [hnn] at q8
         have HFR:Hid (FS w w.heap.size BX ev2 u6 (E9 ++ (x.order.take (i + 1)).map (·.1)) (S7 ++ (x.order.take (i + 1)).flatMap Zs2) w10):=Lh (by
          have e:[s].flatMap Zs2 = []:=by simp [Zs2,hnn]
          rw [HTK.out,List.map_append,List.flatMap_append,e,List.append_nil,← List.append_assoc];exact HF11.out.drop)
         clear HF11 hnn
         exact ks52
        rw [hnn] at q8
        have HR12:=Lh (rdz1 w10 STy ⟨#[45]⟩)
        have HF12:=Lh (HF11.out.later ((Below.refl _ _).alloc (Nat.le_refl _) (.cells #[.string ⟨#[45]⟩] STy)))
        have HSZ:Hid ((S7 ++ (x.order.take i).flatMap Zs2).length + [(⟨#[45]⟩:ByteArray)].length ≤ 1000000000):=Lh (by have h1:=HSS.out i;show _ + 1 ≤ _;omega)
        have HNN:=Lh hnn
        clear HF11 hnn
        go_upto_region 41 with (at_builtin;generalize w10.alloc (.cells #[.string ⟨#[45]⟩] STy)=W12 at *;generalize Value.slice (some ⟨w10.heap.size,0,none⟩) 1 1=sv12 at *;obtain ⟨sw,w13,hr13,hF13⟩:=HF12.out.runS 23 _ [⟨#[45]⟩] HR12.out HSZ.out;have HF13:=Lh hF13;clear hF13;refine Zgm rfl (.tmp 192) (.tmp 193) 23 rfl rfl rfl hr13 ?_;clear hr13)
        have HFR:Hid (FS w w.heap.size BX ev2 sw (E9 ++ (x.order.take (i + 1)).map (·.1)) (S7 ++ (x.order.take (i + 1)).flatMap Zs2) w13):=Lh (by
         have e:[s].flatMap Zs2 = [⟨#[45]⟩]:=by simp [Zs2,HNN.out]
         rw [HTK.out,List.map_append,List.flatMap_append,e,← List.append_assoc,← List.append_assoc];exact HF13.out.drop)
        clear HF12 HF13 HR12 HSZ HNN q8
        exact ks52
       obtain rfl:i=x.order.length:=kW
       rw [List.take_length] at HFM
       clear hlt hi HSE HSS
       go_upto_region 42 with fail
       have r7:=(HFM.out.bx _ HM7.out).1
       have r4:=(HFM.out.bx _ HM4.out).1
       have c0:=r7.cell (i:=0) (v:=.int .i64 ((x.kind:Int) + if x.uniq then 1000 else 0)) rfl
       have z0:=r4.cell (i:=0) (v:=iZ) rfl
       have f0:wr.frozen? ⟨w.heap.size + 1,0,none⟩=false:=frz r4 0
       have c1:=r7.cell (i:=1) (v:=.int .i64 x.limit) rfl
       have z1:=r4.cell (i:=1) (v:=iZ) rfl
       have f1:wr.frozen? ⟨w.heap.size + 1,1,none⟩=false:=frz r4 1
       have c2:=r7.cell (i:=2) (v:=.int .i64 (x.cols.length:Int)) rfl
       have z2:=r4.cell (i:=2) (v:=iZ) rfl
       have f2:wr.frozen? ⟨w.heap.size + 1,2,none⟩=false:=frz r4 2
       have c3:=r7.cell (i:=3) (v:=.int .i64 (x.key.length:Int)) rfl
       have z3:=r4.cell (i:=3) (v:=iZ) rfl
       have f3:wr.frozen? ⟨w.heap.size + 1,3,none⟩=false:=frz r4 3
       have c4:=r7.cell (i:=4) (v:=.int .i64 (x.names.length:Int)) rfl
       have z4:=r4.cell (i:=4) (v:=iZ) rfl
       have f4:wr.frozen? ⟨w.heap.size + 1,4,none⟩=false:=frz r4 4
       have c5:=r7.cell (i:=5) (v:=.int .i64 (x.rows.length:Int)) rfl
       have z5:=r4.cell (i:=5) (v:=iZ) rfl
       have f5:wr.frozen? ⟨w.heap.size + 1,5,none⟩=false:=frz r4 5
       have c6:=r7.cell (i:=6) (v:=.int .i64 (x.sets.length:Int)) rfl
       have z6:=r4.cell (i:=6) (v:=iZ) rfl
       have f6:wr.frozen? ⟨w.heap.size + 1,6,none⟩=false:=frz r4 6
       have c7:=r7.cell (i:=7) (v:=.int .i64 (x.items.length:Int)) rfl
       have z7:=r4.cell (i:=7) (v:=iZ) rfl
       have f7:wr.frozen? ⟨w.heap.size + 1,7,none⟩=false:=frz r4 7
       have c8:=r7.cell (i:=8) (v:=.int .i64 (x.src.length:Int)) rfl
       have z8:=r4.cell (i:=8) (v:=iZ) rfl
       have f8:wr.frozen? ⟨w.heap.size + 1,8,none⟩=false:=frz r4 8
       have c9:=r7.cell (i:=9) (v:=.int .i64 (x.wh.length:Int)) rfl
       have z9:=r4.cell (i:=9) (v:=iZ) rfl
       have f9:wr.frozen? ⟨w.heap.size + 1,9,none⟩=false:=frz r4 9
       have c10:=r7.cell (i:=10) (v:=.int .i64 (x.group.length:Int)) rfl
       have z10:=r4.cell (i:=10) (v:=iZ) rfl
       have f10:wr.frozen? ⟨w.heap.size + 1,10,none⟩=false:=frz r4 10
       have c11:=r7.cell (i:=11) (v:=.int .i64 (x.having.length:Int)) rfl
       have z11:=r4.cell (i:=11) (v:=iZ) rfl
       have f11:wr.frozen? ⟨w.heap.size + 1,11,none⟩=false:=frz r4 11
       clear r7 r4
       go_region_with (fail)
       have HEE:Hid (fE x=E9 ++ x.order.map (·.1)):=Lh (by
        rw [← HE9.out,← HE7.out,← HE5.out,← HE3.out,← HE1.out]
        unfold fE
        simp only [List.append_assoc]
        rfl)
       have HSS:Hid (fS x=S7 ++ x.order.flatMap Zs2):=Lh (by
        rw [← HS7.out,← HS5.out,← HS3.out,← HS1.out,← HS0.out]
        unfold fS
        simp only [List.append_assoc]
        rfl)
       clear z0 z1 z2 z3 z4 z5 z6 z7 z8 z9 z10 z11 f0 f1 f2 f3 f4 f5 f6 f7 f8 f9 f10 f11 c0 c1 c2 c3 c4 c5 c6 c7 c8 c9 c10 c11
       all_goals (
        generalize hwf:World.drew _=wf
        have HFF:=Lh ((HFM.out.fill HM4.out (Nat.le_succ _) (.int .i64 ((x.kind:Int) + if x.uniq then 1000 else 0)) (.int .i64 x.limit) (.int .i64 (x.cols.length:Int)) (.int .i64 (x.key.length:Int)) (.int .i64 (x.names.length:Int)) (.int .i64 (x.rows.length:Int)) (.int .i64 (x.sets.length:Int)) (.int .i64 (x.items.length:Int)) (.int .i64 (x.src.length:Int)) (.int .i64 (x.wh.length:Int)) (.int .i64 (x.group.length:Int)) (.int .i64 (x.having.length:Int))).drew)
        rw [hwf] at HFF
        clear hwf HFM
        have HRW:Hid (Row (w.heap.size + 1) ATy (fN x) wf):=Lh (HFF.out.bx _ (List.mem_singleton.2 rfl)).1
        rename_i hk
        refine hk _ _ ?_
        clear hk
        go_wp2_with (refine bodyPost_ret (v:=.tuple #[u5,u6,.agg (fN x)]) (res_flat rfl _ _ (w.heap.size + 1) _ _ _ (fN x) rfl rfl rfl HRW.out rfl) rfl ?_;exact ⟨u5,u6,rfl,HEE.out ▸ HFF.out.exs,HSS.out ▸ HFF.out.txts,HFF.out.bl⟩))
end Go.Proofs.YtmdogmpcmkfjpaaGreatDoor.Dt
