import Derived.Laws.Tables
import Derived.Laws.Rows
import Derived.Test.YtmdogmpcmkfjpaaGreatDoorProg
import Derived.ProofKit
import Derived.ArgAppend
import Derived.Deep.Onto
import Derived.Lib.SlBytesConst
import Derived.Test.YtmdogmpcmkfjpaaGreatDoorBn11
import Derived.Test.YtmdogmpcmkfjpaaGreatDoorBn10
import Derived.Test.YtmdogmpcmkfjpaaGreatDoorBn04
import Derived.Test.YtmdogmpcmkfjpaaGreatDoorBn08
import Derived.Test.YtmdogmpcmkfjpaaGreatDoorBn01
import Derived.Test.YtmdogmpcmkfjpaaGreatDoorBn09
/- Part of the proof (merged). -/
namespace Go.Proofs.YtmdogmpcmkfjpaaGreatDoor.Dt
open Go.RowKit Go.Proofs.YtmdogmpcmkfjpaaGreatDoor.By
abbrev Row (g:Nat) (t:TypeId) (cs:Array Value) (w:World):Prop:=w.heap[g]? = some (.cells cs t (0,0))
theorem Row.lt {g:Nat} {t:TypeId} {cs:Array Value} {w:World} (h:Row g t cs w):g < w.heap.size:=(Array.getElem?_eq_some_iff.1 h).1
theorem Row.later {g:Nat} {t:TypeId} {cs:Array Value} {w w':World} (h:Row g t cs w) (hb:Below w.heap.size w w'):Row g t cs w':=(hb.block g h.lt).trans h
theorem Row.grown {g r:Nat} {t:TypeId} {cs:Array Value} {w w':World} (h:Row g t cs w) (k:w.grownBy w' (some r)) (hr:g ≠ r):Row g t cs w':=(k.block g h.lt (fun e=>hr (by cases e;rfl))).trans h
theorem row_alloc (w:World) (t:TypeId) (cs:Array Value):Row w.heap.size t cs (w.alloc (.cells cs t)):=by
 show (w.heap.push _)[w.heap.size]? = _
 simp
theorem Row.set {g:Nat} {t:TypeId} {cs:Array Value} {w:World} (h:Row g t cs w) (cs':Array Value):Row g t cs' (w.setRow g cs'):=setRow_heap w g cs cs' t _ h
theorem Row.cell {g i:Nat} {t:TypeId} {cs:Array Value} {w:World} {v:Value} (h:Row g t cs w) (hi:cs[i]? = some v):w.cell? ⟨g,i,none⟩=some v:=by
 unfold World.cell?
 rw [h]
 simpa using hi
theorem grown_setRow (w:World) (g:Nat) (cs:Array Value):w.grownBy (w.setRow g cs) (some g):=⟨rfl,rfl,rfl,by simp,fun k _ hk=>setRow_other w g k cs (fun e=>hk (by rw [e]))⟩
theorem below_setRow' {B g:Nat} {w0 w:World} (h:Below B w0 w) (hg:B ≤ g) (cs:Array Value):Below B w0 (w.setRow g cs):=
 ⟨h.os,h.tape,h.output,by simpa using h.size,fun k hk=>(setRow_other w g k cs (by omega)).trans (h.block k hk)⟩
theorem grown_fill {w w':World} {r g:Nat} (h:w.grownBy w' (some r)) (hg:w.heap.size ≤ g) (cs:Array Value):w.grownBy (w'.setRow g cs) (some r):=
 ⟨h.os,h.tape,h.output,by simpa using h.size,fun k hk hn=>(setRow_other w' g k cs (by omega)).trans (h.block k hk hn)⟩
theorem grown_alloc (w:World) (o:Obj) (r:Nat):w.grownBy (w.alloc o) (some r):=below_grown ((Below.refl _ w).alloc (Nat.le_refl _) o)
theorem ex_cells {w:World} {cs:List Value} {x:PE} (h:ExR w cs x):cs.length=8∧∀ v ∈ cs,v.oneCell'=true:=by
 obtain ⟨kv,rfl,h2⟩:=exR_iff.1 h
 obtain ⟨a,c,rfl,_⟩:=h2.shape
 exact ⟨rfl,fun v hv=>by simp [PE.cells] at hv;rcases hv with rfl | rfl | rfl | rfl | rfl | rfl | rfl | rfl <;> rfl⟩
structure ExD (S:Nat→Prop) (w:World) (cs:Array Value) (x:PE):Prop where
 size:cs.size=8
 one:cs.all (·.oneCell')=true
 new:Dep S w fun u=>ExR u cs.toList x
abbrev ExN (n:Nat) (w:World) (cs:Array Value) (x:PE):Prop:=ExD (fun b=>n ≤ b) w cs x
theorem ExD.of {S:Nat→Prop} {w:World} {v:Value} {x:PE} (h:Dep S w fun u=>ExV u v x):∃ cs,v = .agg cs∧ExD S w cs x:=by
 obtain ⟨cs,rfl,hx⟩:=h.here
 obtain ⟨hl,h1⟩:=ex_cells hx
 refine ⟨cs.toArray,rfl,by simpa using hl,by simpa using h1,h.imp fun u hu=>?_⟩
 obtain ⟨cs',e,hx'⟩:=hu
 cases e
 simpa using hx'
theorem ExN.of {n:Nat} {w:World} {v:Value} {x:PE} (h:New n w fun u=>ExV u v x):∃ cs,v = .agg cs∧ExN n w cs x:=ExD.of h
theorem ExD.v {S:Nat→Prop} {w:World} {cs:Array Value} {x:PE} (h:ExD S w cs x):Dep S w fun u=>ExV u (.agg cs) x:=h.new.imp fun u hu=>⟨cs.toList,by simp,hu⟩
theorem ExD.step {S S':Nat→Prop} {w w':World} {cs:Array Value} {x:PE} (h:ExD S w cs x) (hz:w.heap.size ≤ w'.heap.size) (hs:∀ b,S b→b < w.heap.size→S' b∧w'.heap[b]? = w.heap[b]?):ExD S' w' cs x:=⟨h.size,h.one,h.new.step hz hs⟩
theorem ExD.later {S:Nat→Prop} {w w':World} {cs:Array Value} {x:PE} (h:ExD S w cs x) (hb:Below w.heap.size w w'):ExD S w' cs x:=h.step hb.size fun b h1 h2=>⟨h1,hb.block b h2⟩
theorem ExD.grown {S:Nat→Prop} {r:Nat} {w w':World} {cs:Array Value} {x:PE} (h:ExD S w cs x) (g:w.grownBy w' (some r)) (hr:¬ S r):ExD S w' cs x:=h.step g.size fun b h1 h2=>⟨h1,g.block b h2 (fun e=>by cases e;exact hr h1)⟩
theorem ExN.grown {n r:Nat} {w w':World} {cs:Array Value} {x:PE} (h:ExN n w cs x) (g:w.grownBy w' (some r)) (hr:r < n):ExN n w' cs x:=ExD.grown h g (by omega)
theorem ExN.later {n:Nat} {w w':World} {cs:Array Value} {x:PE} (h:ExN n w cs x) (hb:Below w.heap.size w w'):ExN n w' cs x:=ExD.later h hb
theorem ExN.mono {n m:Nat} {w:World} {cs:Array Value} {x:PE} (h:ExN n w cs x) (hm:m ≤ n):ExN m w cs x:=h.step (Nat.le_refl _) fun _ hb _=>⟨Nat.le_trans hm hb,rfl⟩
theorem ExD.set {S:Nat→Prop} {g:Nat} {w:World} {cs d:Array Value} {x:PE} (h:ExD S w cs x) (hg:¬ S g):ExD S (w.setRow g d) cs x:=h.step (by simp) fun b h1 _=>⟨h1,setRow_other w g b d (fun e=>hg (e ▸ h1))⟩
theorem exs_row {S:Nat→Prop} {g:Nat} {w:World} {t:TypeId} {css:List (Array Value)} {xs:List PE} (hr:Row g t (css.map Array.toList).flatten.toArray w) (hg:S g) (hl:css.length=xs.length)
 (hx:∀ (i:Nat) (c:Array Value) (x:PE),css[i]? = some c→xs[i]? = some x→ExD S w c x):Dep S w fun u=>ExsR u (.slice (some ⟨g,0,none⟩) xs.length xs.length) xs:=by
 intro u hu
 have hru:Row g t (css.map Array.toList).flatten.toArray u:=(hu g hg hr.lt).trans hr
 have h8:∀ (i:Nat) (c:Array Value),css[i]? = some c→c.size=8:=fun i c hc=>by
  have hi:i < xs.length:=by rw [← hl];exact (List.getElem?_eq_some_iff.1 hc).1
  exact (hx i c xs[i] hc (by simp [hi])).size
 refine ⟨css.map Array.toList,⟨_,_,by rw [List.length_map,hl],by rw [List.length_map,hl];exact Nat.le_refl _,fun i x hi=>⟨g,0,rfl,fun j v hj=>?_⟩⟩,by rw [List.length_map,hl],fun i c x hc hxi=>?_⟩
 ·refine hru.cell ?_
  have key:∀ (l:List (Array Value)) (i:Nat) (x:List Value) (j:Nat) (v:Value),(∀ c ∈ l,c.size=8)→(l.map Array.toList)[i]? = some x→x[j]? = some v→(l.map Array.toList).flatten[i * 8 + j]? = some v:=by
   intro l
   induction l with
   | nil=>intro i x j v _ h;simp at h
   | cons c l ih=>
    intro i x j v h8 hx hj
    have hc8:c.toList.length=8:=by simpa using h8 c (by simp)
    rcases i with _ | i
    ·simp at hx;subst hx
     have:j < 8:=by rw [← hc8];exact (List.getElem?_eq_some_iff.1 hj).1
     simp only [List.map_cons,List.flatten_cons]
     rw [List.getElem?_append_left (by omega),Nat.zero_mul,Nat.zero_add]
     exact hj
    ·simp only [List.map_cons,List.flatten_cons]
     rw [List.getElem?_append_right (by omega),show (i + 1) * 8 + j - c.toList.length=i * 8 + j by omega]
     exact ih i x j v (fun c hc=>h8 c (by simp [hc])) (by simpa using hx) hj
  rw [Nat.zero_add]
  simpa using key css i x j v (fun c hc=>by obtain ⟨i,hi⟩:=List.getElem?_of_mem hc;exact h8 i c hi) hi hj
 ·rw [List.getElem?_map] at hc
  cases hcc:css[i]? with
  | none=>rw [hcc] at hc;cases hc
  | some c'=>
   rw [hcc] at hc
   cases hc
   have:=hx i c' x hcc hxi
   exact ⟨by simpa using this.size,this.new u hu⟩
theorem exs_row1 {S:Nat→Prop} {g:Nat} {w:World} {t:TypeId} {c:Array Value} {x:PE} (hr:Row g t c w) (hg:S g) (hx:ExD S w c x):Dep S w fun u=>ExsR u (.slice (some ⟨g,0,none⟩) 1 1) [x]:=
 exs_row (css:=[c]) (xs:=[x]) (by simpa using hr) hg rfl (fun i c' x' hc hx'=>by
  rcases i with _ | i
  ·simp at hc hx';subst hc hx';exact hx
  ·simp at hc)
theorem exs_row2 {S:Nat→Prop} {g:Nat} {w:World} {t:TypeId} {c d:Array Value} {x y:PE} (hr:Row g t (c ++ d) w) (hg:S g) (hx:ExD S w c x) (hy:ExD S w d y):Dep S w fun u=>ExsR u (.slice (some ⟨g,0,none⟩) 2 2) [x,y]:=
 exs_row (css:=[c,d]) (xs:=[x,y]) (by simpa [← Array.toList_append] using hr) hg rfl (fun i c' x' hc hx'=>by
  rcases i with _ | _ | i
  ·simp at hc hx';subst hc hx';exact hx
  ·simp at hc hx';subst hc hx';exact hy
  ·simp at hc)
theorem ex_size:(Tryz.prog.info? 48).map (·.size)=some 8:=by kernel_rfl
def isSt:TypeDesc→Bool
 | .struct _=>true
 | _=>false
theorem st_of {P:Program} {T:TypeId} (h:(P.underlying T).map isSt=some true):∃ fs,P.underlying T=some (.struct fs):=by
 cases hq:P.underlying T with
 | none=>rw [hq] at h;cases h
 | some d=>
  rw [hq] at h
  cases d with
  | struct fs=>exact ⟨fs,rfl⟩
  | _=>cases h
theorem ex_struct:∃ fs,Tryz.prog.underlying 48=some (.struct fs):=st_of (by kernel_rfl)
theorem arr8 {c:Array Value} (h:c.size=8):∃ a0 a1 a2 a3 a4 a5 a6 a7,c = #[a0,a1,a2,a3,a4,a5,a6,a7]:=by
 obtain ⟨a,b,d,e,f,g,i,j,h⟩:=list8 (l:=c.toList) (by simpa using h)
 exact ⟨a,b,d,e,f,g,i,j,Array.toList_inj.1 h⟩
theorem run_bs1 (w:World) (c:Array Value) (h:c.size=8):(Instr.buildSlice 28 1 #[(0,.agg c)]).run Tryz.prog w = .ok (.slice (some ⟨w.heap.size,0,none⟩) 1 1) (w.alloc (.cells c 48)):=by
 obtain ⟨a0,a1,a2,a3,a4,a5,a6,a7,rfl⟩:=arr8 h
 go_simp
theorem run_bs2 (w:World) (c d:Array Value) (h:c.size=8) (h2:d.size=8):(Instr.buildSlice 28 2 #[(0,.agg c),(1,.agg d)]).run Tryz.prog w = .ok (.slice (some ⟨w.heap.size,0,none⟩) 2 2) (w.alloc (.cells (c ++ d) 48)):=by
 obtain ⟨a0,a1,a2,a3,a4,a5,a6,a7,rfl⟩:=arr8 h
 obtain ⟨b0,b1,b2,b3,b4,b5,b6,b7,rfl⟩:=arr8 h2
 go_simp
def veilSt (T:TypeId) (a:Addr) (v:Value):=storeVar T a v
def veilLd (T:TypeId) (a:Addr):=loadVar T a
theorem run_veilSt {T:TypeId} {n:Nat} (hi:(Tryz.prog.info? T).map (·.size)=some n) (W:World) (g:Nat) (old cells:Array Value) (t:TypeId) (hg:W.heap[g]? = some (.cells old t (0,0))) (ho:old.size=n) (hc:cells.size=n) (h1:cells.all (·.oneCell')=true) :
 (veilSt T ⟨g,0,none⟩ (.agg cells)).run Tryz.prog W = .ok () (W.setRow g cells):=
 run_storeVar_row W g t T old cells hg (by rw [hi,hc]) (ho.trans hc.symm) h1
theorem setRow_alloc (w:World) (cs cs':Array Value) (t:TypeId):(w.alloc (.cells cs t)).setRow w.heap.size cs'=w.alloc (.cells cs' t):=by
 have hm:∀ (a:Array Obj) (x:Obj) (f:Obj→Obj),(a.push x).modify a.size f=a.push (f x):=by
  intro a x f
  apply Array.ext
  ·simp
  ·intro i h1 h2
   simp only [Array.size_modify,Array.size_push] at h1
   rcases Nat.lt_or_ge i a.size with hi | hi
   ·simp [Array.getElem_modify,Array.getElem_push,hi,show a.size ≠ i by omega]
   ·obtain rfl:i=a.size:=by omega
    simp [Array.getElem_modify,Array.getElem_push]
 unfold World.setRow World.alloc
 simp only [hm]
theorem run_veilNew {T:TypeId} {n:Nat} (hi:(Tryz.prog.info? T).map (·.size)=some n) (W:World) (old cells:Array Value) (t:TypeId) (ho:old.size=n) (hc:cells.size=n) (h1:cells.all (·.oneCell')=true) :
 (veilSt T ⟨W.heap.size,0,none⟩ (.agg cells)).run Tryz.prog (W.alloc (.cells old t)) = .ok () (W.alloc (.cells cells t)):=by
 rw [run_veilSt hi _ _ old cells t (row_alloc W t old) ho hc h1,setRow_alloc]
theorem run_veilLd {T:TypeId} {n:Nat} {fs:Array Field} (hu:Tryz.prog.underlying T=some (.struct fs)) (hi:(Tryz.prog.info? T).map (·.size)=some n) (W:World) (g:Nat) (cells:Array Value) (t:TypeId) (hg:W.heap[g]? = some (.cells cells t (0,0))) (hc:cells.size=n) :
 (veilLd T ⟨g,0,none⟩).run Tryz.prog W = .ok (.agg cells) W:=
 run_loadVar_row W g t T cells (0,0) _ hg hu rfl (by rw [hi,hc])
theorem tk_size:(Tryz.prog.info? 128).map (·.size)=some 4:=by kernel_rfl
theorem tk_struct:∃ fs,Tryz.prog.underlying 128=some (.struct fs):=st_of (by kernel_rfl)
abbrev tkC (t:Tk):Array Value:=#[.int .u8 (t.k:Int),.string t.s,.int .u64 (t.n:Int),.int .i64 t.a]
abbrev tkZ:Array Value:=#[.int .u8 0,.string ⟨#[]⟩,.int .u64 0,.int .i64 0]
abbrev exZ:Array Value:=#[.int .u8 0,.int .u8 0,.int .i64 0,.string ⟨#[]⟩,.string ⟨#[]⟩,.string ⟨#[]⟩,.int .i64 0,.slice none 0 0]
theorem veilSt_ex (a:Addr) (v:Value):storeVar 48 a v=veilSt 48 a v:=rfl
theorem veilLd_ex (a:Addr):loadVar 48 a=veilLd 48 a:=rfl
theorem veilSt_tk (a:Addr) (v:Value):storeVar 128 a v=veilSt 128 a v:=rfl
def rowB (n:Nat) (w:World) (g:Nat):Bool:=match w.heap[g]? with
 | some (.cells cs _ fr)=>decide (fr=(0,0)) && decide (cs.size=n)
 | _=>false
def rowOf (w:World) (g:Nat):Array Value:=match w.heap[g]? with
 | some (.cells cs _ _)=>cs
 | _=>#[]
theorem Row.b {g n:Nat} {t:TypeId} {cs:Array Value} {w:World} (h:Row g t cs w) (hs:cs.size=n):rowB n w g=true:=by
 unfold rowB
 rw [h]
 simp [hs]
theorem Row.of {g:Nat} {t:TypeId} {cs:Array Value} {w:World} (h:Row g t cs w):rowOf w g=cs:=by
 unfold rowOf
 rw [h]
theorem rowB_row {g n:Nat} {w:World} (h:rowB n w g=true):∃ t cs,Row g t cs w∧cs.size=n∧rowOf w g=cs:=by
 unfold rowB at h
 split at h
 ·rename_i cs t fr e
  simp only [Bool.and_eq_true,decide_eq_true_eq] at h
  obtain ⟨rfl,hs⟩:=h
  exact ⟨t,cs,e,hs,Row.of e⟩
 ·cases h
def okRow (n:Nat) (cs:Array Value):Bool:=decide (cs.size=n) && cs.all (·.oneCell')
theorem okRow_iff {n:Nat} {cs:Array Value} : okRow n cs=true ↔ cs.size=n∧cs.all (·.oneCell')=true:=by unfold okRow;rw [Bool.and_eq_true,decide_eq_true_eq]
theorem okRow8 (a b c d e f g i:Value):okRow 8 #[a,b,c,d,e,f,g,i]=(a.oneCell' && (b.oneCell' && (c.oneCell' && (d.oneCell' && (e.oneCell' && (f.oneCell' && (g.oneCell' && i.oneCell'))))))):=by simp [okRow]
theorem okRow4 (a b c d:Value):okRow 4 #[a,b,c,d]=(a.oneCell' && (b.oneCell' && (c.oneCell' && d.oneCell'))):=by simp [okRow]
theorem ExD.ok {S:Nat→Prop} {w:World} {cs:Array Value} {x:PE} (h:ExD S w cs x):okRow 8 cs=true:=okRow_iff.2 ⟨h.size,h.one⟩
theorem run_exSt (W:World) (g:Nat) (cells:Array Value) (hg:rowB 8 W g=true) (h1:okRow 8 cells=true) :
 (veilSt 48 ⟨g,0,none⟩ (.agg cells)).run Tryz.prog W = .ok () (W.setRow g cells):=by
 obtain ⟨t,old,hr,ho,_⟩:=rowB_row hg
 obtain ⟨hc,h1⟩:=okRow_iff.1 h1
 exact run_veilSt ex_size W g old cells t hr ho hc h1
theorem run_exNew (W:World) (old cells:Array Value) (t:TypeId) (ho:old.size=8) (h1:okRow 8 cells=true) :
 (veilSt 48 ⟨W.heap.size,0,none⟩ (.agg cells)).run Tryz.prog (W.alloc (.cells old t)) = .ok () (W.alloc (.cells cells t)):=by
 obtain ⟨hc,h1⟩:=okRow_iff.1 h1
 exact run_veilNew ex_size W old cells t ho hc h1
theorem run_exLd (W:World) (g:Nat) (hg:rowB 8 W g=true):(veilLd 48 ⟨g,0,none⟩).run Tryz.prog W = .ok (.agg (rowOf W g)) W:=by
 obtain ⟨t,cs,hr,ho,e⟩:=rowB_row hg
 obtain ⟨fs,h⟩:=ex_struct
 rw [e]
 exact run_veilLd h ex_size W g cs t hr ho
theorem run_tkSt (W:World) (g:Nat) (cells:Array Value) (hg:rowB 4 W g=true) (h1:okRow 4 cells=true) :
 (veilSt 128 ⟨g,0,none⟩ (.agg cells)).run Tryz.prog W = .ok () (W.setRow g cells):=by
 obtain ⟨t,old,hr,ho,_⟩:=rowB_row hg
 obtain ⟨hc,h1⟩:=okRow_iff.1 h1
 exact run_veilSt tk_size W g old cells t hr ho hc h1
theorem run_tkNew (W:World) (old cells:Array Value) (t:TypeId) (ho:old.size=4) (h1:okRow 4 cells=true) :
 (veilSt 128 ⟨W.heap.size,0,none⟩ (.agg cells)).run Tryz.prog (W.alloc (.cells old t)) = .ok () (W.alloc (.cells cells t)):=by
 obtain ⟨hc,h1⟩:=okRow_iff.1 h1
 exact run_veilNew tk_size W old cells t ho hc h1
theorem res_row {fn:Func} {p:Tmp} {ty:TypeId} {n:Nat} (h:fn.results = #[.cell p ty]) (hs:∃ fs,Tryz.prog.underlying ty=some (.struct fs)) (hi:(Tryz.prog.info? ty).map (·.size)=some n) (tmps:Array Value) (w:World) (g:Nat) (t:TypeId) (cs:Array Value)
 (hp:tmps.getD p undef = .pointer (some ⟨g,0,none⟩)) (hg:Row g t cs w) (hc:cs.size=n):(results fn tmps).run Tryz.prog w = .ok (.agg cs) w:=by
 obtain ⟨fs,hu⟩:=hs
 exact results_cell_row h tmps w g t cs (0,0) _ hp hg hu rfl (by rw [hi,hc])
structure WS (w1:World) (b:Nat) (l:List UInt8) (w:World):Prop where
 bld:BuildW w1.heap.size b l w
 low:Below w1.heap.size w1 w
section
variable {w1 w w':World} {b:Nat} {l l':List UInt8}
theorem WS.lt (h:WS w1 b l w):b < w.heap.size:=h.bld.lt
theorem WS.later (h:WS w1 b l w) (hb:Below w.heap.size w w'):WS w1 b l w':=⟨h.bld.later hb,next h.low hb⟩
theorem below_trans {n:Nat} {w w1 w2:World} (h:Below n w w1) (k:Below n w1 w2):Below n w w2:=
 h.trans k
structure BX (b q:Nat) (t:TypeId) (cs:Array Value) (w:World):Prop where
 row:Row q t cs w
 ap:Apart q b w
theorem BX.keep {q:Nat} {t:TypeId} {cs:Array Value} (h:BX b q t cs w) (k:KeepW b w w'):BX b q t cs w':=⟨(k q h.ap).2.trans h.row,(k q h.ap).1⟩
theorem BX.later {q:Nat} {t:TypeId} {cs:Array Value} (h:BX b q t cs w) (hb:Below w.heap.size w w') (hl:b < w.heap.size):BX b q t cs w':=h.keep (KeepW.below hb hl)
theorem WS.box (h:WS w1 b l w) (t:TypeId) (cs:Array Value):BX b w.heap.size t cs (w.alloc (.cells cs t)):=
 ⟨row_alloc _ _ _,h.bld.new ((Below.refl _ w).alloc (Nat.le_refl _) _) (by simp)⟩
theorem WS.alloc (h:WS w1 b l w) (o:Obj):WS w1 b l (w.alloc o):=h.later ((Below.refl _ w).alloc (Nat.le_refl _) _)
theorem WS.keepAlloc (h:WS w1 b l w) (o:Obj):KeepW b w (w.alloc o):=KeepW.below ((Below.refl _ w).alloc (Nat.le_refl _) _) h.lt
end
def WPost (w1:World) (b:Nat) (l':List UInt8) (w:World) (e:Ending) (w':World):Prop:=e = .returned (.tuple #[])∧WS w1 b l' w'∧KeepW b w w'
theorem putsL_snoc (ws:List (List UInt8)) (x:List UInt8) (a:List UInt8):putsL (ws ++ [x]) a=putsL ws a ++ x ++ [32]:=by
 unfold putsL;simp
theorem putsL_len (ws:List (List UInt8)) (a:List UInt8):a.length ≤ (putsL ws a).length:=by
 unfold putsL;simp
theorem putsL_app (ws vs:List (List UInt8)) (a:List UInt8):putsL (ws ++ vs) a=putsL vs (putsL ws a):=by
 unfold putsL;simp
theorem ba_len (x:ByteArray):x.data.toList.length=x.size:=Array.length_toList
set_option maxRecDepth 100000 in
set_option maxHeartbeats 8000000 in
theorem putsW (ws:List ByteArray) (w1:World) (b:Nat) (l:List UInt8) (q:Nat) (w:World) (h:WS w1 b l w) (hx:BX b q 9 (ws.map Value.string).toArray w) (hlen:(putsL (ws.map W1) l).length ≤ 140737488355328) (hn:ws.length ≤ 1000) :
 Calls Tryz.prog 60 #[.pointer (some ⟨b,0,none⟩),.slice (some ⟨q,0,none⟩) ws.length ws.length] w (WPost w1 b (putsL (ws.map W1) l) w):=by
 have HW:=Lib.hid h
 have HX:=Lib.hid hx
 have HLN:=Lib.hid hlen
 have HN:=Lib.hid hn
 clear h hx hlen
 go_enter Tryz.func60,Tryz.ntmps60
 go_wp2_with fail
 go_loopg [8] ws.length (fun gk iv wr=>∃ (i:Nat),iv = .int .i64 (i:Int)∧gk=ws.length - i∧i ≤ ws.length∧Hid (WS w1 b (putsL ((ws.take i).map W1) l) wr)∧Hid (KeepW b w wr))
 case atStart=>exact ⟨0,rfl,rfl,Nat.zero_le _,Lib.hid (by simpa [putsL] using HW.out),Lib.hid (KeepW.refl _ _)⟩
 case round=>
  obtain ⟨i,rfl,rfl,hi,HS,HK⟩:=hrel
  by_cases hlt:i < ws.length
  ·obtain ⟨x,hx⟩:∃ x,ws[i]? = some x:=⟨ws[i],by simp⟩
   have c0:wr.cell? ⟨q,i,none⟩=some (.string x):=(HX.out.keep HK.out).row.cell (by simp [hx])
   have hsn:putsL ((ws.take (i + 1)).map W1) l=putsL ((ws.take i).map W1) l ++ x.data.toList ++ [32]:=by
    rw [List.take_add_one,hx,List.map_append]
    exact putsL_snoc _ _ _
   have hle:(putsL ((ws.take (i + 1)).map W1) l).length ≤ (putsL (ws.map W1) l).length:=by
    have e:ws.map W1=(ws.take (i + 1)).map W1 ++ (ws.drop (i + 1)).map W1:=by rw [← List.map_append,List.take_append_drop]
    rw [e,putsL_app]
    exact putsL_len _ _
   have HSN:=Lib.hid hsn
   have hb1:(putsL ((ws.take i).map W1) l).length + x.size + 1 ≤ 140737488355328:=by
    have h1:=HLN.out
    rw [hsn,List.length_append,List.length_append,ba_len] at hle
    have h3:([32]:List UInt8).length=1:=rfl
    omega
   have HB1:=Lib.hid hb1
   have ilt:(i:Int) < (ws.length:Int):=by omega
   have ige:(0:Int) ≤ (i:Int):=by omega
   have HLT:=Lib.hid hlt
   generalize hL:putsL ((ws.take i).map W1) l=L0 at *
   have HS1:=Lib.hid (writeStringR w1.heap.size b L0 x wr HS.out.bld (Nat.le_of_succ_le HB1.out) HS.out.bld.Bw)
   clear hx hsn hle hb1 hlt hL
   go_wp2_with fail
   refine HS1.out.mono ?_
   rintro e2 w2 ⟨rfl,hb2,hl2,hk2⟩
   have HS2:=Lib.hid (writeByteR w1.heap.size b (L0 ++ x.data.toList) 32 w2 hb2 (by have:=HB1.out;rw [List.length_append,ba_len];exact this) hb2.Bw)
   have HL2:=Lib.hid (below_trans HS.out.low hl2)
   have HK2:=Lib.hid (HK.out.trans hk2)
   clear hb2 hl2 hk2 HS1 c0
   go_wp2_with fail
   refine HS2.out.mono ?_
   rintro e3 w3 ⟨rfl,hb3,hl3,hk3⟩
   have HS3:Hid (WS w1 b (putsL ((ws.take (i + 1)).map W1) l) w3):=Lib.hid ⟨by rw [HSN.out];exact hb3,below_trans HL2.out hl3⟩
   have HK3:=Lib.hid (HK2.out.trans hk3)
   clear hb3 hl3 hk3 HS2
   go_wp2_with fail
   go_roundg (ws.length - (i + 1))
   case measure=>exact Nat.sub_lt_sub_left HLT.out (Nat.lt_succ_self _)
   case rel=>exact ⟨i + 1,by have h1:=HN.out;have h2:=HLT.out;go_num,rfl,HLT.out,HS3,HK3⟩
  ·obtain rfl:i=ws.length:=by omega
   have HSF:Hid (WS w1 b (putsL (ws.map W1) l) wr):=Lib.hid (by have h1:=HS.out;rw [List.take_length] at h1;exact h1)
   clear hlt hi
   go_wp2_with fail
   go_end0
   exact ⟨rfl,HSF.out,HK.out⟩
theorem putsN (ws:List ByteArray) (w1:World) (b:Nat) (l:List UInt8) (w:World) (h:WS w1 b l w) (hlen:(putsL (ws.map W1) l).length ≤ 140737488355328) (hn:ws.length ≤ 1000) :
 Calls Tryz.prog 60 #[.pointer (some ⟨b,0,none⟩),.slice (some ⟨w.heap.size,0,none⟩) ws.length ws.length] (w.alloc (.cells (ws.map Value.string).toArray 9)) (WPost w1 b (putsL (ws.map W1) l) w):=
 (putsW ws w1 b l w.heap.size _ (h.alloc _) (h.box _ _) hlen hn).mono fun _ _ ⟨he,hs,hk⟩=>⟨he,hs,(h.keepAlloc _).trans hk⟩
end Go.Proofs.YtmdogmpcmkfjpaaGreatDoor.Dt
namespace Go.Proofs.YtmdogmpcmkfjpaaGreatDoor.Num
theorem cv_u8:Tryz.prog.underlying 63=some (.slice 5):=by kernel_rfl
open Go.RowKit Go.Proofs.YtmdogmpcmkfjpaaGreatDoor.By
theorem elem_u8:Elem Tryz.prog 63 5 1 1 where
 slice:=cv_u8
 info:=by
  have h:(Tryz.prog.info? 5).map (fun i=>(i.zero,i.size,i.bytes))=some (some (.int .u8 0),1,1):=by kernel_rfl
  obtain ⟨i,hi,h1,h2,h3⟩:=info_parts h
  exact ⟨i,_,hi,h1,h2,h3,rfl⟩
 pos:=by decide
end Go.Proofs.YtmdogmpcmkfjpaaGreatDoor.Num
namespace Go.Proofs.YtmdogmpcmkfjpaaGreatDoor.By
open Go.RowKit
theorem OwnB.below {w w':World} {base:Nat} {e:TypeId} {v:Value} {l:List UInt8} (h:OwnB w base e v l) (hb:Below w.heap.size w w'):OwnB w' base e v l:=
 World.ownsRow.kept (row:=none) h ⟨hb.os,hb.tape,hb.output,hb.size,fun i hi _=>hb.block i hi⟩ (by cases v.ownBlock <;> simp)
def OwnX (w:World) (base:Nat) (e:TypeId) (v:Value) (l:List UInt8):Prop:=
 OwnB w base e v l ∨ ∃ g,v = .slice (some ⟨g,0,none⟩) l.length l.length∧∀ i (h:i < l.length),w.cell? ⟨g,i,none⟩=some (byte l[i])
theorem OwnX.below {w w':World} {base:Nat} {e:TypeId} {v:Value} {l:List UInt8} (h:OwnX w base e v l) (hb:Below w.heap.size w w'):OwnX w' base e v l:=by
 rcases h with h | ⟨g,rfl,h⟩
 ·exact .inl (h.below hb)
 ·exact .inr ⟨g,rfl,fun i hi=>(hb.cell (cell_lt (h i hi))).trans (h i hi)⟩
theorem OwnX.shape {w:World} {base:Nat} {e:TypeId} {v:Value} {l:List UInt8} (h:OwnX w base e v l):∃ a c,v = .slice a l.length c:=by
 rcases h with h | ⟨g,rfl,h⟩
 ·exact h.shape
 ·exact ⟨_,_,rfl⟩
theorem convX {P:Program} {w:World} (src e dst:TypeId) (hs:P.underlying src=some (.slice e)) (he:P.underlying e=some (.int .u8)) (hd:P.underlying dst=some .string)
 {base:Nat} {v:Value} {l:List UInt8} (h:OwnX w base e v l):(convert src dst v).run P w = .ok (str l) w:=by
 rcases h with h | ⟨g,rfl,h⟩
 ·exact conv_own src e dst hs he hd h
 ·exact conv_at w src e dst hs he hd g 0 l.length l.length l rfl (fun i hi=>by rw [Nat.zero_add];exact h i hi)
theorem bytes_get (l:List UInt8) {j:Nat} {u:Value} (h:(l.map byte)[j]? = some u):∃ hj:j < l.length,u=byte l[j]:=by
 rw [List.getElem?_map] at h
 cases hj:l[j]? with
 | none=>rw [hj] at h;cases h
 | some b=>
  rw [hj] at h
  obtain ⟨hk,rfl⟩:=List.getElem?_eq_some_iff.1 hj
  exact ⟨hk,(Option.some.inj h).symm⟩
theorem wpList_append_x {P:Program} {w:World} {ops:Array Oper} {rest:List Oper} {o:Oper} {a:Act} {Q:Exit→Act→World→Prop} (hgd:o.guard=none) (s x:Operand) (t:TypeId)
 (ho:o.op = .call { callee:=.builtin .append,args:=#[s,x],argTypes:=#[t,t] })
 (base:Nat) (e:TypeId) (E:Elem P t e 1 1)
 (v:Value) (l:List UInt8) (hs:a.eval s=v) (hown:OwnX w base e v l)
 (sv:Value) (news:List UInt8) (hx:a.eval x=sv) (hr:Reads w 1 sv news.length (news.map byte)) (hm:0 < news.length)
 (h63:l.length + news.length ≤ 140737488355328) (hbase:base ≤ w.heap.size)
 (h:∀ v' w',OwnB w' base e v' (l ++ news)→Below base w w'→wpList P ops Q rest (a.put o.dst v') w'):wpList P ops Q (o :: rest) a w:=by
 have h1:∀ u ∈ news.map byte,u.oneCell'=true:=oneCell_bytes news
 rcases hown with hown | ⟨g,rfl,hc⟩
 ·exact wpList_append_reads hgd s x t ho base e 1 1 E v l.length (l.map byte) hs hown sv news.length (news.map byte) hx hr h1 (by unfold maxLen;omega) (by omega) hbase
   (fun v' w' h2 _ h4=>h v' w' (ownB_of h2 (by simp) (by simp)) h4)
 ·rcases hr.2 with ⟨_,hn⟩ | ⟨ad,c,rfl,hcn⟩
  ·omega
  ·obtain ⟨i,z,hi,hz,hsize,hby,hzs⟩:=E.info
   refine wpList_append_grows w hgd s x t ho e i z 1 1 E.slice hi hz hsize hby hzs E.pos (some ⟨g,0,none⟩) l.length l.length (l.map byte) hs (fun h=>by cases h) (by simp) (fun b hb j u hu=>?_) ad news.length c (news.map byte) hx (by simp) hcn h1 (by omega) (by unfold maxLen;omega) (by omega) (fun v' w' h2 h3=>h v' w' (ownB_of (h2.mono hbase) (by simp) (by simp)) ?_)
   ·obtain rfl:=Option.some.inj hb
    obtain ⟨hj,rfl⟩:=bytes_get l hu
    have:(⟨g,0,none⟩:Addr).add j=⟨g,j,none⟩:=by rw [Addr.add_lit,Nat.zero_add]
    rw [this]
    exact hc j hj
   ·exact (Below.refl base w).grown h3 hbase (fun k hk=>by cases hk)
theorem reads_cells {w:World} (b:Nat) (news:List UInt8) (h:∀ i (hi:i < news.length),w.cell? ⟨b,i,none⟩=some (byte news[i])):Reads w 1 (.slice (some ⟨b,0,none⟩) news.length news.length) news.length (news.map byte):=by
 refine ⟨by simp,.inr ⟨_,_,rfl,fun j u hu=>?_⟩⟩
 obtain ⟨hj,rfl⟩:=bytes_get news hu
 rw [Addr.add_lit,Nat.zero_add]
 exact h j hj
end Go.Proofs.YtmdogmpcmkfjpaaGreatDoor.By
namespace Go.Proofs.YtmdogmpcmkfjpaaGreatDoor.Dt
open Go.RowKit Go.Proofs.YtmdogmpcmkfjpaaGreatDoor.By
theorem wrapI (x:Int) (h0:0 ≤ x) (h1:x ≤ 2000000):wrap64 x=x:=by unfold wrap64;omega
theorem wrapK (x:Int) (h0:0 ≤ x) (h1:x ≤ 2000000):IntKind.i64.wrap x=x:=by rw [IntKind.wrap_i64];omega
structure QS (w:World) (r b:Nat) (s:ByteArray) (p:Nat) (v:Value) (O:List UInt8) (W:World):Prop where
 rd:RD r s p W
 bx:TBox b W
 own:OwnB W (b + 1) 5 v O
 gr:w.grownBy W (some r)
 sz:b + 1 ≤ W.heap.size
theorem QS.later {w:World} {r b:Nat} {s:ByteArray} {p:Nat} {v:Value} {O:List UInt8} {W W':World} (h:QS w r b s p v O W) (hb:Below W.heap.size W W'):QS w r b s p v O W':=
 ⟨h.rd.later hb,h.bx.later hb,h.own.below hb,grown_trans h.gr (below_grown hb),Nat.le_trans h.sz hb.size⟩
theorem QS.set {w:World} {r b:Nat} {s:ByteArray} {p:Nat} {v:Value} {O:List UInt8} {W:World} (h:QS w r b s p v O W) (hr:r < b) (q:Nat) (x:Int) (hx:x=(q:Int)):QS w r b s q v O (W.setCell ⟨r,1,none⟩ (.int .i64 x)):=by
 subst hx
 exact ⟨h.rd.set q,h.bx.else (by omega),ownsRow_setCell_below h.own (by show r < b + 1;omega) _,grown_trans h.gr (grown_set _ _ _ _),by rw [World.size_setCell];exact h.sz⟩
theorem QS.app {w:World} {r b:Nat} {s:ByteArray} {p:Nat} {v v':Value} {O O':List UInt8} {W W':World} (h:QS w r b s p v O W) (hr:r < b) (hb:Below (b + 1) W W') (ho:OwnB W' (b + 1) 5 v' O') (hz:W.heap.size ≤ W'.heap.size) (hwb:w.heap.size ≤ b):QS w r b s p v' O' W':=by
 have hc:∀ j i,j < b + 1→W'.cell? ⟨j,i,none⟩=W.cell? ⟨j,i,none⟩:=fun j i hj=>hb.cell (p:=⟨j,i,none⟩) hj
 have hf:∀ j i,j < b + 1→W'.frozen? ⟨j,i,none⟩=W.frozen? ⟨j,i,none⟩:=fun j i hj=>hb.frozen (p:=⟨j,i,none⟩) hj
 have hr1:r < b + 1:=by omega
 have hb1:b < b + 1:=by omega
 refine ⟨⟨(hc _ _ hr1).trans h.rd.c0,(hc _ _ hr1).trans h.rd.c1,(hf _ _ hr1).trans h.rd.f1⟩,
  ⟨(hc _ _ hb1).trans h.bx.c0,(hc _ _ hb1).trans h.bx.c1,(hc _ _ hb1).trans h.bx.c2,(hc _ _ hb1).trans h.bx.c3,(hf _ _ hb1).trans h.bx.f0,(hf _ _ hb1).trans h.bx.f1,(hf _ _ hb1).trans h.bx.f2,(hf _ _ hb1).trans h.bx.f3⟩,ho,?_,Nat.le_trans h.sz hz⟩
 exact ⟨hb.os.trans h.gr.os,hb.tape.trans h.gr.tape,hb.output.trans h.gr.output,Nat.le_trans h.gr.size hz,fun k hk hn=>(hb.block k (by omega)).trans (h.gr.block k hk hn)⟩
theorem QS.new {w:World} {r:Nat} {s:ByteArray} {k:Nat} (h:RD r s k w) (t:TypeId):QS w r w.heap.size s k (.slice none 0 0) [] (w.alloc (.cells #[.int .u8 0,.string ⟨#[]⟩,.int .u64 0,.int .i64 0] t)):=
 ⟨h.later ((Below.refl _ _).alloc (Nat.le_refl _) _),tBox_new _ _,OwnB.nil _ _ _,below_grown ((Below.refl _ _).alloc (Nat.le_refl _) _),by simp⟩
theorem drop_cons (s:ByteArray) {p:Nat} (h:p < s.size):s.data.toList.drop p=s[p] :: s.data.toList.drop (p + 1):=by
 rw [List.drop_eq_getElem_cons (by simpa using h)];rfl
theorem drop_end (s:ByteArray) {p:Nat} (h:s.size ≤ p):s.data.toList.drop p = []:=List.drop_eq_nil_iff.2 (by rw [bytes_list];exact h)
theorem qscan_other {c:UInt8} (h:c ≠ 39) (l:List UInt8):qscan (c :: l)=(qscan l).map fun x=>(c :: x.1,x.2 + 1):=by
 cases l with
 | nil=>simp [qscan,h]
 | cons d l=>rw [qscan,if_neg h]
theorem qscan_two (l:List UInt8):qscan (39 :: 39 :: l)=(qscan l).map fun x=>(39 :: x.1,x.2 + 2):=by rw [qscan,if_pos rfl,if_pos rfl]
theorem qscan_stop {l:List UInt8} (h:topB l ≠ 39):qscan (39 :: l)=some ([],1):=by
 cases l with
 | nil=>simp [qscan]
 | cons d l=>rw [qscan,if_pos rfl,if_neg (show ¬ d=39 from h)]
def textR (n:Nat):Option (List UInt8 × Nat)→One
 | none=>.bad 6 n
 | some (t,m)=>if 1000 < t.length then .bad 3 0 else .tok 4 t 0 (m + 1)
theorem textOne_eq (l:List UInt8):textOne l=textR l.length (qscan (l.drop 1)):=by
 unfold textOne
 cases qscan (l.drop 1) with
 | none=>rfl
 | some x=>rfl
theorem textR_long {n m:Nat} {t:List UInt8} (h:1000 < t.length):textR n (some (t,m)) = .bad 3 0:=by show (if _ then _ else _)=_;rw [if_pos h]
theorem textR_ok {n m:Nat} {t:List UInt8} (h:¬ 1000 < t.length):textR n (some (t,m)) = .tok 4 t 0 (m + 1):=by show (if _ then _ else _)=_;rw [if_neg h]
def blobR:Nat ⊕ (List UInt8 × Nat)→One
 | .inl e=>.bad 6 (e + 2)
 | .inr (t,m)=>if 1000 < t.length then .bad 3 0 else .tok 5 t 0 (m + 2)
theorem blobOne_eq (l:List UInt8):blobOne l=blobR (bscan (l.drop 2)):=by
 unfold blobOne
 cases bscan (l.drop 2) with
 | inl e=>rfl
 | inr x=>rfl
theorem blobR_long {m:Nat} {t:List UInt8} (h:1000 < t.length):blobR (.inr (t,m)) = .bad 3 0:=by show (if _ then _ else _)=_;rw [if_pos h]
theorem blobR_ok {m:Nat} {t:List UInt8} (h:¬ 1000 < t.length):blobR (.inr (t,m)) = .tok 5 t 0 (m + 2):=by show (if _ then _ else _)=_;rw [if_neg h]
end Go.Proofs.YtmdogmpcmkfjpaaGreatDoor.Dt
