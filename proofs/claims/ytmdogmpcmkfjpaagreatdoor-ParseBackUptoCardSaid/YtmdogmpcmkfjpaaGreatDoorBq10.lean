import Derived.Shelf.Spec.SearchS
import Derived.Laws.Tables
import Derived.Laws.Rows
import Derived.Test.YtmdogmpcmkfjpaaGreatDoorProg
import Derived.ArgAppend
import Derived.Deep.Onto
import Derived.Lib.SlBytesConst
import Derived.Test.YtmdogmpcmkfjpaaGreatDoorBq08
import Derived.Test.YtmdogmpcmkfjpaaGreatDoorBq09
import Derived.Test.YtmdogmpcmkfjpaaGreatDoorBq02
import Derived.Test.YtmdogmpcmkfjpaaGreatDoorBq03
import Derived.Test.YtmdogmpcmkfjpaaGreatDoorBq05
import Derived.Test.YtmdogmpcmkfjpaaGreatDoorBq01
set_option maxRecDepth 100000
set_option maxHeartbeats 64000000
/- Part. -/
namespace Go.Proofs.YtmdogmpcmkfjpaaGreatDoor.Dt
open Go.RowKit Go.Proofs.YtmdogmpcmkfjpaaGreatDoor.By
def renB:Go.Shelf.Ren:=⟨fun | 26=>140 | 33=>155 | 34=>156 | 38=>182 | n=>n,fun | 0=>0 | 3=>3 | 4=>4 | 9=>9 | 24=>23 | 40=>177 | n=>n,fun n=>n⟩
theorem laysB:Go.Proofs.Lays2.n26 Tryz.prog renB:={
 mixed:=kR
 f26:=Tryz.func140.trans kC
 f33:=Tryz.func155.trans kC
 f34:=Tryz.func156.trans kC
 f38:=Tryz.func182.trans kC
 t0:=Tryz.underlying0
 a0:=Tryz.isAgg0
 z0:=Tryz.sizeOf0
 v0:=Tryz.zeroValue0
 t3:=Tryz.underlying3
 a3:=Tryz.isAgg3
 z3:=Tryz.sizeOf3
 v3:=Tryz.zeroValue3
 t4:=Tryz.underlying4
 a4:=Tryz.isAgg4
 z4:=Tryz.sizeOf4
 v4:=Tryz.zeroValue4
 t9:=Tryz.underlying9
 a9:=Tryz.isAgg9
 z9:=Tryz.sizeOf9
 v9:=Tryz.zeroValue9
 t24:=Tryz.underlying23
 a24:=Tryz.isAgg23
 z24:=Tryz.sizeOf23
 v24:=Tryz.zeroValue23
 t40:=Tryz.underlying177
 a40:=Tryz.isAgg177
 z40:=Tryz.sizeOf177
 v40:=Tryz.zeroValue177 }
structure LX (w:World):Prop extends LW w where
 asc:Lib.TabIs Tryz.prog w "strings.asciiSpace" .u8 Lib.asciiSpaceTab
theorem LX.later {w w':World} (h:LX w) (hb:Below w.heap.size w w'):LX w':=⟨h.toLW.later hb,Zhj h.asc hb⟩
def Zo1 (A:Nat) (l:List (List UInt8)) (w:World):Prop:=∀ (j:Nat) x,l[j]? = some x→w.cell? ⟨A,j,none⟩=some (str x)
theorem cell_new (w:World) (l:List Value) (T:TypeId) (j:Nat) (v:Value) (h:l[j]? = some v):(w.alloc (.cells l.toArray T)).cell? ⟨w.heap.size,j,none⟩=some v:=by
 unfold World.cell?
 rw [heap_alloc_new]
 simp [h]
abbrev Zqg:ByteArray:=⟨#[65,78,68,32,65,83,32,66,69,71,73,78,32,66,76,79,66,32,66,89,32,67,79,77,77,73,84,32,67,79,85,78,84,32,67,82,69,65,84,69,32,68,69,76,69,84,69,32,68,69,83,67,32,68,82,79,80,32,70,82,79,77,32,71,82,79,85,80,32,72,65,86,73,78,71,32,73,78,68,69,88,32,73,78,83,69,82,84,32,73,78,84,69,71,69,82,32,73,78,84,79,32,73,83,32,74,79,73,78,32,75,69,89,32,76,73,77,73,84,32,77,65,88,32,77,73,78,32,78,79,84,32,78,85,76,76,32,79,78,32,79,82,32,79,82,68,69,82,32,80,82,73,77,65,82,89,32,82,69,76,69,65,83,69,32,82,79,76,76,66,65,67,75,32,83,65,86,69,80,79,73,78,84,32,83,69,76,69,67,84,32,83,69,84,32,83,85,77,32,84,65,66,76,69,32,84,69,88,84,32,84,79,32,85,78,73,81,85,69,32,85,80,68,65,84,69,32,86,65,76,85,69,83,32,87,72,69,82,69]⟩
theorem Znf:Lib.fields Zqg.data.toList=Zb2:=kR
theorem Zph:∀ b ∈ Zqg.data.toList,b.toNat < 128:=by decide +kernel
theorem fieldsAt (w:World) (hw:LX w):Calls Tryz.prog 157 #[.string Zqg] w fun e w'=>e = .returned (.slice (some ⟨w.heap.size,0,none⟩) 43 43)∧Zo1 w.heap.size Zb2 w'∧Below w.heap.size w w':=by
 refine (Tryz.strings_Fields_laid Zqg w kD (fun j b h=>Zph b (List.mem_of_getElem? h)) hw.asc).mono fun e w' h=>?_
 obtain ⟨rfl,rfl⟩:=h
 rw [Znf]
 refine ⟨rfl,fun j x hx=>?_,bA⟩
 exact cell_new w _ _ j _ (by rw [List.getElem?_map,hx];rfl)
theorem wordsW (w:World) (hw:LX w):Calls Tryz.prog 141 #[] w fun e w'=>∃ A,e = .returned (.slice (some ⟨A,0,none⟩) 43 43)∧Zo1 A Zb2 w'∧Below w.heap.size w w':=by
 have HF:=Lh (fieldsAt w hw)
 clear hw
 go_enter Tryz.func141,Tryz.ntmps141
 go_wp2_with fail
 refine HF.out.mono ?_
 rintro e w1 ⟨rfl,h1,h2⟩
 have H1:=Lh h1
 have H2:=Lh h2
 clear h1 h2
 go_wp2_with fail
 go_ret
 exact ⟨_,rfl,H1.out,H2.out⟩
theorem Zne:∀ k:Fin 43,Lib.bsGo (fun t=>Op.bytesLess (Zb2.getD t []) (Zb2.getD k.val [])) 43 0 43=k.val:=by decide +kernel
theorem Zhc:Zb2.length=43:=by decide +kernel
theorem findW (A:Nat) (x:ByteArray) (w:World) (h:Zo1 A Zb2 w) :
 Calls Tryz.prog 140 #[.slice (some ⟨A,0,none⟩) 43 43,.string x] w fun e w'=>∃ I:Int,e = .returned (.tuple #[.int .i64 I,.bool (decide (x.data.toList ∈ Zb2))])∧Below w.heap.size w w':=by
 have hc:∀ j,j < 43→w.cell? ⟨A,0 + j,none⟩=some (.string (⟨(Zb2.getD j []).toArray⟩:ByteArray)):=fun j hj=>by
  have hl:Zb2[j]? = some (Zb2.getD j []):=by rw [List.getD_eq_getElem?_getD,List.getElem?_eq_getElem (by rw [Zhc];exact hj)];rfl
  have:=h j _ hl
  rwa [Nat.zero_add]
 refine (Any2.slices_BinarySearch_string laysB A 0 43 43 (fun j=>⟨(Zb2.getD j []).toArray⟩) x w kD hc).mono fun e w' h'=>?_
 obtain ⟨rfl,q,rfl⟩:=h'
 have hfun:(fun t=>Op.bytesLess (ByteArray.mk (Zb2.getD t []).toArray).toList x.toList)=fun t=>Op.bytesLess (Zb2.getD t []) x.data.toList:=by
  funext t
  rw [ByteArray.toList_eq,ByteArray.toList_eq]
 rw [hfun]
 obtain ⟨I,hI⟩:∃ I,I=Lib.bsGo (fun t=>Op.bytesLess (Zb2.getD t []) x.data.toList) 43 0 43:=⟨_,rfl⟩
 rw [← hI]
 have hd:decide (I < 43∧(ByteArray.mk (Zb2.getD I []).toArray)=x)=decide (x.data.toList ∈ Zb2):=by
  refine decide_eq_decide.2 ⟨fun ⟨h1,h2⟩=>?_,fun hx=>?_⟩
  ·have e:=congrArg (fun b:ByteArray=>b.data.toList) h2
   simp only at e
   rw [← e,List.getD_eq_getElem?_getD,List.getElem?_eq_getElem (by rw [Zhc];exact h1)]
   exact List.getElem_mem _
  ·obtain ⟨k,hk,he⟩:=List.getElem_of_mem hx
   rw [Zhc] at hk
   have hg:Zb2.getD k []=x.data.toList:=by rw [List.getD_eq_getElem?_getD,List.getElem?_eq_getElem (by rw [Zhc];exact hk),← he];rfl
   have hs:=Zne ⟨k,hk⟩
   rw [hg,← hI] at hs
   simp only at hs
   rw [hs]
   exact ⟨hk,by rw [hg]⟩
 exact ⟨(I:Int),by rw [hd],Zdb (Below.refl _ _) _⟩
def Tk.val (t:Tk):Value:=.agg #[.int .u8 (t.k:Int),.string t.s,.int .u64 (t.n:Int),.int .i64 t.a]
def T0:Tk:=⟨0,ByteArray.empty,0,0⟩
structure Zlw (b:Nat) (w:World):Prop where
 c0:w.cell? ⟨b,0,none⟩=some (.int .u8 0)
 c1:w.cell? ⟨b,1,none⟩=some (eS)
 c2:w.cell? ⟨b,2,none⟩=some (.int .u64 0)
 c3:w.cell? ⟨b,3,none⟩=some (iZ)
 f0:w.frozen? ⟨b,0,none⟩=false
 f1:w.frozen? ⟨b,1,none⟩=false
 f2:w.frozen? ⟨b,2,none⟩=false
 f3:w.frozen? ⟨b,3,none⟩=false
theorem Zlw.lt {b:Nat} {w:World} (h:Zlw b w):b < w.heap.size:=Zd h.c0
theorem Zlw.later {b:Nat} {w w':World} (h:Zlw b w) (hb:Below w.heap.size w w'):Zlw b w':=
 ⟨(hb.cell h.lt).trans h.c0,(hb.cell h.lt).trans h.c1,(hb.cell h.lt).trans h.c2,(hb.cell h.lt).trans h.c3,(hb.frozen h.lt).trans h.f0,(hb.frozen h.lt).trans h.f1,(hb.frozen h.lt).trans h.f2,(hb.frozen h.lt).trans h.f3⟩
theorem Zlw.grown {b r:Nat} {w w':World} (h:Zlw b w) (g:w.grownBy w' (some r)) (hne:b ≠ r):Zlw b w':=by
 have c:∀ i,w'.cell? ⟨b,i,none⟩=w.cell? ⟨b,i,none⟩:=fun i=>cell_grown g h.lt (fun e=>hne (Option.some.inj e).symm) i
 have f:∀ i,w'.frozen? ⟨b,i,none⟩=w.frozen? ⟨b,i,none⟩:=fun i=>by
  unfold World.frozen?
  rw [g.block b h.lt (fun e=>hne (Option.some.inj e))]
 exact ⟨(c 0).trans h.c0,(c 1).trans h.c1,(c 2).trans h.c2,(c 3).trans h.c3,(f 0).trans h.f0,(f 1).trans h.f1,(f 2).trans h.f2,(f 3).trans h.f3⟩
theorem Zlw.else {b r i:Nat} {u:Value} {w:World} (h:Zlw b w) (hne:b ≠ r):Zlw b (w.setCell ⟨r,i,none⟩ u):=h.grown (Z3 w r i u) hne
theorem Zhn (w:World) (t:TypeId):Zlw w.heap.size (w.alloc (.cells #[.int .u8 0,eS,.int .u64 0,iZ] t)):=by
 constructor <;> go_simp
theorem Zbb (w:World) (b:Nat) (x y z u:Value) (h:Zlw b w):∀ W,W=((((w.setCell ⟨b,0,none⟩ x).setCell ⟨b,1,none⟩ y).setCell ⟨b,2,none⟩ z).setCell ⟨b,3,none⟩ u) →
 W.cell? ⟨b,0,none⟩=some x∧W.cell? ⟨b,1,none⟩=some y∧W.cell? ⟨b,2,none⟩=some z∧W.cell? ⟨b,3,none⟩=some u:=by
 rintro W rfl
 have s0:=Zbk w ⟨b,0,none⟩ x _ h.c0
 have s1:=Zbk (w.setCell ⟨b,0,none⟩ x) ⟨b,1,none⟩ y _ ((Zv w b 0 1 x kD).trans h.c1)
 have s2:=Zbk ((w.setCell ⟨b,0,none⟩ x).setCell ⟨b,1,none⟩ y) ⟨b,2,none⟩ z _ ((Zv _ b 1 2 y kD).trans ((Zv w b 0 2 x kD).trans h.c2))
 have s3:=Zbk (((w.setCell ⟨b,0,none⟩ x).setCell ⟨b,1,none⟩ y).setCell ⟨b,2,none⟩ z) ⟨b,3,none⟩ u _ ((Zv _ b 2 3 z kD).trans ((Zv _ b 1 3 y kD).trans ((Zv w b 0 3 x kD).trans h.c3)))
 exact ⟨(Zv _ b 3 0 u kD).trans ((Zv _ b 2 0 z kD).trans ((Zv _ b 1 0 y kD).trans s0)),(Zv _ b 3 1 u kD).trans ((Zv _ b 2 1 z kD).trans s1),(Zv _ b 3 2 u kD).trans s2,s3⟩
theorem RD.else {r:Nat} {s:ByteArray} {k:Nat} {w:World} (h:RD r s k w) {b i:Nat} {u:Value} (hb:b ≠ r):RD r s k (w.setCell ⟨b,i,none⟩ u):=by
 refine ⟨(Zht w r b i 0 u (fun e=>hb e.1)).trans h.c0,(Zht w r b i 1 u (fun e=>hb e.1)).trans h.c1,?_⟩
 have:=h.f1
 simpa using this
theorem RD.box {r:Nat} {s:ByteArray} {k:Nat} {w:World} (h:RD r s k w) {b:Nat} (x y z u:Value) (hb:b ≠ r):RD r s k ((((w.setCell ⟨b,0,none⟩ x).setCell ⟨b,1,none⟩ y).setCell ⟨b,2,none⟩ z).setCell ⟨b,3,none⟩ u):=
 (((h.else hb).else hb).else hb).else hb
theorem Zh7 {w W:World} {r:Nat} (h:w.grownBy W (some r)) {b i:Nat} {u:Value} (hb:w.heap.size ≤ b):w.grownBy (W.setCell ⟨b,i,none⟩ u) (some r):=by
 have g:=Z3 W b i u
 refine ⟨g.os.trans h.os,g.tape.trans h.tape,g.output.trans h.output,Nat.le_trans h.size g.size,fun k hk hn=>?_⟩
 exact (g.block k (Nat.lt_of_lt_of_le hk h.size) (fun e=>by cases e;omega)).trans (h.block k hk hn)
theorem Zab {w W:World} {r:Nat} (h:w.grownBy W (some r)) {b:Nat} (x y z u:Value) (hb:w.heap.size ≤ b):w.grownBy ((((W.setCell ⟨b,0,none⟩ x).setCell ⟨b,1,none⟩ y).setCell ⟨b,2,none⟩ z).setCell ⟨b,3,none⟩ u) (some r):=
 Zh7 (Zh7 (Zh7 (Zh7 h hb) hb) hb) hb
structure Env (w0:World) (r:Nat) (w:World):Prop where
 hw:LX w0
 hb:Below w0.heap.size w0 w
 hr:w0.heap.size ≤ r
theorem Env.grown {w0 w w':World} {r:Nat} (h:Env w0 r w) (g:w.grownBy w' (some r)):Env w0 r w':=⟨h.hw,Zg5 h.hb h.hr g h.hb.size,h.hr⟩
theorem Env.lx {w0 w:World} {r:Nat} (h:Env w0 r w):LX w:=h.hw.later h.hb
def outV:One→Value
 | .tok k s n _=>.tuple #[Tk.val ⟨k,⟨s.toArray⟩,n,0⟩,iZ]
 | .bad e _=>.tuple #[T0.val,.int .i64 (e:Int)]
def Zs3:One→Nat
 | .tok _ _ _ m=>m
 | .bad _ m=>m
def Tk.cells (t:Tk):List Value:=[.int .u8 (t.k:Int),.string t.s,.int .u64 (t.n:Int),.int .i64 t.a]
abbrev Zoz (w:World) (v:Value) (l:List Tk):Prop:=Zlx 4 Tk.cells w v l
theorem at4 {w:World} {a:Option Addr} {n c k:Nat} {l:List Tk} {y:Tk} (h:Zoz w (.slice a n c) l) (hk:l[k]? = some y) :
 ∃ b o,a=some ⟨b,o,none⟩∧b < w.heap.size∧w.cell? ⟨b,o + k * 4,none⟩=some (.int .u8 (y.k:Int))∧w.cell? ⟨b,o + k * 4 + 1,none⟩=some (.string y.s)∧w.cell? ⟨b,o + k * 4 + 2,none⟩=some (.int .u64 (y.n:Int))∧w.cell? ⟨b,o + k * 4 + 3,none⟩=some (.int .i64 y.a):=by
 obtain ⟨a',c',e,_,h⟩:=h
 simp only [Value.slice.injEq] at e
 obtain ⟨rfl,_,_⟩:=e
 obtain ⟨b,o,rfl,h'⟩:=h k y hk
 have h0:=h' 0 _ rfl
 exact ⟨b,o,rfl,Zd h0,h0,h' 1 _ rfl,h' 2 _ rfl,h' 3 _ rfl⟩
theorem elT:By.Elem Tryz.prog 72 128 4 40 where
 slice:=kR
 info:=by
  have h:(Tryz.prog.info? 128).map (fun i=>(i.zero,i.size,i.bytes))=some (some (.agg #[.int .u8 0,eS,.int .u64 0,iZ]),4,40):=kR
  obtain ⟨i,hi,h1,h2,h3⟩:=info_parts h
  exact ⟨i,_,hi,h1,h2,h3,rfl⟩
 pos:=kD
def Zhm (l:List Tk):List Value:=l.flatMap Tk.cells
theorem Zr2 (l:List Tk):∀ (i:Nat) (x:Tk),l[i]? = some x→∀ j u,x.cells[j]? = some u→(Zhm l)[i * 4 + j]? = some u:=by
 induction l with
 | nil=>intro i x h;simp at h
 | cons y l ih=>
  intro i x h j u hu
  have hj:j < 4:=(List.getElem?_eq_some_iff.1 hu).1
  have e:Zhm (y :: l)=y.cells ++ Zhm l:=rfl
  rcases i with _ | i
  ·simp at h;subst h
   rw [e,List.getElem?_append_left (by show 0 * 3 + j < 4;omega),Nat.zero_mul,Nat.zero_add]
   exact hu
  ·rw [e,List.getElem?_append_right (by show 4 ≤ _;omega),show (i + 1) * 4 + j - y.cells.length=i * 4 + j by show _ - 4=_;omega]
   exact ih i x kb65 j u hu
def Zo4 (w:World) (base:Nat) (v:Value) (l:List Tk):Prop:=w.ownsRow base 128 4 v l.length (Zhm l)
theorem Zo4.nil (w:World) (base:Nat):Zo4 w base (nS) []:=World.ownsRow_nil _ _ _ _
theorem Zo4.shape {w:World} {base:Nat} {v:Value} {l:List Tk} (h:Zo4 w base v l):∃ a c,v = .slice a l.length c:=by
 rcases h.2 with ⟨rfl,hn⟩ | ⟨g,cap,cur,rfl,_⟩
 ·exact ⟨none,0,by rw [hn]⟩
 exact ⟨_,_,rfl⟩
theorem Zo4.at_ {w:World} {base:Nat} {v:Value} {l:List Tk} (h:Zo4 w base v l):Zoz w v l:=by
 rcases h.2 with ⟨rfl,hn⟩ | ⟨g,cap,cur,rfl,hg,hh,hn,hcap,hsz,ht⟩
 ·obtain rfl:l = []:=List.eq_nil_of_length_eq_zero hn
  exact Zlx.nil _ _ _
 refine ⟨_,cap,rfl,hn,fun i x hx=>⟨g,0,rfl,fun j u hu=>?_⟩⟩
 have:=World.ownsRow.cells h rfl (i * 4 + j) u (Zr2 l i x hx j u hu)
 rw [Addr.add_lit,← Nat.add_assoc] at this
 exact this
theorem Zo4.below {w w':World} {base:Nat} {v:Value} {l:List Tk} (h:Zo4 w base v l) (hb:Below w.heap.size w w'):Zo4 w' base v l:=
 World.ownsRow.kept (row:=none) h ⟨hb.os,hb.tape,hb.output,hb.size,fun i hi _=>hb.block i hi⟩ kb50
theorem Zo4.snoc {w:World} {base:Nat} {v:Value} {l:List Tk} {x:Tk} (h:w.ownsRow base 128 4 v (l.length + 1) (Zhm l ++ [.int .u8 (x.k:Int),.string x.s,.int .u64 (x.n:Int),.int .i64 x.a])):Zo4 w base v (l ++ [x]):=by
 unfold Zo4
 rw [List.length_append]
 have e:Zhm (l ++ [x])=Zhm l ++ [.int .u8 (x.k:Int),.string x.s,.int .u64 (x.n:Int),.int .i64 x.a]:=by simp [Zhm,Tk.cells]
 rw [e]
 exact h
theorem reads_T (w:World) (base:Nat) (x:Tk) (hb:base ≤ w.heap.size) (k:Nat) (hk:w.heap.size=k) :
 Reads (w.alloc (.cells #[.int .u8 (x.k:Int),.string x.s,.int .u64 (x.n:Int),.int .i64 x.a] 128)) 4 (.slice (some ⟨k,0,none⟩) 1 1) 1 [.int .u8 (x.k:Int),.string x.s,.int .u64 (x.n:Int),.int .i64 x.a]:=by
 subst hk
 exact Zh1 (World.ownsRow_lit w #[.int .u8 (x.k:Int),.string x.s,.int .u64 (x.n:Int),.int .i64 x.a] 1 hb Zvd rfl)
def Dep (S:Nat→Prop) (w:World) (P:World→Prop):Prop:=∀ w',(∀ b,S b→b < w.heap.size→w'.heap[b]? = w.heap[b]?)→P w'
theorem Dep.here {S:Nat→Prop} {w:World} {P:World→Prop} (h:Dep S w P):P w:=h w fun _ _ _=>rfl
theorem Dep.step {S S':Nat→Prop} {w w':World} {P:World→Prop} (h:Dep S w P) (hz:w.heap.size ≤ w'.heap.size) (hs:∀ b,S b→b < w.heap.size→S' b∧w'.heap[b]? = w.heap[b]?):Dep S' w' P:=
 fun u hu=>h u fun b hb hlt=>(hu b (hs b hb hlt).1 (Nat.lt_of_lt_of_le hlt hz)).trans (hs b hb hlt).2
theorem Dep.imp {S:Nat→Prop} {w:World} {P Q:World→Prop} (h:Dep S w P) (hpq:∀ u,P u→Q u):Dep S w Q:=fun u hu=>hpq u (h u hu)
theorem Dep.imp2 {S:Nat→Prop} {w:World} {P Q R:World→Prop} (h:Dep S w P) (h2:Dep S w Q) (hpq:∀ u,P u→Q u→R u):Dep S w R:=fun u hu=>hpq u (h u hu) (h2 u hu)
theorem Dep.sub {S S':Nat→Prop} {w:World} {P:World→Prop} (h:Dep S w P) (hs:∀ b,S b→b < w.heap.size→S' b):Dep S' w P:=h.step (Nat.le_refl _) fun b h1 h2=>⟨hs b h1 h2,rfl⟩
def New (n:Nat) (w:World) (P:World→Prop):Prop:=Dep (fun b=>n ≤ b) w P
theorem New.here {n:Nat} {w:World} {P:World→Prop} (h:New n w P):P w:=Dep.here h
theorem New.const {n:Nat} {w:World} {P:Prop} (h:P):New n w (fun _=>P):=fun _ _=>h
theorem New.imp {n:Nat} {w:World} {P Q:World→Prop} (h:New n w P) (hpq:∀ u,P u→Q u):New n w Q:=Dep.imp h hpq
theorem New.mono {n m:Nat} {w:World} {P:World→Prop} (h:New n w P) (hm:m ≤ n):New m w P:=Dep.sub h fun _ hb _=>Nat.le_trans hm hb
theorem New.below {n:Nat} {w w':World} {P:World→Prop} (h:New n w P) (hb:Below w.heap.size w w'):New n w' P:=Dep.step h hb.size fun b h1 h2=>⟨h1,hb.block b h2⟩
theorem New.grown {n r:Nat} {w w':World} {P:World→Prop} (h:New n w P) (g:w.grownBy w' (some r)) (hr:r < n):New n w' P:=
 Dep.step h g.size fun b h1 h2=>⟨h1,g.block b h2 (fun e=>by cases e;omega)⟩
theorem New.stay {n r:Nat} {w w':World} {P:World→Prop} (h:New n w P) (g:w.grownBy w' (some r)) (hr:r < n):P w':=(h.grown g hr).here
def SlR {α:Type} (size:Nat) (R:World→List Value→α→Prop) (w:World) (v:Value) (l:List α):Prop:=
 ∃ cs:List (List Value),Zlx size (fun c=>c) w v cs∧cs.length=l.length∧∀ (i:Nat) (c:List Value) (x:α),cs[i]? = some c→l[i]? = some x→c.length=size∧R w c x
theorem SlR.shape {α:Type} {size:Nat} {R:World→List Value→α→Prop} {w:World} {v:Value} {l:List α} (h:SlR size R w v l):∃ a c,v = .slice a l.length c∧l.length ≤ c:=by
 obtain ⟨cs,⟨a,c,rfl,hc,_⟩,hl,_⟩:=h
 exact ⟨a,c,by rw [hl],by omega⟩
theorem SlR.nil {α:Type} (size:Nat) (R:World→List Value→α→Prop) (w:World):SlR size R w (nS) ([]:List α):=
 ⟨[],Zlx.nil _ _ _,rfl,fun i c x h=>by simp at h⟩
theorem SlR.get {α:Type} {size:Nat} {R:World→List Value→α→Prop} {w:World} {a:Option Addr} {n c k:Nat} {l:List α} {x:α} (h:SlR size R w (.slice a n c) l) (hk:l[k]? = some x) :
 ∃ b o cs,a=some ⟨b,o,none⟩∧cs.length=size∧R w cs x∧∀ (j:Nat) (u:Value),cs[j]? = some u→w.cell? ⟨b,o + k * size + j,none⟩=some u:=by
 obtain ⟨cs,⟨a',c',e,hc,h⟩,hl,hR⟩:=h
 simp only [Value.slice.injEq] at e
 obtain ⟨rfl,_,_⟩:=e
 have hlt:k < cs.length:=by rw [hl];exact (List.getElem?_eq_some_iff.1 hk).1
 obtain ⟨b,o,rfl,h'⟩:=h k cs[k] (by simp [hlt])
 obtain ⟨h1,h2⟩:=hR k cs[k] x (by simp [hlt]) hk
 exact ⟨b,o,cs[k],rfl,h1,h2,h'⟩
def PE.cells (x:PE) (kv:Value):List Value:=[.int .u8 (x.op:Int),.int .u8 (x.v.k:Int),.int .i64 x.v.n,.string x.v.s,.string x.t,.string x.m,.int .i64 x.n,kv]
abbrev eA (x:PE) (a:Option Addr) (n:Nat):Array Value:=#[.int .u8 (x.op:Int),.int .u8 (x.v.k:Int),.int .i64 x.v.n,.string x.v.s,.string x.t,.string x.m,.int .i64 x.n,.slice a x.kids.length n]
inductive ExR (w:World):List Value→PE→Prop where
 | mk (x:PE) (kv:Value) (cs:List (List Value)) (h:Zlx 8 (fun c=>c) w kv cs) (hl:cs.length=x.kids.length) (h8:∀ (i:Nat) (c:List Value),cs[i]? = some c→c.length=8)
  (hk:∀ (i:Nat) (c:List Value) (y:PE),cs[i]? = some c→x.kids[i]? = some y→ExR w c y):ExR w (x.cells kv) x
abbrev Zbq (w:World) (v:Value) (l:List PE):Prop:=SlR 8 ExR w v l
theorem Zby {w:World} {cs:List Value} {x:PE} : ExR w cs x ↔ ∃ kv,cs=x.cells kv∧Zbq w kv x.kids:=by
 constructor
 ·exact fun h=>match h with
  | .mk _ kv cs ha hl h8 hk=>⟨kv,rfl,cs,ha,hl,fun i c y hc hy=>⟨h8 i c hc,hk i c y hc hy⟩⟩
 rintro ⟨kv,rfl,cs,h,hl,hk⟩
 refine .mk x kv cs h hl (fun i c hc=>?_) (fun i c y hc hy=>(hk i c y hc hy).2)
 have hlt:i < x.kids.length:=by rw [← hl];exact (List.getElem?_eq_some_iff.1 hc).1
 exact (hk i c x.kids[i] hc (by simp [hlt])).1
def ExV (w:World) (v:Value) (x:PE):Prop:=∃ cs,v = .agg cs.toArray∧ExR w cs x
theorem exV_of {w:World} {x:PE} {kv:Value} (h:Zbq w kv x.kids):ExV w (.agg #[.int .u8 (x.op:Int),.int .u8 (x.v.k:Int),.int .i64 x.v.n,.string x.v.s,.string x.t,.string x.m,.int .i64 x.n,kv]) x:=
 ⟨x.cells kv,rfl,Zby.2 ⟨kv,rfl,h⟩⟩
theorem ExV.open {w:World} {v:Value} {x:PE} (h:ExV w v x):∃ kv,v = .agg #[.int .u8 (x.op:Int),.int .u8 (x.v.k:Int),.int .i64 x.v.n,.string x.v.s,.string x.t,.string x.m,.int .i64 x.n,kv]∧Zbq w kv x.kids:=by
 obtain ⟨cs,rfl,h1⟩:=h
 obtain ⟨kv,rfl,h2⟩:=Zby.1 h1
 exact ⟨kv,rfl,h2⟩
structure PB (w0:World) (r:Nat) (tv:Value) (L:List Tk) (en:Int) (s:PS) (w:World):Prop where
 c0:w.cell? ⟨r,0,none⟩=some tv
 c1:w.cell? ⟨r,1,none⟩=some (.int .i64 (s.k:Int))
 c2:w.cell? ⟨r,2,none⟩=some (.int .i64 en)
 c3:w.cell? ⟨r,3,none⟩=some (.int .i64 (s.e:Int))
 c4:w.cell? ⟨r,4,none⟩=some (.int .i64 s.a)
 f1:w.frozen? ⟨r,1,none⟩=false
 f3:w.frozen? ⟨r,3,none⟩=false
 f4:w.frozen? ⟨r,4,none⟩=false
 tk:Zoz w0 tv L
 hb:Below w0.heap.size w0 w
 hr:w0.heap.size ≤ r
 hl:L.length ≤ 4096
 hk:s.k ≤ L.length
variable {w0 w w':World} {r:Nat} {tv:Value} {L:List Tk} {en:Int} {s:PS}
theorem PB.lt (h:PB w0 r tv L en s w):r < w.heap.size:=Zd h.c0
theorem PB.tks (h:PB w0 r tv L en s w):Zoz w tv L:=h.tk.below h.hb
theorem PB.later (h:PB w0 r tv L en s w) (hb:Below w.heap.size w w'):PB w0 r tv L en s w':=
 ⟨(hb.cell h.lt).trans h.c0,(hb.cell h.lt).trans h.c1,(hb.cell h.lt).trans h.c2,(hb.cell h.lt).trans h.c3,(hb.cell h.lt).trans h.c4,(hb.frozen h.lt).trans h.f1,(hb.frozen h.lt).trans h.f3,(hb.frozen h.lt).trans h.f4,
   h.tk,next h.hb hb,h.hr,h.hl,h.hk⟩
theorem PB.other {k:Nat} (h:PB w0 r tv L en s w) (g:w.grownBy w' (some k)) (hk:r < k):PB w0 r tv L en s w':=by
 have hc:∀ i,w'.cell? ⟨r,i,none⟩=w.cell? ⟨r,i,none⟩:=fun i=>World.cell?_of_block (w:=w) (g.block r h.lt (fun e=>by cases e;omega))
 have hf:∀ i,w'.frozen? ⟨r,i,none⟩=w.frozen? ⟨r,i,none⟩:=fun i=>by
  unfold World.frozen?
  rw [g.block r h.lt (fun e=>by cases e;omega)]
 exact ⟨(hc 0).trans h.c0,(hc 1).trans h.c1,(hc 2).trans h.c2,(hc 3).trans h.c3,(hc 4).trans h.c4,(hf 1).trans h.f1,(hf 3).trans h.f3,(hf 4).trans h.f4,h.tk,
  ⟨g.os.trans h.hb.os,g.tape.trans h.hb.tape,g.output.trans h.hb.output,Nat.le_trans h.hb.size g.size,fun b hb=>(g.block b (Nat.lt_of_lt_of_le hb h.hb.size) (fun e=>by cases e;have:=h.hr;omega)).trans (h.hb.block b hb)⟩,h.hr,h.hl,h.hk⟩
theorem PB.tok (h:PB w0 r tv L en s w) (hk:s.k < L.length):∃ b o c,tv = .slice (some ⟨b,o,none⟩) L.length c∧w.cell? ⟨b,o + s.k * 4,none⟩=some (.int .u8 ((Zag L en s.k).k:Int))∧w.cell? ⟨b,o + s.k * 4 + 1,none⟩=some (.string (Zag L en s.k).s) ∧
 w.cell? ⟨b,o + s.k * 4 + 2,none⟩=some (.int .u64 ((Zag L en s.k).n:Int))∧w.cell? ⟨b,o + s.k * 4 + 3,none⟩=some (.int .i64 (Zag L en s.k).a):=by
 have ht:=h.tks
 obtain ⟨a,c,rfl⟩:=ht.shape
 have e:L[s.k]? = some (Zag L en s.k):=by unfold Zag;rw [List.getElem?_eq_getElem hk];rfl
 obtain ⟨b,o,rfl,_,h0,h1,h2,h3⟩:=at4 ht e
 exact ⟨b,o,c,rfl,h0,h1,h2,h3⟩
theorem PB.next (h:PB w0 r tv L en s w) (hk:s.k < L.length):PB w0 r tv L en s.next (w.setCell ⟨r,1,none⟩ (.int .i64 ((s.k:Int) + 1))):=by
 refine ⟨(Zv w r 1 0 _ kD).trans h.c0,?_,(Zv w r 1 2 _ kD).trans h.c2,(Zv w r 1 3 _ kD).trans h.c3,(Zv w r 1 4 _ kD).trans h.c4,?_,?_,?_,h.tk,?_,h.hr,h.hl,hk⟩
 ·have:=Zbk w ⟨r,1,none⟩ (.int .i64 ((s.k:Int) + 1)) _ h.c1
  simpa using this
 ·rw [World.frozen?_setCell];exact h.f1
 ·rw [World.frozen?_setCell];exact h.f3
 ·rw [World.frozen?_setCell];exact h.f4
 exact Zbd h.hb h.hr
theorem PB.fail (h:PB w0 r tv L en s w) (e:Nat) (a:Int):PB w0 r tv L en { s with e:=e,a:=a } ((w.setCell ⟨r,3,none⟩ (.int .i64 (e:Int))).setCell ⟨r,4,none⟩ (.int .i64 a)):=by
 refine ⟨(Zv _ r 4 0 _ kD).trans ((Zv w r 3 0 _ kD).trans h.c0),(Zv _ r 4 1 _ kD).trans ((Zv w r 3 1 _ kD).trans h.c1),
  (Zv _ r 4 2 _ kD).trans ((Zv w r 3 2 _ kD).trans h.c2),(Zv _ r 4 3 _ kD).trans (Zbk w ⟨r,3,none⟩ _ _ h.c3),Zbk _ ⟨r,4,none⟩ _ _ ((Zv w r 3 4 _ kD).trans h.c4),?_,?_,?_,h.tk,?_,h.hr,h.hl,h.hk⟩
 ·rw [World.frozen?_setCell,World.frozen?_setCell];exact h.f1
 ·rw [World.frozen?_setCell,World.frozen?_setCell];exact h.f3
 ·rw [World.frozen?_setCell,World.frozen?_setCell];exact h.f4
 exact Zbd (Zbd h.hb h.hr) h.hr
def Zks (w0:World) (r:Nat) (tv:Value) (L:List Tk) (en:Int) (w1:World) (k0:Nat) {α:Type} (f:FuncId) (args:Array Value) (M:Rd α) (R:World→Value→α→Prop):Prop:=
 ∀ (s:PS) (w:World),k0 ≤ s.k→w1.grownBy w (some r)→PB w0 r tv L en s w→Calls Tryz.prog f args w fun e w'=>∃ v,e = .returned v∧New w.heap.size w' (fun u=>R u v (M s).1)∧PB w0 r tv L en (M s).2 w'∧w.grownBy w' (some r)
theorem Zks.grown {w1 w2:World} {k0 k1:Nat} {α:Type} {f:FuncId} {args:Array Value} {M:Rd α} {R:World→Value→α→Prop} (h:Zks w0 r tv L en w1 k0 f args M R) (g:w1.grownBy w2 (some r)) (hk:k0 ≤ k1):Zks w0 r tv L en w2 k1 f args M R:=
 fun s w h1 h2 h3=>h s w (Nat.le_trans hk h1) (Za g h2) h3
end Go.Proofs.YtmdogmpcmkfjpaaGreatDoor.Dt
namespace Go.Proofs.YtmdogmpcmkfjpaaGreatDoor.Dt
open Go.RowKit Go.Proofs.YtmdogmpcmkfjpaaGreatDoor.By
abbrev Row (g:Nat) (t:TypeId) (cs:Array Value) (w:World):Prop:=w.heap[g]? = some (.cells cs t (0,0))
theorem Row.lt {g:Nat} {t:TypeId} {cs:Array Value} {w:World} (h:Row g t cs w):g < w.heap.size:=(Array.getElem?_eq_some_iff.1 h).1
theorem Row.later {g:Nat} {t:TypeId} {cs:Array Value} {w w':World} (h:Row g t cs w) (hb:Below w.heap.size w w'):Row g t cs w':=(hb.block g h.lt).trans h
theorem Row.grown {g r:Nat} {t:TypeId} {cs:Array Value} {w w':World} (h:Row g t cs w) (k:w.grownBy w' (some r)) (hr:g ≠ r):Row g t cs w':=(k.block g h.lt (fun e=>hr kb47)).trans h
theorem Zc (w:World) (t:TypeId) (cs:Array Value):Row w.heap.size t cs (w.alloc (.cells cs t)):=by
 show (w.heap.push _)[w.heap.size]? = _
 simp
theorem Row.set {g:Nat} {t:TypeId} {cs:Array Value} {w:World} (h:Row g t cs w) (cs':Array Value):Row g t cs' (w.setRow g cs'):=setRow_heap w g cs cs' t _ h
theorem Row.cell {g i:Nat} {t:TypeId} {cs:Array Value} {w:World} {v:Value} (h:Row g t cs w) (hi:cs[i]? = some v):w.cell? ⟨g,i,none⟩=some v:=by
 unfold World.cell?
 rw [h]
 simpa using hi
theorem eC {g:Nat} {t:TypeId} {x:PE} {a:Option Addr} {n:Nat} {W:World} (h:Row g t (eA x a n) W):W.cell? ⟨g,0,none⟩=some (.int .u8 (x.op:Int))∧W.cell? ⟨g,1,none⟩=some (.int .u8 (x.v.k:Int))∧W.cell? ⟨g,2,none⟩=some (.int .i64 x.v.n)∧W.cell? ⟨g,3,none⟩=some (.string x.v.s)∧W.cell? ⟨g,4,none⟩=some (.string x.t)∧W.cell? ⟨g,5,none⟩=some (.string x.m)∧W.cell? ⟨g,6,none⟩=some (.int .i64 x.n)∧W.cell? ⟨g,7,none⟩=some (.slice a x.kids.length n):=⟨h.cell (i:=0) (v:=.int .u8 (x.op:Int)) rfl,h.cell (i:=1) (v:=.int .u8 (x.v.k:Int)) rfl,h.cell (i:=2) (v:=.int .i64 x.v.n) rfl,h.cell (i:=3) (v:=.string x.v.s) rfl,h.cell (i:=4) (v:=.string x.t) rfl,h.cell (i:=5) (v:=.string x.m) rfl,h.cell (i:=6) (v:=.int .i64 x.n) rfl,h.cell (i:=7) (v:=.slice a x.kids.length n) rfl⟩
theorem Zi (w:World) (g:Nat) (cs:Array Value):w.grownBy (w.setRow g cs) (some g):=⟨rfl,rfl,rfl,by simp,fun k _ hk=>setRow_other w g k cs (fun e=>hk Zvc)⟩
theorem Zic {B g:Nat} {w0 w:World} (h:Below B w0 w) (hg:B ≤ g) (cs:Array Value):Below B w0 (w.setRow g cs):=
 ⟨h.os,h.tape,h.output,by simpa using h.size,fun k hk=>(setRow_other w g k cs kW).trans (h.block k hk)⟩
theorem Zn {w w':World} {r g:Nat} (h:w.grownBy w' (some r)) (hg:w.heap.size ≤ g) (cs:Array Value):w.grownBy (w'.setRow g cs) (some r):=
 ⟨h.os,h.tape,h.output,by simpa using h.size,fun k hk hn=>(setRow_other w' g k cs kW).trans (h.block k hk hn)⟩
theorem Zfu (w:World) (o:Obj) (r:Nat):w.grownBy (w.alloc o) (some r):=below_grown ((Below.refl _ w).alloc (Nat.le_refl _) o)
theorem Zc9 {w:World} {cs:List Value} {x:PE} (h:ExR w cs x):cs.length=8∧∀ v ∈ cs,v.oneCell'=true:=by
 obtain ⟨kv,rfl,h2⟩:=Zby.1 h
 obtain ⟨a,c,rfl,_⟩:=h2.shape
 exact ⟨rfl,fun v hv=>by simp [PE.cells] at hv;rcases hv with rfl | rfl | rfl | rfl | rfl | rfl | rfl | rfl <;> rfl⟩
structure ExD (S:Nat→Prop) (w:World) (cs:Array Value) (x:PE):Prop where
 size:cs.size=8
 one:cs.all (·.oneCell')=true
 new:Dep S w fun u=>ExR u cs.toList x
abbrev ExN (n:Nat) (w:World) (cs:Array Value) (x:PE):Prop:=ExD (fun b=>n ≤ b) w cs x
theorem ExD.of {S:Nat→Prop} {w:World} {v:Value} {x:PE} (h:Dep S w fun u=>ExV u v x):∃ cs,v = .agg cs∧ExD S w cs x:=by
 obtain ⟨cs,rfl,hx⟩:=h.here
 obtain ⟨hl,h1⟩:=Zc9 hx
 refine ⟨cs.toArray,rfl,by simpa using hl,by simpa using h1,h.imp fun u hu=>?_⟩
 obtain ⟨cs',e,hx'⟩:=hu
 cases e
 simpa using hx'
theorem ExN.of {n:Nat} {w:World} {v:Value} {x:PE} (h:New n w fun u=>ExV u v x):∃ cs,v = .agg cs∧ExN n w cs x:=ExD.of h
theorem ExD.v {S:Nat→Prop} {w:World} {cs:Array Value} {x:PE} (h:ExD S w cs x):Dep S w fun u=>ExV u (.agg cs) x:=h.new.imp fun u hu=>⟨cs.toList,by simp,hu⟩
theorem ExD.step {S S':Nat→Prop} {w w':World} {cs:Array Value} {x:PE} (h:ExD S w cs x) (hz:w.heap.size ≤ w'.heap.size) (hs:∀ b,S b→b < w.heap.size→S' b∧w'.heap[b]? = w.heap[b]?):ExD S' w' cs x:=⟨h.size,h.one,h.new.step hz hs⟩
theorem ExD.later {S:Nat→Prop} {w w':World} {cs:Array Value} {x:PE} (h:ExD S w cs x) (hb:Below w.heap.size w w'):ExD S w' cs x:=h.step hb.size fun b h1 h2=>⟨h1,hb.block b h2⟩
theorem ExD.grown {S:Nat→Prop} {r:Nat} {w w':World} {cs:Array Value} {x:PE} (h:ExD S w cs x) (g:w.grownBy w' (some r)) (hr:¬ S r):ExD S w' cs x:=h.step g.size fun b h1 h2=>⟨h1,g.block b h2 (fun e=>by cases e;exact hr h1)⟩
theorem ExN.grown {n r:Nat} {w w':World} {cs:Array Value} {x:PE} (h:ExN n w cs x) (g:w.grownBy w' (some r)) (hr:r < n):ExN n w' cs x:=ExD.grown h g kW
theorem ExN.mono {n m:Nat} {w:World} {cs:Array Value} {x:PE} (h:ExN n w cs x) (hm:m ≤ n):ExN m w cs x:=h.step (Nat.le_refl _) fun _ hb _=>⟨Nat.le_trans hm hb,rfl⟩
theorem ExD.set {S:Nat→Prop} {g:Nat} {w:World} {cs d:Array Value} {x:PE} (h:ExD S w cs x) (hg:¬ S g):ExD S (w.setRow g d) cs x:=h.step kY fun b h1 _=>⟨h1,setRow_other w g b d (fun e=>hg (e ▸ h1))⟩
theorem Zvu {S:Nat→Prop} {g:Nat} {w:World} {t:TypeId} {css:List (Array Value)} {xs:List PE} (hr:Row g t (css.map Array.toList).flatten.toArray w) (hg:S g) (hl:css.length=xs.length)
 (hx:∀ (i:Nat) (c:Array Value) (x:PE),css[i]? = some c→xs[i]? = some x→ExD S w c x):Dep S w fun u=>Zbq u (.slice (some ⟨g,0,none⟩) xs.length xs.length) xs:=by
 intro u hu
 have hru:Row g t (css.map Array.toList).flatten.toArray u:=(hu g hg hr.lt).trans hr
 have h8:∀ (i:Nat) (c:Array Value),css[i]? = some c→c.size=8:=fun i c hc=>by
  have hi:i < xs.length:=by rw [← hl];exact (List.getElem?_eq_some_iff.1 hc).1
  exact (hx i c xs[i] hc (by simp [hi])).size
 refine ⟨css.map Array.toList,⟨_,_,by rw [List.length_map,hl],by rw [List.length_map,hl];exact Nat.le_refl _,fun i x hi=>⟨g,0,rfl,fun j v hj=>?_⟩⟩,by rw [List.length_map,hl],fun i c x hc hxi=>?_⟩
 ·refine hru.cell ?_
  have key:∀ (l:List (Array Value)) (i:Nat) (x:List Value) (j:Nat) (v:Value),(∀ c ∈ l,c.size=8)→(l.map Array.toList)[i]? = some x→x[j]? = some v→(l.map Array.toList).flatten[i * 8 + j]? = some v:=by
   intro l
   induction l with
   | nil=>intro i x j v _ h;simp at h
   | cons c l ih=>
    intro i x j v h8 hx hj
    have hc8:c.toList.length=8:=by simpa using h8 c kY
    rcases i with _ | i
    ·simp at hx;subst hx
     have:j < 8:=by rw [← hc8];exact (List.getElem?_eq_some_iff.1 hj).1
     simp only [List.map_cons,List.flatten_cons]
     rw [List.getElem?_append_left kW,Nat.zero_mul,Nat.zero_add]
     exact hj
    ·simp only [List.map_cons,List.flatten_cons]
     rw [List.getElem?_append_right kW,show (i + 1) * 8 + j - c.toList.length=i * 8 + j by omega]
     exact ih i x j v (fun c hc=>h8 c (by simp [hc])) (by simpa using hx) hj
  rw [Nat.zero_add]
  simpa using key css i x j v (fun c hc=>by obtain ⟨i,hi⟩:=List.getElem?_of_mem hc;exact h8 i c hi) hi hj
 rw [List.getElem?_map] at hc
 cases hcc:css[i]? with
 | none=>rw [hcc] at hc;cases hc
 | some c'=>
  rw [hcc] at hc
  cases hc
  have:=hx i c' x hcc hxi
  exact ⟨by simpa using this.size,this.new u hu⟩
theorem exs_row1 {S:Nat→Prop} {g:Nat} {w:World} {t:TypeId} {c:Array Value} {x:PE} (hr:Row g t c w) (hg:S g) (hx:ExD S w c x):Dep S w fun u=>Zbq u (.slice (some ⟨g,0,none⟩) 1 1) [x]:=
 Zvu (css:=[c]) (xs:=[x]) (by simpa using hr) hg rfl (fun i c' x' hc hx'=>by
  rcases i with _ | i
  ·simp at hc hx';subst hc hx';exact hx
  ·simp at hc)
theorem Zrj {S:Nat→Prop} {g:Nat} {w:World} {t:TypeId} {c d:Array Value} {x y:PE} (hr:Row g t (c ++ d) w) (hg:S g) (hx:ExD S w c x) (hy:ExD S w d y):Dep S w fun u=>Zbq u (.slice (some ⟨g,0,none⟩) 2 2) [x,y]:=
 Zvu (css:=[c,d]) (xs:=[x,y]) (by simpa [← Array.toList_append] using hr) hg rfl (fun i c' x' hc hx'=>by
  rcases i with _ | _ | i
  ·simp at hc hx';subst hc hx';exact hx
  ·simp at hc hx';subst hc hx';exact hy
  ·simp at hc)
theorem Zaq:(Tryz.prog.info? 48).map (·.size)=some 8:=kR
def isSt:TypeDesc→Bool
 | .struct _=>true
 | _=>false
theorem Zl9 {P:Program} {T:TypeId} (h:(P.underlying T).map isSt=some true):∃ fs,P.underlying T=some (.struct fs):=by
 cases hq:P.underlying T with
 | none=>rw [hq] at h;cases h
 | some d=>
  rw [hq] at h
  cases d with
  | struct fs=>exact ⟨fs,rfl⟩
  | _=>cases h
theorem Zz:∃ fs,Tryz.prog.underlying 48=some (.struct fs):=Zl9 kR
theorem arr8 {c:Array Value} (h:c.size=8):∃ a0 a1 a2 a3 a4 a5 a6 a7,c = #[a0,a1,a2,a3,a4,a5,a6,a7]:=by
 obtain ⟨a,b,d,e,f,g,i,j,h⟩:=list8 (l:=c.toList) kb65
 exact ⟨a,b,d,e,f,g,i,j,Array.toList_inj.1 h⟩
theorem Zub (w:World) (c:Array Value) (h:c.size=8):(Instr.buildSlice 28 1 #[(0,.agg c)]).run Tryz.prog w = .ok (.slice (some ⟨w.heap.size,0,none⟩) 1 1) (w.alloc (.cells c 48)):=by
 obtain ⟨a0,a1,a2,a3,a4,a5,a6,a7,rfl⟩:=arr8 h
 go_simp
theorem Zua (w:World) (c d:Array Value) (h:c.size=8) (h2:d.size=8):(Instr.buildSlice 28 2 #[(0,.agg c),(1,.agg d)]).run Tryz.prog w = .ok (.slice (some ⟨w.heap.size,0,none⟩) 2 2) (w.alloc (.cells (c ++ d) 48)):=by
 obtain ⟨a0,a1,a2,a3,a4,a5,a6,a7,rfl⟩:=arr8 h
 obtain ⟨b0,b1,b2,b3,b4,b5,b6,b7,rfl⟩:=arr8 h2
 go_simp
def Zbw (T:TypeId) (a:Addr) (v:Value):=storeVar T a v
def Zcg (T:TypeId) (a:Addr):=loadVar T a
theorem Zcs {T:TypeId} {n:Nat} (hi:(Tryz.prog.info? T).map (·.size)=some n) (W:World) (g:Nat) (old cells:Array Value) (t:TypeId) (hg:W.heap[g]? = some (.cells old t (0,0))) (ho:old.size=n) (hc:cells.size=n) (h1:cells.all (·.oneCell')=true) :
 (Zbw T ⟨g,0,none⟩ (.agg cells)).run Tryz.prog W = .ok () (W.setRow g cells):=
 run_storeVar_row W g t T old cells hg (by rw [hi,hc]) (ho.trans hc.symm) h1
theorem Znw (w:World) (cs cs':Array Value) (t:TypeId):(w.alloc (.cells cs t)).setRow w.heap.size cs'=w.alloc (.cells cs' t):=by
 have hm:∀ (a:Array Obj) (x:Obj) (f:Obj→Obj),(a.push x).modify a.size f=a.push (f x):=by
  intro a x f
  apply Array.ext
  ·simp
  ·intro i h1 h2
   simp only [Array.size_modify,Array.size_push] at h1
   rcases Nat.lt_or_ge i a.size with hi | hi
   ·simp [Array.getElem_modify,Array.getElem_push,hi,show a.size ≠ i by omega]
   ·obtain rfl:i=a.size:=kW
    simp [Array.getElem_modify,Array.getElem_push]
 unfold World.setRow World.alloc
 simp only [hm]
theorem Zba {T:TypeId} {n:Nat} (hi:(Tryz.prog.info? T).map (·.size)=some n) (W:World) (old cells:Array Value) (t:TypeId) (ho:old.size=n) (hc:cells.size=n) (h1:cells.all (·.oneCell')=true) :
 (Zbw T ⟨W.heap.size,0,none⟩ (.agg cells)).run Tryz.prog (W.alloc (.cells old t)) = .ok () (W.alloc (.cells cells t)):=by
 rw [Zcs hi _ _ old cells t (Zc W t old) ho hc h1,Znw]
theorem Zdj {T:TypeId} {n:Nat} {fs:Array Field} (hu:Tryz.prog.underlying T=some (.struct fs)) (hi:(Tryz.prog.info? T).map (·.size)=some n) (W:World) (g:Nat) (cells:Array Value) (t:TypeId) (hg:W.heap[g]? = some (.cells cells t (0,0))) (hc:cells.size=n) :
 (Zcg T ⟨g,0,none⟩).run Tryz.prog W = .ok (.agg cells) W:=
 run_loadVar_row W g t T cells (0,0) _ hg hu rfl (by rw [hi,hc])
theorem Zl4:(Tryz.prog.info? 128).map (·.size)=some 4:=kR
theorem Znn:∃ fs,Tryz.prog.underlying 128=some (.struct fs):=Zl9 kR
abbrev tkC (t:Tk):Array Value:=#[.int .u8 (t.k:Int),.string t.s,.int .u64 (t.n:Int),.int .i64 t.a]
abbrev tkZ:Array Value:=#[.int .u8 0,eS,.int .u64 0,iZ]
abbrev exZ:Array Value:=#[.int .u8 0,.int .u8 0,iZ,eS,eS,eS,iZ,nS]
theorem Zbv (a:Addr) (v:Value):storeVar 48 a v=Zbw 48 a v:=rfl
theorem Zcb (a:Addr):loadVar 48 a=Zcg 48 a:=rfl
theorem Zhd (a:Addr) (v:Value):storeVar 128 a v=Zbw 128 a v:=rfl
def Zj1 (n:Nat) (w:World) (g:Nat):Bool:=match w.heap[g]? with
 | some (.cells cs _ fr)=>decide (fr=(0,0)) && decide (cs.size=n)
 | _=>false
def rowOf (w:World) (g:Nat):Array Value:=match w.heap[g]? with
 | some (.cells cs _ _)=>cs
 | _=>#[]
theorem Row.b {g n:Nat} {t:TypeId} {cs:Array Value} {w:World} (h:Row g t cs w) (hs:cs.size=n):Zj1 n w g=true:=by
 unfold Zj1
 rw [h]
 simp [hs]
theorem Row.of {g:Nat} {t:TypeId} {cs:Array Value} {w:World} (h:Row g t cs w):rowOf w g=cs:=by
 unfold rowOf
 rw [h]
theorem Zb5 {g n:Nat} {w:World} (h:Zj1 n w g=true):∃ t cs,Row g t cs w∧cs.size=n∧rowOf w g=cs:=by
 unfold Zj1 at h
 split at h
 ·rename_i cs t fr e
  simp only [Bool.and_eq_true,decide_eq_true_eq] at h
  obtain ⟨rfl,hs⟩:=h
  exact ⟨t,cs,e,hs,Row.of e⟩
 cases h
def Zav (n:Nat) (cs:Array Value):Bool:=decide (cs.size=n) && cs.all (·.oneCell')
theorem Zo {n:Nat} {cs:Array Value} : Zav n cs=true ↔ cs.size=n∧cs.all (·.oneCell')=true:=by unfold Zav;rw [Bool.and_eq_true,decide_eq_true_eq]
theorem Zfg (a b c d e f g i:Value):Zav 8 #[a,b,c,d,e,f,g,i]=(a.oneCell' && (b.oneCell' && (c.oneCell' && (d.oneCell' && (e.oneCell' && (f.oneCell' && (g.oneCell' && i.oneCell'))))))):=by simp [Zav]
theorem Zq3 (a b c d:Value):Zav 4 #[a,b,c,d]=(a.oneCell' && (b.oneCell' && (c.oneCell' && d.oneCell'))):=by simp [Zav]
theorem ExD.ok {S:Nat→Prop} {w:World} {cs:Array Value} {x:PE} (h:ExD S w cs x):Zav 8 cs=true:=Zo.2 ⟨h.size,h.one⟩
theorem Zc6 (W:World) (g:Nat) (cells:Array Value) (hg:Zj1 8 W g=true) (h1:Zav 8 cells=true) :
 (Zbw 48 ⟨g,0,none⟩ (.agg cells)).run Tryz.prog W = .ok () (W.setRow g cells):=by
 obtain ⟨t,old,hr,ho,_⟩:=Zb5 hg
 obtain ⟨hc,h1⟩:=Zo.1 h1
 exact Zcs Zaq W g old cells t hr ho hc h1
theorem Zbx (W:World) (old cells:Array Value) (t:TypeId) (ho:old.size=8) (h1:Zav 8 cells=true) :
 (Zbw 48 ⟨W.heap.size,0,none⟩ (.agg cells)).run Tryz.prog (W.alloc (.cells old t)) = .ok () (W.alloc (.cells cells t)):=by
 obtain ⟨hc,h1⟩:=Zo.1 h1
 exact Zba Zaq W old cells t ho hc h1
theorem Zc7 (W:World) (g:Nat) (hg:Zj1 8 W g=true):(Zcg 48 ⟨g,0,none⟩).run Tryz.prog W = .ok (.agg (rowOf W g)) W:=by
 obtain ⟨t,cs,hr,ho,e⟩:=Zb5 hg
 obtain ⟨fs,h⟩:=Zz
 rw [e]
 exact Zdj h Zaq W g cs t hr ho
theorem Zi6 (W:World) (g:Nat) (cells:Array Value) (hg:Zj1 4 W g=true) (h1:Zav 4 cells=true) :
 (Zbw 128 ⟨g,0,none⟩ (.agg cells)).run Tryz.prog W = .ok () (W.setRow g cells):=by
 obtain ⟨t,old,hr,ho,_⟩:=Zb5 hg
 obtain ⟨hc,h1⟩:=Zo.1 h1
 exact Zcs Zl4 W g old cells t hr ho hc h1
theorem Zhv (W:World) (old cells:Array Value) (t:TypeId) (ho:old.size=4) (h1:Zav 4 cells=true) :
 (Zbw 128 ⟨W.heap.size,0,none⟩ (.agg cells)).run Tryz.prog (W.alloc (.cells old t)) = .ok () (W.alloc (.cells cells t)):=by
 obtain ⟨hc,h1⟩:=Zo.1 h1
 exact Zba Zl4 W old cells t ho hc h1
theorem Zq {fn:Func} {p:Tmp} {ty:TypeId} {n:Nat} (h:fn.results = #[.cell p ty]) (hs:∃ fs,Tryz.prog.underlying ty=some (.struct fs)) (hi:(Tryz.prog.info? ty).map (·.size)=some n) (tmps:Array Value) (w:World) (g:Nat) (t:TypeId) (cs:Array Value)
 (hp:tmps.getD p undef = pV g) (hg:Row g t cs w) (hc:cs.size=n):(results fn tmps).run Tryz.prog w = .ok (.agg cs) w:=by
 obtain ⟨fs,hu⟩:=hs
 exact results_cell_row h tmps w g t cs (0,0) _ hp hg hu rfl (by rw [hi,hc])
structure WS (w1:World) (b:Nat) (l:List UInt8) (w:World):Prop where
 bld:Zdm w1.heap.size b l w
 low:Below w1.heap.size w1 w
section
variable {w1 w w':World} {b:Nat} {l l':List UInt8}
theorem WS.lt (h:WS w1 b l w):b < w.heap.size:=h.bld.lt
theorem WS.later (h:WS w1 b l w) (hb:Below w.heap.size w w'):WS w1 b l w':=⟨h.bld.later hb,next h.low hb⟩
theorem Zkn {n:Nat} {w w1 w2:World} (h:Below n w w1) (k:Below n w1 w2):Below n w w2:=
 h.trans k
structure BX (b q:Nat) (t:TypeId) (cs:Array Value) (w:World):Prop where
 row:Row q t cs w
 ap:Apart q b w
theorem BX.keep {q:Nat} {t:TypeId} {cs:Array Value} (h:BX b q t cs w) (k:Za6 b w w'):BX b q t cs w':=⟨(k q h.ap).2.trans h.row,(k q h.ap).1⟩
theorem BX.later {q:Nat} {t:TypeId} {cs:Array Value} (h:BX b q t cs w) (hb:Below w.heap.size w w') (hl:b < w.heap.size):BX b q t cs w':=h.keep (Za6.below hb hl)
theorem WS.box (h:WS w1 b l w) (t:TypeId) (cs:Array Value):BX b w.heap.size t cs (w.alloc (.cells cs t)):=
 ⟨Zc _ _ _,h.bld.new ((Below.refl _ w).alloc (Nat.le_refl _) _) kY⟩
theorem WS.alloc (h:WS w1 b l w) (o:Obj):WS w1 b l (w.alloc o):=h.later ((Below.refl _ w).alloc (Nat.le_refl _) _)
theorem WS.keepAlloc (h:WS w1 b l w) (o:Obj):Za6 b w (w.alloc o):=Za6.below ((Below.refl _ w).alloc (Nat.le_refl _) _) h.lt
end
def Zbg (w1:World) (b:Nat) (l':List UInt8) (w:World) (e:Ending) (w':World):Prop:=e = .returned (.tuple #[])∧WS w1 b l' w'∧Za6 b w w'
theorem Zse (ws:List (List UInt8)) (x:List UInt8) (a:List UInt8):Ze (ws ++ [x]) a=Ze ws a ++ x ++ [32]:=by
 unfold Ze;simp
theorem Zk (ws:List (List UInt8)) (a:List UInt8):a.length ≤ (Ze ws a).length:=by
 unfold Ze;simp
theorem Zuh (ws vs:List (List UInt8)) (a:List UInt8):Ze (ws ++ vs) a=Ze vs (Ze ws a):=by
 unfold Ze;simp
theorem Zid (x:ByteArray):x.data.toList.length=x.size:=Array.length_toList
theorem putsW (ws:List ByteArray) (w1:World) (b:Nat) (l:List UInt8) (q:Nat) (w:World) (h:WS w1 b l w) (hx:BX b q 9 (ws.map Value.string).toArray w) (hlen:(Ze (ws.map W1) l).length ≤ 140737488355328) (hn:ws.length ≤ 1000) :
 Calls Tryz.prog 60 #[pV b,.slice (some ⟨q,0,none⟩) ws.length ws.length] w (Zbg w1 b (Ze (ws.map W1) l) w):=by
 have HW:=Lh h
 have HX:=Lh hx
 have HLN:=Lh hlen
 have HN:=Lh hn
 clear h hx hlen
 go_enter Tryz.func60,Tryz.ntmps60
 go_wp2_with fail
 go_loopg [8] ws.length (fun gk iv wr=>∃ (i:Nat),iv = .int .i64 (i:Int)∧gk=ws.length - i∧i ≤ ws.length∧Hid (WS w1 b (Ze ((ws.take i).map W1) l) wr)∧Hid (Za6 b w wr))
 case atStart=>exact ⟨0,rfl,rfl,Nat.zero_le _,Lh (by simpa [Ze] using HW.out),Lh (Za6.refl _ _)⟩
 case round=>
  obtain ⟨i,rfl,rfl,hi,HS,HK⟩:=hrel
  by_cases hlt:i < ws.length
  ·obtain ⟨x,hx⟩:∃ x,ws[i]? = some x:=⟨ws[i],by simp⟩
   have c0:wr.cell? ⟨q,i,none⟩=some (.string x):=(HX.out.keep HK.out).row.cell kb66
   have hsn:Ze ((ws.take (i + 1)).map W1) l=Ze ((ws.take i).map W1) l ++ x.data.toList ++ [32]:=by
    rw [List.take_add_one,hx,List.map_append]
    exact Zse _ _ _
   have hle:(Ze ((ws.take (i + 1)).map W1) l).length ≤ (Ze (ws.map W1) l).length:=by
    have e:ws.map W1=(ws.take (i + 1)).map W1 ++ (ws.drop (i + 1)).map W1:=by rw [← List.map_append,List.take_append_drop]
    rw [e,Zuh]
    exact Zk _ _
   have HSN:=Lh hsn
   have hb1:(Ze ((ws.take i).map W1) l).length + x.size + 1 ≤ 140737488355328:=by
    have h1:=HLN.out
    rw [hsn,List.length_append,List.length_append,Zid] at hle
    have h3:([32]:List UInt8).length=1:=rfl
    omega
   have HB1:=Lh hb1
   have ilt:(i:Int) < (ws.length:Int):=kW
   have ige:(0:Int) ≤ (i:Int):=kW
   have HLT:=Lh hlt
   generalize hL:Ze ((ws.take i).map W1) l=L0 at *
   have HS1:=Lh (Zna w1.heap.size b L0 x wr HS.out.bld (Nat.le_of_succ_le HB1.out) HS.out.bld.Bw)
   clear hx hsn hle hb1 hlt hL
   go_wp2_with fail
   refine HS1.out.mono ?_
   rintro e2 w2 ⟨rfl,hb2,hl2,hk2⟩
   have HS2:=Lh (Zrw w1.heap.size b (L0 ++ x.data.toList) 32 w2 hb2 (by have:=HB1.out;rw [List.length_append,Zid];exact this) hb2.Bw)
   have HL2:=Lh (Zkn HS.out.low hl2)
   have HK2:=Lh (HK.out.trans hk2)
   clear hb2 hl2 hk2 HS1 c0
   go_wp2_with fail
   refine HS2.out.mono ?_
   rintro e3 w3 ⟨rfl,hb3,hl3,hk3⟩
   have HS3:Hid (WS w1 b (Ze ((ws.take (i + 1)).map W1) l) w3):=Lh ⟨by rw [HSN.out];exact hb3,Zkn HL2.out hl3⟩
   have HK3:=Lh (HK2.out.trans hk3)
   clear hb3 hl3 hk3 HS2
   go_wp2_with fail
   go_roundg (ws.length - (i + 1))
   case measure=>exact Nat.sub_lt_sub_left HLT.out (Nat.lt_succ_self _)
   case rel=>exact ⟨i + 1,by have h1:=HN.out;have h2:=HLT.out;go_num,rfl,HLT.out,HS3,HK3⟩
  obtain rfl:i=ws.length:=kW
  have HSF:Hid (WS w1 b (Ze (ws.map W1) l) wr):=Lh kb5
  clear hlt hi
  go_wp2_with fail
  go_end0
  exact ⟨rfl,HSF.out,HK.out⟩
theorem Zas (ws:List ByteArray) (w1:World) (b:Nat) (l:List UInt8) (w:World) (h:WS w1 b l w) (hlen:(Ze (ws.map W1) l).length ≤ 140737488355328) (hn:ws.length ≤ 1000) :
 Calls Tryz.prog 60 #[pV b,.slice (some ⟨w.heap.size,0,none⟩) ws.length ws.length] (w.alloc (.cells (ws.map Value.string).toArray 9)) (Zbg w1 b (Ze (ws.map W1) l) w):=
 (putsW ws w1 b l w.heap.size _ (h.alloc _) (h.box _ _) hlen hn).mono fun _ _ ⟨he,hs,hk⟩=>⟨he,hs,(h.keepAlloc _).trans hk⟩
end Go.Proofs.YtmdogmpcmkfjpaaGreatDoor.Dt
namespace Go.Proofs.YtmdogmpcmkfjpaaGreatDoor.Num
theorem cv_u8:Tryz.prog.underlying 63=some (.slice 5):=kR
open Go.RowKit Go.Proofs.YtmdogmpcmkfjpaaGreatDoor.By
theorem elem_u8:Elem Tryz.prog 63 5 1 1 where
 slice:=cv_u8
 info:=by
  have h:(Tryz.prog.info? 5).map (fun i=>(i.zero,i.size,i.bytes))=some (some (.int .u8 0),1,1):=kR
  obtain ⟨i,hi,h1,h2,h3⟩:=info_parts h
  exact ⟨i,_,hi,h1,h2,h3,rfl⟩
 pos:=kD
end Go.Proofs.YtmdogmpcmkfjpaaGreatDoor.Num
namespace Go.Proofs.YtmdogmpcmkfjpaaGreatDoor.By
open Go.RowKit
theorem Zo6.below {w w':World} {base:Nat} {e:TypeId} {v:Value} {l:List UInt8} (h:Zo6 w base e v l) (hb:Below w.heap.size w w'):Zo6 w' base e v l:=
 World.ownsRow.kept (row:=none) h ⟨hb.os,hb.tape,hb.output,hb.size,fun i hi _=>hb.block i hi⟩ kb50
def OwnX (w:World) (base:Nat) (e:TypeId) (v:Value) (l:List UInt8):Prop:=
 Zo6 w base e v l ∨ ∃ g,v = .slice (some ⟨g,0,none⟩) l.length l.length∧∀ i (h:i < l.length),w.cell? ⟨g,i,none⟩=some (byte l[i])
theorem OwnX.below {w w':World} {base:Nat} {e:TypeId} {v:Value} {l:List UInt8} (h:OwnX w base e v l) (hb:Below w.heap.size w w'):OwnX w' base e v l:=by
 rcases h with h | ⟨g,rfl,h⟩
 ·exact .inl (h.below hb)
 exact .inr ⟨g,rfl,fun i hi=>(hb.cell (Zd (h i hi))).trans (h i hi)⟩
theorem OwnX.shape {w:World} {base:Nat} {e:TypeId} {v:Value} {l:List UInt8} (h:OwnX w base e v l):∃ a c,v = .slice a l.length c:=by
 rcases h with h | ⟨g,rfl,h⟩
 ·exact h.shape
 exact ⟨_,_,rfl⟩
theorem convX {P:Program} {w:World} (src e dst:TypeId) (hs:P.underlying src=some (.slice e)) (he:P.underlying e=some (.int .u8)) (hd:P.underlying dst=some .string)
 {base:Nat} {v:Value} {l:List UInt8} (h:OwnX w base e v l):(convert src dst v).run P w = .ok (str l) w:=by
 rcases h with h | ⟨g,rfl,h⟩
 ·exact conv_own src e dst hs he hd h
 exact Zp6 w src e dst hs he hd g 0 l.length l.length l rfl (fun i hi=>by rw [Nat.zero_add];exact h i hi)
theorem Zdu (l:List UInt8) {j:Nat} {u:Value} (h:(l.map byte)[j]? = some u):∃ hj:j < l.length,u=byte l[j]:=by
 rw [List.getElem?_map] at h
 cases hj:l[j]? with
 | none=>rw [hj] at h;cases h
 | some b=>
  rw [hj] at h
  obtain ⟨hk,rfl⟩:=List.getElem?_eq_some_iff.1 hj
  exact ⟨hk,(Option.some.inj h).symm⟩
theorem Zcl {P:Program} {w:World} {ops:Array Oper} {rest:List Oper} {o:Oper} {a:Act} {Q:Exit→Act→World→Prop} (hgd:o.guard=none) (s x:Operand) (t:TypeId)
 (ho:o.op = .call { callee:=.builtin .append,args:=#[s,x],argTypes:=#[t,t] })
 (base:Nat) (e:TypeId) (E:Elem P t e 1 1)
 (v:Value) (l:List UInt8) (hs:a.eval s=v) (hown:OwnX w base e v l)
 (sv:Value) (news:List UInt8) (hx:a.eval x=sv) (hr:Reads w 1 sv news.length (news.map byte)) (hm:0 < news.length)
 (h63:l.length + news.length ≤ 140737488355328) (hbase:base ≤ w.heap.size)
 (h:∀ v' w',Zo6 w' base e v' (l ++ news)→Below base w w'→wpList P ops Q rest (a.put o.dst v') w'):wpList P ops Q (o :: rest) a w:=by
 have h1:∀ u ∈ news.map byte,u.oneCell'=true:=Zml news
 rcases hown with hown | ⟨g,rfl,hc⟩
 ·exact Zda hgd s x t ho base e 1 1 E v l.length (l.map byte) hs hown sv news.length (news.map byte) hx hr h1 Zvd kW hbase
   (fun v' w' h2 _ h4=>h v' w' (ownB_of h2 kY kY) h4)
 rcases hr.2 with ⟨_,hn⟩ | ⟨ad,c,rfl,hcn⟩
 ·omega
 obtain ⟨i,z,hi,hz,hsize,hby,hzs⟩:=E.info
 refine wpList_append_grows w hgd s x t ho e i z 1 1 E.slice hi hz hsize hby hzs E.pos (some ⟨g,0,none⟩) l.length l.length (l.map byte) hs (fun h=>by cases h) kY (fun b hb j u hu=>?_) ad news.length c (news.map byte) hx kY hcn h1 kW Zvd kW (fun v' w' h2 h3=>h v' w' (ownB_of (h2.mono hbase) kY kY) ?_)
 ·obtain rfl:=Option.some.inj hb
  obtain ⟨hj,rfl⟩:=Zdu l hu
  have:(⟨g,0,none⟩:Addr).add j=⟨g,j,none⟩:=by rw [Addr.add_lit,Nat.zero_add]
  rw [this]
  exact hc j hj
 exact (Below.refl base w).grown h3 hbase (fun k hk=>by cases hk)
theorem Zes {w:World} (b:Nat) (news:List UInt8) (h:∀ i (hi:i < news.length),w.cell? ⟨b,i,none⟩=some (byte news[i])):Reads w 1 (.slice (some ⟨b,0,none⟩) news.length news.length) news.length (news.map byte):=by
 refine ⟨by simp,.inr ⟨_,_,rfl,fun j u hu=>?_⟩⟩
 obtain ⟨hj,rfl⟩:=Zdu news hu
 rw [Addr.add_lit,Nat.zero_add]
 exact h j hj
end Go.Proofs.YtmdogmpcmkfjpaaGreatDoor.By
