import Derived.Shelf.Spec.SearchS
import Derived.Test.YtmdogmpcmkfjpaaGreatDoorBn08
import Derived.Test.YtmdogmpcmkfjpaaGreatDoorBn10
import Derived.Test.YtmdogmpcmkfjpaaGreatDoorBn02
import Derived.Test.YtmdogmpcmkfjpaaGreatDoorBn04
/- Part of the proof (merged). -/
namespace Go.Proofs.YtmdogmpcmkfjpaaGreatDoor.Dt
open Go.RowKit Go.Proofs.YtmdogmpcmkfjpaaGreatDoor.By
def renB:Go.Shelf.Ren:=⟨fun | 26=>140 | 33=>155 | 34=>156 | 38=>182 | n=>n,fun | 0=>0 | 3=>3 | 4=>4 | 9=>9 | 24=>23 | 40=>177 | n=>n,fun n=>n⟩
set_option maxRecDepth 100000 in
theorem laysB:Go.Proofs.Lays2.n26 Tryz.prog renB:={
 mixed:=by kernel_rfl
 f26:=Tryz.func140.trans (congrArg some (by kernel_rfl))
 f33:=Tryz.func155.trans (congrArg some (by kernel_rfl))
 f34:=Tryz.func156.trans (congrArg some (by kernel_rfl))
 f38:=Tryz.func182.trans (congrArg some (by kernel_rfl))
 t0:=Tryz.underlying0
 a0:=Tryz.isAgg0
 z0:=Tryz.sizeOf0
 v0:=Tryz.zeroValue0
 t3:=Tryz.underlying3
 a3:=Tryz.isAgg3
 z3:=Tryz.sizeOf3
 v3:=Tryz.zeroValue3
 t4:=Tryz.underlying4
 a4:=Tryz.isAgg4
 z4:=Tryz.sizeOf4
 v4:=Tryz.zeroValue4
 t9:=Tryz.underlying9
 a9:=Tryz.isAgg9
 z9:=Tryz.sizeOf9
 v9:=Tryz.zeroValue9
 t24:=Tryz.underlying23
 a24:=Tryz.isAgg23
 z24:=Tryz.sizeOf23
 v24:=Tryz.zeroValue23
 t40:=Tryz.underlying177
 a40:=Tryz.isAgg177
 z40:=Tryz.sizeOf177
 v40:=Tryz.zeroValue177 }
structure LX (w:World):Prop extends LW w where
 asc:Lib.TabIs Tryz.prog w "strings.asciiSpace" .u8 Lib.asciiSpaceTab
theorem LX.later {w w':World} (h:LX w) (hb:Below w.heap.size w w'):LX w':=⟨h.toLW.later hb,var_later h.asc hb⟩
def StrsAt (A:Nat) (l:List (List UInt8)) (w:World):Prop:=∀ (j:Nat) x,l[j]? = some x→w.cell? ⟨A,j,none⟩=some (str x)
theorem cell_new (w:World) (l:List Value) (T:TypeId) (j:Nat) (v:Value) (h:l[j]? = some v):(w.alloc (.cells l.toArray T)).cell? ⟨w.heap.size,j,none⟩=some v:=by
 unfold World.cell?
 rw [heap_alloc_new]
 simp [h]
abbrev wordsS:ByteArray:=⟨#[65,78,68,32,65,83,32,66,69,71,73,78,32,66,76,79,66,32,66,89,32,67,79,77,77,73,84,32,67,79,85,78,84,32,67,82,69,65,84,69,32,68,69,76,69,84,69,32,68,69,83,67,32,68,82,79,80,32,70,82,79,77,32,71,82,79,85,80,32,72,65,86,73,78,71,32,73,78,68,69,88,32,73,78,83,69,82,84,32,73,78,84,69,71,69,82,32,73,78,84,79,32,73,83,32,74,79,73,78,32,75,69,89,32,76,73,77,73,84,32,77,65,88,32,77,73,78,32,78,79,84,32,78,85,76,76,32,79,78,32,79,82,32,79,82,68,69,82,32,80,82,73,77,65,82,89,32,82,69,76,69,65,83,69,32,82,79,76,76,66,65,67,75,32,83,65,86,69,80,79,73,78,84,32,83,69,76,69,67,84,32,83,69,84,32,83,85,77,32,84,65,66,76,69,32,84,69,88,84,32,84,79,32,85,78,73,81,85,69,32,85,80,68,65,84,69,32,86,65,76,85,69,83,32,87,72,69,82,69]⟩
set_option maxRecDepth 100000 in
theorem words_fields:Lib.fields wordsS.data.toList=wordsL:=by kernel_rfl
set_option maxRecDepth 100000 in
theorem words_ascii:∀ b ∈ wordsS.data.toList,b.toNat < 128:=by decide +kernel
set_option maxRecDepth 100000 in
theorem fieldsAt (w:World) (hw:LX w):Calls Tryz.prog 157 #[.string wordsS] w fun e w'=>e = .returned (.slice (some ⟨w.heap.size,0,none⟩) 43 43)∧StrsAt w.heap.size wordsL w'∧Below w.heap.size w w':=by
 refine (Tryz.strings_Fields_laid wordsS w (by decide) (fun j b h=>words_ascii b (List.mem_of_getElem? h)) hw.asc).mono fun e w' h=>?_
 obtain ⟨rfl,rfl⟩:=h
 rw [words_fields]
 refine ⟨rfl,fun j x hx=>?_,(Below.refl _ _).alloc (Nat.le_refl _) _⟩
 exact cell_new w _ _ j _ (by rw [List.getElem?_map,hx];rfl)
set_option maxRecDepth 100000 in
theorem wordsW (w:World) (hw:LX w):Calls Tryz.prog 141 #[] w fun e w'=>∃ A,e = .returned (.slice (some ⟨A,0,none⟩) 43 43)∧StrsAt A wordsL w'∧Below w.heap.size w w':=by
 have HF:=Lib.hid (fieldsAt w hw)
 clear hw
 go_enter Tryz.func141,Tryz.ntmps141
 go_wp2_with fail
 refine HF.out.mono ?_
 rintro e w1 ⟨rfl,h1,h2⟩
 have H1:=Lib.hid h1
 have H2:=Lib.hid h2
 clear h1 h2
 go_wp2_with fail
 go_ret
 exact ⟨_,rfl,H1.out,H2.out⟩
set_option maxRecDepth 100000 in
theorem words_sorted:∀ k:Fin 43,Lib.bsGo (fun t=>Op.bytesLess (wordsL.getD t []) (wordsL.getD k.val [])) 43 0 43=k.val:=by decide +kernel
theorem words_len:wordsL.length=43:=by decide +kernel
theorem findW (A:Nat) (x:ByteArray) (w:World) (h:StrsAt A wordsL w) :
 Calls Tryz.prog 140 #[.slice (some ⟨A,0,none⟩) 43 43,.string x] w fun e w'=>∃ I:Int,e = .returned (.tuple #[.int .i64 I,.bool (decide (x.data.toList ∈ wordsL))])∧Below w.heap.size w w':=by
 have hc:∀ j,j < 43→w.cell? ⟨A,0 + j,none⟩=some (.string (⟨(wordsL.getD j []).toArray⟩:ByteArray)):=fun j hj=>by
  have hl:wordsL[j]? = some (wordsL.getD j []):=by rw [List.getD_eq_getElem?_getD,List.getElem?_eq_getElem (by rw [words_len];exact hj)];rfl
  have:=h j _ hl
  rwa [Nat.zero_add]
 refine (Any2.slices_BinarySearch_string laysB A 0 43 43 (fun j=>⟨(wordsL.getD j []).toArray⟩) x w (by decide) hc).mono fun e w' h'=>?_
 obtain ⟨rfl,q,rfl⟩:=h'
 have hfun:(fun t=>Op.bytesLess (ByteArray.mk (wordsL.getD t []).toArray).toList x.toList)=fun t=>Op.bytesLess (wordsL.getD t []) x.data.toList:=by
  funext t
  rw [ByteArray.toList_eq,ByteArray.toList_eq]
 rw [hfun]
 obtain ⟨I,hI⟩:∃ I,I=Lib.bsGo (fun t=>Op.bytesLess (wordsL.getD t []) x.data.toList) 43 0 43:=⟨_,rfl⟩
 rw [← hI]
 have hd:decide (I < 43∧(ByteArray.mk (wordsL.getD I []).toArray)=x)=decide (x.data.toList ∈ wordsL):=by
  refine decide_eq_decide.2 ⟨fun ⟨h1,h2⟩=>?_,fun hx=>?_⟩
  ·have e:=congrArg (fun b:ByteArray=>b.data.toList) h2
   simp only at e
   rw [← e,List.getD_eq_getElem?_getD,List.getElem?_eq_getElem (by rw [words_len];exact h1)]
   exact List.getElem_mem _
  ·obtain ⟨k,hk,he⟩:=List.getElem_of_mem hx
   rw [words_len] at hk
   have hg:wordsL.getD k []=x.data.toList:=by rw [List.getD_eq_getElem?_getD,List.getElem?_eq_getElem (by rw [words_len];exact hk),← he];rfl
   have hs:=words_sorted ⟨k,hk⟩
   rw [hg,← hI] at hs
   simp only at hs
   rw [hs]
   exact ⟨hk,by rw [hg]⟩
 exact ⟨(I:Int),by rw [hd],drewN_below (Below.refl _ _) _⟩
def Tk.val (t:Tk):Value:=.agg #[.int .u8 (t.k:Int),.string t.s,.int .u64 (t.n:Int),.int .i64 t.a]
def T0:Tk:=⟨0,ByteArray.empty,0,0⟩
structure TBox (b:Nat) (w:World):Prop where
 c0:w.cell? ⟨b,0,none⟩=some (.int .u8 0)
 c1:w.cell? ⟨b,1,none⟩=some (.string ⟨#[]⟩)
 c2:w.cell? ⟨b,2,none⟩=some (.int .u64 0)
 c3:w.cell? ⟨b,3,none⟩=some (.int .i64 0)
 f0:w.frozen? ⟨b,0,none⟩=false
 f1:w.frozen? ⟨b,1,none⟩=false
 f2:w.frozen? ⟨b,2,none⟩=false
 f3:w.frozen? ⟨b,3,none⟩=false
theorem TBox.lt {b:Nat} {w:World} (h:TBox b w):b < w.heap.size:=cell_lt h.c0
theorem TBox.later {b:Nat} {w w':World} (h:TBox b w) (hb:Below w.heap.size w w'):TBox b w':=
 ⟨(hb.cell h.lt).trans h.c0,(hb.cell h.lt).trans h.c1,(hb.cell h.lt).trans h.c2,(hb.cell h.lt).trans h.c3,(hb.frozen h.lt).trans h.f0,(hb.frozen h.lt).trans h.f1,(hb.frozen h.lt).trans h.f2,(hb.frozen h.lt).trans h.f3⟩
theorem TBox.grown {b r:Nat} {w w':World} (h:TBox b w) (g:w.grownBy w' (some r)) (hne:b ≠ r):TBox b w':=by
 have c:∀ i,w'.cell? ⟨b,i,none⟩=w.cell? ⟨b,i,none⟩:=fun i=>cell_grown g h.lt (fun e=>hne (Option.some.inj e).symm) i
 have f:∀ i,w'.frozen? ⟨b,i,none⟩=w.frozen? ⟨b,i,none⟩:=fun i=>by
  unfold World.frozen?
  rw [g.block b h.lt (fun e=>hne (Option.some.inj e))]
 exact ⟨(c 0).trans h.c0,(c 1).trans h.c1,(c 2).trans h.c2,(c 3).trans h.c3,(f 0).trans h.f0,(f 1).trans h.f1,(f 2).trans h.f2,(f 3).trans h.f3⟩
theorem TBox.else {b r i:Nat} {u:Value} {w:World} (h:TBox b w) (hne:b ≠ r):TBox b (w.setCell ⟨r,i,none⟩ u):=h.grown (grown_set w r i u) hne
theorem tBox_new (w:World) (t:TypeId):TBox w.heap.size (w.alloc (.cells #[.int .u8 0,.string ⟨#[]⟩,.int .u64 0,.int .i64 0] t)):=by
 constructor <;> go_simp
theorem filled4 (w:World) (b:Nat) (x y z u:Value) (h:TBox b w):∀ W,W=((((w.setCell ⟨b,0,none⟩ x).setCell ⟨b,1,none⟩ y).setCell ⟨b,2,none⟩ z).setCell ⟨b,3,none⟩ u) →
 W.cell? ⟨b,0,none⟩=some x∧W.cell? ⟨b,1,none⟩=some y∧W.cell? ⟨b,2,none⟩=some z∧W.cell? ⟨b,3,none⟩=some u:=by
 rintro W rfl
 have s0:=set_same3 w ⟨b,0,none⟩ x _ h.c0
 have s1:=set_same3 (w.setCell ⟨b,0,none⟩ x) ⟨b,1,none⟩ y _ ((set_else3 w b 0 1 x (by decide)).trans h.c1)
 have s2:=set_same3 ((w.setCell ⟨b,0,none⟩ x).setCell ⟨b,1,none⟩ y) ⟨b,2,none⟩ z _ ((set_else3 _ b 1 2 y (by decide)).trans ((set_else3 w b 0 2 x (by decide)).trans h.c2))
 have s3:=set_same3 (((w.setCell ⟨b,0,none⟩ x).setCell ⟨b,1,none⟩ y).setCell ⟨b,2,none⟩ z) ⟨b,3,none⟩ u _ ((set_else3 _ b 2 3 z (by decide)).trans ((set_else3 _ b 1 3 y (by decide)).trans ((set_else3 w b 0 3 x (by decide)).trans h.c3)))
 exact ⟨(set_else3 _ b 3 0 u (by decide)).trans ((set_else3 _ b 2 0 z (by decide)).trans ((set_else3 _ b 1 0 y (by decide)).trans s0)),(set_else3 _ b 3 1 u (by decide)).trans ((set_else3 _ b 2 1 z (by decide)).trans s1),(set_else3 _ b 3 2 u (by decide)).trans s2,s3⟩
theorem RD.else {r:Nat} {s:ByteArray} {k:Nat} {w:World} (h:RD r s k w) {b i:Nat} {u:Value} (hb:b ≠ r):RD r s k (w.setCell ⟨b,i,none⟩ u):=by
 refine ⟨(set_other w r b i 0 u (fun e=>hb e.1)).trans h.c0,(set_other w r b i 1 u (fun e=>hb e.1)).trans h.c1,?_⟩
 have:=h.f1
 simpa using this
theorem RD.box {r:Nat} {s:ByteArray} {k:Nat} {w:World} (h:RD r s k w) {b:Nat} (x y z u:Value) (hb:b ≠ r):RD r s k ((((w.setCell ⟨b,0,none⟩ x).setCell ⟨b,1,none⟩ y).setCell ⟨b,2,none⟩ z).setCell ⟨b,3,none⟩ u):=
 (((h.else hb).else hb).else hb).else hb
theorem grown_new {w W:World} {r:Nat} (h:w.grownBy W (some r)) {b i:Nat} {u:Value} (hb:w.heap.size ≤ b):w.grownBy (W.setCell ⟨b,i,none⟩ u) (some r):=by
 have g:=grown_set W b i u
 refine ⟨g.os.trans h.os,g.tape.trans h.tape,g.output.trans h.output,Nat.le_trans h.size g.size,fun k hk hn=>?_⟩
 exact (g.block k (Nat.lt_of_lt_of_le hk h.size) (fun e=>by cases e;omega)).trans (h.block k hk hn)
theorem grown_box {w W:World} {r:Nat} (h:w.grownBy W (some r)) {b:Nat} (x y z u:Value) (hb:w.heap.size ≤ b):w.grownBy ((((W.setCell ⟨b,0,none⟩ x).setCell ⟨b,1,none⟩ y).setCell ⟨b,2,none⟩ z).setCell ⟨b,3,none⟩ u) (some r):=
 grown_new (grown_new (grown_new (grown_new h hb) hb) hb) hb
structure Env (w0:World) (r:Nat) (w:World):Prop where
 hw:LX w0
 hb:Below w0.heap.size w0 w
 hr:w0.heap.size ≤ r
theorem Env.grown {w0 w w':World} {r:Nat} (h:Env w0 r w) (g:w.grownBy w' (some r)):Env w0 r w':=⟨h.hw,grown_below h.hb h.hr g h.hb.size,h.hr⟩
theorem Env.lx {w0 w:World} {r:Nat} (h:Env w0 r w):LX w:=h.hw.later h.hb
def outV:One→Value
 | .tok k s n _=>.tuple #[Tk.val ⟨k,⟨s.toArray⟩,n,0⟩,.int .i64 0]
 | .bad e _=>.tuple #[T0.val,.int .i64 (e:Int)]
def lenO:One→Nat
 | .tok _ _ _ m=>m
 | .bad _ m=>m
def Tk.cells (t:Tk):List Value:=[.int .u8 (t.k:Int),.string t.s,.int .u64 (t.n:Int),.int .i64 t.a]
abbrev TksAt (w:World) (v:Value) (l:List Tk):Prop:=SlAt 4 Tk.cells w v l
theorem at4 {w:World} {a:Option Addr} {n c k:Nat} {l:List Tk} {y:Tk} (h:TksAt w (.slice a n c) l) (hk:l[k]? = some y) :
 ∃ b o,a=some ⟨b,o,none⟩∧b < w.heap.size∧w.cell? ⟨b,o + k * 4,none⟩=some (.int .u8 (y.k:Int))∧w.cell? ⟨b,o + k * 4 + 1,none⟩=some (.string y.s)∧w.cell? ⟨b,o + k * 4 + 2,none⟩=some (.int .u64 (y.n:Int))∧w.cell? ⟨b,o + k * 4 + 3,none⟩=some (.int .i64 y.a):=by
 obtain ⟨a',c',e,_,h⟩:=h
 simp only [Value.slice.injEq] at e
 obtain ⟨rfl,_,_⟩:=e
 obtain ⟨b,o,rfl,h'⟩:=h k y hk
 have h0:=h' 0 _ rfl
 exact ⟨b,o,rfl,cell_lt h0,h0,h' 1 _ rfl,h' 2 _ rfl,h' 3 _ rfl⟩
theorem elT:By.Elem Tryz.prog 72 128 4 40 where
 slice:=by kernel_rfl
 info:=by
  have h:(Tryz.prog.info? 128).map (fun i=>(i.zero,i.size,i.bytes))=some (some (.agg #[.int .u8 0,.string ⟨#[]⟩,.int .u64 0,.int .i64 0]),4,40):=by kernel_rfl
  obtain ⟨i,hi,h1,h2,h3⟩:=info_parts h
  exact ⟨i,_,hi,h1,h2,h3,rfl⟩
 pos:=by decide
def tCells (l:List Tk):List Value:=l.flatMap Tk.cells
theorem tCells_get (l:List Tk):∀ (i:Nat) (x:Tk),l[i]? = some x→∀ j u,x.cells[j]? = some u→(tCells l)[i * 4 + j]? = some u:=by
 induction l with
 | nil=>intro i x h;simp at h
 | cons y l ih=>
  intro i x h j u hu
  have hj:j < 4:=(List.getElem?_eq_some_iff.1 hu).1
  have e:tCells (y :: l)=y.cells ++ tCells l:=rfl
  rcases i with _ | i
  ·simp at h;subst h
   rw [e,List.getElem?_append_left (by show 0 * 3 + j < 4;omega),Nat.zero_mul,Nat.zero_add]
   exact hu
  ·rw [e,List.getElem?_append_right (by show 4 ≤ _;omega),show (i + 1) * 4 + j - y.cells.length=i * 4 + j by show _ - 4=_;omega]
   exact ih i x (by simpa using h) j u hu
def OwnT (w:World) (base:Nat) (v:Value) (l:List Tk):Prop:=w.ownsRow base 128 4 v l.length (tCells l)
theorem OwnT.nil (w:World) (base:Nat):OwnT w base (.slice none 0 0) []:=World.ownsRow_nil _ _ _ _
theorem OwnT.shape {w:World} {base:Nat} {v:Value} {l:List Tk} (h:OwnT w base v l):∃ a c,v = .slice a l.length c:=by
 rcases h.2 with ⟨rfl,hn⟩ | ⟨g,cap,cur,rfl,_⟩
 ·exact ⟨none,0,by rw [hn]⟩
 ·exact ⟨_,_,rfl⟩
theorem OwnT.at_ {w:World} {base:Nat} {v:Value} {l:List Tk} (h:OwnT w base v l):TksAt w v l:=by
 rcases h.2 with ⟨rfl,hn⟩ | ⟨g,cap,cur,rfl,hg,hh,hn,hcap,hsz,ht⟩
 ·obtain rfl:l = []:=List.eq_nil_of_length_eq_zero hn
  exact SlAt.nil _ _ _
 ·refine ⟨_,cap,rfl,hn,fun i x hx=>⟨g,0,rfl,fun j u hu=>?_⟩⟩
  have:=World.ownsRow.cells h rfl (i * 4 + j) u (tCells_get l i x hx j u hu)
  rw [Addr.add_lit,← Nat.add_assoc] at this
  exact this
theorem OwnT.below {w w':World} {base:Nat} {v:Value} {l:List Tk} (h:OwnT w base v l) (hb:Below w.heap.size w w'):OwnT w' base v l:=
 World.ownsRow.kept (row:=none) h ⟨hb.os,hb.tape,hb.output,hb.size,fun i hi _=>hb.block i hi⟩ (by cases v.ownBlock <;> simp)
theorem OwnT.snoc {w:World} {base:Nat} {v:Value} {l:List Tk} {x:Tk} (h:w.ownsRow base 128 4 v (l.length + 1) (tCells l ++ [.int .u8 (x.k:Int),.string x.s,.int .u64 (x.n:Int),.int .i64 x.a])):OwnT w base v (l ++ [x]):=by
 unfold OwnT
 rw [List.length_append]
 have e:tCells (l ++ [x])=tCells l ++ [.int .u8 (x.k:Int),.string x.s,.int .u64 (x.n:Int),.int .i64 x.a]:=by simp [tCells,Tk.cells]
 rw [e]
 exact h
theorem reads_T (w:World) (base:Nat) (x:Tk) (hb:base ≤ w.heap.size) (k:Nat) (hk:w.heap.size=k) :
 Reads (w.alloc (.cells #[.int .u8 (x.k:Int),.string x.s,.int .u64 (x.n:Int),.int .i64 x.a] 128)) 4 (.slice (some ⟨k,0,none⟩) 1 1) 1 [.int .u8 (x.k:Int),.string x.s,.int .u64 (x.n:Int),.int .i64 x.a]:=by
 subst hk
 exact reads_of_owns (World.ownsRow_lit w #[.int .u8 (x.k:Int),.string x.s,.int .u64 (x.n:Int),.int .i64 x.a] 1 hb (by unfold maxLen;omega) rfl)
def Dep (S:Nat→Prop) (w:World) (P:World→Prop):Prop:=∀ w',(∀ b,S b→b < w.heap.size→w'.heap[b]? = w.heap[b]?)→P w'
theorem Dep.here {S:Nat→Prop} {w:World} {P:World→Prop} (h:Dep S w P):P w:=h w fun _ _ _=>rfl
theorem Dep.step {S S':Nat→Prop} {w w':World} {P:World→Prop} (h:Dep S w P) (hz:w.heap.size ≤ w'.heap.size) (hs:∀ b,S b→b < w.heap.size→S' b∧w'.heap[b]? = w.heap[b]?):Dep S' w' P:=
 fun u hu=>h u fun b hb hlt=>(hu b (hs b hb hlt).1 (Nat.lt_of_lt_of_le hlt hz)).trans (hs b hb hlt).2
theorem Dep.imp {S:Nat→Prop} {w:World} {P Q:World→Prop} (h:Dep S w P) (hpq:∀ u,P u→Q u):Dep S w Q:=fun u hu=>hpq u (h u hu)
theorem Dep.imp2 {S:Nat→Prop} {w:World} {P Q R:World→Prop} (h:Dep S w P) (h2:Dep S w Q) (hpq:∀ u,P u→Q u→R u):Dep S w R:=fun u hu=>hpq u (h u hu) (h2 u hu)
theorem Dep.sub {S S':Nat→Prop} {w:World} {P:World→Prop} (h:Dep S w P) (hs:∀ b,S b→b < w.heap.size→S' b):Dep S' w P:=h.step (Nat.le_refl _) fun b h1 h2=>⟨hs b h1 h2,rfl⟩
def New (n:Nat) (w:World) (P:World→Prop):Prop:=Dep (fun b=>n ≤ b) w P
theorem New.here {n:Nat} {w:World} {P:World→Prop} (h:New n w P):P w:=Dep.here h
theorem New.const {n:Nat} {w:World} {P:Prop} (h:P):New n w (fun _=>P):=fun _ _=>h
theorem New.imp {n:Nat} {w:World} {P Q:World→Prop} (h:New n w P) (hpq:∀ u,P u→Q u):New n w Q:=Dep.imp h hpq
theorem New.mono {n m:Nat} {w:World} {P:World→Prop} (h:New n w P) (hm:m ≤ n):New m w P:=Dep.sub h fun _ hb _=>Nat.le_trans hm hb
theorem New.below {n:Nat} {w w':World} {P:World→Prop} (h:New n w P) (hb:Below w.heap.size w w'):New n w' P:=Dep.step h hb.size fun b h1 h2=>⟨h1,hb.block b h2⟩
theorem New.grown {n r:Nat} {w w':World} {P:World→Prop} (h:New n w P) (g:w.grownBy w' (some r)) (hr:r < n):New n w' P:=
 Dep.step h g.size fun b h1 h2=>⟨h1,g.block b h2 (fun e=>by cases e;omega)⟩
theorem New.stay {n r:Nat} {w w':World} {P:World→Prop} (h:New n w P) (g:w.grownBy w' (some r)) (hr:r < n):P w':=(h.grown g hr).here
def SlR {α:Type} (size:Nat) (R:World→List Value→α→Prop) (w:World) (v:Value) (l:List α):Prop:=
 ∃ cs:List (List Value),SlAt size (fun c=>c) w v cs∧cs.length=l.length∧∀ (i:Nat) (c:List Value) (x:α),cs[i]? = some c→l[i]? = some x→c.length=size∧R w c x
theorem SlR.shape {α:Type} {size:Nat} {R:World→List Value→α→Prop} {w:World} {v:Value} {l:List α} (h:SlR size R w v l):∃ a c,v = .slice a l.length c∧l.length ≤ c:=by
 obtain ⟨cs,⟨a,c,rfl,hc,_⟩,hl,_⟩:=h
 exact ⟨a,c,by rw [hl],by omega⟩
theorem SlR.nil {α:Type} (size:Nat) (R:World→List Value→α→Prop) (w:World):SlR size R w (.slice none 0 0) ([]:List α):=
 ⟨[],SlAt.nil _ _ _,rfl,fun i c x h=>by simp at h⟩
theorem SlR.get {α:Type} {size:Nat} {R:World→List Value→α→Prop} {w:World} {a:Option Addr} {n c k:Nat} {l:List α} {x:α} (h:SlR size R w (.slice a n c) l) (hk:l[k]? = some x) :
 ∃ b o cs,a=some ⟨b,o,none⟩∧cs.length=size∧R w cs x∧∀ (j:Nat) (u:Value),cs[j]? = some u→w.cell? ⟨b,o + k * size + j,none⟩=some u:=by
 obtain ⟨cs,⟨a',c',e,hc,h⟩,hl,hR⟩:=h
 simp only [Value.slice.injEq] at e
 obtain ⟨rfl,_,_⟩:=e
 have hlt:k < cs.length:=by rw [hl];exact (List.getElem?_eq_some_iff.1 hk).1
 obtain ⟨b,o,rfl,h'⟩:=h k cs[k] (by simp [hlt])
 obtain ⟨h1,h2⟩:=hR k cs[k] x (by simp [hlt]) hk
 exact ⟨b,o,cs[k],rfl,h1,h2,h'⟩
def PE.cells (x:PE) (kv:Value):List Value:=[.int .u8 (x.op:Int),.int .u8 (x.v.k:Int),.int .i64 x.v.n,.string x.v.s,.string x.t,.string x.m,.int .i64 x.n,kv]
inductive ExR (w:World):List Value→PE→Prop where
 | mk (x:PE) (kv:Value) (cs:List (List Value)) (h:SlAt 8 (fun c=>c) w kv cs) (hl:cs.length=x.kids.length) (h8:∀ (i:Nat) (c:List Value),cs[i]? = some c→c.length=8)
  (hk:∀ (i:Nat) (c:List Value) (y:PE),cs[i]? = some c→x.kids[i]? = some y→ExR w c y):ExR w (x.cells kv) x
abbrev ExsR (w:World) (v:Value) (l:List PE):Prop:=SlR 8 ExR w v l
theorem exR_iff {w:World} {cs:List Value} {x:PE} : ExR w cs x ↔ ∃ kv,cs=x.cells kv∧ExsR w kv x.kids:=by
 constructor
 ·exact fun h=>match h with
  | .mk _ kv cs ha hl h8 hk=>⟨kv,rfl,cs,ha,hl,fun i c y hc hy=>⟨h8 i c hc,hk i c y hc hy⟩⟩
 ·rintro ⟨kv,rfl,cs,h,hl,hk⟩
  refine .mk x kv cs h hl (fun i c hc=>?_) (fun i c y hc hy=>(hk i c y hc hy).2)
  have hlt:i < x.kids.length:=by rw [← hl];exact (List.getElem?_eq_some_iff.1 hc).1
  exact (hk i c x.kids[i] hc (by simp [hlt])).1
def ExV (w:World) (v:Value) (x:PE):Prop:=∃ cs,v = .agg cs.toArray∧ExR w cs x
theorem exV_of {w:World} {x:PE} {kv:Value} (h:ExsR w kv x.kids):ExV w (.agg #[.int .u8 (x.op:Int),.int .u8 (x.v.k:Int),.int .i64 x.v.n,.string x.v.s,.string x.t,.string x.m,.int .i64 x.n,kv]) x:=
 ⟨x.cells kv,rfl,exR_iff.2 ⟨kv,rfl,h⟩⟩
theorem ExV.open {w:World} {v:Value} {x:PE} (h:ExV w v x):∃ kv,v = .agg #[.int .u8 (x.op:Int),.int .u8 (x.v.k:Int),.int .i64 x.v.n,.string x.v.s,.string x.t,.string x.m,.int .i64 x.n,kv]∧ExsR w kv x.kids:=by
 obtain ⟨cs,rfl,h1⟩:=h
 obtain ⟨kv,rfl,h2⟩:=exR_iff.1 h1
 exact ⟨kv,rfl,h2⟩
structure PB (w0:World) (r:Nat) (tv:Value) (L:List Tk) (en:Int) (s:PS) (w:World):Prop where
 c0:w.cell? ⟨r,0,none⟩=some tv
 c1:w.cell? ⟨r,1,none⟩=some (.int .i64 (s.k:Int))
 c2:w.cell? ⟨r,2,none⟩=some (.int .i64 en)
 c3:w.cell? ⟨r,3,none⟩=some (.int .i64 (s.e:Int))
 c4:w.cell? ⟨r,4,none⟩=some (.int .i64 s.a)
 f1:w.frozen? ⟨r,1,none⟩=false
 f3:w.frozen? ⟨r,3,none⟩=false
 f4:w.frozen? ⟨r,4,none⟩=false
 tk:TksAt w0 tv L
 hb:Below w0.heap.size w0 w
 hr:w0.heap.size ≤ r
 hl:L.length ≤ 4096
 hk:s.k ≤ L.length
variable {w0 w w':World} {r:Nat} {tv:Value} {L:List Tk} {en:Int} {s:PS}
theorem PB.lt (h:PB w0 r tv L en s w):r < w.heap.size:=cell_lt h.c0
theorem PB.tks (h:PB w0 r tv L en s w):TksAt w tv L:=h.tk.below h.hb
theorem PB.later (h:PB w0 r tv L en s w) (hb:Below w.heap.size w w'):PB w0 r tv L en s w':=
 ⟨(hb.cell h.lt).trans h.c0,(hb.cell h.lt).trans h.c1,(hb.cell h.lt).trans h.c2,(hb.cell h.lt).trans h.c3,(hb.cell h.lt).trans h.c4,(hb.frozen h.lt).trans h.f1,(hb.frozen h.lt).trans h.f3,(hb.frozen h.lt).trans h.f4,
   h.tk,next h.hb hb,h.hr,h.hl,h.hk⟩
theorem PB.other {k:Nat} (h:PB w0 r tv L en s w) (g:w.grownBy w' (some k)) (hk:r < k):PB w0 r tv L en s w':=by
 have hc:∀ i,w'.cell? ⟨r,i,none⟩=w.cell? ⟨r,i,none⟩:=fun i=>World.cell?_of_block (w:=w) (g.block r h.lt (fun e=>by cases e;omega))
 have hf:∀ i,w'.frozen? ⟨r,i,none⟩=w.frozen? ⟨r,i,none⟩:=fun i=>by
  unfold World.frozen?
  rw [g.block r h.lt (fun e=>by cases e;omega)]
 exact ⟨(hc 0).trans h.c0,(hc 1).trans h.c1,(hc 2).trans h.c2,(hc 3).trans h.c3,(hc 4).trans h.c4,(hf 1).trans h.f1,(hf 3).trans h.f3,(hf 4).trans h.f4,h.tk,
  ⟨g.os.trans h.hb.os,g.tape.trans h.hb.tape,g.output.trans h.hb.output,Nat.le_trans h.hb.size g.size,fun b hb=>(g.block b (Nat.lt_of_lt_of_le hb h.hb.size) (fun e=>by cases e;have:=h.hr;omega)).trans (h.hb.block b hb)⟩,h.hr,h.hl,h.hk⟩
theorem PB.tok (h:PB w0 r tv L en s w) (hk:s.k < L.length):∃ b o c,tv = .slice (some ⟨b,o,none⟩) L.length c∧w.cell? ⟨b,o + s.k * 4,none⟩=some (.int .u8 ((tokP L en s.k).k:Int))∧w.cell? ⟨b,o + s.k * 4 + 1,none⟩=some (.string (tokP L en s.k).s) ∧
 w.cell? ⟨b,o + s.k * 4 + 2,none⟩=some (.int .u64 ((tokP L en s.k).n:Int))∧w.cell? ⟨b,o + s.k * 4 + 3,none⟩=some (.int .i64 (tokP L en s.k).a):=by
 have ht:=h.tks
 obtain ⟨a,c,rfl⟩:=ht.shape
 have e:L[s.k]? = some (tokP L en s.k):=by unfold tokP;rw [List.getElem?_eq_getElem hk];rfl
 obtain ⟨b,o,rfl,_,h0,h1,h2,h3⟩:=at4 ht e
 exact ⟨b,o,c,rfl,h0,h1,h2,h3⟩
theorem PB.next (h:PB w0 r tv L en s w) (hk:s.k < L.length):PB w0 r tv L en s.next (w.setCell ⟨r,1,none⟩ (.int .i64 ((s.k:Int) + 1))):=by
 refine ⟨(set_else3 w r 1 0 _ (by decide)).trans h.c0,?_,(set_else3 w r 1 2 _ (by decide)).trans h.c2,(set_else3 w r 1 3 _ (by decide)).trans h.c3,(set_else3 w r 1 4 _ (by decide)).trans h.c4,?_,?_,?_,h.tk,?_,h.hr,h.hl,hk⟩
 ·have:=set_same3 w ⟨r,1,none⟩ (.int .i64 ((s.k:Int) + 1)) _ h.c1
  simpa using this
 ·rw [World.frozen?_setCell];exact h.f1
 ·rw [World.frozen?_setCell];exact h.f3
 ·rw [World.frozen?_setCell];exact h.f4
 ·exact below_set h.hb h.hr
theorem PB.fail (h:PB w0 r tv L en s w) (e:Nat) (a:Int):PB w0 r tv L en { s with e:=e,a:=a } ((w.setCell ⟨r,3,none⟩ (.int .i64 (e:Int))).setCell ⟨r,4,none⟩ (.int .i64 a)):=by
 refine ⟨(set_else3 _ r 4 0 _ (by decide)).trans ((set_else3 w r 3 0 _ (by decide)).trans h.c0),(set_else3 _ r 4 1 _ (by decide)).trans ((set_else3 w r 3 1 _ (by decide)).trans h.c1),
  (set_else3 _ r 4 2 _ (by decide)).trans ((set_else3 w r 3 2 _ (by decide)).trans h.c2),(set_else3 _ r 4 3 _ (by decide)).trans (set_same3 w ⟨r,3,none⟩ _ _ h.c3),set_same3 _ ⟨r,4,none⟩ _ _ ((set_else3 w r 3 4 _ (by decide)).trans h.c4),?_,?_,?_,h.tk,?_,h.hr,h.hl,h.hk⟩
 ·rw [World.frozen?_setCell,World.frozen?_setCell];exact h.f1
 ·rw [World.frozen?_setCell,World.frozen?_setCell];exact h.f3
 ·rw [World.frozen?_setCell,World.frozen?_setCell];exact h.f4
 ·exact below_set (below_set h.hb h.hr) h.hr
def PRun (w0:World) (r:Nat) (tv:Value) (L:List Tk) (en:Int) (w1:World) (k0:Nat) {α:Type} (f:FuncId) (args:Array Value) (M:Rd α) (R:World→Value→α→Prop):Prop:=
 ∀ (s:PS) (w:World),k0 ≤ s.k→w1.grownBy w (some r)→PB w0 r tv L en s w→Calls Tryz.prog f args w fun e w'=>∃ v,e = .returned v∧New w.heap.size w' (fun u=>R u v (M s).1)∧PB w0 r tv L en (M s).2 w'∧w.grownBy w' (some r)
theorem PRun.grown {w1 w2:World} {k0 k1:Nat} {α:Type} {f:FuncId} {args:Array Value} {M:Rd α} {R:World→Value→α→Prop} (h:PRun w0 r tv L en w1 k0 f args M R) (g:w1.grownBy w2 (some r)) (hk:k0 ≤ k1):PRun w0 r tv L en w2 k1 f args M R:=
 fun s w h1 h2 h3=>h s w (Nat.le_trans hk h1) (grown_trans g h2) h3
end Go.Proofs.YtmdogmpcmkfjpaaGreatDoor.Dt
