import Derived.WalkKit
import Derived.ProofKit
import Derived.WalkLawsBesides
import Derived.Laws.BytesArg
import Derived.Laws.IdiomStrings
import Derived.Laws.Bits64
import Derived.Laws.AppendOwnNone
import Derived.ChangeArms
import Derived.Deep.Slices
import Derived.OpenShut
import Derived.SizedLaws
import Derived.Handy
import Derived.Lib.Hide
import Derived.Test.YtmdogmpcmkfjpaaGreatDoorProg
import Derived.Lib.Replace
import Derived.Lib.AppendIntMem
import Derived.Lib.AtoiErrMem
import Derived.Lib.LaidTab
import Derived.Stop.LaidErr
import Derived.LaidMore
import Derived.Deep.DeepCutAuto
import Derived.StillTail
import Derived.Test.YtmdogmpcmkfjpaaGreatDoorBn01
import Derived.Test.YtmdogmpcmkfjpaaGreatDoorBn07
import Derived.Test.YtmdogmpcmkfjpaaGreatDoorBn02
/- Part of the proof (merged). -/
namespace Go.Proofs.YtmdogmpcmkfjpaaGreatDoor.By
open Go.RowKit
abbrev str (l:List UInt8):Value:=.string ⟨l.toArray⟩
abbrev byte (b:UInt8):Value:=.int .u8 (b.toNat:Int)
theorem strOfNums_bytes (l:List UInt8):strOfNums (l.map fun b=>(b.toNat:Int))=⟨l.toArray⟩:=by
 have h:((fun n:Int=>UInt8.ofNat n.toNat) ∘ fun b:UInt8=>(b.toNat:Int))=id:=by
  funext b;simp
 simp [strOfNums,h]
theorem conv_at {P:Program} (w:World) (src e dst:TypeId) (hs:P.underlying src=some (.slice e)) (he:P.underlying e=some (.int .u8)) (hd:P.underlying dst=some .string)
 (b off len cap:Nat) (l:List UInt8) (hlen:l.length=len) (hcell:∀ i (h:i < l.length),w.cell? ⟨b,off + i,none⟩=some (byte l[i])) :
 (convert src dst (.slice (some ⟨b,off,none⟩) len cap)).run P w = .ok (str l) w:=by
 rw [run_convert_bytes_arg w src e hs he b off len cap (l.map fun b=>(b.toNat:Int)) (by simp [hlen]) (fun i hi=>by
  have hi':i < l.length:=by omega
  rw [hcell i hi']
  simp [hi']) dst hd,strOfNums_bytes]
end Go.Proofs.YtmdogmpcmkfjpaaGreatDoor.By
namespace Go.Proofs.YtmdogmpcmkfjpaaGreatDoor.By
open Go.RowKit
def Reads (w:World) (size:Nat) (v:Value) (m:Nat) (xs:List Value):Prop:=
 xs.length=m * size∧((v = .slice none 0 0∧m=0) ∨ ∃ ad c,v = .slice (some ad) m c∧∀ j u,xs[j]? = some u→w.cell? (ad.add j)=some u)
theorem reads_of_owns {w:World} {base:Nat} {e:TypeId} {size:Nat} {v:Value} {n:Nat} {xs:List Value} (h:w.ownsRow base e size v n xs):Reads w size v n xs:=by
 refine ⟨h.1,?_⟩
 rcases h.2 with ⟨rfl,rfl⟩ | ⟨g,cap,cur,rfl,hg,hh,hn,hc,hs,ht⟩
 ·exact Or.inl ⟨rfl,rfl⟩
 ·exact Or.inr ⟨_,cap,rfl,h.cells rfl⟩
structure Elem (P:Program) (t e:TypeId) (size bytes:Nat):Prop where
 slice:P.underlying t=some (.slice e)
 info:∃ i z,P.info? e=some i∧i.zero=some z∧i.size=size∧i.bytes=bytes∧z.cells.size=size
 pos:0 < size
theorem wpList_append_reads {P:Program} {w:World} {ops:Array Oper} {rest:List Oper} {o:Oper} {a:Act} {Q:Exit→Act→World→Prop} (hgd:o.guard=none) (s x:Operand) (t:TypeId)
 (ho:o.op = .call { callee:=.builtin .append,args:=#[s,x],argTypes:=#[t,t] })
 (base:Nat) (e:TypeId) (size bytes:Nat) (E:Elem P t e size bytes)
 (v:Value) (n:Nat) (xs:List Value) (hs:a.eval s=v) (hown:w.ownsRow base e size v n xs)
 (sv:Value) (m:Nat) (news:List Value) (hx:a.eval x=sv) (hr:Reads w size sv m news) (h1:∀ u ∈ news,u.oneCell'=true)
 (h63:n + m ≤ maxLen) (hbytes:(n + m) * bytes ≤ 140737488355328) (hbase:base ≤ w.heap.size)
 (h:∀ v' w',w'.ownsRow base e size v' (n + m) (xs ++ news)→w.grownBy w' v.ownBlock→Below base w w'→wpList P ops Q rest (a.put o.dst v') w'):wpList P ops Q (o :: rest) a w:=by
 obtain ⟨i,z,hi,hz,hsize,hby,hzs⟩:=E.info
 have hbel:∀ w',w.grownBy w' v.ownBlock→Below base w w':=fun w' hg=>
  (Below.refl base w).grown hg hbase (fun k hk=>(hown.lt k hk).1)
 rcases hr.2 with ⟨rfl,rfl⟩ | ⟨ad,c,rfl,hc⟩
 ·have hn:news = []:=by simpa using hr.1
  subst hn
  refine wpList_append_own_none hgd s x t ho base e i size E.slice hi v n xs hs hown hx ?_
  refine h v w (by simpa using hown) ⟨rfl,rfl,rfl,Nat.le_refl _,fun _ _ _=>rfl⟩ (Below.refl _ _)
 ·exact wpList_append_own w hgd s x t ho base e i z size bytes E.slice hi hz hsize hby hzs E.pos v n xs hs hown ad m c news hx hr.1 hc h1 h63 hbytes hbase fun v' w' h1 h2 _=>h v' w' h1 h2 (hbel w' h2)
def OwnB (w:World) (base:Nat) (e:TypeId) (v:Value) (l:List UInt8):Prop:=w.ownsRow base e 1 v l.length (l.map byte)
theorem OwnB.nil (w:World) (base:Nat) (e:TypeId):OwnB w base e (.slice none 0 0) []:=World.ownsRow_nil _ _ _ _
theorem OwnB.alloc {w:World} {base:Nat} {e:TypeId} {v:Value} {l:List UInt8} (h:OwnB w base e v l) (o:Obj):OwnB (w.alloc o) base e v l:=World.ownsRow.alloc h o
theorem ownB_of {w:World} {base:Nat} {e:TypeId} {v:Value} {l:List UInt8} {n:Nat} {xs:List Value} (h:w.ownsRow base e 1 v n xs) (hn:n=l.length) (hx:xs=l.map byte):OwnB w base e v l:=by
 subst hn hx;exact h
theorem own_one (w:World) (base:Nat) (e:TypeId) (x:Value) (hb:base ≤ w.heap.size):(w.alloc (.cells #[x] e)).ownsRow base e 1 (.slice (some ⟨w.heap.size,0,none⟩) 1 1) 1 [x]:=
 World.ownsRow_lit w #[x] 1 hb (by unfold maxLen;omega) rfl
theorem oneCell_bytes (l:List UInt8):∀ u ∈ l.map byte,u.oneCell'=true:=by
 intro u hu
 obtain ⟨b,_,rfl⟩:=List.mem_map.1 hu
 rfl
theorem conv_own {P:Program} {w:World} (src e dst:TypeId) (hs:P.underlying src=some (.slice e)) (he:P.underlying e=some (.int .u8)) (hd:P.underlying dst=some .string)
 {base:Nat} {v:Value} {l:List UInt8} (h:OwnB w base e v l):(convert src dst v).run P w = .ok (str l) w:=by
 rcases h.2 with ⟨rfl,hn⟩ | ⟨g,cap,cur,rfl,hg,hh,hn,hc,hsz,ht⟩
 ·obtain rfl:l = []:=List.eq_nil_of_length_eq_zero hn
  rw [run_convert_bytes_nil w src e hs he 0 0 dst hd]
  rfl
 ·refine conv_at w src e dst hs he hd g 0 l.length cap l rfl fun i hi=>?_
  have:=World.ownsRow.cellAt (w:=w) (e:=e) (size:=1) h i (by omega)
  rw [Nat.zero_add,this]
  simp [hi]
theorem OwnB.shape {w:World} {base:Nat} {e:TypeId} {v:Value} {l:List UInt8} (h:OwnB w base e v l):∃ a c,v = .slice a l.length c:=by
 rcases h.2 with ⟨rfl,hn⟩ | ⟨g,cap,cur,rfl,_⟩
 ·exact ⟨none,0,by rw [hn]⟩
 ·exact ⟨_,_,rfl⟩
end Go.Proofs.YtmdogmpcmkfjpaaGreatDoor.By
namespace Go.Proofs.YtmdogmpcmkfjpaaGreatDoor.Dt
open Go.ChangeShapes Go.WideShapes Go.RowKit Go.Proofs.YtmdogmpcmkfjpaaGreatDoor.By
section
variable {H:Type} {enc:TypeId × Value→H} {P:Program} {w:World} {base:Nat} {spare:Nat→Bool} {held:Bool}
def fieldB (P:Program) (t:TypeId) (i:Nat):Option (TypeId × Nat):=
 match P.underlying t with
 | some (.struct fs)=>(fs[i]?).map fun f=>(f.type,f.offset)
 | _=>none
structure VType (P:Program) (t:TypeId):Prop where
 size:P.cellsOf t=3
 bytes:P.bytesOf t=32
 f0:∃ ty,fieldB P t 0=some (ty,0)∧P.cellsOf ty=1∧P.underlying ty=some (.int .u8)
 f1:∃ ty,fieldB P t 1=some (ty,1)∧P.cellsOf ty=1∧P.underlying ty=some (.int .i64)
 f2:∃ ty,fieldB P t 2=some (ty,2)∧P.cellsOf ty=1∧P.underlying ty=some .string
theorem list8 {α:Type} {l:List α} (h:l.length=8):∃ a b c d e f g i,l = [a,b,c,d,e,f,g,i]:=by
 match l,h with
 | [a,b,c,d,e,f,g,i],_=>exact ⟨a,b,c,d,e,f,g,i,rfl⟩
structure ExType (P:Program) (t:TypeId):Prop where
 size:P.cellsOf t=8
 bytes:P.bytesOf t=104
 f0:∃ ty,fieldB P t 0=some (ty,0)∧P.cellsOf ty=1∧P.underlying ty=some (.int .u8)
 f1:∃ ty,fieldB P t 1=some (ty,1)∧VType P ty
 f2:∃ ty,fieldB P t 2=some (ty,4)∧P.cellsOf ty=1∧P.underlying ty=some .string
 f3:∃ ty,fieldB P t 3=some (ty,5)∧P.cellsOf ty=1∧P.underlying ty=some .string
 f4:∃ ty,fieldB P t 4=some (ty,6)∧P.cellsOf ty=1∧P.underlying ty=some (.int .i64)
 f5:∃ ty,fieldB P t 5=some (ty,7)∧P.cellsOf ty=1∧P.underlying ty=some (.slice t)
structure Rw where
 hd:Value
 l:List V
def Rw.cells (r:Rw):List Value:=[r.hd]
structure RowsAt (w:World) (v:Value) (rs:List Rw):Prop where
 at_:SlAt 1 Rw.cells w v rs
 rows:∀ r ∈ rs,VsAt w r.hd r.l
def u8Cells (n:Nat):List Value:=[.int .u8 (n:Int)]
abbrev U8sAt (w:World) (v:Value) (l:List Nat):Prop:=SlAt 1 u8Cells w v l
end
end Go.Proofs.YtmdogmpcmkfjpaaGreatDoor.Dt
namespace Go.Proofs.YtmdogmpcmkfjpaaGreatDoor.Dt
open Go.RowKit Go.Proofs.YtmdogmpcmkfjpaaGreatDoor.By
theorem set_same3 (w:World) (a:Addr) (v u:Value) (h:w.cell? a=some u):(w.setCell a v).cell? a=some v:=by
 apply World.cell?_setCell_same
 exact h
theorem set_else3 (w:World) (k i j:Nat) (v:Value) (h:i ≠ j):(w.setCell ⟨k,i,none⟩ v).cell? ⟨k,j,none⟩=w.cell? ⟨k,j,none⟩:=by
 apply World.cell?_setCell_other
 intro e;cases e;exact h rfl
theorem cell_grown {W w2:World} {r:Option Nat} {b:Nat} (h:W.grownBy w2 r) (hk:b < W.heap.size) (hne:r ≠ some b) (o:Nat):w2.cell? ⟨b,o,none⟩=W.cell? ⟨b,o,none⟩:=
 World.cell?_of_block (w:=W) (h.block b hk (Ne.symm hne))
structure ResBox (k:Nat) (w:World):Prop where
 c0:w.cell? ⟨k,0,none⟩=some (.int .u8 0)
 c1:w.cell? ⟨k,1,none⟩=some (.int .i64 0)
 c2:w.cell? ⟨k,2,none⟩=some (.string ⟨#[]⟩)
 f0:w.frozen? ⟨k,0,none⟩=false
 f1:w.frozen? ⟨k,1,none⟩=false
 f2:w.frozen? ⟨k,2,none⟩=false
theorem set_other (w:World) (k j i i':Nat) (u:Value) (h:¬ (j=k∧i=i')):(w.setCell ⟨j,i,none⟩ u).cell? ⟨k,i',none⟩=w.cell? ⟨k,i',none⟩:=by
 apply World.cell?_setCell_other
 intro e;cases e;exact h ⟨rfl,rfl⟩
def Box (k:Nat) (cs:List Value) (w:World):Prop:=∀ i u,cs[i]? = some u→w.cell? ⟨k,i,none⟩=some u∧w.frozen? ⟨k,i,none⟩=false
theorem Box.later {k:Nat} {cs:List Value} {w w':World} (h:Box k cs w) (hb:Below w.heap.size w w'):Box k cs w':=fun i u hu=>
 ⟨(hb.cell (p:=⟨k,i,none⟩) (cell_lt (h i u hu).1)).trans (h i u hu).1,(hb.frozen (p:=⟨k,i,none⟩) (cell_lt (h i u hu).1)).trans (h i u hu).2⟩
section
variable {w W:World}
theorem below_set {B j i:Nat} {u:Value} (h:Below B w W) (hj:B ≤ j):Below B w (W.setCell ⟨j,i,none⟩ u):=by
 have hsz:=h.size
 go_grown
end
end Go.Proofs.YtmdogmpcmkfjpaaGreatDoor.Dt
namespace Go.Proofs.YtmdogmpcmkfjpaaGreatDoor.Dt
open Go.RowKit Go.Proofs.YtmdogmpcmkfjpaaGreatDoor.By
def MaxAt (w:World):Prop:=∃ m:Int,w.cell? ⟨2,0,none⟩=some (.int .i64 m)
theorem MaxAt.later {w w':World} (h:MaxAt w) (hb:Below w.heap.size w w'):MaxAt w':=by
 obtain ⟨m,hm⟩:=h
 exact ⟨m,(hb.cell (cell_lt hm)).trans hm⟩
theorem maxAt {w:World} (h:w.ShapedOpen Tryz.prog):MaxAt w:=Tryz.laysM155.s1_3 w h
def subL (z:UInt8) (new:List UInt8):List UInt8→List UInt8
 | []=>[]
 | c :: l=>if c=z then new ++ subL z new l else c :: subL z new l
theorem index_one (z c:UInt8) (s:List UInt8):Lib.index (c :: s) [z]=if c=z then 0 else if Lib.index s [z] = -1 then -1 else Lib.index s [z] + 1:=by
 rw [Lib.index]
 by_cases hc:c=z
 ·subst hc;simp [List.isPrefixOf]
 ·have:([z]:List UInt8).isPrefixOf (c :: s)=false:=by simp [List.isPrefixOf,Ne.symm hc]
  rw [this,if_neg hc]
  simp
theorem sub_other {z c:UInt8} (new:List UInt8) (hc:c ≠ z) (k:Nat) (s:List UInt8):Lib.replaceK [z] new k (c :: s)=c :: Lib.replaceK [z] new k s:=by
 cases k with
 | zero=>rfl
 | succ k=>
  have hi:=index_one z c s
  rw [if_neg hc] at hi
  by_cases h:Lib.index s [z] = -1
  ·rw [if_pos h] at hi
   rw [Lib.replaceK,Lib.replaceK,if_pos (beq_iff_eq.2 hi),if_pos (beq_iff_eq.2 h)]
  ·have hge:=Lib.index_ge s [z]
   obtain ⟨i,h1⟩:∃ i:Nat,Lib.index s [z]=i:=⟨(Lib.index s [z]).toNat,by omega⟩
   rw [if_neg h,h1] at hi
   rw [Lib.replaceK_hit [z] new k (c :: s) (i + 1) (by rw [hi];rfl),Lib.replaceK_hit [z] new k s i h1]
   simp
theorem sub_hit (z:UInt8) (new:List UInt8) (k:Nat) (s:List UInt8):Lib.replaceK [z] new (k + 1) (z :: s)=new ++ Lib.replaceK [z] new k s:=by
 rw [Lib.replaceK_hit [z] new k (z :: s) 0 (by rw [index_one,if_pos rfl];rfl)]
 rfl
theorem cnt_other {z c:UInt8} (hc:c ≠ z) (s:List UInt8):Lib.count (c :: s) [z]=Lib.count s [z]:=by
 have hi:=index_one z c s
 rw [if_neg hc] at hi
 by_cases h:Lib.index s [z] = -1
 ·rw [if_pos h] at hi
  rw [Lib.count_miss hi,Lib.count_miss h]
 ·have hge:=Lib.index_ge s [z]
  obtain ⟨i,h1⟩:∃ i:Nat,Lib.index s [z]=i:=⟨(Lib.index s [z]).toNat,by omega⟩
  rw [if_neg h,h1] at hi
  rw [Lib.count_hit (i:=i + 1) (by simp) (by rw [hi];rfl),Lib.count_hit (i:=i) (by simp) h1]
  rfl
theorem cnt_hit (z:UInt8) (s:List UInt8):Lib.count (z :: s) [z]=1 + Lib.count s [z]:=by
 rw [Lib.count_hit (i:=0) (by simp) (by rw [index_one,if_pos rfl];rfl)]
 rfl
theorem sub_all (z:UInt8) (new:List UInt8):∀ s:List UInt8,Lib.replaceK [z] new (Lib.count s [z]) s=subL z new s
 | []=>by rw [Lib.count_miss (by rfl)];rfl
 | c :: s=>by
  unfold subL
  by_cases hc:c=z
  ·subst hc
   rw [cnt_hit,Nat.add_comm,sub_hit,sub_all c new s,if_pos rfl]
  ·rw [cnt_other hc,sub_other new hc,sub_all z new s,if_neg hc]
theorem cnt_le (z:UInt8):∀ s:List UInt8,Lib.count s [z] ≤ s.length
 | []=>by rw [Lib.count_miss (by rfl)];exact Nat.zero_le _
 | c :: s=>by
  have:=cnt_le z s
  by_cases hc:c=z
  ·subst hc;rw [cnt_hit,List.length_cons];omega
  ·rw [cnt_other hc,List.length_cons];omega
theorem replaceAll_sub (z:UInt8) (new s:List UInt8) (h:new ≠ [z]):Lib.replaceAll s [z] new=subL z new s:=by
 unfold Lib.replaceAll Lib.replace Lib.replaceNum
 rw [if_neg (by simpa using Ne.symm h),if_pos (.inl (by decide))]
 exact sub_all z new s
theorem var_later {w w':World} {name:String} {cs:Array Value} (h:w.var? Tryz.prog name=some cs) (hb:Below w.heap.size w w'):w'.var? Tryz.prog name=some cs:=by
 unfold World.var? at h ⊢
 cases hg:Tryz.prog.globalNamed name with
 | none=>rw [hg] at h;cases h
 | some g=>
  rw [hg] at h
  simp only [Option.bind_some] at h ⊢
  have hlt:g < w.heap.size:=by
   rcases Nat.lt_or_ge g w.heap.size with h' | h'
   ·exact h'
   ·rw [Array.getElem?_eq_none h'] at h;cases h
  rw [hb.block g hlt]
  exact h
structure LW (w:World):Prop where
 mx:MaxAt w
 tab:Lib.TabIs Tryz.prog w "internal/strconv.uint64pow10" .u64 Lib.pow10Tab
 syn:∃ tp p,w.var? Tryz.prog "strconv.ErrSyntax" = some #[.iface tp p]
 rng:∃ tp p,w.var? Tryz.prog "strconv.ErrRange" = some #[.iface tp p]
theorem LW.later {w w':World} (h:LW w) (hb:Below w.heap.size w w'):LW w':=by
 obtain ⟨h1,h2,⟨t,p,h3⟩,⟨u,q,h4⟩⟩:=h
 exact ⟨h1.later hb,var_later h2 hb,⟨t,p,var_later h3 hb⟩,⟨u,q,var_later h4 hb⟩⟩
theorem quoteL_sub:∀ l,subL 39 [39,39] l=quoteL l
 | []=>rfl
 | c :: l=>by rw [subL,quoteL,quoteL_sub l];rfl
theorem quoteW (s:ByteArray) (w:World) (hm:MaxAt w) (hs:s.size ≤ 1000000) :
 Calls Tryz.prog 131 #[.string s,.string ⟨#[39]⟩,.string ⟨#[39,39]⟩] w fun e w'=>e = .returned (str (quoteL s.data.toList))∧Below w.heap.size w w':=by
 obtain ⟨m,hm⟩:=hm
 have hc:Lib.countB s ⟨#[39]⟩ ≤ s.size:=by
  have:=cnt_le 39 s.data.toList
  rw [Array.length_toList] at this
  exact this
 have:=Tryz.strings_ReplaceAll s ⟨#[39]⟩ ⟨#[39,39]⟩ m w (by omega) hm (by decide) (by
  have e:(ByteArray.mk #[39,39]).size=2:=rfl
  rw [e]
  omega)
 refine this.mono fun e w' h=>⟨?_,h.2⟩
 rw [h.1]
 show Ending.returned (.string ⟨(Lib.replaceAll s.data.toList [39] [39,39]).toArray⟩)=_
 rw [replaceAll_sub _ _ _ (by decide),quoteL_sub]
theorem smallW (c:UInt8) (w:World):Calls Tryz.prog 115 #[byte c] w fun e w'=>e = .returned (.bool (smallB c))∧w=w':=by
 have hc:=c.toNat_lt
 by_cases h1:97 ≤ c.toNat
 ·have a1:(97:Int) ≤ (c.toNat:Int):=by omega
  by_cases h2:c.toNat ≤ 122
  ·have a2:(c.toNat:Int) ≤ 122:=by omega
   rw [show smallB c=true from decide_eq_true ⟨h1,h2⟩]
   clear h1 h2
   go_enter Tryz.func115,Tryz.ntmps115
   go_wp2_with fail
   go_ret
   exact ⟨rfl,rfl⟩
  ·have a2:¬ (c.toNat:Int) ≤ 122:=by omega
   rw [show smallB c=false from decide_eq_false (fun h=>h2 h.2)]
   clear h1 h2
   go_enter Tryz.func115,Tryz.ntmps115
   go_wp2_with fail
   go_ret
   exact ⟨rfl,rfl⟩
 ·have a1:¬ (97:Int) ≤ (c.toNat:Int):=by omega
  rw [show smallB c=false from decide_eq_false (fun h=>h1 h.1)]
  clear h1
  go_enter Tryz.func115,Tryz.ntmps115
  go_wp2_with fail
  go_ret
  exact ⟨rfl,rfl⟩
theorem capW (c:UInt8) (w:World):Calls Tryz.prog 116 #[byte c] w fun e w'=>e = .returned (.bool (capB c))∧w=w':=by
 have hc:=c.toNat_lt
 by_cases h1:65 ≤ c.toNat
 ·have a1:(65:Int) ≤ (c.toNat:Int):=by omega
  by_cases h2:c.toNat ≤ 90
  ·have a2:(c.toNat:Int) ≤ 90:=by omega
   rw [show capB c=true from decide_eq_true ⟨h1,h2⟩]
   clear h1 h2
   go_enter Tryz.func116,Tryz.ntmps116
   go_wp2_with fail
   go_ret
   exact ⟨rfl,rfl⟩
  ·have a2:¬ (c.toNat:Int) ≤ 90:=by omega
   rw [show capB c=false from decide_eq_false (fun h=>h2 h.2)]
   clear h1 h2
   go_enter Tryz.func116,Tryz.ntmps116
   go_wp2_with fail
   go_ret
   exact ⟨rfl,rfl⟩
 ·have a1:¬ (65:Int) ≤ (c.toNat:Int):=by omega
  rw [show capB c=false from decide_eq_false (fun h=>h1 h.1)]
  clear h1
  go_enter Tryz.func116,Tryz.ntmps116
  go_wp2_with fail
  go_ret
  exact ⟨rfl,rfl⟩
theorem digW (c:UInt8) (w:World):Calls Tryz.prog 118 #[byte c] w fun e w'=>e = .returned (.bool (digB c))∧w=w':=by
 have hc:=c.toNat_lt
 by_cases h1:48 ≤ c.toNat
 ·have a1:(48:Int) ≤ (c.toNat:Int):=by omega
  by_cases h2:c.toNat ≤ 57
  ·have a2:(c.toNat:Int) ≤ 57:=by omega
   rw [show digB c=true from decide_eq_true ⟨h1,h2⟩]
   clear h1 h2
   go_enter Tryz.func118,Tryz.ntmps118
   go_wp2_with fail
   go_ret
   exact ⟨rfl,rfl⟩
  ·have a2:¬ (c.toNat:Int) ≤ 57:=by omega
   rw [show digB c=false from decide_eq_false (fun h=>h2 h.2)]
   clear h1 h2
   go_enter Tryz.func118,Tryz.ntmps118
   go_wp2_with fail
   go_ret
   exact ⟨rfl,rfl⟩
 ·have a1:¬ (48:Int) ≤ (c.toNat:Int):=by omega
  rw [show digB c=false from decide_eq_false (fun h=>h1 h.1)]
  clear h1
  go_enter Tryz.func118,Tryz.ntmps118
  go_wp2_with fail
  go_ret
  exact ⟨rfl,rfl⟩
theorem inWordW (c:UInt8) (w:World):Calls Tryz.prog 73 #[byte c] w fun e w'=>e = .returned (.bool (wordB c))∧w=w':=by
 have HS:=Lib.hid (fun W=>smallW c W)
 have HC:=Lib.hid (fun W=>capW c W)
 have HD:=Lib.hid (fun W=>digW c W)
 have hr:wordB c=(smallB c || capB c || digB c || decide (c.toNat=95)):=rfl
 rw [hr]
 clear hr
 generalize smallB c=s at *
 generalize capB c=p at *
 generalize digB c=d at *
 cases s with
 | true=>
  simp only [Bool.true_or]
  go_enter Tryz.func73,Tryz.ntmps73
  go_wp2_with fail
  refine (HS.out _).mono ?_
  rintro e w1 ⟨rfl,rfl⟩
  go_wp2_with fail
  go_ret
  exact ⟨rfl,rfl⟩
 | false=>
  cases p with
  | true=>
   simp only [Bool.true_or,Bool.or_true]
   go_enter Tryz.func73,Tryz.ntmps73
   go_wp2_with fail
   refine (HS.out _).mono ?_
   rintro e w1 ⟨rfl,rfl⟩
   go_wp2_with fail
   refine (HC.out _).mono ?_
   rintro e w1 ⟨rfl,rfl⟩
   go_wp2_with fail
   go_ret
   exact ⟨rfl,rfl⟩
  | false=>
   cases d with
   | true=>
    simp only [Bool.true_or,Bool.or_true]
    go_enter Tryz.func73,Tryz.ntmps73
    go_wp2_with fail
    refine (HS.out _).mono ?_
    rintro e w1 ⟨rfl,rfl⟩
    go_wp2_with fail
    refine (HC.out _).mono ?_
    rintro e w1 ⟨rfl,rfl⟩
    go_wp2_with fail
    refine (HD.out _).mono ?_
    rintro e w1 ⟨rfl,rfl⟩
    go_wp2_with fail
    go_ret
    exact ⟨rfl,rfl⟩
   | false=>
    by_cases h:c.toNat=95
    ·have e1:((c.toNat:Int) == 95)=true:=by simp;omega
     simp only [Bool.false_or,decide_eq_true h]
     clear h
     go_enter Tryz.func73,Tryz.ntmps73
     go_wp2_with fail
     refine (HS.out _).mono ?_
     rintro e w1 ⟨rfl,rfl⟩
     go_wp2_with fail
     refine (HC.out _).mono ?_
     rintro e w1 ⟨rfl,rfl⟩
     go_wp2_with fail
     refine (HD.out _).mono ?_
     rintro e w1 ⟨rfl,rfl⟩
     go_wp2_with fail
     go_ret
     exact ⟨rfl,rfl⟩
    ·have e1:((c.toNat:Int) == 95)=false:=by simp;omega
     simp only [Bool.false_or,decide_eq_false h]
     clear h
     go_enter Tryz.func73,Tryz.ntmps73
     go_wp2_with fail
     refine (HS.out _).mono ?_
     rintro e w1 ⟨rfl,rfl⟩
     go_wp2_with fail
     refine (HC.out _).mono ?_
     rintro e w1 ⟨rfl,rfl⟩
     go_wp2_with fail
     refine (HD.out _).mono ?_
     rintro e w1 ⟨rfl,rfl⟩
     go_wp2_with fail
     go_ret
     exact ⟨rfl,rfl⟩
theorem nameW (c:UInt8) (w:World):Calls Tryz.prog 142 #[byte c] w fun e w'=>e = .returned (.bool (nameB c))∧w=w':=by
 have HI:=Lib.hid (fun W=>inWordW c W)
 have HC:=Lib.hid (fun W=>capW c W)
 have hr:nameB c=(wordB c && !capB c):=rfl
 rw [hr]
 clear hr
 generalize wordB c=s at *
 generalize capB c=p at *
 cases s with
 | false=>
  simp only [Bool.false_and]
  go_enter Tryz.func142,Tryz.ntmps142
  go_wp2_with fail
  refine (HI.out _).mono ?_
  rintro e w1 ⟨rfl,rfl⟩
  go_wp2_with fail
  go_ret
  exact ⟨rfl,rfl⟩
 | true=>
  cases p <;> simp only [Bool.true_and,Bool.not_false,Bool.not_true]
  all_goals
   go_enter Tryz.func142,Tryz.ntmps142
   go_wp2_with fail
   refine (HI.out _).mono ?_
   rintro e w1 ⟨rfl,rfl⟩
   go_wp2_with fail
   refine (HC.out _).mono ?_
   rintro e w1 ⟨rfl,rfl⟩
   go_wp2_with fail
   go_ret
   exact ⟨rfl,rfl⟩
theorem lineW (c:UInt8) (w:World):Calls Tryz.prog 112 #[byte c] w fun e w'=>e = .returned (.bool (lineB c))∧w=w':=by
 have hc:=c.toNat_lt
 by_cases h:c.toNat=10
 ·have e1:((c.toNat:Int) != 10)=false:=by simp;omega
  rw [show lineB c=false from decide_eq_false (fun e=>e h)]
  clear h
  go_enter Tryz.func112,Tryz.ntmps112
  go_wp2_with fail
  go_ret
  exact ⟨rfl,rfl⟩
 ·have e1:((c.toNat:Int) != 10)=true:=by simp;omega
  rw [show lineB c=true from decide_eq_true h]
  clear h
  go_enter Tryz.func112,Tryz.ntmps112
  go_wp2_with fail
  go_ret
  exact ⟨rfl,rfl⟩
theorem blankW (c:UInt8) (w:World):Calls Tryz.prog 110 #[byte c] w fun e w'=>e = .returned (.bool (blankB c))∧w=w':=by
 have hc:=c.toNat_lt
 by_cases h32:c.toNat=32
 ·have e32:((c.toNat:Int) == 32)=true:=by simp;omega
  rw [show blankB c=true from decide_eq_true (by omega)]
  clear h32
  go_enter Tryz.func110,Tryz.ntmps110
  go_wp2_with fail
  go_ret
  exact ⟨rfl,rfl⟩
 ·have e32:((c.toNat:Int) == 32)=false:=by simp;omega
  by_cases h9:c.toNat=9
  ·have e9:((c.toNat:Int) == 9)=true:=by simp;omega
   rw [show blankB c=true from decide_eq_true (by omega)]
   clear h32 h9
   go_enter Tryz.func110,Tryz.ntmps110
   go_wp2_with fail
   go_ret
   exact ⟨rfl,rfl⟩
  ·have e9:((c.toNat:Int) == 9)=false:=by simp;omega
   by_cases h10:c.toNat=10
   ·have e10:((c.toNat:Int) == 10)=true:=by simp;omega
    rw [show blankB c=true from decide_eq_true (by omega)]
    clear h32 h9 h10
    go_enter Tryz.func110,Tryz.ntmps110
    go_wp2_with fail
    go_ret
    exact ⟨rfl,rfl⟩
   ·have e10:((c.toNat:Int) == 10)=false:=by simp;omega
    by_cases h13:c.toNat=13
    ·have e13:((c.toNat:Int) == 13)=true:=by simp;omega
     rw [show blankB c=true from decide_eq_true (by omega)]
     clear h32 h9 h10 h13
     go_enter Tryz.func110,Tryz.ntmps110
     go_wp2_with fail
     go_ret
     exact ⟨rfl,rfl⟩
    ·have e13:((c.toNat:Int) == 13)=false:=by simp;omega
     rw [show blankB c=false from decide_eq_false (by omega)]
     clear h32 h9 h10 h13
     go_enter Tryz.func110,Tryz.ntmps110
     go_wp2_with fail
     go_ret
     exact ⟨rfl,rfl⟩
end Go.Proofs.YtmdogmpcmkfjpaaGreatDoor.Dt
namespace Go.Proofs.YtmdogmpcmkfjpaaGreatDoor.By
open Go.RowKit
section
variable {P:Program} {ops:Array Oper} {md:Region.Mode} {C:World→Prop} {n:Nat}
def wpHead (P:Program) (md:Region.Mode) (ops:Array Oper) (C:World→Prop) (n:Nat) (L:Array Bool→Act→Prop):Nat→Array Bool→Act→Prop
 | 0,done,a=>L done a
 | f + 1,done,a=>Region.ready md ops done ≠ []∧∀ i ∈ Region.ready md ops done,i < n∧qOp P ops C i (wpHead P md ops C n L f (done.setIfInBounds i true)) a
theorem wpAny_of_wpHead {g:Nat} {L:Array Bool→Act→Prop} {Q':Exit→Act→World→Prop} (hL:∀ done a w,C w→L done a→wpAny P md ops Q' g done a w) :
 ∀ (f:Nat) (done:Array Bool) (a:Act) (w:World),C w→wpHead P md ops C n L f done a→wpAny P md ops Q' (f + g) done a w:=by
 intro f
 induction f with
 | zero=>intro done a w hw h;rw [Nat.zero_add];exact hL _ _ _ hw h
 | succ f ih=>
  intro done a w hw h
  rw [show f + 1 + g=(f + g) + 1 by omega]
  exact ⟨fun e=>absurd e h.1,fun i hi=>wpOp_of_qOp hw (fun a' w' hw' k=>ih _ a' w' hw' k) (h.2 i hi).2⟩
theorem getD_false {l:Array Bool} {i:Nat} (h:l.getD i true=false):l.getD i false=false:=getD_both h
theorem wpHead_first {i:Nat} {oi:Oper} {v:Value} {L:Array Bool→Act→Prop} (hi:ops[i]? = some oi) (hsel:∀ (j:Nat) (o:Oper) cs b,ops[j]? = some o→o.op ≠ .select cs b)
 (hs:Region.sinkB md ops n=true) (hc:Region.chainB md ops n=true) (hn:n < ops.size) (hin:i < n) (hdone:∀ done a,L done a→∀ j ∈ Region.ready md ops done,n ≤ j) :
 ∀ (f:Nat) (done:Array Bool) (a:Act),HeadInv md ops n done →
   (∀ j oj,ops[j]? = some oj→j ≠ i→done.getD j true=false→(∀ e ∈ oj.after,Region.binds md e=true→e.on ≠ i)→oi.apart ops oj=true) →
   i ∈ Region.ready md ops done→YieldsIn P ops C oi v a→wpHead P md ops C n L f (done.setIfInBounds i true) (a.put oi.dst v)→wpHead P md ops C n L (f + 1) done a:=by
 intro f
 induction f with
 | zero=>
  intro done a inv _ hr hy H
  refine ⟨fun e=>(by rw [e] at hr;cases hr),fun j hj=>?_⟩
  have hjn:j < n:=Nat.lt_of_not_le fun hle=>tail_waits hs hc hn inv _ i rfl hin (mem_ready.1 hr).1 j hle hj
  by_cases e:j=i
  ·subst e;exact ⟨hjn,hy.qOp hi H⟩
  ·exact absurd (hdone _ _ H j (ready_mono hj e)) (by omega)
 | succ f ih=>
  intro done a inv hfree hr hy H
  refine ⟨fun e=>(by rw [e] at hr;cases hr),fun j hj=>?_⟩
  have hjn:j < n:=Nat.lt_of_not_le fun hle=>tail_waits hs hc hn inv _ i rfl hin (mem_ready.1 hr).1 j hle hj
  refine ⟨hjn,?_⟩
  by_cases e:j=i
  ·subst e;exact hy.qOp hi H
  obtain ⟨hjun,oj,hoj,hall⟩:=mem_ready.1 hj
  have hno:∀ x ∈ oj.after,Region.binds md x=true→x.on ≠ i:=fun x hx hb heq=>by
   have h1:=hall x hx hb
   rw [heq,getD_false (mem_ready.1 hr).1] at h1
   cases h1
  refine qOp_mono (fun a' h3=>?_) (qOp_put hoj (hfree j oj hoj e hjun hno) (fun cs b=>hsel i oi cs b hi) (fun cs b=>hsel j oj cs b hoj) hy ((H.2 j (ready_mono hj e)).2))
  refine ih _ a' (inv.set hj hjn) (fun k ok hk hki hun hno'=>?_) (ready_mono hr (Ne.symm e)) h3.1 (by rw [Array.setIfInBounds_comm _ _ e];exact h3.2)
  refine hfree k ok hk hki ?_ hno'
  by_cases hjk:j=k
  ·subst hjk;exact hjun
  ·rw [getD_set_ne true hjk] at hun;exact hun
theorem wpHead_lex {g:Nat} {Lq:Act→Prop} (hsel:Region.noSelect ops=true) (hs:Region.sinkB md ops n=true) (hc:Region.chainB md ops n=true) (hn:n < ops.size) :
 ∀ (l:List Oper) (k:Nat) (done:Array Bool) (a:Act),(∀ j,j < l.length→l[j]? = ops[k + j]?)→k + l.length=n→HeadInv md ops n done →
 Region.lexHead md ops g l.length k done=true→wpQuiet P ops C Lq l a→wpHead P md ops C n (fun done' a'=>Region.seqB md ops g n done'=true∧Lq a') l.length done a:=by
 intro l
 induction l with
 | nil=>
  intro k done a _ hk _ hB h
  obtain rfl:k=n:=by simpa using hk
  exact ⟨by simpa [Region.lexHead] using hB,h⟩
 | cons o l ih=>
  intro k done a hl hk inv hB h
  have h0:ops[k]? = some o:=by simpa using (hl 0 (by simp)).symm
  simp only [List.length_cons,Region.lexHead,Bool.and_eq_true] at hB
  simp only [List.length_cons] at hk
  obtain ⟨⟨hr,hf⟩,hB'⟩:=hB
  have hr':k ∈ Region.ready md ops done:=by simpa using hr
  have hst:qOp P ops C k (wpQuiet P ops C Lq l) a:=by unfold qOp;simp only [h0];exact h
  obtain ⟨v,hy,hK⟩:=yieldsIn_of_qOp h0 hst
  exact wpHead_first h0 (Region.noSelect_spec hsel) hs hc hn (by omega) (fun done' a' hL=>seqB_ready hL.1) l.length done a inv (Region.free_spec h0 hf) hr' hy
   (ih (k + 1) _ _ (fun j hj=>by have:=hl (j + 1) (by simp;omega);simpa [Nat.add_assoc,Nat.add_comm 1 j] using this) (by omega) (inv.set hr' (by omega)) hB' hK)
end
theorem wp_region_later_tail {P:Program} {id:Nat} {Q:Exit→Act→World→Prop} {a:Act} {w:World} {l:List Oper} (n:Nat) (hm:P.follows .mixedOrders=true) (hB:Region.lexTailB .any l.toArray n=true)
 (h:wpQuiet P l.toArray (fun w'=>∃ e:Later w,w'=lat w e) (fun a'=>∀ w',(∃ e:Later w,w'=lat w e)→wpList P l.toArray Q (l.drop n) a' w') (l.take n) a):(Code.region id l.toArray true).wp P Q a w:=by
 simp only [Region.lexTailB,Bool.and_eq_true,decide_eq_true_eq] at hB
 obtain ⟨⟨⟨⟨hsel,hn⟩,hs⟩,hc⟩,hlex⟩:=hB
 have hn':n < l.length:=by simpa using hn
 have htl:(l.take n).length=n:=by simp;omega
 have hdl:(l.drop n).length=l.toArray.size - n:=by simp
 have inv0:HeadInv .any l.toArray n (Array.replicate l.toArray.size false):=
  ⟨by simp,fun j oj _ hl=>(by rw [getD_replicate_false] at hl;cases hl),fun t _ ht=>getD_in (by simpa using ht) (getD_replicate_false _ _)⟩
 have H:=wpHead_lex (md:=.any) (g:=l.toArray.size - n) hsel hs hc hn (l.take n) 0 _ a (fun j hj=>by
  have hj':j < n:=by rw [htl] at hj;exact hj
  simp [hj']) (by simpa using htl) inv0 (by rw [htl];exact hlex) h
 refine wp_region_any hm ?_
 have:=wpAny_of_wpHead (Q':=Q) (g:=l.toArray.size - n) (fun done' a' w' hw' hL=>by
  have:=wpAny_of_seq (md:=.any) (Q':=Q) (l.drop n) n done' a' w' (fun j=>by simp [List.getElem?_drop]) (by rw [hdl];exact hL.1) (hL.2 w' hw')
  rwa [hdl] at this) _ _ _ { w with drawn:=w.drawn + 1 } ⟨⟨_,Below.drew (Below.refl _ _)⟩,rfl⟩ H
 rw [htl,show n + (l.toArray.size - n)=l.toArray.size by omega] at this
 exact this
end Go.Proofs.YtmdogmpcmkfjpaaGreatDoor.By
