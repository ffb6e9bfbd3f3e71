import Derived.Laws.AppendOwnNone
import Derived.Deep.Slices
import Derived.OpenShut
import Derived.SizedLaws
import Derived.Test.YtmdogmpcmkfjpaaGreatDoorProg
import Derived.Handy
import Derived.Lib.Replace
import Derived.Lib.AppendIntMem
import Derived.Lib.AtoiErrMem
import Derived.Lib.LaidTab
import Derived.Stop.LaidErr
import Derived.LaidMore
import Derived.StillTail
import Derived.Test.YtmdogmpcmkfjpaaGreatDoorBq07
import Derived.Test.YtmdogmpcmkfjpaaGreatDoorBq01
import Derived.Test.YtmdogmpcmkfjpaaGreatDoorBq02
set_option maxRecDepth 100000
set_option maxHeartbeats 64000000
/- Part. -/
namespace Go.Proofs.YtmdogmpcmkfjpaaGreatDoor.By
open Go.RowKit
def Reads (w:World) (size:Nat) (v:Value) (m:Nat) (xs:List Value):Prop:=
 xs.length=m * size∧((v = nS∧m=0) ∨ ∃ ad c,v = .slice (some ad) m c∧∀ j u,xs[j]? = some u→w.cell? (ad.add j)=some u)
theorem Zh1 {w:World} {base:Nat} {e:TypeId} {size:Nat} {v:Value} {n:Nat} {xs:List Value} (h:w.ownsRow base e size v n xs):Reads w size v n xs:=by
 refine ⟨h.1,?_⟩
 rcases h.2 with ⟨rfl,rfl⟩ | ⟨g,cap,cur,rfl,hg,hh,hn,hc,hs,ht⟩
 ·exact Or.inl ⟨rfl,rfl⟩
 exact Or.inr ⟨_,cap,rfl,h.cells rfl⟩
structure Elem (P:Program) (t e:TypeId) (size bytes:Nat):Prop where
 slice:P.underlying t=some (.slice e)
 info:∃ i z,P.info? e=some i∧i.zero=some z∧i.size=size∧i.bytes=bytes∧z.cells.size=size
 pos:0 < size
theorem Zda {P:Program} {w:World} {ops:Array Oper} {rest:List Oper} {o:Oper} {a:Act} {Q:Exit→Act→World→Prop} (hgd:o.guard=none) (s x:Operand) (t:TypeId)
 (ho:o.op = .call { callee:=.builtin .append,args:=#[s,x],argTypes:=#[t,t] })
 (base:Nat) (e:TypeId) (size bytes:Nat) (E:Elem P t e size bytes)
 (v:Value) (n:Nat) (xs:List Value) (hs:a.eval s=v) (hown:w.ownsRow base e size v n xs)
 (sv:Value) (m:Nat) (news:List Value) (hx:a.eval x=sv) (hr:Reads w size sv m news) (h1:∀ u ∈ news,u.oneCell'=true)
 (h63:n + m ≤ maxLen) (hbytes:(n + m) * bytes ≤ 140737488355328) (hbase:base ≤ w.heap.size)
 (h:∀ v' w',w'.ownsRow base e size v' (n + m) (xs ++ news)→w.grownBy w' v.ownBlock→Below base w w'→wpList P ops Q rest (a.put o.dst v') w'):wpList P ops Q (o :: rest) a w:=by
 obtain ⟨i,z,hi,hz,hsize,hby,hzs⟩:=E.info
 have hbel:∀ w',w.grownBy w' v.ownBlock→Below base w w':=fun w' hg=>
  (Below.refl base w).grown hg hbase (fun k hk=>(hown.lt k hk).1)
 rcases hr.2 with ⟨rfl,rfl⟩ | ⟨ad,c,rfl,hc⟩
 ·have hn:news = []:=by simpa using hr.1
  subst hn
  refine wpList_append_own_none hgd s x t ho base e i size E.slice hi v n xs hs hown hx ?_
  refine h v w (by simpa using hown) ⟨rfl,rfl,rfl,Nat.le_refl _,fun _ _ _=>rfl⟩ (Below.refl _ _)
 exact wpList_append_own w hgd s x t ho base e i z size bytes E.slice hi hz hsize hby hzs E.pos v n xs hs hown ad m c news hx hr.1 hc h1 h63 hbytes hbase fun v' w' h1 h2 _=>h v' w' h1 h2 (hbel w' h2)
def Zo6 (w:World) (base:Nat) (e:TypeId) (v:Value) (l:List UInt8):Prop:=w.ownsRow base e 1 v l.length (l.map byte)
theorem Zo6.nil (w:World) (base:Nat) (e:TypeId):Zo6 w base e (nS) []:=World.ownsRow_nil _ _ _ _
theorem Zo6.alloc {w:World} {base:Nat} {e:TypeId} {v:Value} {l:List UInt8} (h:Zo6 w base e v l) (o:Obj):Zo6 (w.alloc o) base e v l:=World.ownsRow.alloc h o
theorem ownB_of {w:World} {base:Nat} {e:TypeId} {v:Value} {l:List UInt8} {n:Nat} {xs:List Value} (h:w.ownsRow base e 1 v n xs) (hn:n=l.length) (hx:xs=l.map byte):Zo6 w base e v l:=by
 subst hn hx;exact h
theorem own_one (w:World) (base:Nat) (e:TypeId) (x:Value) (hb:base ≤ w.heap.size):(w.alloc (.cells #[x] e)).ownsRow base e 1 (.slice (some ⟨w.heap.size,0,none⟩) 1 1) 1 [x]:=
 World.ownsRow_lit w #[x] 1 hb Zvd rfl
theorem Zml (l:List UInt8):∀ u ∈ l.map byte,u.oneCell'=true:=by
 intro u hu
 obtain ⟨b,_,rfl⟩:=List.mem_map.1 hu
 rfl
theorem conv_own {P:Program} {w:World} (src e dst:TypeId) (hs:P.underlying src=some (.slice e)) (he:P.underlying e=some (.int .u8)) (hd:P.underlying dst=some .string)
 {base:Nat} {v:Value} {l:List UInt8} (h:Zo6 w base e v l):(convert src dst v).run P w = .ok (str l) w:=by
 rcases h.2 with ⟨rfl,hn⟩ | ⟨g,cap,cur,rfl,hg,hh,hn,hc,hsz,ht⟩
 ·obtain rfl:l = []:=List.eq_nil_of_length_eq_zero hn
  rw [run_convert_bytes_nil w src e hs he 0 0 dst hd]
  rfl
 refine Zp6 w src e dst hs he hd g 0 l.length cap l rfl fun i hi=>?_
 have:=World.ownsRow.cellAt (w:=w) (e:=e) (size:=1) h i kW
 rw [Nat.zero_add,this]
 simp [hi]
theorem Zo6.shape {w:World} {base:Nat} {e:TypeId} {v:Value} {l:List UInt8} (h:Zo6 w base e v l):∃ a c,v = .slice a l.length c:=by
 rcases h.2 with ⟨rfl,hn⟩ | ⟨g,cap,cur,rfl,_⟩
 ·exact ⟨none,0,by rw [hn]⟩
 exact ⟨_,_,rfl⟩
end Go.Proofs.YtmdogmpcmkfjpaaGreatDoor.By
namespace Go.Proofs.YtmdogmpcmkfjpaaGreatDoor.Dt
open Go.ChangeShapes Go.WideShapes Go.RowKit Go.Proofs.YtmdogmpcmkfjpaaGreatDoor.By
section
variable {H:Type} {enc:TypeId × Value→H} {P:Program} {w:World} {base:Nat} {spare:Nat→Bool} {held:Bool}
def Lim (P:Program) (t:TypeId) (d:DataW H):Prop:=∀ n ∈ d.weights P t,n ≤ 140737488351232
theorem lim_arg {ts:List TypeId} {ds:List (DataW H)} (h:(DataW.weightsEach P ts ds).all (· ≤ reachBytes)=true) {j:Nat} {t:TypeId} {d:DataW H} (ht:ts[j]? = some t) (hd:ds[j]? = some d):Lim P t d:=by
 intro n hn
 have:=List.all_eq_true.1 h n (DataW.weights_mem_each ht hd n hn)
 exact of_decide_eq_true this
theorem Zjg {e:TypeId} : ∀ {l:List (DataW H)} {d:DataW H},d ∈ l→∀ n ∈ d.weights P e,n ∈ DataW.weightsAll P e l
 | x :: l,d,hd,n,hn=>by
  simp only [DataW.weightsAll,List.mem_append]
  rcases List.mem_cons.1 hd with rfl | hd
  ·exact .inl hn
  ·exact .inr (Zjg hd n hn)
 | [],_,hd,_,_=>by cases hd
def Zdt (P:Program) (t:TypeId) (i:Nat):Option (TypeId × Nat):=
 match P.underlying t with
 | some (.struct fs)=>(fs[i]?).map fun f=>(f.type,f.offset)
 | _=>none
theorem Zel {t ty:TypeId} {off sz i fuel:Nat} {cs:List Value} {x:DataW H × List MemPlace} (h:DataW.trod enc P w base spare held fuel t cs=some x) (hf:Zdt P t i=some (ty,off)) (hs:P.cellsOf ty=sz) :
 cs.length=P.cellsOf t∧∃ n y,n < fuel∧DataW.trod enc P w base spare held n ty ((cs.drop off).take sz)=some y∧(Lim P t x.1→Lim P ty y.1):=by
 unfold Zdt at hf
 split at hf
 ·rename_i fs ht
  obtain ⟨xs,n,rfl,hxx,hl,hx,hall⟩:=DataW.trod_struct ht h
  cases hi:fs[i]? with
  | none=>rw [hi] at hf;simp at hf
  | some f=>
   rw [hi] at hf
   simp only [Option.map_some,Option.some.injEq,Prod.mk.injEq] at hf
   obtain ⟨rfl,rfl⟩:=hf
   have:=hall i f hi
   rw [hs] at this
   have hlt:i < fs.size:=(Array.getElem?_eq_some_iff.1 hi).1
   rw [List.getElem?_eq_getElem kW] at this
   refine ⟨hl,n,_,Nat.lt_succ_self n,this,fun hL m hm=>hL m ?_⟩
   exact ks53
 simp at hf
theorem u8_of {t:TypeId} {fuel:Nat} {c:Value} {x:DataW H × List MemPlace} (ht:P.underlying t=some (.int .u8)) (h:DataW.trod enc P w base spare held fuel t [c]=some x):∃ n:Nat,c = .int .u8 (n:Int)∧n < 256:=by
 obtain ⟨n,cx,_,wn⟩:=DataW.trod_int ht h
 obtain ⟨l,u⟩:=bounds_u8 wn
 obtain ⟨k,rfl⟩:=Int.eq_ofNat_of_zero_le l
 exact ⟨k,by simpa using cx,by omega⟩
theorem i64_of {t:TypeId} {fuel:Nat} {c:Value} {x:DataW H × List MemPlace} (ht:P.underlying t=some (.int .i64)) (h:DataW.trod enc P w base spare held fuel t [c]=some x):∃ n:Int,c = .int .i64 n∧-9223372036854775808 ≤ n∧n ≤ 9223372036854775807:=by
 obtain ⟨n,cx,_,wn⟩:=DataW.trod_int ht h
 obtain ⟨l,u⟩:=bounds_i64 wn
 exact ⟨n,by simpa using cx,by omega,by omega⟩
theorem Zqm {t:TypeId} {fuel:Nat} {c:Value} {x:DataW H × List MemPlace} (ht:P.underlying t=some .string) (h:DataW.trod enc P w base spare held fuel t [c]=some x) (hL:Lim P t x.1):∃ s:ByteArray,c = .string s∧s.size ≤ 140737488351232:=by
 obtain ⟨s,cx,rfl,hs⟩:=DataW.trod_string ht h
 have:=hL s.data.toList.length (by simp [DataW.weights])
 rw [Array.length_toList,ByteArray.size_data] at this
 exact ⟨s,by simpa using cx,this⟩
structure VType (P:Program) (t:TypeId):Prop where
 size:P.cellsOf t=3
 bytes:P.bytesOf t=32
 f0:∃ ty,Zdt P t 0=some (ty,0)∧P.cellsOf ty=1∧P.underlying ty=some (.int .u8)
 f1:∃ ty,Zdt P t 1=some (ty,1)∧P.cellsOf ty=1∧P.underlying ty=some (.int .i64)
 f2:∃ ty,Zdt P t 2=some (ty,2)∧P.cellsOf ty=1∧P.underlying ty=some .string
theorem list3 {α:Type} {l:List α} (h:l.length=3):∃ a b c,l = [a,b,c]:=by
 match l,h with
 | [a,b,c],_=>exact ⟨a,b,c,rfl⟩
theorem list8 {α:Type} {l:List α} (h:l.length=8):∃ a b c d e f g i,l = [a,b,c,d,e,f,g,i]:=by
 match l,h with
 | [a,b,c,d,e,f,g,i],_=>exact ⟨a,b,c,d,e,f,g,i,rfl⟩
theorem open_V {t:TypeId} (T:VType P t) {fuel:Nat} {cs:List Value} {x:DataW H × List MemPlace} (h:DataW.trod enc P w base spare held fuel t cs=some x) (hL:Lim P t x.1):∃ v:V,cs=v.cells∧v.ok:=by
 obtain ⟨t0,a0,b0,u0⟩:=T.f0
 obtain ⟨t1,a1,b1,u1⟩:=T.f1
 obtain ⟨t2,a2,b2,u2⟩:=T.f2
 obtain ⟨hl,_,_,_,h0,_⟩:=Zel h a0 b0
 obtain ⟨_,_,_,_,h1,_⟩:=Zel h a1 b1
 obtain ⟨_,_,_,_,h2,L2⟩:=Zel h a2 b2
 rw [T.size] at hl
 obtain ⟨c0,c1,c2,rfl⟩:=list3 hl
 obtain ⟨k,rfl,hk⟩:=u8_of u0 h0
 obtain ⟨n,rfl,hn⟩:=i64_of u1 h1
 obtain ⟨s,rfl,hs⟩:=Zqm u2 h2 (L2 hL)
 exact ⟨⟨k,n,s⟩,rfl,hk,hn,hs⟩
structure ExType (P:Program) (t:TypeId):Prop where
 size:P.cellsOf t=8
 bytes:P.bytesOf t=104
 f0:∃ ty,Zdt P t 0=some (ty,0)∧P.cellsOf ty=1∧P.underlying ty=some (.int .u8)
 f1:∃ ty,Zdt P t 1=some (ty,1)∧VType P ty
 f2:∃ ty,Zdt P t 2=some (ty,4)∧P.cellsOf ty=1∧P.underlying ty=some .string
 f3:∃ ty,Zdt P t 3=some (ty,5)∧P.cellsOf ty=1∧P.underlying ty=some .string
 f4:∃ ty,Zdt P t 4=some (ty,6)∧P.cellsOf ty=1∧P.underlying ty=some (.int .i64)
 f5:∃ ty,Zdt P t 5=some (ty,7)∧P.cellsOf ty=1∧P.underlying ty=some (.slice t)
theorem arg_agg {r:Reach} {b0:Nat} {t:TypeId} {fs:Array Field} {v:Value} (ht:P.underlying t=some (.struct fs)) (hv:Value.okWide P w r b0 t v):∃ cs:Array Value,v = .agg cs:=by
 obtain ⟨cs,rfl,_⟩:=okWide_struct ht hv
 exact ⟨cs,rfl⟩
theorem Zty {t ty:TypeId} {i off:Nat} (hf:Zdt P t i=some (ty,off)):∃ fs,P.underlying t=some (.struct fs):=by
 unfold Zdt at hf
 split at hf
 ·rename_i fs ht;exact ⟨fs,ht⟩
 simp at hf
structure Rw where
 hd:Value
 l:List V
def Rw.cells (r:Rw):List Value:=[r.hd]
structure RowsAt (w:World) (v:Value) (rs:List Rw):Prop where
 at_:Zlx 1 Rw.cells w v rs
 rows:∀ r ∈ rs,VsAt w r.hd r.l
def Zpk (n:Nat):List Value:=[.int .u8 (n:Int)]
abbrev Zoy (w:World) (v:Value) (l:List Nat):Prop:=Zlx 1 Zpk w v l
end
theorem vT:VType Tryz.prog 46:=
 ⟨by kernel_rfl,by kernel_rfl,⟨5,by kernel_rfl,by kernel_rfl,by kernel_rfl⟩,⟨2,by kernel_rfl,by kernel_rfl,by kernel_rfl⟩,⟨9,by kernel_rfl,by kernel_rfl,by kernel_rfl⟩⟩
open Go.RowKit Go.Proofs.YtmdogmpcmkfjpaaGreatDoor.By
theorem Zbk (w:World) (a:Addr) (v u:Value) (h:w.cell? a=some u):(w.setCell a v).cell? a=some v:=by
 apply World.cell?_setCell_same
 exact h
theorem Zv (w:World) (k i j:Nat) (v:Value) (h:i ≠ j):(w.setCell ⟨k,i,none⟩ v).cell? ⟨k,j,none⟩=w.cell? ⟨k,j,none⟩:=by
 apply World.cell?_setCell_other
 intro e;cases e;exact h rfl
theorem cell_grown {W w2:World} {r:Option Nat} {b:Nat} (h:W.grownBy w2 r) (hk:b < W.heap.size) (hne:r ≠ some b) (o:Nat):w2.cell? ⟨b,o,none⟩=W.cell? ⟨b,o,none⟩:=
 World.cell?_of_block (w:=W) (h.block b hk (Ne.symm hne))
structure ResBox (k:Nat) (w:World):Prop where
 c0:w.cell? ⟨k,0,none⟩=some (.int .u8 0)
 c1:w.cell? ⟨k,1,none⟩=some (iZ)
 c2:w.cell? ⟨k,2,none⟩=some (eS)
 f0:w.frozen? ⟨k,0,none⟩=false
 f1:w.frozen? ⟨k,1,none⟩=false
 f2:w.frozen? ⟨k,2,none⟩=false
theorem Zht (w:World) (k j i i':Nat) (u:Value) (h:¬ (j=k∧i=i')):(w.setCell ⟨j,i,none⟩ u).cell? ⟨k,i',none⟩=w.cell? ⟨k,i',none⟩:=by
 apply World.cell?_setCell_other
 intro e;cases e;exact h ⟨rfl,rfl⟩
def Box (k:Nat) (cs:List Value) (w:World):Prop:=∀ i u,cs[i]? = some u→w.cell? ⟨k,i,none⟩=some u∧w.frozen? ⟨k,i,none⟩=false
theorem Box.later {k:Nat} {cs:List Value} {w w':World} (h:Box k cs w) (hb:Below w.heap.size w w'):Box k cs w':=fun i u hu=>
 ⟨(hb.cell (p:=⟨k,i,none⟩) (Zd (h i u hu).1)).trans (h i u hu).1,(hb.frozen (p:=⟨k,i,none⟩) (Zd (h i u hu).1)).trans (h i u hu).2⟩
section
variable {w W:World}
theorem Zbd {B j i:Nat} {u:Value} (h:Below B w W) (hj:B ≤ j):Below B w (W.setCell ⟨j,i,none⟩ u):=by
 have hsz:=h.size
 go_grown
end
def Zqe (w:World):Prop:=∃ m:Int,w.cell? ⟨2,0,none⟩=some (.int .i64 m)
theorem Zqe.later {w w':World} (h:Zqe w) (hb:Below w.heap.size w w'):Zqe w':=by
 obtain ⟨m,hm⟩:=h
 exact ⟨m,(hb.cell (Zd hm)).trans hm⟩
theorem maxAt {w:World} (h:w.ShapedOpen Tryz.prog):Zqe w:=Tryz.laysM155.s1_3 w h
def subL (z:UInt8) (new:List UInt8):List UInt8→List UInt8
 | []=>[]
 | c :: l=>if c=z then new ++ subL z new l else c :: subL z new l
theorem index_one (z c:UInt8) (s:List UInt8):Lib.index (c :: s) [z]=if c=z then 0 else if Lib.index s [z] = -1 then -1 else Lib.index s [z] + 1:=by
 rw [Lib.index]
 by_cases hc:c=z
 ·subst hc;simp [List.isPrefixOf]
 have:([z]:List UInt8).isPrefixOf (c :: s)=false:=by simp [List.isPrefixOf,Ne.symm hc]
 rw [this,if_neg hc]
 simp
theorem Ztx {z c:UInt8} (new:List UInt8) (hc:c ≠ z) (k:Nat) (s:List UInt8):Lib.replaceK [z] new k (c :: s)=c :: Lib.replaceK [z] new k s:=by
 cases k with
 | zero=>rfl
 | succ k=>
  have hi:=index_one z c s
  rw [if_neg hc] at hi
  by_cases h:Lib.index s [z] = -1
  ·rw [if_pos h] at hi
   rw [Lib.replaceK,Lib.replaceK,if_pos (beq_iff_eq.2 hi),if_pos (beq_iff_eq.2 h)]
  ·have hge:=Lib.index_ge s [z]
   obtain ⟨i,h1⟩:∃ i:Nat,Lib.index s [z]=i:=⟨(Lib.index s [z]).toNat,by omega⟩
   rw [if_neg h,h1] at hi
   rw [Lib.replaceK_hit [z] new k (c :: s) (i + 1) (by rw [hi];rfl),Lib.replaceK_hit [z] new k s i h1]
   simp
theorem sub_hit (z:UInt8) (new:List UInt8) (k:Nat) (s:List UInt8):Lib.replaceK [z] new (k + 1) (z :: s)=new ++ Lib.replaceK [z] new k s:=by
 rw [Lib.replaceK_hit [z] new k (z :: s) 0 (by rw [index_one,if_pos rfl];rfl)]
 rfl
theorem Zoq {z c:UInt8} (hc:c ≠ z) (s:List UInt8):Lib.count (c :: s) [z]=Lib.count s [z]:=by
 have hi:=index_one z c s
 rw [if_neg hc] at hi
 by_cases h:Lib.index s [z] = -1
 ·rw [if_pos h] at hi
  rw [Lib.count_miss hi,Lib.count_miss h]
 have hge:=Lib.index_ge s [z]
 obtain ⟨i,h1⟩:∃ i:Nat,Lib.index s [z]=i:=⟨(Lib.index s [z]).toNat,by omega⟩
 rw [if_neg h,h1] at hi
 rw [Lib.count_hit (i:=i + 1) kY (by rw [hi];rfl),Lib.count_hit (i:=i) kY h1]
 rfl
theorem Zwm (z:UInt8) (s:List UInt8):Lib.count (z :: s) [z]=1 + Lib.count s [z]:=by
 rw [Lib.count_hit (i:=0) kY (by rw [index_one,if_pos rfl];rfl)]
 rfl
theorem Zpm (z:UInt8) (new:List UInt8):∀ s:List UInt8,Lib.replaceK [z] new (Lib.count s [z]) s=subL z new s
 | []=>by rw [Lib.count_miss (by rfl)];rfl
 | c :: s=>by
  unfold subL
  by_cases hc:c=z
  ·subst hc
   rw [Zwm,Nat.add_comm,sub_hit,Zpm c new s,if_pos rfl]
  ·rw [Zoq hc,Ztx new hc,Zpm z new s,if_neg hc]
theorem cnt_le (z:UInt8):∀ s:List UInt8,Lib.count s [z] ≤ s.length
 | []=>by rw [Lib.count_miss (by rfl)];exact Nat.zero_le _
 | c :: s=>by
  have:=cnt_le z s
  by_cases hc:c=z
  ·subst hc;rw [Zwm,List.length_cons];omega
  ·rw [Zoq hc,List.length_cons];omega
theorem Zkz (z:UInt8) (new s:List UInt8) (h:new ≠ [z]):Lib.replaceAll s [z] new=subL z new s:=by
 unfold Lib.replaceAll Lib.replace Lib.replaceNum
 rw [if_neg (by simpa using Ne.symm h),if_pos (.inl kD)]
 exact Zpm z new s
theorem Zhj {w w':World} {name:String} {cs:Array Value} (h:w.var? Tryz.prog name=some cs) (hb:Below w.heap.size w w'):w'.var? Tryz.prog name=some cs:=by
 unfold World.var? at h ⊢
 cases hg:Tryz.prog.globalNamed name with
 | none=>rw [hg] at h;cases h
 | some g=>
  rw [hg] at h
  simp only [Option.bind_some] at h ⊢
  have hlt:g < w.heap.size:=by
   rcases Nat.lt_or_ge g w.heap.size with h' | h'
   ·exact h'
   ·rw [Array.getElem?_eq_none h'] at h;cases h
  rw [hb.block g hlt]
  exact h
structure LW (w:World):Prop where
 mx:Zqe w
 tab:Lib.TabIs Tryz.prog w "internal/strconv.uint64pow10" .u64 Lib.pow10Tab
 syn:∃ tp p,w.var? Tryz.prog "strconv.ErrSyntax" = some #[.iface tp p]
 rng:∃ tp p,w.var? Tryz.prog "strconv.ErrRange" = some #[.iface tp p]
theorem LW.later {w w':World} (h:LW w) (hb:Below w.heap.size w w'):LW w':=by
 obtain ⟨h1,h2,⟨t,p,h3⟩,⟨u,q,h4⟩⟩:=h
 exact ⟨h1.later hb,Zhj h2 hb,⟨t,p,Zhj h3 hb⟩,⟨u,q,Zhj h4 hb⟩⟩
theorem Zlg:∀ l,subL 39 [39,39] l=Zc0 l
 | []=>rfl
 | c :: l=>by rw [subL,Zc0,Zlg l];rfl
theorem quoteW (s:ByteArray) (w:World) (hm:Zqe w) (hs:s.size ≤ 1000000) :
 Calls Tryz.prog 131 #[.string s,.string ⟨#[39]⟩,.string ⟨#[39,39]⟩] w fun e w'=>e = .returned (str (Zc0 s.data.toList))∧Below w.heap.size w w':=by
 obtain ⟨m,hm⟩:=hm
 have hc:Lib.countB s ⟨#[39]⟩ ≤ s.size:=by
  have:=cnt_le 39 s.data.toList
  rw [Array.length_toList] at this
  exact this
 have:=Tryz.strings_ReplaceAll s ⟨#[39]⟩ ⟨#[39,39]⟩ m w kW hm kD (by
  have e:(ByteArray.mk #[39,39]).size=2:=rfl
  rw [e]
  omega)
 refine this.mono fun e w' h=>⟨?_,h.2⟩
 rw [h.1]
 show Ending.returned (.string ⟨(Lib.replaceAll s.data.toList [39] [39,39]).toArray⟩)=_
 rw [Zkz _ _ _ kD,Zlg]
theorem smallW (c:UInt8) (w:World):Calls Tryz.prog 115 #[byte c] w fun e w'=>e = .returned (.bool (Zdi c))∧w=w':=by
 have hc:=c.toNat_lt
 by_cases h1:97 ≤ c.toNat
 ·have a1:(97:Int) ≤ (c.toNat:Int):=kW
  by_cases h2:c.toNat ≤ 122
  ·have a2:(c.toNat:Int) ≤ 122:=kW
   rw [show Zdi c=true from decide_eq_true ⟨h1,h2⟩]
   clear h1 h2
   go_enter Tryz.func115,Tryz.ntmps115
   go_wp2_with fail
   go_ret
   exact ⟨rfl,rfl⟩
  have a2:¬ (c.toNat:Int) ≤ 122:=kW
  rw [show Zdi c=false from decide_eq_false (fun h=>h2 h.2)]
  clear h1 h2
  go_enter Tryz.func115,Tryz.ntmps115
  go_wp2_with fail
  go_ret
  exact ⟨rfl,rfl⟩
 have a1:¬ (97:Int) ≤ (c.toNat:Int):=kW
 rw [show Zdi c=false from decide_eq_false (fun h=>h1 h.1)]
 clear h1
 go_enter Tryz.func115,Tryz.ntmps115
 go_wp2_with fail
 go_ret
 exact ⟨rfl,rfl⟩
theorem capW (c:UInt8) (w:World):Calls Tryz.prog 116 #[byte c] w fun e w'=>e = .returned (.bool (Zf3 c))∧w=w':=by
 have hc:=c.toNat_lt
 by_cases h1:65 ≤ c.toNat
 ·have a1:(65:Int) ≤ (c.toNat:Int):=kW
  by_cases h2:c.toNat ≤ 90
  ·have a2:(c.toNat:Int) ≤ 90:=kW
   rw [show Zf3 c=true from decide_eq_true ⟨h1,h2⟩]
   clear h1 h2
   go_enter Tryz.func116,Tryz.ntmps116
   go_wp2_with fail
   go_ret
   exact ⟨rfl,rfl⟩
  have a2:¬ (c.toNat:Int) ≤ 90:=kW
  rw [show Zf3 c=false from decide_eq_false (fun h=>h2 h.2)]
  clear h1 h2
  go_enter Tryz.func116,Tryz.ntmps116
  go_wp2_with fail
  go_ret
  exact ⟨rfl,rfl⟩
 have a1:¬ (65:Int) ≤ (c.toNat:Int):=kW
 rw [show Zf3 c=false from decide_eq_false (fun h=>h1 h.1)]
 clear h1
 go_enter Tryz.func116,Tryz.ntmps116
 go_wp2_with fail
 go_ret
 exact ⟨rfl,rfl⟩
theorem digW (c:UInt8) (w:World):Calls Tryz.prog 118 #[byte c] w fun e w'=>e = .returned (.bool (Zdx c))∧w=w':=by
 have hc:=c.toNat_lt
 by_cases h1:48 ≤ c.toNat
 ·have a1:(48:Int) ≤ (c.toNat:Int):=kW
  by_cases h2:c.toNat ≤ 57
  ·have a2:(c.toNat:Int) ≤ 57:=kW
   rw [show Zdx c=true from decide_eq_true ⟨h1,h2⟩]
   clear h1 h2
   go_enter Tryz.func118,Tryz.ntmps118
   go_wp2_with fail
   go_ret
   exact ⟨rfl,rfl⟩
  have a2:¬ (c.toNat:Int) ≤ 57:=kW
  rw [show Zdx c=false from decide_eq_false (fun h=>h2 h.2)]
  clear h1 h2
  go_enter Tryz.func118,Tryz.ntmps118
  go_wp2_with fail
  go_ret
  exact ⟨rfl,rfl⟩
 have a1:¬ (48:Int) ≤ (c.toNat:Int):=kW
 rw [show Zdx c=false from decide_eq_false (fun h=>h1 h.1)]
 clear h1
 go_enter Tryz.func118,Tryz.ntmps118
 go_wp2_with fail
 go_ret
 exact ⟨rfl,rfl⟩
theorem Zp3 (c:UInt8) (w:World):Calls Tryz.prog 73 #[byte c] w fun e w'=>e = .returned (.bool (Zbf c))∧w=w':=by
 have HS:=Lh (fun W=>smallW c W)
 have HC:=Lh (fun W=>capW c W)
 have HD:=Lh (fun W=>digW c W)
 have hr:Zbf c=(Zdi c || Zf3 c || Zdx c || decide (c.toNat=95)):=rfl
 rw [hr]
 clear hr
 generalize Zdi c=s at *
 generalize Zf3 c=p at *
 generalize Zdx c=d at *
 cases s with
 | true=>
  simp only [Bool.true_or]
  go_enter Tryz.func73,Tryz.ntmps73
  go_wp2_with fail
  refine (HS.out _).mono ?_
  rintro e w1 ⟨rfl,rfl⟩
  go_wp2_with fail
  go_ret
  exact ⟨rfl,rfl⟩
 | false=>
  cases p with
  | true=>
   simp only [Bool.true_or,Bool.or_true]
   go_enter Tryz.func73,Tryz.ntmps73
   go_wp2_with fail
   refine (HS.out _).mono ?_
   exact ks76
  | false=>
   cases d with
   | true=>
    simp only [Bool.true_or,Bool.or_true]
    exact ks27
   | false=>
    by_cases h:c.toNat=95
    ·have e1:((c.toNat:Int) == 95)=true:=kQ
     simp only [Bool.false_or,decide_eq_true h]
     clear h
     exact ks27
    ·have e1:((c.toNat:Int) == 95)=false:=kQ
     simp only [Bool.false_or,decide_eq_false h]
     clear h
     exact ks27
theorem nameW (c:UInt8) (w:World):Calls Tryz.prog 142 #[byte c] w fun e w'=>e = .returned (.bool (Zb0 c))∧w=w':=by
 have HI:=Lh (fun W=>Zp3 c W)
 have HC:=Lh (fun W=>capW c W)
 have hr:Zb0 c=(Zbf c && !Zf3 c):=rfl
 rw [hr]
 clear hr
 generalize Zbf c=s at *
 generalize Zf3 c=p at *
 cases s with
 | false=>
  simp only [Bool.false_and]
  go_enter Tryz.func142,Tryz.ntmps142
  go_wp2_with fail
  refine (HI.out _).mono ?_
  rintro e w1 ⟨rfl,rfl⟩
  go_wp2_with fail
  go_ret
  exact ⟨rfl,rfl⟩
 | true=>
  cases p <;> simp only [Bool.true_and,Bool.not_false,Bool.not_true]
  all_goals
   go_enter Tryz.func142,Tryz.ntmps142
   go_wp2_with fail
   refine (HI.out _).mono ?_
   exact ks76
theorem lineW (c:UInt8) (w:World):Calls Tryz.prog 112 #[byte c] w fun e w'=>e = .returned (.bool (Zc4 c))∧w=w':=by
 have hc:=c.toNat_lt
 by_cases h:c.toNat=10
 ·have e1:((c.toNat:Int) != 10)=false:=kQ
  rw [show Zc4 c=false from decide_eq_false (fun e=>e h)]
  clear h
  go_enter Tryz.func112,Tryz.ntmps112
  go_wp2_with fail
  go_ret
  exact ⟨rfl,rfl⟩
 have e1:((c.toNat:Int) != 10)=true:=kQ
 rw [show Zc4 c=true from decide_eq_true h]
 clear h
 go_enter Tryz.func112,Tryz.ntmps112
 go_wp2_with fail
 go_ret
 exact ⟨rfl,rfl⟩
theorem blankW (c:UInt8) (w:World):Calls Tryz.prog 110 #[byte c] w fun e w'=>e = .returned (.bool (Zs c))∧w=w':=by
 have hc:=c.toNat_lt
 by_cases h32:c.toNat=32
 ·have e32:((c.toNat:Int) == 32)=true:=kQ
  rw [show Zs c=true from decide_eq_true kW]
  clear h32
  go_enter Tryz.func110,Tryz.ntmps110
  go_wp2_with fail
  go_ret
  exact ⟨rfl,rfl⟩
 have e32:((c.toNat:Int) == 32)=false:=kQ
 by_cases h9:c.toNat=9
 ·have e9:((c.toNat:Int) == 9)=true:=kQ
  rw [show Zs c=true from decide_eq_true kW]
  clear h32 h9
  go_enter Tryz.func110,Tryz.ntmps110
  go_wp2_with fail
  go_ret
  exact ⟨rfl,rfl⟩
 have e9:((c.toNat:Int) == 9)=false:=kQ
 by_cases h10:c.toNat=10
 ·have e10:((c.toNat:Int) == 10)=true:=kQ
  rw [show Zs c=true from decide_eq_true kW]
  clear h32 h9 h10
  go_enter Tryz.func110,Tryz.ntmps110
  go_wp2_with fail
  go_ret
  exact ⟨rfl,rfl⟩
 have e10:((c.toNat:Int) == 10)=false:=kQ
 by_cases h13:c.toNat=13
 ·have e13:((c.toNat:Int) == 13)=true:=kQ
  rw [show Zs c=true from decide_eq_true kW]
  clear h32 h9 h10 h13
  go_enter Tryz.func110,Tryz.ntmps110
  go_wp2_with fail
  go_ret
  exact ⟨rfl,rfl⟩
 have e13:((c.toNat:Int) == 13)=false:=kQ
 rw [show Zs c=false from decide_eq_false kW]
 clear h32 h9 h10 h13
 go_enter Tryz.func110,Tryz.ntmps110
 go_wp2_with fail
 go_ret
 exact ⟨rfl,rfl⟩
end Go.Proofs.YtmdogmpcmkfjpaaGreatDoor.Dt
namespace Go.Proofs.YtmdogmpcmkfjpaaGreatDoor.By
open Go.RowKit
section
variable {P:Program} {ops:Array Oper} {md:Region.Mode} {C:World→Prop} {n:Nat}
def Znd (P:Program) (md:Region.Mode) (ops:Array Oper) (C:World→Prop) (n:Nat) (L:Array Bool→Act→Prop):Nat→Array Bool→Act→Prop
 | 0,done,a=>L done a
 | f + 1,done,a=>Region.ready md ops done ≠ []∧∀ i ∈ Region.ready md ops done,i < n∧qOp P ops C i (Znd P md ops C n L f (done.setIfInBounds i true)) a
theorem Zje {g:Nat} {L:Array Bool→Act→Prop} {Q':Exit→Act→World→Prop} (hL:∀ done a w,C w→L done a→wpAny P md ops Q' g done a w) :
 ∀ (f:Nat) (done:Array Bool) (a:Act) (w:World),C w→Znd P md ops C n L f done a→wpAny P md ops Q' (f + g) done a w:=by
 intro f
 induction f with
 | zero=>intro done a w hw h;rw [Nat.zero_add];exact hL _ _ _ hw h
 | succ f ih=>
  intro done a w hw h
  rw [show f + 1 + g=(f + g) + 1 by omega]
  exact ⟨fun e=>absurd e h.1,fun i hi=>wpOp_of_qOp hw (fun a' w' hw' k=>ih _ a' w' hw' k) (h.2 i hi).2⟩
theorem Zsn {l:Array Bool} {i:Nat} (h:l.getD i true=false):l.getD i false=false:=getD_both h
theorem Znc {i:Nat} {oi:Oper} {v:Value} {L:Array Bool→Act→Prop} (hi:ops[i]? = some oi) (hsel:∀ (j:Nat) (o:Oper) cs b,ops[j]? = some o→o.op ≠ .select cs b)
 (hs:Region.sinkB md ops n=true) (hc:Region.chainB md ops n=true) (hn:n < ops.size) (hin:i < n) (hdone:∀ done a,L done a→∀ j ∈ Region.ready md ops done,n ≤ j) :
 ∀ (f:Nat) (done:Array Bool) (a:Act),HeadInv md ops n done →
   (∀ j oj,ops[j]? = some oj→j ≠ i→done.getD j true=false→(∀ e ∈ oj.after,Region.binds md e=true→e.on ≠ i)→oi.apart ops oj=true) →
   i ∈ Region.ready md ops done→YieldsIn P ops C oi v a→Znd P md ops C n L f (done.setIfInBounds i true) (a.put oi.dst v)→Znd P md ops C n L (f + 1) done a:=by
 intro f
 induction f with
 | zero=>
  intro done a inv _ hr hy H
  refine ⟨fun e=>(by rw [e] at hr;cases hr),fun j hj=>?_⟩
  have hjn:j < n:=Nat.lt_of_not_le fun hle=>tail_waits hs hc hn inv _ i rfl hin (mem_ready.1 hr).1 j hle hj
  by_cases e:j=i
  ·subst e;exact ⟨hjn,hy.qOp hi H⟩
  ·exact absurd (hdone _ _ H j (ready_mono hj e)) kW
 | succ f ih=>
  intro done a inv hfree hr hy H
  refine ⟨fun e=>(by rw [e] at hr;cases hr),fun j hj=>?_⟩
  have hjn:j < n:=Nat.lt_of_not_le fun hle=>tail_waits hs hc hn inv _ i rfl hin (mem_ready.1 hr).1 j hle hj
  refine ⟨hjn,?_⟩
  by_cases e:j=i
  ·subst e;exact hy.qOp hi H
  obtain ⟨hjun,oj,hoj,hall⟩:=mem_ready.1 hj
  have hno:∀ x ∈ oj.after,Region.binds md x=true→x.on ≠ i:=fun x hx hb heq=>by
   have h1:=hall x hx hb
   rw [heq,Zsn (mem_ready.1 hr).1] at h1
   cases h1
  refine qOp_mono (fun a' h3=>?_) (qOp_put hoj (hfree j oj hoj e hjun hno) (fun cs b=>hsel i oi cs b hi) (fun cs b=>hsel j oj cs b hoj) hy ((H.2 j (ready_mono hj e)).2))
  refine ih _ a' (inv.set hj hjn) (fun k ok hk hki hun hno'=>?_) (ready_mono hr (Ne.symm e)) h3.1 (by rw [Array.setIfInBounds_comm _ _ e];exact h3.2)
  refine hfree k ok hk hki ?_ hno'
  by_cases hjk:j=k
  ·subst hjk;exact hjun
  ·rw [getD_set_ne true hjk] at hun;exact hun
theorem Zrx {g:Nat} {Lq:Act→Prop} (hsel:Region.noSelect ops=true) (hs:Region.sinkB md ops n=true) (hc:Region.chainB md ops n=true) (hn:n < ops.size) :
 ∀ (l:List Oper) (k:Nat) (done:Array Bool) (a:Act),(∀ j,j < l.length→l[j]? = ops[k + j]?)→k + l.length=n→HeadInv md ops n done →
 Region.lexHead md ops g l.length k done=true→wpQuiet P ops C Lq l a→Znd P md ops C n (fun done' a'=>Region.seqB md ops g n done'=true∧Lq a') l.length done a:=by
 intro l
 induction l with
 | nil=>
  intro k done a _ hk _ hB h
  obtain rfl:k=n:=by simpa using hk
  exact ⟨by simpa [Region.lexHead] using hB,h⟩
 | cons o l ih=>
  intro k done a hl hk inv hB h
  have h0:ops[k]? = some o:=by simpa using (hl 0 kY).symm
  simp only [List.length_cons,Region.lexHead,Bool.and_eq_true] at hB
  simp only [List.length_cons] at hk
  obtain ⟨⟨hr,hf⟩,hB'⟩:=hB
  have hr':k ∈ Region.ready md ops done:=by simpa using hr
  have hst:qOp P ops C k (wpQuiet P ops C Lq l) a:=by unfold qOp;simp only [h0];exact h
  obtain ⟨v,hy,hK⟩:=yieldsIn_of_qOp h0 hst
  exact Znc h0 (Region.noSelect_spec hsel) hs hc hn kW (fun done' a' hL=>seqB_ready hL.1) l.length done a inv (Region.free_spec h0 hf) hr' hy
   (ih (k + 1) _ _ (fun j hj=>by have:=hl (j + 1) kb58;simpa [Nat.add_assoc,Nat.add_comm 1 j] using this) kW (inv.set hr' kW) hB' hK)
end
theorem Zaj {P:Program} {id:Nat} {Q:Exit→Act→World→Prop} {a:Act} {w:World} {l:List Oper} (n:Nat) (hm:P.follows .mixedOrders=true) (hB:Region.lexTailB .any l.toArray n=true)
 (h:wpQuiet P l.toArray (fun w'=>∃ e:Later w,w'=lat w e) (fun a'=>∀ w',(∃ e:Later w,w'=lat w e)→wpList P l.toArray Q (l.drop n) a' w') (l.take n) a):(Code.region id l.toArray true).wp P Q a w:=by
 simp only [Region.lexTailB,Bool.and_eq_true,decide_eq_true_eq] at hB
 obtain ⟨⟨⟨⟨hsel,hn⟩,hs⟩,hc⟩,hlex⟩:=hB
 have hn':n < l.length:=by simpa using hn
 have htl:(l.take n).length=n:=kQ
 have hdl:(l.drop n).length=l.toArray.size - n:=kY
 have inv0:HeadInv .any l.toArray n (Array.replicate l.toArray.size false):=
  ⟨by simp,fun j oj _ hl=>kb59,fun t _ ht=>getD_in kb79 (getD_replicate_false _ _)⟩
 have H:=Zrx (md:=.any) (g:=l.toArray.size - n) hsel hs hc hn (l.take n) 0 _ a (fun j hj=>by
  have hj':j < n:=by rw [htl] at hj;exact hj
  simp [hj']) (by simpa using htl) inv0 (by rw [htl];exact hlex) h
 refine wp_region_any hm ?_
 have:=Zje (Q':=Q) (g:=l.toArray.size - n) (fun done' a' w' hw' hL=>by
  have:=wpAny_of_seq (md:=.any) (Q':=Q) (l.drop n) n done' a' w' (fun j=>by simp [List.getElem?_drop]) (by rw [hdl];exact hL.1) (hL.2 w' hw')
  rwa [hdl] at this) _ _ _ { w with drawn:=w.drawn + 1 } ⟨⟨_,Below.drew (Below.refl _ _)⟩,rfl⟩ H
 rw [htl,show n + (l.toArray.size - n)=l.toArray.size by omega] at this
 exact this
def Z7 (ops:Array Oper) (j:Nat):Option Tmp:=(ops[j]?).bind (·.dst)
def Z1 (ops:Array Oper) (us:Nat→Value):Nat→Act→Act
 | 0,a=>a
 | k + 1,a=>(Z1 ops us k a).put (Z7 ops k) (us k)
def Zkq (ops:Array Oper) (n:Nat):Bool:=(List.range n).all fun i=>(List.range i).all fun j=>(Z7 ops j).isNone || Z7 ops j != Z7 ops i
theorem apart_spec {ops:Array Oper} {n i j:Nat} (h:Zkq ops n=true) (hi:i < n) (hj:j < i):∀ d,Z7 ops j=some d→Z7 ops i ≠ some d:=by
 intro d hd he
 have:=List.all_eq_true.1 (List.all_eq_true.1 h i (List.mem_range.2 hi)) j (List.mem_range.2 hj)
 rw [hd,he] at this
 simp at this
theorem put_put (a:Act) (d:Option Tmp) (u v:Value):(a.put d u).put d v=a.put d v:=by
 cases d with
 | none=>rfl
 | some d=>simp [Act.put]
theorem Zui (a:Act) (d:Option Tmp):a.put d ((d.map fun t=>a.tmps.getD t undef).getD undef)=a:=by
 cases d with
 | none=>rfl
 | some d=>
  unfold Act.put
  simp only [Option.map_some,Option.getD_some]
  cases a with
  | mk tmps defers=>
   simp only [Act.mk.injEq,and_true]
   apply Array.ext_getElem?
   intro i
   rw [Array.getElem?_setIfInBounds]
   split
   ·rename_i h
    subst h
    split
    ·rename_i h2;simp [h2]
    ·rename_i h2;rw [Array.getElem?_eq_none kW]
   ·rfl
section
variable {ops:Array Oper} {n:Nat}
theorem Zff (h:Zkq ops n=true) (us:Nat→Value) (i:Nat) (v:Value):∀ k,i < k→k ≤ n→∀ a,(Z1 ops us k a).put (Z7 ops i) v=Z1 ops (fun j=>if j=i then v else us j) k a
 | 0,hi,_,_=>by omega
 | k + 1,hi,hk,a=>by
  have hlow:∀ m,m ≤ i→∀ a,Z1 ops (fun j=>if j=i then v else us j) m a=Z1 ops us m a:=by
   intro m
   induction m with
   | zero=>intro _ a;rfl
   | succ m ih=>
    intro hm a
    rw [Z1,Z1,ih kW,if_neg kW]
  by_cases he:i=k
  ·subst he
   rw [Z1,Z1,put_put,hlow i (Nat.le_refl _),if_pos rfl]
  ·rw [Z1,Z1,← Zff h us i v k kW kW a,if_neg kW]
   refine (Act.put_comm _ _ _ ?_)
   exact fun d hd he'=>apart_spec h (show k < n by omega) (show i < k by omega) d he' hd
theorem Ziq (a0:Act):∃ us:Nat→Value,∀ k,k ≤ n→Z1 ops us k a0=a0:=by
 refine ⟨fun j=>((Z7 ops j).map fun t=>a0.tmps.getD t undef).getD undef,fun k=>?_⟩
 induction k with
 | zero=>intro _;rfl
 | succ k ih=>
  intro hk
  rw [Z1,ih kW]
  exact Zui a0 _
end
def backB (md:Region.Mode) (ops:Array Oper) (n:Nat):Bool:=(List.range n).all fun i=>((ops[i]?).map fun o=>o.after.all fun e=>!Region.binds md e || decide (e.on < i)).getD true
def Zmr (md:Region.Mode) (ops:Array Oper) (n:Nat):Bool:=
 decide (n < ops.size) && Region.sinkB md ops n && Region.chainB md ops n && Zkq ops n && backB md ops n && Region.seqB md ops (ops.size - n) n (Array.replicate n true ++ Array.replicate (ops.size - n) false)
def Grows (P:Program) (ops:Array Oper) (Q:Exit→Act→World→Prop) (Pr:Nat→Value→Nat→Nat→World→Prop) (i:Nat) (a:Act) (w:World):Prop:=
 wpOp P ops Q i (fun a' w'=>∃ v,a'=a.put (Z7 ops i) v∧Below w.heap.size w w'∧Pr i v w.heap.size w'.heap.size w') a w
theorem Zkx {P:Program} {id:Nat} {Q:Exit→Act→World→Prop} {a0:Act} {w:World} {l:List Oper} (n:Nat) (Pr:Nat→Value→Nat→Nat→World→Prop) (hm:P.follows .mixedOrders=true) (hB:Zmr .any l.toArray n=true)
 (hstab:∀ j v s e w1 w2,Pr j v s e w1→Below w1.heap.size w1 w2→Pr j v s e w2)
 (hops:∀ i,i < n→∀ (us:Nat→Value) (ss es:Nat→Nat) w1,Below w.heap.size w w1→(∀ oi,l.toArray[i]? = some oi→∀ e ∈ oi.after,Region.binds .any e=true→Pr e.on (us e.on) (ss e.on) (es e.on) w1)→Grows P l.toArray Q Pr i (Z1 l.toArray us n a0) w1)
 (htail:∀ (us:Nat→Value) (ss es:Nat→Nat) w1,Below w.heap.size w w1→(∀ j,j < n→Pr j (us j) (ss j) (es j) w1)→(∀ j,j < n→w.heap.size ≤ ss j∧es j ≤ w1.heap.size)→(∀ i j,i < n→j < n→i ≠ j→es i ≤ ss j ∨ es j ≤ ss i)→wpList P l.toArray Q (l.drop n) (Z1 l.toArray us n a0) w1):(Code.region id l.toArray true).wp P Q a0 w:=by
 simp only [Zmr,Bool.and_eq_true,decide_eq_true_eq] at hB
 obtain ⟨⟨⟨⟨⟨hn,hs⟩,hc⟩,hap⟩,hback⟩,hseq⟩:=hB
 have hn':n < l.length:=by simpa using hn
 obtain ⟨us0,hus0⟩:=Ziq (ops:=l.toArray) (n:=n) a0
 have main:∀ (f:Nat) (done:Array Bool) (us:Nat→Value) (ss es:Nat→Nat) (w1:World),(done.toList.take n).count false=f→HeadInv .any l.toArray n done→Below w.heap.size w w1 →
  (∀ j,j < n→done.getD j false=true→Pr j (us j) (ss j) (es j) w1∧w.heap.size ≤ ss j∧es j ≤ w1.heap.size)→(∀ i j,i < n→j < n→done.getD i false=true→done.getD j false=true→i ≠ j→es i ≤ ss j ∨ es j ≤ ss i)→wpAny P .any l.toArray Q (f + (l.toArray.size - n)) done (Z1 l.toArray us n a0) w1:=by
  intro f
  induction f with
  | zero=>
   intro done us ss es w1 hcnt inv hw hpr hdis
   have hall:∀ j,j < n→done.getD j false=true:=by
    exact ks37
   have hdone:done=Array.replicate n true ++ Array.replicate (l.toArray.size - n) false:=by
    exact ks41
   rw [Nat.zero_add]
   have hl:=htail us ss es w1 hw (fun j hj=>(hpr j hj (hall j hj)).1) (fun j hj=>(hpr j hj (hall j hj)).2) (fun i j hi hj=>hdis i j hi hj (hall i hi) (hall j hj))
   have hdl:(l.drop n).length=l.toArray.size - n:=kY
   have:=wpAny_of_seq (md:=.any) (Q':=Q) (l.drop n) n done (Z1 l.toArray us n a0) w1 (fun j=>by simp [List.getElem?_drop]) (by rw [hdl,hdone];exact hseq) hl
   rwa [hdl] at this
  | succ f ih=>
   intro done us ss es w1 hcnt inv hw hpr hdis
   have hex:∃ i,i < n∧done.getD i true=false:=by
    exact ks54
   obtain ⟨i0,hi0,hun⟩:=hex
   rw [show f + 1 + (l.toArray.size - n)=(f + (l.toArray.size - n)) + 1 by omega]
   refine ⟨fun hr=>?_,fun i hi=>?_⟩
   ·exfalso
    exact ks9
   ·have hin:i < n:=Nat.lt_of_not_le fun hle=>tail_waits hs hc hn inv _ i0 rfl hi0 hun i hle hi
    obtain ⟨_,oi,hoi,hafter⟩:=mem_ready.1 hi
    have hg:=hops i hin us ss es w1 hw (fun o ho e he hb=>by
     rw [hoi] at ho
     cases ho
     have hd:=hafter e he hb
     have hon:e.on < n:=by
      exact ks48
     exact (hpr e.on hon hd).1)
    refine wpOp_mono (fun a' w' hK=>?_) hg
    obtain ⟨v,rfl,hb,hv⟩:=hK
    rw [Zff hap us i v n hin (Nat.le_refl _)]
    obtain ⟨hlt,hfalse⟩:=Zd4 hi
    refine ih _ _ (fun j=>if j=i then w1.heap.size else ss j) (fun j=>if j=i then w'.heap.size else es j) _ ?_ (inv.set hi hin) (hw.trans (hb.mono hw.size)) (fun j hj hd=>?_) (fun p q hp hq hdp hdq hpq=>?_)
    ·rw [Array.toList_setIfInBounds,List.take_set,List.count_set kb58]
     have e:((done.toList.take n)[i]'kb58 == false)=true:=by simp [hfalse]
     rw [if_pos e,if_neg kD]
     omega
    ·by_cases hji:j=i
     ·subst hji
      simp only [if_true]
      exact ⟨hv,hw.size,Nat.le_refl _⟩
     ·simp only [if_neg hji]
      rw [getD_set_ne false (Ne.symm hji)] at hd
      have h3:=hpr j hj hd
      exact ⟨hstab j _ _ _ _ _ h3.1 hb,h3.2.1,Nat.le_trans h3.2.2 hb.size⟩
    ·by_cases hpi:p=i
     ·subst hpi
      have hqp:q ≠ p:=fun h=>hpq h.symm
      rw [getD_set_ne false hpq] at hdq
      simp only [if_true,if_neg hqp]
      exact .inr (hpr q hq hdq).2.2
     ·rw [getD_set_ne false (Ne.symm hpi)] at hdp
      by_cases hqi:q=i
      ·subst hqi
       simp only [if_true,if_neg hpi]
       exact .inl (hpr p hp hdp).2.2
      ·rw [getD_set_ne false (Ne.symm hqi)] at hdq
       simp only [if_neg hpi,if_neg hqi]
       exact hdis p q hp hq hdp hdq hpq
 have inv0:HeadInv .any l.toArray n (Array.replicate l.toArray.size false):=
  ⟨by simp,fun j oj _ hl=>kb59,fun t _ ht=>getD_in kb79 (getD_replicate_false _ _)⟩
 have:=main n (Array.replicate l.toArray.size false) us0 (fun _=>0) (fun _=>0) w.drew kb37 inv0 (Below.refl _ _).drew (fun j hj hd=>by rw [getD_replicate_false] at hd;cases hd) (fun i j hi hj hd=>by rw [getD_replicate_false] at hd;cases hd)
 exact ks73
section
variable {ops:Array Oper} {n:Nat}
theorem Zpt (a:Act) (d:Option Tmp) (v:Value) (t:Tmp):(a.put d v).tmps.getD t undef=if d=some t∧t < a.tmps.size then v else a.tmps.getD t undef:=by
 cases d with
 | none=>simp [Act.put]
 | some d=>
  unfold Act.put
  simp only [Option.some.injEq]
  rw [Array.getD_eq_getD_getElem?,Array.getD_eq_getD_getElem?,Array.getElem?_setIfInBounds]
  by_cases h:d=t
  ·subst h
   by_cases h2:d < a.tmps.size
   ·simp [h2]
   ·simp [h2]
  ·simp [h]
theorem Zfr (us:Nat→Value) (a:Act):∀ k,(Z1 ops us k a).tmps.size=a.tmps.size
 | 0=>rfl
 | k + 1=>by
  rw [Z1]
  cases hd:Z7 ops k with
  | none=>exact Zfr us a k
  | some d=>simp [Act.put,Zfr us a k]
theorem Zfv (a:Act) (t:Tmp):a.eval (.tmp t)=a.tmps.getD t undef:=rfl
theorem Zfk (us:Nat→Value) (a:Act) (t:Tmp):∀ k,(∀ j,j < k→Z7 ops j ≠ some t)→(Z1 ops us k a).eval (.tmp t)=a.eval (.tmp t)
 | 0,_=>rfl
 | k + 1,h=>by
  have ih:=Zfk us a t k fun j hj=>h j kW
  rw [Zfv] at ih ⊢
  rw [Z1,Zpt,if_neg (fun e=>h k (Nat.lt_succ_self k) e.1)]
  exact ih
theorem eval_at (hap:Zkq ops n=true) (us:Nat→Value) (a:Act) {j:Nat} {t:Tmp} (hd:Z7 ops j=some t) (ht:t < a.tmps.size):∀ k,j < k→k ≤ n→(Z1 ops us k a).eval (.tmp t)=us j
 | 0,hj,_=>by omega
 | k + 1,hj,hk=>by
  by_cases he:j=k
  ·subst he
   rw [Zfv,Z1,Zpt,if_pos ⟨hd,by rw [Zfr];exact ht⟩]
  ·have ih:=eval_at hap us a hd ht k kW kW
   rw [Zfv] at ih ⊢
   rw [Z1,Zpt,if_neg (fun e=>apart_spec hap (show k < n by omega) (show j < k by omega) t hd e.1)]
   exact ih
end
theorem Zjd {P:Program} {id:Nat} {Q:Exit→Act→World→Prop} {a0:Act} {w:World} {l:List Oper} (n:Nat) (Pr:Nat→Value→Nat→Nat→World→Prop) (hm:P.follows .mixedOrders=true) (hB:Zmr .any l.toArray n=true)
 (hstab:∀ j v s e w1 w2,Pr j v s e w1→Below w1.heap.size w1 w2→Pr j v s e w2)
 (hops:∀ i,i < n→∀ (us:Nat→Value) (ss es:Nat→Nat) (A:Act) w1,(∀ t,((List.range n).all fun j=>Z7 l.toArray j != some t)=true→A.eval (.tmp t)=a0.eval (.tmp t))→(∀ j t,j < n→Z7 l.toArray j=some t→t < a0.tmps.size→A.eval (.tmp t)=us j) →
  Below w.heap.size w w1→(∀ oi,l.toArray[i]? = some oi→∀ e ∈ oi.after,Region.binds .any e=true→Pr e.on (us e.on) (ss e.on) (es e.on) w1)→Grows P l.toArray Q Pr i A w1)
 (htail:∀ (us:Nat→Value) (ss es:Nat→Nat) w1,Below w.heap.size w w1→(∀ j,j < n→Pr j (us j) (ss j) (es j) w1)→(∀ j,j < n→w.heap.size ≤ ss j∧es j ≤ w1.heap.size)→(∀ i j,i < n→j < n→i ≠ j→es i ≤ ss j ∨ es j ≤ ss i)→wpList P l.toArray Q (l.drop n) (Z1 l.toArray us n a0) w1):(Code.region id l.toArray true).wp P Q a0 w:=by
 have hap:Zkq l.toArray n=true:=by
  simp only [Zmr,Bool.and_eq_true] at hB
  exact hB.1.1.2
 refine Zkx n Pr hm hB hstab (fun i hi us ss es w1 hb hd=>hops i hi us ss es _ w1 (fun t ht=>?_) (fun j t hj hd ht=>eval_at hap us a0 hd ht n hj (Nat.le_refl _)) hb hd) htail
 refine Zfk us a0 t n fun j hj he=>?_
 have:=List.all_eq_true.1 ht j (List.mem_range.2 hj)
 rw [he] at this
 simp at this
end Go.Proofs.YtmdogmpcmkfjpaaGreatDoor.By
