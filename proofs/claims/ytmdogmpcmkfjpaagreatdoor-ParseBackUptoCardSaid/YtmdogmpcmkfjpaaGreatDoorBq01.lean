import Derived.Lib.ItoaMem
import Derived.Lib.ParseIntB
import Derived.Lib.ParseIntBTie
import Derived.Test.YtmdogmpcmkfjpaaGreatDoorBq00
set_option maxRecDepth 100000
set_option maxHeartbeats 64000000
/- Part. -/
namespace Go.Proofs.YtmdogmpcmkfjpaaGreatDoor.By
open Go.RowKit
def Later (w:World):Type:={ w':World // Below w.heap.size w w' }
instance (w:World):Nonempty (Later w):=⟨⟨w,Below.refl _ _⟩⟩
def lat (w:World) (e:Later w):World:=e.1
theorem Zdr (w:World) (e:Later w):Below w.heap.size w (lat w e):=e.2
theorem Zd {w:World} {p:Addr} {v:Value} (h:w.cell? p=some v):p.block < w.heap.size:=by
 rcases Nat.lt_or_ge p.block w.heap.size with h1 | h1
 ·exact h1
 exfalso
 have h2:w.heap[p.block]? = none:=Array.getElem?_eq_none h1
 unfold World.cell? at h
 rw [h2] at h
 simp at h
theorem Zb {w:World} {p:Addr} {v:Value} (h:w.cell? p=some v):∀ e:Later w,(lat w e).cell? p=some v:=
 fun e=>(e.2.cell (Zd h)).trans h
theorem Zcn {P:Program} {f:FuncId} {args:Array Value} {w:World} {e:Later w} {v:Value}
 (h:Calls P f args (lat w e) fun r w'=>r = .returned v∧Below (lat w e).heap.size (lat w e) w'):Calls P f args (lat w e) fun r w''=>r = .returned v∧∃ m:Later w,w''=lat w m:=
 h.mono fun _ w' ⟨he,hm⟩=>⟨he,⟨w',e.2.trans (hm.mono e.2.size)⟩,rfl⟩
theorem Ze0 {P:Program} {f:FuncId} {args:Array Value} {w:World} {e:Later w} {v:Value}
 (h:Calls P f args (lat w e) fun r w'=>r = .returned v∧lat w e=w'):Calls P f args (lat w e) fun r w''=>r = .returned v∧∃ m:Later w,w''=lat w m:=
 h.mono fun _ _ ⟨he,hm⟩=>⟨he,e,hm.symm⟩
theorem Zj {P:Program} {id:Nat} {Q:Exit→Act→World→Prop} {a:Act} {w:World} {l:List Oper} (hm:P.follows .mixedOrders=true) (hB:Region.lexB .any l.toArray=true)
 (h:wpQuiet P l.toArray (fun w'=>∃ e:Later w,w'=lat w e) (fun a'=>∀ w',(∃ e:Later w,w'=lat w e)→Q .normal a' w') l a):(Code.region id l.toArray true).wp P Q a w:=
 wp_region_quiet (C:=fun w'=>∃ e:Later w,w'=lat w e) hm hB ⟨⟨_,Below.drew (Below.refl _ _)⟩,rfl⟩ kb65
theorem Zu {w:World} {p:World→Prop} (h:∀ w',Below w.heap.size w w'→p w'):∀ w',(∃ e:Later w,w'=lat w e)→p w':=by
 rintro w' ⟨e,rfl⟩
 exact h _ e.2
theorem Zdb {B:Nat} {a w:World} (h:Below B a w) (n:Nat):Below B a (w.drewN n):=⟨h.os,h.tape,h.output,h.size,h.block⟩
theorem str_eq (a b:ByteArray):(a.toList == b.toList)=decide (a=b):=by
 rw [ByteArray.toList_eq,ByteArray.toList_eq,Bool.eq_iff_iff,beq_iff_eq,decide_eq_true_eq]
 exact ⟨fun h=>ByteArray.ext (Array.toList_inj.1 h),fun h=>by rw [h]⟩
end Go.Proofs.YtmdogmpcmkfjpaaGreatDoor.By
namespace Go.Proofs.YtmdogmpcmkfjpaaGreatDoor.Dt
open Go.RowKit Go.Proofs.YtmdogmpcmkfjpaaGreatDoor.By
def Zlx {α:Type} (size:Nat) (cells:α→List Value) (w:World) (v:Value) (l:List α):Prop:=
 ∃ a c,v = .slice a l.length c∧l.length ≤ c∧∀ i x,l[i]? = some x→∃ b o,a=some ⟨b,o,none⟩∧∀ j u,(cells x)[j]? = some u→w.cell? ⟨b,o + i * size + j,none⟩=some u
theorem Zlx.shape {α:Type} {size:Nat} {cells:α→List Value} {w:World} {v:Value} {l:List α} (h:Zlx size cells w v l):∃ a c,v = .slice a l.length c:=by
 obtain ⟨a,c,rfl,_⟩:=h
 exact ⟨a,c,rfl⟩
theorem Zlx.below {α:Type} {size:Nat} {cells:α→List Value} {w w':World} {v:Value} {l:List α} (h:Zlx size cells w v l) (hb:Below w.heap.size w w'):Zlx size cells w' v l:=by
 obtain ⟨a,c,rfl,hc,h⟩:=h
 refine ⟨a,c,rfl,hc,fun i x hx=>?_⟩
 obtain ⟨b,o,e,h'⟩:=h i x hx
 refine ⟨b,o,e,fun j u hu=>?_⟩
 have hk:=h' j u hu
 exact (hb.cell (Zd hk)).trans hk
theorem Zlx.nil {α:Type} (size:Nat) (cells:α→List Value) (w:World):Zlx size cells w (nS) ([]:List α):=
 ⟨none,0,rfl,Nat.le_refl _,fun i x h=>by simp at h⟩
structure V where
 k:Nat
 n:Int
 s:ByteArray
def V.cells (v:V):List Value:=[.int .u8 (v.k:Int),.int .i64 v.n,.string v.s]
def V.ok (v:V):Prop:=v.k < 256∧(-9223372036854775808 ≤ v.n∧v.n ≤ 9223372036854775807)∧v.s.size ≤ 140737488351232
abbrev VsAt (w:World) (v:Value) (l:List V):Prop:=Zlx 3 V.cells w v l
inductive Ex where
 | mk (op:Nat) (v:V) (t m:ByteArray) (n:Int) (kv:Value) (kids:List Ex)
namespace Ex
def op:Ex→Nat | .mk o _ _ _ _ _ _=>o
def v:Ex→V | .mk _ v _ _ _ _ _=>v
def t:Ex→ByteArray | .mk _ _ t _ _ _ _=>t
def m:Ex→ByteArray | .mk _ _ _ m _ _ _=>m
def n:Ex→Int | .mk _ _ _ _ n _ _=>n
def kv:Ex→Value | .mk _ _ _ _ _ kv _=>kv
def kids:Ex→List Ex | .mk _ _ _ _ _ _ l=>l
def cells (x:Ex):List Value:=[.int .u8 (x.op:Int),.int .u8 (x.v.k:Int),.int .i64 x.v.n,.string x.v.s,.string x.t,.string x.m,.int .i64 x.n,x.kv]
abbrev val (x:Ex):Value:=.agg #[.int .u8 (x.op:Int),.int .u8 (x.v.k:Int),.int .i64 x.v.n,.string x.v.s,.string x.t,.string x.m,.int .i64 x.n,x.kv]
section
variable (o:Nat) (v:V) (t m:ByteArray) (n:Int) (kv:Value) (l:List Ex)
end
end Ex
end Go.Proofs.YtmdogmpcmkfjpaaGreatDoor.Dt
namespace Go.Proofs.YtmdogmpcmkfjpaaGreatDoor.By
open Go.RowKit
theorem next {a b c:World} (h:Below a.heap.size a b) (k:Below b.heap.size b c):Below a.heap.size a c:=h.trans (k.mono h.size)
end Go.Proofs.YtmdogmpcmkfjpaaGreatDoor.By
namespace Go.Proofs.YtmdogmpcmkfjpaaGreatDoor.Dt
theorem V.ext' {a b:V} (h1:a.k=b.k) (h2:a.n=b.n) (h3:a.s=b.s):a=b:=by
 cases a;cases b;simp_all
instance:DecidableEq V:=fun a b=>decidable_of_iff (a.k=b.k∧a.n=b.n∧a.s=b.s) ⟨fun h=>V.ext' h.1 h.2.1 h.2.2,fun h=>by rw [h];exact ⟨rfl,rfl,rfl⟩⟩
open Go.Lib
def Zmv:Nat→List UInt8→Option Nat
 | acc,[]=>some acc
 | acc,c :: r=>if 48 ≤ c.toNat∧c.toNat ≤ 57 then Zmv (10 * acc + (c.toNat - 48)) r else none
theorem Zrg {l m:List UInt8} (h:l ≠ []):(l ++ m).head? = l.head? :=by cases l with | nil=>exact absurd rfl h | cons a l=>rfl
theorem Zon (c:UInt8):∀ (l:List UInt8) (acc:Nat),Zmv acc (l ++ [c])=(Zmv acc l).bind fun n=>if 48 ≤ c.toNat∧c.toNat ≤ 57 then some (10 * n + (c.toNat - 48)) else none
 | [],acc=>by simp [Zmv]
 | d :: l,acc=>by
  simp only [List.cons_append,Zmv]
  by_cases h:48 ≤ d.toNat∧d.toNat ≤ 57
  ·rw [if_pos h,if_pos h,Zon c l]
  ·rw [if_neg h,if_neg h];rfl
theorem Zwh:∀ (l:List UInt8) (acc n:Nat),Zmv acc l=some n→acc ≤ n
 | [],acc,n,h=>by simp only [Zmv,Option.some.injEq] at h;omega
 | c :: l,acc,n,h=>by
  simp only [Zmv] at h
  by_cases hd:48 ≤ c.toNat∧c.toNat ≤ 57
  ·rw [if_pos hd] at h
   have:=Zwh l _ n h
   omega
  ·rw [if_neg hd] at h;cases h
theorem Zia (k:Nat) (h:k < 10):(UInt8.ofNat (48 + k)).toNat=48 + k:=by rw [UInt8.toNat_ofNat',Nat.mod_eq_of_lt kW]
theorem Zet {n:Nat} (h:n < 10):decDigits n = [UInt8.ofNat (48 + n)]:=decDigits_one h
theorem Zki {n:Nat} (h:¬ n < 10):decDigits n=decDigits (n / 10) ++ [UInt8.ofNat (48 + n % 10)]:=by rw [decDigits,dif_neg h]
theorem Zmu (n:Nat):Zmv 0 (decDigits n)=some n:=by
 induction n using Nat.strongRecOn with
 | _ n ih=>
  by_cases h:n < 10
  ·rw [Zet h]
   simp only [Zmv]
   rw [Zia n h,if_pos kW]
   congr 1
   omega
  ·rw [Zki h,Zon,ih (n / 10) kW,Option.bind_some,Zia _ (Nat.mod_lt _ kD),if_pos (by have:=Nat.mod_lt n (show 0 < 10 by decide);omega)]
   congr 1
   omega
theorem Zlq (n:Nat):decDigits n ≠ []:=by
 intro h
 by_cases hn:n < 10
 ·rw [Zet hn] at h;cases h
 rw [Zki hn] at h;simp at h
theorem Zrq (n:Nat) (h:0 < n):(decDigits n).head? ≠ some 48:=by
 induction n using Nat.strongRecOn with
 | _ n ih=>
  by_cases hn:n < 10
  ·rw [Zet hn]
   intro e
   have e2:=congrArg UInt8.toNat (Option.some.inj e)
   rw [Zia n hn] at e2
   have:(48:UInt8).toNat=48:=rfl
   omega
  ·rw [Zki hn]
   intro e
   have hne:=Zlq (n / 10)
   rw [Zrg hne] at e
   exact ih (n / 10) kW kW e
theorem Zgv (n:Nat):∃ c,(decDigits n).head? = some c∧48 ≤ c.toNat∧c.toNat ≤ 57:=by
 induction n using Nat.strongRecOn with
 | _ n ih=>
  by_cases hn:n < 10
  ·refine ⟨UInt8.ofNat (48 + n),by rw [Zet hn];rfl,?_⟩
   rw [Zia n hn];omega
  ·rw [Zki hn,Zrg (Zlq _)]
   exact ih (n / 10) kW
theorem Zkh:∀ (k n:Nat),n < 10 ^ k→1 ≤ k→(decDigits n).length ≤ k
 | 0,_,_,h=>by omega
 | k + 1,n,h,_=>by
  by_cases hn:n < 10
  ·rw [Zet hn];simp
  ·rw [Zki hn,List.length_append]
   have hk:1 ≤ k:=by
    rcases k with _ | k
    ·simp at h;omega
    omega
   have:=Zkh k (n / 10) (by rw [Nat.pow_succ] at h;omega) hk
   simp;omega
theorem Zq0 (M:Nat):∀ (l:List UInt8) (acc u:Nat),parseUintM M acc l = .ok u→Zmv acc l=some u
 | [],acc,u,h=>by simp only [parseUintM] at h;injection h with h;rw [h];rfl
 | c :: r,acc,u,h=>by
  simp only [parseUintM] at h
  simp only [Zmv]
  by_cases hc:48 ≤ c.toNat∧c.toNat ≤ 57
  ·rw [if_pos hc] at h ⊢
   split at h
   ·cases h
   ·split at h
    ·cases h
    ·rw [show 10 * acc=acc * 10 by omega]
     exact Zq0 M r _ u h
  ·rw [if_neg hc] at h;cases h
theorem Zq1:∀ (l:List UInt8) (acc u:Nat),Zmv acc l=some u→u ≤ 18446744073709551615→parseUintM 18446744073709551615 acc l = .ok u
 | [],acc,u,h,_=>by simp only [Zmv] at h;rw [← Option.some.inj h];rfl
 | c :: r,acc,u,h,hu=>by
  simp only [Zmv] at h
  simp only [parseUintM]
  by_cases hc:48 ≤ c.toNat∧c.toNat ≤ 57
  ·rw [if_pos hc] at h ⊢
   have hle:=Zwh _ _ _ h
   rw [if_neg kW,if_neg kW,show acc * 10=10 * acc by omega]
   exact Zq1 r _ u h hu
  ·rw [if_neg hc] at h;cases h
def Zc0:List UInt8→List UInt8
 | []=>[]
 | c :: l=>if c=39 then 39 :: 39 :: Zc0 l else c :: Zc0 l
def Zge (n:Nat):UInt8:=if n < 10 then UInt8.ofNat (48 + n) else UInt8.ofNat (87 + n)
def Zir (c:UInt8):Option Nat:=if 48 ≤ c.toNat∧c.toNat ≤ 57 then some (c.toNat - 48) else if 97 ≤ c.toNat∧c.toNat ≤ 102 then some (c.toNat - 87) else none
def Zlm:List UInt8→List UInt8
 | []=>[]
 | c :: l=>Zge (c.toNat / 16) :: Zge (c.toNat % 16) :: Zlm l
theorem Zog (n:Nat) (h:n < 16):Zir (Zge n)=some n:=by
 unfold Zge
 by_cases h1:n < 10
 ·rw [if_pos h1];unfold Zir
  rw [UInt8.toNat_ofNat',Nat.mod_eq_of_lt kW,if_pos kW]
  congr 1;omega
 rw [if_neg h1];unfold Zir
 rw [UInt8.toNat_ofNat',Nat.mod_eq_of_lt kW,if_neg kW,if_pos kW]
 congr 1;omega
theorem Zoi {c:UInt8} {n:Nat} (h:Zir c=some n):Zge n=c∧n < 16:=by
 unfold Zir at h
 by_cases h1:48 ≤ c.toNat∧c.toNat ≤ 57
 ·rw [if_pos h1] at h
  obtain rfl:=Option.some.inj h
  refine ⟨?_,by omega⟩
  unfold Zge
  rw [if_pos kW,show 48 + (c.toNat - 48)=c.toNat by omega]
  exact UInt8.ofNat_toNat
 rw [if_neg h1] at h
 by_cases h2:97 ≤ c.toNat∧c.toNat ≤ 102
 ·rw [if_pos h2] at h
  obtain rfl:=Option.some.inj h
  refine ⟨?_,by omega⟩
  unfold Zge
  rw [if_neg kW,show 87 + (c.toNat - 87)=c.toNat by omega]
  exact UInt8.ofNat_toNat
 rw [if_neg h2] at h;cases h
theorem Zfe:∀ l:List UInt8,(Zc0 l).length ≤ 2 * l.length
 | []=>Nat.le_refl _
 | c :: l=>by
  have:=Zfe l
  simp only [Zc0]
  split <;> simp only [List.length_cons] <;> omega
theorem Zft:∀ l:List UInt8,(Zlm l).length=2 * l.length
 | []=>rfl
 | c :: l=>by simp only [Zlm,List.length_cons,Zft l];omega
theorem Zx (s:ByteArray):s.data.toList.length=s.size:=by rw [Array.length_toList,ByteArray.size_data]
end Go.Proofs.YtmdogmpcmkfjpaaGreatDoor.Dt
