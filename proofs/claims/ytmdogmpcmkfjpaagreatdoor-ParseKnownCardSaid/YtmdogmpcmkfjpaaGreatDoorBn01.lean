import Derived.WalkKit
import Derived.ProofKit
import Derived.Deep.QuietTactic
import Derived.BigQuiet
import Derived.Lib.Hide
import Derived.Lib.ItoaMem
import Derived.Lib.ParseIntB
import Derived.Lib.ParseIntBTie
/- Part of the proof (merged). -/
namespace Go.Proofs.YtmdogmpcmkfjpaaGreatDoor.By
open Go.RowKit
def Later (w:World):Type:={ w':World // Below w.heap.size w w' }
instance (w:World):Nonempty (Later w):=⟨⟨w,Below.refl _ _⟩⟩
def lat (w:World) (e:Later w):World:=e.1
theorem lat_below (w:World) (e:Later w):Below w.heap.size w (lat w e):=e.2
theorem cell_lt {w:World} {p:Addr} {v:Value} (h:w.cell? p=some v):p.block < w.heap.size:=by
 rcases Nat.lt_or_ge p.block w.heap.size with h1 | h1
 ·exact h1
 ·exfalso
  have h2:w.heap[p.block]? = none:=Array.getElem?_eq_none h1
  unfold World.cell? at h
  rw [h2] at h
  simp at h
theorem lat_cell {w:World} {p:Addr} {v:Value} (h:w.cell? p=some v):∀ e:Later w,(lat w e).cell? p=some v:=
 fun e=>(e.2.cell (cell_lt h)).trans h
theorem lat_calls {P:Program} {f:FuncId} {args:Array Value} {w:World} {e:Later w} {v:Value}
 (h:Calls P f args (lat w e) fun r w'=>r = .returned v∧Below (lat w e).heap.size (lat w e) w'):Calls P f args (lat w e) fun r w''=>r = .returned v∧∃ m:Later w,w''=lat w m:=
 h.mono fun _ w' ⟨he,hm⟩=>⟨he,⟨w',e.2.trans (hm.mono e.2.size)⟩,rfl⟩
theorem lat_calls_same {P:Program} {f:FuncId} {args:Array Value} {w:World} {e:Later w} {v:Value}
 (h:Calls P f args (lat w e) fun r w'=>r = .returned v∧lat w e=w'):Calls P f args (lat w e) fun r w''=>r = .returned v∧∃ m:Later w,w''=lat w m:=
 h.mono fun _ _ ⟨he,hm⟩=>⟨he,e,hm.symm⟩
theorem wp_region_later {P:Program} {id:Nat} {Q:Exit→Act→World→Prop} {a:Act} {w:World} {l:List Oper} (hm:P.follows .mixedOrders=true) (hB:Region.lexB .any l.toArray=true)
 (h:wpQuiet P l.toArray (fun w'=>∃ e:Later w,w'=lat w e) (fun a'=>∀ w',(∃ e:Later w,w'=lat w e)→Q .normal a' w') l a):(Code.region id l.toArray true).wp P Q a w:=
 wp_region_quiet (C:=fun w'=>∃ e:Later w,w'=lat w e) hm hB ⟨⟨_,Below.drew (Below.refl _ _)⟩,rfl⟩ (by simpa using h)
theorem later_out {w:World} {p:World→Prop} (h:∀ w',Below w.heap.size w w'→p w'):∀ w',(∃ e:Later w,w'=lat w e)→p w':=by
 rintro w' ⟨e,rfl⟩
 exact h _ e.2
theorem drewN_below {B:Nat} {a w:World} (h:Below B a w) (n:Nat):Below B a (w.drewN n):=⟨h.os,h.tape,h.output,h.size,h.block⟩
theorem str_eq (a b:ByteArray):(a.toList == b.toList)=decide (a=b):=by
 rw [ByteArray.toList_eq,ByteArray.toList_eq,Bool.eq_iff_iff,beq_iff_eq,decide_eq_true_eq]
 exact ⟨fun h=>ByteArray.ext (Array.toList_inj.1 h),fun h=>by rw [h]⟩
end Go.Proofs.YtmdogmpcmkfjpaaGreatDoor.By
namespace Go.Proofs.YtmdogmpcmkfjpaaGreatDoor.Dt
open Go.RowKit Go.Proofs.YtmdogmpcmkfjpaaGreatDoor.By
def SlAt {α:Type} (size:Nat) (cells:α→List Value) (w:World) (v:Value) (l:List α):Prop:=
 ∃ a c,v = .slice a l.length c∧l.length ≤ c∧∀ i x,l[i]? = some x→∃ b o,a=some ⟨b,o,none⟩∧∀ j u,(cells x)[j]? = some u→w.cell? ⟨b,o + i * size + j,none⟩=some u
theorem SlAt.shape {α:Type} {size:Nat} {cells:α→List Value} {w:World} {v:Value} {l:List α} (h:SlAt size cells w v l):∃ a c,v = .slice a l.length c:=by
 obtain ⟨a,c,rfl,_⟩:=h
 exact ⟨a,c,rfl⟩
theorem SlAt.below {α:Type} {size:Nat} {cells:α→List Value} {w w':World} {v:Value} {l:List α} (h:SlAt size cells w v l) (hb:Below w.heap.size w w'):SlAt size cells w' v l:=by
 obtain ⟨a,c,rfl,hc,h⟩:=h
 refine ⟨a,c,rfl,hc,fun i x hx=>?_⟩
 obtain ⟨b,o,e,h'⟩:=h i x hx
 refine ⟨b,o,e,fun j u hu=>?_⟩
 have hk:=h' j u hu
 exact (hb.cell (cell_lt hk)).trans hk
theorem SlAt.nil {α:Type} (size:Nat) (cells:α→List Value) (w:World):SlAt size cells w (.slice none 0 0) ([]:List α):=
 ⟨none,0,rfl,Nat.le_refl _,fun i x h=>by simp at h⟩
structure V where
 k:Nat
 n:Int
 s:ByteArray
def V.cells (v:V):List Value:=[.int .u8 (v.k:Int),.int .i64 v.n,.string v.s]
abbrev VsAt (w:World) (v:Value) (l:List V):Prop:=SlAt 3 V.cells w v l
inductive Ex where
 | mk (op:Nat) (v:V) (t m:ByteArray) (n:Int) (kv:Value) (kids:List Ex)
namespace Ex
def op:Ex→Nat | .mk o _ _ _ _ _ _=>o
def v:Ex→V | .mk _ v _ _ _ _ _=>v
def t:Ex→ByteArray | .mk _ _ t _ _ _ _=>t
def m:Ex→ByteArray | .mk _ _ _ m _ _ _=>m
def n:Ex→Int | .mk _ _ _ _ n _ _=>n
def kv:Ex→Value | .mk _ _ _ _ _ kv _=>kv
def kids:Ex→List Ex | .mk _ _ _ _ _ _ l=>l
def cells (x:Ex):List Value:=[.int .u8 (x.op:Int),.int .u8 (x.v.k:Int),.int .i64 x.v.n,.string x.v.s,.string x.t,.string x.m,.int .i64 x.n,x.kv]
abbrev val (x:Ex):Value:=.agg #[.int .u8 (x.op:Int),.int .u8 (x.v.k:Int),.int .i64 x.v.n,.string x.v.s,.string x.t,.string x.m,.int .i64 x.n,x.kv]
section
variable (o:Nat) (v:V) (t m:ByteArray) (n:Int) (kv:Value) (l:List Ex)
end
end Ex
end Go.Proofs.YtmdogmpcmkfjpaaGreatDoor.Dt
namespace Go.Proofs.YtmdogmpcmkfjpaaGreatDoor.By
open Go.RowKit
theorem next {a b c:World} (h:Below a.heap.size a b) (k:Below b.heap.size b c):Below a.heap.size a c:=h.trans (k.mono h.size)
end Go.Proofs.YtmdogmpcmkfjpaaGreatDoor.By
namespace Go.Proofs.YtmdogmpcmkfjpaaGreatDoor.Dt
theorem V.ext' {a b:V} (h1:a.k=b.k) (h2:a.n=b.n) (h3:a.s=b.s):a=b:=by
 cases a;cases b;simp_all
instance:DecidableEq V:=fun a b=>decidable_of_iff (a.k=b.k∧a.n=b.n∧a.s=b.s) ⟨fun h=>V.ext' h.1 h.2.1 h.2.2,fun h=>by rw [h];exact ⟨rfl,rfl,rfl⟩⟩
open Go.Lib
def decV:Nat→List UInt8→Option Nat
 | acc,[]=>some acc
 | acc,c :: r=>if 48 ≤ c.toNat∧c.toNat ≤ 57 then decV (10 * acc + (c.toNat - 48)) r else none
theorem head_app {l m:List UInt8} (h:l ≠ []):(l ++ m).head? = l.head? :=by cases l with | nil=>exact absurd rfl h | cons a l=>rfl
theorem decV_snoc (c:UInt8):∀ (l:List UInt8) (acc:Nat),decV acc (l ++ [c])=(decV acc l).bind fun n=>if 48 ≤ c.toNat∧c.toNat ≤ 57 then some (10 * n + (c.toNat - 48)) else none
 | [],acc=>by simp [decV]
 | d :: l,acc=>by
  simp only [List.cons_append,decV]
  by_cases h:48 ≤ d.toNat∧d.toNat ≤ 57
  ·rw [if_pos h,if_pos h,decV_snoc c l]
  ·rw [if_neg h,if_neg h];rfl
theorem decV_le:∀ (l:List UInt8) (acc n:Nat),decV acc l=some n→acc ≤ n
 | [],acc,n,h=>by simp only [decV,Option.some.injEq] at h;omega
 | c :: l,acc,n,h=>by
  simp only [decV] at h
  by_cases hd:48 ≤ c.toNat∧c.toNat ≤ 57
  ·rw [if_pos hd] at h
   have:=decV_le l _ n h
   omega
  ·rw [if_neg hd] at h;cases h
theorem digit_nat (k:Nat) (h:k < 10):(UInt8.ofNat (48 + k)).toNat=48 + k:=by rw [UInt8.toNat_ofNat',Nat.mod_eq_of_lt (by omega)]
theorem dec_small {n:Nat} (h:n < 10):decDigits n = [UInt8.ofNat (48 + n)]:=decDigits_one h
theorem dec_big {n:Nat} (h:¬ n < 10):decDigits n=decDigits (n / 10) ++ [UInt8.ofNat (48 + n % 10)]:=by rw [decDigits,dif_neg h]
theorem decV_dec (n:Nat):decV 0 (decDigits n)=some n:=by
 induction n using Nat.strongRecOn with
 | _ n ih=>
  by_cases h:n < 10
  ·rw [dec_small h]
   simp only [decV]
   rw [digit_nat n h,if_pos (by omega)]
   congr 1
   omega
  ·rw [dec_big h,decV_snoc,ih (n / 10) (by omega),Option.bind_some,digit_nat _ (Nat.mod_lt _ (by decide)),if_pos (by have:=Nat.mod_lt n (show 0 < 10 by decide);omega)]
   congr 1
   omega
theorem dec_ne (n:Nat):decDigits n ≠ []:=by
 intro h
 by_cases hn:n < 10
 ·rw [dec_small hn] at h;cases h
 ·rw [dec_big hn] at h;simp at h
theorem dec_head (n:Nat) (h:0 < n):(decDigits n).head? ≠ some 48:=by
 induction n using Nat.strongRecOn with
 | _ n ih=>
  by_cases hn:n < 10
  ·rw [dec_small hn]
   intro e
   have e2:=congrArg UInt8.toNat (Option.some.inj e)
   rw [digit_nat n hn] at e2
   have:(48:UInt8).toNat=48:=rfl
   omega
  ·rw [dec_big hn]
   intro e
   have hne:=dec_ne (n / 10)
   rw [head_app hne] at e
   exact ih (n / 10) (by omega) (by omega) e
theorem dec_head_digit (n:Nat):∃ c,(decDigits n).head? = some c∧48 ≤ c.toNat∧c.toNat ≤ 57:=by
 induction n using Nat.strongRecOn with
 | _ n ih=>
  by_cases hn:n < 10
  ·refine ⟨UInt8.ofNat (48 + n),by rw [dec_small hn];rfl,?_⟩
   rw [digit_nat n hn];omega
  ·rw [dec_big hn,head_app (dec_ne _)]
   exact ih (n / 10) (by omega)
theorem dec_len:∀ (k n:Nat),n < 10 ^ k→1 ≤ k→(decDigits n).length ≤ k
 | 0,_,_,h=>by omega
 | k + 1,n,h,_=>by
  by_cases hn:n < 10
  ·rw [dec_small hn];simp
  ·rw [dec_big hn,List.length_append]
   have hk:1 ≤ k:=by
    rcases k with _ | k
    ·simp at h;omega
    ·omega
   have:=dec_len k (n / 10) (by rw [Nat.pow_succ] at h;omega) hk
   simp;omega
theorem parse_ok (M:Nat):∀ (l:List UInt8) (acc u:Nat),parseUintM M acc l = .ok u→decV acc l=some u
 | [],acc,u,h=>by simp only [parseUintM] at h;injection h with h;rw [h];rfl
 | c :: r,acc,u,h=>by
  simp only [parseUintM] at h
  simp only [decV]
  by_cases hc:48 ≤ c.toNat∧c.toNat ≤ 57
  ·rw [if_pos hc] at h ⊢
   split at h
   ·cases h
   ·split at h
    ·cases h
    ·rw [show 10 * acc=acc * 10 by omega]
     exact parse_ok M r _ u h
  ·rw [if_neg hc] at h;cases h
theorem parse_of:∀ (l:List UInt8) (acc u:Nat),decV acc l=some u→u ≤ 18446744073709551615→parseUintM 18446744073709551615 acc l = .ok u
 | [],acc,u,h,_=>by simp only [decV] at h;rw [← Option.some.inj h];rfl
 | c :: r,acc,u,h,hu=>by
  simp only [decV] at h
  simp only [parseUintM]
  by_cases hc:48 ≤ c.toNat∧c.toNat ≤ 57
  ·rw [if_pos hc] at h ⊢
   have hle:=decV_le _ _ _ h
   rw [if_neg (by omega),if_neg (by omega),show acc * 10=10 * acc by omega]
   exact parse_of r _ u h hu
  ·rw [if_neg hc] at h;cases h
def quoteL:List UInt8→List UInt8
 | []=>[]
 | c :: l=>if c=39 then 39 :: 39 :: quoteL l else c :: quoteL l
def hexC (n:Nat):UInt8:=if n < 10 then UInt8.ofNat (48 + n) else UInt8.ofNat (87 + n)
def hexV (c:UInt8):Option Nat:=if 48 ≤ c.toNat∧c.toNat ≤ 57 then some (c.toNat - 48) else if 97 ≤ c.toNat∧c.toNat ≤ 102 then some (c.toNat - 87) else none
def hexL:List UInt8→List UInt8
 | []=>[]
 | c :: l=>hexC (c.toNat / 16) :: hexC (c.toNat % 16) :: hexL l
theorem hexV_hexC (n:Nat) (h:n < 16):hexV (hexC n)=some n:=by
 unfold hexC
 by_cases h1:n < 10
 ·rw [if_pos h1];unfold hexV
  rw [UInt8.toNat_ofNat',Nat.mod_eq_of_lt (by omega),if_pos (by omega)]
  congr 1;omega
 ·rw [if_neg h1];unfold hexV
  rw [UInt8.toNat_ofNat',Nat.mod_eq_of_lt (by omega),if_neg (by omega),if_pos (by omega)]
  congr 1;omega
theorem hexC_hexV {c:UInt8} {n:Nat} (h:hexV c=some n):hexC n=c∧n < 16:=by
 unfold hexV at h
 by_cases h1:48 ≤ c.toNat∧c.toNat ≤ 57
 ·rw [if_pos h1] at h
  obtain rfl:=Option.some.inj h
  refine ⟨?_,by omega⟩
  unfold hexC
  rw [if_pos (by omega),show 48 + (c.toNat - 48)=c.toNat by omega]
  exact UInt8.ofNat_toNat
 ·rw [if_neg h1] at h
  by_cases h2:97 ≤ c.toNat∧c.toNat ≤ 102
  ·rw [if_pos h2] at h
   obtain rfl:=Option.some.inj h
   refine ⟨?_,by omega⟩
   unfold hexC
   rw [if_neg (by omega),show 87 + (c.toNat - 87)=c.toNat by omega]
   exact UInt8.ofNat_toNat
  ·rw [if_neg h2] at h;cases h
theorem quoteL_len:∀ l:List UInt8,(quoteL l).length ≤ 2 * l.length
 | []=>Nat.le_refl _
 | c :: l=>by
  have:=quoteL_len l
  simp only [quoteL]
  split <;> simp only [List.length_cons] <;> omega
theorem hexL_length:∀ l:List UInt8,(hexL l).length=2 * l.length
 | []=>rfl
 | c :: l=>by simp only [hexL,List.length_cons,hexL_length l];omega
theorem bytes_list (s:ByteArray):s.data.toList.length=s.size:=by rw [Array.length_toList,ByteArray.size_data]
end Go.Proofs.YtmdogmpcmkfjpaaGreatDoor.Dt
