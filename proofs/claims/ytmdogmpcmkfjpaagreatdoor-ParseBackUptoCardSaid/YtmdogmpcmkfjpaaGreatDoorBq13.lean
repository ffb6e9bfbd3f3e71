import Derived.Lib.ItoaMem
import Derived.Laws.Bits64
import Derived.Laws.Concat
import Derived.Test.YtmdogmpcmkfjpaaGreatDoorBq10
import Derived.Test.YtmdogmpcmkfjpaaGreatDoorBq08
import Derived.Test.YtmdogmpcmkfjpaaGreatDoorBq02
import Derived.Test.YtmdogmpcmkfjpaaGreatDoorBq09
import Derived.Test.YtmdogmpcmkfjpaaGreatDoorBq11
import Derived.Test.YtmdogmpcmkfjpaaGreatDoorBq12
import Derived.Test.YtmdogmpcmkfjpaaGreatDoorBq07
set_option maxRecDepth 100000
set_option maxHeartbeats 64000000
/- Part. -/
namespace Go.Proofs.YtmdogmpcmkfjpaaGreatDoor.Dt
open Go.ChangeShapes Go.WideShapes Go.RowKit Go.Proofs.YtmdogmpcmkfjpaaGreatDoor.By
section
variable {H:Type} {enc:TypeId × Value→H} {P:Program} {w:World} {base:Nat} {spare:Nat→Bool} {held:Bool}
structure TkType (P:Program) (t:TypeId):Prop where
 size:P.cellsOf t=4
 bytes:P.bytesOf t=40
 f0:∃ ty,Zdt P t 0=some (ty,0)∧P.cellsOf ty=1∧P.underlying ty=some (.int .u8)
 f1:∃ ty,Zdt P t 1=some (ty,1)∧P.cellsOf ty=1∧P.underlying ty=some .string
 f2:∃ ty,Zdt P t 2=some (ty,2)∧P.cellsOf ty=1∧P.underlying ty=some (.int .u64)
 f3:∃ ty,Zdt P t 3=some (ty,3)∧P.cellsOf ty=1∧P.underlying ty=some (.int .i64)
def Zn0 (s:ByteArray):List Value:=[.string s]
abbrev Zs6 (w:World) (v:Value) (l:List ByteArray):Prop:=Zlx 1 Zn0 w v l
end
theorem at1 {w:World} {a:Option Addr} {n c k:Nat} {l:List ByteArray} {y:ByteArray} (h:Zs6 w (.slice a n c) l) (hk:l[k]? = some y):∃ b o,a=some ⟨b,o,none⟩∧w.cell? ⟨b,o + k,none⟩=some (.string y):=by
 obtain ⟨a',c',e,_,h⟩:=h
 simp only [Value.slice.injEq] at e
 obtain ⟨rfl,_,_⟩:=e
 obtain ⟨b,o,rfl,h'⟩:=h k y hk
 have h0:=h' 0 _ rfl
 simp only [Nat.mul_one,Nat.add_zero] at h0
 exact ⟨b,o,rfl,h0⟩
theorem elS:By.Elem Tryz.prog 23 9 1 16 where
 slice:=kR
 info:=by
  exact ks68
 pos:=kD
def Zjp (l:List ByteArray):List Value:=l.map fun s=>.string s
def Zo5 (w:World) (base:Nat) (v:Value) (l:List ByteArray):Prop:=w.ownsRow base 9 1 v l.length (Zjp l)
theorem Zo5.nil (w:World) (base:Nat):Zo5 w base (nS) []:=World.ownsRow_nil _ _ _ _
theorem Zo5.shape {w:World} {base:Nat} {v:Value} {l:List ByteArray} (h:Zo5 w base v l):∃ a c,v = .slice a l.length c:=by
 rcases h.2 with ⟨rfl,hn⟩ | ⟨g,cap,cur,rfl,_⟩
 ·exact ⟨none,0,by rw [hn]⟩
 exact ⟨_,_,rfl⟩
theorem Zo5.at_ {w:World} {base:Nat} {v:Value} {l:List ByteArray} (h:Zo5 w base v l):Zs6 w v l:=by
 rcases h.2 with ⟨rfl,hn⟩ | ⟨g,cap,cur,rfl,hg,hh,hn,hcap,hsz,ht⟩
 ·obtain rfl:l = []:=List.eq_nil_of_length_eq_zero hn
  exact Zlx.nil _ _ _
 refine ⟨_,cap,rfl,hn,fun i x hx=>⟨g,0,rfl,fun j u hu=>?_⟩⟩
 match j,hu with
 | 0,hu=>
  have:=World.ownsRow.cells h rfl i u (by simp only [Zn0,List.getElem?_cons_zero,Option.some.injEq] at hu;subst hu;simp [Zjp,hx])
  rw [Addr.add_lit] at this
  simpa using this
 | _ + 1,hu=>simp [Zn0] at hu
theorem Zo5.below {w w':World} {base:Nat} {v:Value} {l:List ByteArray} (h:Zo5 w base v l) (hb:Below w.heap.size w w'):Zo5 w' base v l:=
 World.ownsRow.kept (row:=none) h ⟨hb.os,hb.tape,hb.output,hb.size,fun i hi _=>hb.block i hi⟩ kb50
theorem Zo5.snoc {w:World} {base:Nat} {v:Value} {l:List ByteArray} {s:ByteArray} (h:w.ownsRow base 9 1 v (l.length + 1) (Zjp l ++ [.string s])):Zo5 w base v (l ++ [s]):=by
 unfold Zo5
 rw [List.length_append]
 simpa [Zjp] using h
theorem reads_S (w:World) (base:Nat) (s:ByteArray) (hb:base ≤ w.heap.size) (k:Nat) (hk:w.heap.size=k) :
 Reads (w.alloc (.cells #[.string s] 9)) 1 (.slice (some ⟨k,0,none⟩) 1 1) 1 [.string s]:=by
 subst hk
 exact Zh1 (own_one w base _ (.string s) hb)
open Go.Lib
theorem Zjm {t:Tk} (hs:t.s.size ≤ 1000) (hn:t.n < 18446744073709551616):(Zak t).length ≤ 2003:=by
 unfold Zak
 split
 ·rw [Zx];omega
 split
 ·have:=Zkh 20 t.n kW kW;omega
 split
 ·have:=Zfe t.s.data.toList
  exact ks46
 split
 ·have:=Zft t.s.data.toList
  exact ks46
 exact Nat.zero_le _
theorem Zoe:∀ (l:List (List UInt8)),(∀ x ∈ l,x.length ≤ 2003)→(joinL l).length ≤ 2004 * l.length
 | [],_=>Nat.zero_le _
 | [x],h=>by
  have:=h x kY
  simp only [joinL,List.length_cons,List.length_nil];omega
 | x :: y :: l,h=>by
  have h1:=h x kY
  have h2:=Zoe (y :: l) (fun z hz=>h z (List.mem_cons_of_mem _ hz))
  simp only [joinL,List.length_append,List.length_cons] at h2 ⊢;omega
theorem Zpr {s:List UInt8} {ts:List Tk} (h:Zea s = .inr ts):∀ t ∈ ts,okT t∧t.n ≤ 9223372036854775808∧1 ≤ t.k∧t.k ≤ 6:=by
 rw [Zb4] at h
 split at h
 ·cases h
 exact tk_ok _ 0 s (Nat.le_refl _) ts h
theorem tk_le:∀ (f:Nat) (b:Nat) (l:List UInt8),l.length ≤ f→∀ ts,tk b l = .inr ts→ts.length ≤ l.length:=fun f b l hf ts h=>by
 rcases Nat.lt_or_ge l.length ts.length with h1 | h1
 ·exfalso
  have hpos:∀ i,i < ts.length→∀ t,ts[i]? = some t→((b + i:Nat):Int) ≤ t.a:=by
   intro i
   induction i with
   | zero=>
    intro _ t ht
    obtain ⟨p,hp,_⟩:=tk_at f b l hf ts h 0 t ht
    rw [hp];omega
   | succ i ih=>
    intro hi t ht
    obtain ⟨p,hp,_,hbef,_⟩:=tk_at f b l hf ts h (i + 1) t ht
    obtain ⟨u,hu⟩:∃ u,ts[i]? = some u:=⟨ts[i],by simp⟩
    have h2:=ih kW u hu
    have h3:=hbef i u kW hu
    omega
  obtain ⟨t,ht⟩:∃ t,ts[l.length]? = some t:=⟨ts[l.length],by simp⟩
  have h2:=hpos l.length h1 t ht
  obtain ⟨p,hp,hlt,_⟩:=tk_at f b l hf ts h l.length t ht
  omega
 ·exact h1
theorem Zhl {l:List UInt8} {ts:List Tk} (h:Zea l = .inr ts):ts.length ≤ l.length:=by
 rw [Zb4] at h
 split at h
 ·cases h
 exact tk_le _ 0 l (Nat.le_refl _) ts h
theorem Zmc {s:List UInt8} {e a:Nat} (h:Zea s = .inl (e,a)):e ≠ 0∧a ≤ s.length:=by
 rw [Zb4] at h
 split at h
 ·cases h;exact ⟨by decide,by omega⟩
 obtain ⟨_,h2,h3⟩:=tk_bad _ 0 s (Nat.le_refl _) e a h
 exact ⟨h3,by omega⟩
open Go.Shelf Go.RowKit Go.Sort Go.Lib Go.Proofs.YtmdogmpcmkfjpaaGreatDoor.By
theorem holds0 (w:World) (T:TypeId) (nd:Nat) (hs:nd ≤ 24):Holds (fun (b:UInt8)=>Value.int .u8 (b.toNat:Int)) (w.alloc (.cells Lib.zeros24 T)) w.heap.size 0 (Array.replicate nd (0:UInt8)):=fun j hj=>by
 have hj':j < nd:=by simpa using hj
 refine ⟨?_,World.frozen?_alloc_new _ _ _ _⟩
 rw [World.cell?_alloc_new,Lib.zeros24_at _ kW,getElem!_pos _ j hj]
 simp
theorem fin0 (w:World) (o:Obj) (dk:Array UInt8) (k:Nat):∃ os,(putRow (fun (b:UInt8)=>Value.int .u8 (b.toNat:Int)) (w.alloc o) w.heap.size 0 dk).drewN k=grow (w.drewN k) os:=by
 rw [alloc_eq_grow]
 obtain ⟨os',_,e⟩:=putRow_grow_new (fun (b:UInt8)=>Value.int .u8 (b.toNat:Int)) w #[o] w.heap.size 0 dk (Nat.le_refl _)
 exact ⟨os',by rw [e];rfl⟩
theorem fmtUintW (u:Nat) (w:World) (hw:LW w) (hu64:u < 18446744073709551616) :
 Calls Tryz.prog 152 #[.int .u64 (u:Int),.int .i64 10] w fun e w'=>e = .returned (.string ⟨(Lib.decDigits u).toArray⟩)∧Below w.heap.size w w':=by
 have htab:=hw.tab
 clear hw
 by_cases hs:u < 100
 ·have i1:(u:Int) < 100:=kW
  have hwr:IntKind.i64.wrap (u:Int)=(u:Int):=by rw [IntKind.wrap_i64];omega
  clear htab
  go_enter Tryz.func152,Tryz.ntmps152
  go_wp2_with fail
  refine (Tryz.internal_strconv_small u hs w).mono ?_
  rintro e w' ⟨rfl,rfl⟩
  go_wp2_with fail
  go_ret
  exact ⟨rfl,Below.refl _ _⟩
 have i1:¬ (u:Int) < 100:=kW
 have hu1:1 ≤ u:=kW
 have hnd20:Lib.nDigits u ≤ 20:=by have:=Lib.numDigits_eq u hu1 hu64;split at this <;> omega
 have hal:Tryz.prog.arrayLen 194=24:=kR
 have hsl1:∀ W,(Instr.sliceAt 194 (.pointer (some ⟨w.heap.size,0,none⟩)) none (some (.int .i64 (Lib.nDigits u:Int))) none).run Tryz.prog W = .ok (.slice (some ⟨w.heap.size,0,none⟩) (Lib.nDigits u) 24) W:=fun W=>by
  rw [run_sliceAt_array_h W 194 ⟨w.heap.size,0,none⟩ kR .i64 (Lib.nDigits u:Int) kW (by rw [hal];omega)]
  go_simp
 have hH0:=holds0 w 194 (Lib.nDigits u) kW
 have hfmt:=Tryz.internal_strconv_formatBase10 w.heap.size 0 24 u (Array.replicate (Lib.nDigits u) 0) (w.alloc (.cells Lib.zeros24 194)) hH0 (by rw [Array.size_replicate];exact Lib.lt_pow_nDigits u) hu64 (by rw [Array.size_replicate];omega)
 rw [Array.size_replicate] at hfmt
 have HH0:=Lh hH0
 have HFMT:=Lh hfmt
 clear hH0 hal hfmt
 go_enter Tryz.func152,Tryz.ntmps152
 go_wp2_with fail
 refine (Tryz.internal_strconv_numDigits u hu1 hu64 _ (Lib.tabIs_alloc htab _)).mono ?_
 rintro e w' ⟨rfl,rfl⟩
 go_wp2_with fail
 refine HFMT.out.mono ?_
 rintro e w' ⟨rfl,k,v',dk,rfl,hF⟩
 have hcv:(convert 63 9 (.slice (some ⟨w.heap.size,0,none⟩) (Lib.nDigits u) 24)).run Tryz.prog ((putRow (fun (b:UInt8)=>Value.int .u8 (b.toNat:Int)) (w.alloc (.cells Lib.zeros24 194)) w.heap.size 0 dk).drewN k) = .ok (.string ⟨(Lib.decDigits u).toArray⟩) ((putRow (fun (b:UInt8)=>Value.int .u8 (b.toNat:Int)) (w.alloc (.cells Lib.zeros24 194)) w.heap.size 0 dk).drewN k):=by
  have h:=run_convert_bytes_back (P:=Tryz.prog) ((putRow (fun (b:UInt8)=>Value.int .u8 (b.toNat:Int)) (w.alloc (.cells Lib.zeros24 194)) w.heap.size 0 dk).drewN k) 63 9 5 ⟨w.heap.size,0,none⟩ 24 (Lib.decDigits u) kR kR kR (fun j hj=>by
   rw [Lib.row_is_numeral hF j hj,Lib.add_plain,World.cell?_drewN]
   exact cell?_putRow (fun (b:UInt8)=>Value.int .u8 (b.toNat:Int)) _ w.heap.size 0 _ dk HH0.out (by rw [hF.size,Array.size_replicate]) j (by rw [hF.size];rw [Lib.decDigits_length] at hj;exact hj))
  rw [Lib.decDigits_length] at h
  exact h
 go_wp2_with fail
 go_ret
 obtain ⟨os,eo⟩:=fin0 w (.cells Lib.zeros24 194) dk k
 refine ⟨rfl,?_⟩
 rw [eo]
 exact Lib.below_grow _ _ (Nat.le_refl _) _ _
theorem fmtUW (u:Nat) (w:World) (hw:LW w) (hu64:u < 18446744073709551616) :
 Calls Tryz.prog 136 #[.int .u64 (u:Int),.int .i64 10] w fun e w'=>e = .returned (.string ⟨(Lib.decDigits u).toArray⟩)∧Below w.heap.size w w':=by
 go_enter Tryz.func136,Tryz.ntmps136
 go_wp2_with fail
 refine (fmtUintW u w hw hu64).mono ?_
 rintro e w' ⟨rfl,hb⟩
 go_wp2_with fail
 go_ret
 exact ⟨rfl,hb⟩
def Zwv (ao:Option Addr) (L:List UInt8) (co:Nat) (c:UInt8):Nat→Value→World→Prop
 | 0,v,_=>v = .slice ao L.length co
 | 1,v,_=>v = .int .u8 (c.toNat:Int)
 | 2,v,_=>v = .int .u8 ((c.toNat / 16:Nat):Int)
 | 3,v,_=>v=byte (Zge (c.toNat / 16))
 | 4,v,_=>v = .int .u8 (c.toNat:Int)
 | 5,v,_=>v = .int .u8 ((c.toNat % 16:Nat):Int)
 | 6,v,_=>v=byte (Zge (c.toNat % 16))
 | 7,v,w=>∃ b,v = .slice (some ⟨b,0,none⟩) 2 2∧w.cell? ⟨b,0,none⟩=some (byte (Zge (c.toNat / 16)))∧w.cell? ⟨b,1,none⟩=some (byte (Zge (c.toNat % 16)))
 | _,_,_=>True
theorem Zwv.later {ao:Option Addr} {L:List UInt8} {co:Nat} {c:UInt8} : ∀ (j:Nat) (v:Value) (w1 w2:World),Zwv ao L co c j v w1→Below w1.heap.size w1 w2→Zwv ao L co c j v w2
 | 0,_,_,_,h,_=>h
 | 1,_,_,_,h,_=>h
 | 2,_,_,_,h,_=>h
 | 3,_,_,_,h,_=>h
 | 4,_,_,_,h,_=>h
 | 5,_,_,_,h,_=>h
 | 6,_,_,_,h,_=>h
 | 7,_,_,_,⟨b,h0,c0,c1⟩,hb=>⟨b,h0,(hb.cell (Zd c0)).trans c0,(hb.cell (Zd c1)).trans c1⟩
 | _ + 8,_,_,_,h,_=>h
theorem Zoh:∀ l m,Zlm (l ++ m)=Zlm l ++ Zlm m
 | [],_=>rfl
 | c :: l,m=>by simp only [List.cons_append,Zlm,Zoh l m]
theorem Zsm (s:ByteArray) {k:Nat} (h:k < s.size):Zlm (s.data.toList.take (k + 1))=Zlm (s.data.toList.take k) ++ [Zge (s[k].toNat / 16),Zge (s[k].toNat % 16)]:=by
 rw [List.take_succ_eq_append_getElem kb65,Zoh];rfl
theorem and15b (c:UInt8):bits BinOp.and IntKind.u8 (c.toNat:Int) 15=(c.toNat:Int) % 16:=by
 have h:∀ k:Fin 256,bits BinOp.and IntKind.u8 ((k.val:Nat):Int) 15=((k.val:Nat):Int) % 16:=by decide +kernel
 exact h ⟨c.toNat,c.toNat_lt⟩
theorem Zsl:∀ k:Fin 16,(⟨#[48,49,50,51,52,53,54,55,56,57,97,98,99,100,101,102]⟩:ByteArray)[k.val]'(k.isLt)=Zge k.val:=by decide +kernel
theorem Zvj (x:Int) (n:Nat) (e:x=(n:Int)) (h:n < 16) (hx:x.toNat < 16) (W:World) :
 ((Result.ok (Value.int .u8 (((⟨#[48,49,50,51,52,53,54,55,56,57,97,98,99,100,101,102]⟩:ByteArray)[x.toNat]'hx).toNat:Int)) W).andThen fun a w'=>Result.ok (Next.value a) w')=Result.ok (Next.value (byte (Zge n))) W:=by
 subst e
 have:=Zsl ⟨n,h⟩
 simp only [Result.andThen,Int.toNat_natCast] at this ⊢
 rw [this]
theorem lexOneW (k n:Nat) (s:ByteArray) (a:Int) (w:World) (hw:LW w) (hn:n < 18446744073709551616) (hs:s.size ≤ 1000) :
 Calls Tryz.prog 107 #[.agg #[.int .u8 (k:Int),.string s,.int .u64 (n:Int),.int .i64 a]] w fun e w'=>e = .returned (str (Zak ⟨k,s,n,a⟩))∧Below w.heap.size w w':=by
 have HW:=Lh hw
 have HS:=Lh hs
 clear hw hs
 by_cases hk:k=1
 ·subst hk
  go_enter Tryz.func107,Tryz.ntmps107
  go_upto_region 1 with fail
  have y0:(w.alloc (.cells #[.int .u8 (1),.string s,.int .u64 (n:Int),.int .i64 a] 128)).cell? ⟨w.heap.size,0,none⟩=some (.int .u8 (1)):=by go_simp
  have y1:(w.alloc (.cells #[.int .u8 (1),.string s,.int .u64 (n:Int),.int .i64 a] 128)).cell? ⟨w.heap.size,1,none⟩=some (.string s):=by go_simp
  have y2:(w.alloc (.cells #[.int .u8 (1),.string s,.int .u64 (n:Int),.int .i64 a] 128)).cell? ⟨w.heap.size,2,none⟩=some (.int .u64 (n:Int)):=by go_simp
  have HB:Hid (Below w.heap.size w (w.alloc (.cells #[.int .u8 (1),.string s,.int .u64 (n:Int),.int .i64 a] 128))):=Lh (bA)
  have HW1:=Lh (HW.out.later HB.out)
  generalize (w.alloc (.cells #[.int .u8 (1),.string s,.int .u64 (n:Int),.int .i64 a] 128))=w1 at *
  go_wp2_with fail
  go_ret
  exact ⟨by rw [Zey (.inl rfl)];rfl,HB.out⟩
 by_cases hk2:k=2
 ·have hk:=hk2
  subst hk
  go_enter Tryz.func107,Tryz.ntmps107
  go_upto_region 1 with fail
  have y0:(w.alloc (.cells #[.int .u8 (2),.string s,.int .u64 (n:Int),.int .i64 a] 128)).cell? ⟨w.heap.size,0,none⟩=some (.int .u8 (2)):=by go_simp
  have y1:(w.alloc (.cells #[.int .u8 (2),.string s,.int .u64 (n:Int),.int .i64 a] 128)).cell? ⟨w.heap.size,1,none⟩=some (.string s):=by go_simp
  have y2:(w.alloc (.cells #[.int .u8 (2),.string s,.int .u64 (n:Int),.int .i64 a] 128)).cell? ⟨w.heap.size,2,none⟩=some (.int .u64 (n:Int)):=by go_simp
  have HB:Hid (Below w.heap.size w (w.alloc (.cells #[.int .u8 (2),.string s,.int .u64 (n:Int),.int .i64 a] 128))):=Lh (bA)
  have HW1:=Lh (HW.out.later HB.out)
  generalize (w.alloc (.cells #[.int .u8 (2),.string s,.int .u64 (n:Int),.int .i64 a] 128))=w1 at *
  go_wp2_with fail
  go_ret
  exact ⟨by rw [Zey (.inr (.inl rfl))];rfl,HB.out⟩
 by_cases hk6:k=6
 ·have hk:=hk6
  subst hk
  go_enter Tryz.func107,Tryz.ntmps107
  go_upto_region 1 with fail
  have y0:(w.alloc (.cells #[.int .u8 (6),.string s,.int .u64 (n:Int),.int .i64 a] 128)).cell? ⟨w.heap.size,0,none⟩=some (.int .u8 (6)):=by go_simp
  have y1:(w.alloc (.cells #[.int .u8 (6),.string s,.int .u64 (n:Int),.int .i64 a] 128)).cell? ⟨w.heap.size,1,none⟩=some (.string s):=by go_simp
  have y2:(w.alloc (.cells #[.int .u8 (6),.string s,.int .u64 (n:Int),.int .i64 a] 128)).cell? ⟨w.heap.size,2,none⟩=some (.int .u64 (n:Int)):=by go_simp
  have HB:Hid (Below w.heap.size w (w.alloc (.cells #[.int .u8 (6),.string s,.int .u64 (n:Int),.int .i64 a] 128))):=Lh (bA)
  have HW1:=Lh (HW.out.later HB.out)
  generalize (w.alloc (.cells #[.int .u8 (6),.string s,.int .u64 (n:Int),.int .i64 a] 128))=w1 at *
  go_wp2_with fail
  go_ret
  exact ⟨by rw [Zey (.inr (.inr rfl))];rfl,HB.out⟩
 by_cases hk3:k=3
 ·have hk:=hk3
  subst hk
  go_enter Tryz.func107,Tryz.ntmps107
  go_upto_region 1 with fail
  have y0:(w.alloc (.cells #[.int .u8 (3),.string s,.int .u64 (n:Int),.int .i64 a] 128)).cell? ⟨w.heap.size,0,none⟩=some (.int .u8 (3)):=by go_simp
  have y1:(w.alloc (.cells #[.int .u8 (3),.string s,.int .u64 (n:Int),.int .i64 a] 128)).cell? ⟨w.heap.size,1,none⟩=some (.string s):=by go_simp
  have y2:(w.alloc (.cells #[.int .u8 (3),.string s,.int .u64 (n:Int),.int .i64 a] 128)).cell? ⟨w.heap.size,2,none⟩=some (.int .u64 (n:Int)):=by go_simp
  have HB:Hid (Below w.heap.size w (w.alloc (.cells #[.int .u8 (3),.string s,.int .u64 (n:Int),.int .i64 a] 128))):=Lh (bA)
  have HW1:=Lh (HW.out.later HB.out)
  generalize (w.alloc (.cells #[.int .u8 (3),.string s,.int .u64 (n:Int),.int .i64 a] 128))=w1 at *
  go_wp2_with fail
  refine (fmtUW n w1 HW1.out hn).mono ?_
  rintro e w2 ⟨rfl,hb2⟩
  go_wp2_with fail
  go_ret
  exact ⟨by rw [Zik rfl];rfl,next HB.out hb2⟩
 by_cases hk4:k=4
 ·have hk:=hk4
  subst hk
  obtain ⟨q,hq⟩:∃ q,q=Zc0 s.data.toList:=⟨_,rfl⟩
  have HQL:Hid (q.length ≤ 2000):=Lh (by
   have h1:=Zfe s.data.toList
   have h2:=HS.out
   rw [Zx] at h1
   rw [hq];omega)
  have HT:Hid (Zak ⟨4,s,n,a⟩=39 :: (q ++ [39])):=Lh (by rw [hq];exact Zl7 rfl)
  have HQW:Hid (∀ W,Zqe W→Calls Tryz.prog 131 #[.string s,.string ⟨#[39]⟩,.string ⟨#[39,39]⟩] W fun e w'=>e = .returned (.string ⟨q.toArray⟩)∧Below W.heap.size W w'):=Lh (fun W h=>by rw [hq];exact quoteW s W h kb55)
  have hc1:∀ W,(Op.stringOp .add ⟨#[39]⟩ ⟨q.toArray⟩).run Tryz.prog W = .ok (.string (⟨#[39]⟩ ++ ⟨q.toArray⟩)) W:=fun W=>run_string_add_sum (P:=Tryz.prog) W _ _ (by have:=HQL.out;show 1 + q.toArray.size ≤ _;simp;omega)
  have hc2:∀ W,(Op.stringOp .add (⟨#[39]⟩ ++ ⟨q.toArray⟩) ⟨#[39]⟩).run Tryz.prog W = .ok (.string ((⟨#[39]⟩ ++ ⟨q.toArray⟩) ++ ⟨#[39]⟩)) W:=fun W=>run_string_add_sum (P:=Tryz.prog) W _ _ kb38
  clear hq
  go_enter Tryz.func107,Tryz.ntmps107
  go_upto_region 1 with fail
  have y0:(w.alloc (.cells #[.int .u8 (4),.string s,.int .u64 (n:Int),.int .i64 a] 128)).cell? ⟨w.heap.size,0,none⟩=some (.int .u8 (4)):=by go_simp
  have y1:(w.alloc (.cells #[.int .u8 (4),.string s,.int .u64 (n:Int),.int .i64 a] 128)).cell? ⟨w.heap.size,1,none⟩=some (.string s):=by go_simp
  have y2:(w.alloc (.cells #[.int .u8 (4),.string s,.int .u64 (n:Int),.int .i64 a] 128)).cell? ⟨w.heap.size,2,none⟩=some (.int .u64 (n:Int)):=by go_simp
  have HB:Hid (Below w.heap.size w (w.alloc (.cells #[.int .u8 (4),.string s,.int .u64 (n:Int),.int .i64 a] 128))):=Lh (bA)
  have HW1:=Lh (HW.out.later HB.out)
  generalize (w.alloc (.cells #[.int .u8 (4),.string s,.int .u64 (n:Int),.int .i64 a] 128))=w1 at *
  go_wp2_with fail
  refine (HQW.out w1 HW1.out.mx).mono ?_
  rintro e w2 ⟨rfl,hb2⟩
  go_wp2_with fail
  go_ret
  exact ⟨by rw [HT.out];refine congrArg (fun x=>Ending.returned (Value.string x)) (ByteArray.ext ?_);apply Array.toList_inj.1;simp [ByteArray.data_append],next HB.out hb2⟩
 by_cases hk5:k=5
 ·have hk:=hk5
  subst hk
  have HR:Hid (Zak ⟨5,s,n,a⟩=120 :: 39 :: (Zlm s.data.toList ++ [39])):=Lh (Zl6 rfl)
  have hcv:∀ W:World,(convert 9 63 (.string s)).run Tryz.prog W = .ok (.slice (some ⟨W.heap.size,0,none⟩) s.size (grownCap W s.size 0 5)) (Lib.bytesWorld W 5 s):=fun W=>Lib.run_convert_string_bytes W 9 63 5 s Tryz.underlying9 Tryz.underlying63 Tryz.underlying5
  go_enter Tryz.func107,Tryz.ntmps107
  go_upto_region 1 with fail
  have y0:(w.alloc (.cells #[.int .u8 (5),.string s,.int .u64 (n:Int),.int .i64 a] 128)).cell? ⟨w.heap.size,0,none⟩=some (.int .u8 (5)):=by go_simp
  have y1:(w.alloc (.cells #[.int .u8 (5),.string s,.int .u64 (n:Int),.int .i64 a] 128)).cell? ⟨w.heap.size,1,none⟩=some (.string s):=by go_simp
  have y2:(w.alloc (.cells #[.int .u8 (5),.string s,.int .u64 (n:Int),.int .i64 a] 128)).cell? ⟨w.heap.size,2,none⟩=some (.int .u64 (n:Int)):=by go_simp
  have HB:Hid (Below w.heap.size w (w.alloc (.cells #[.int .u8 (5),.string s,.int .u64 (n:Int),.int .i64 a] 128))):=Lh (bA)
  have HW1:=Lh (HW.out.later HB.out)
  generalize (w.alloc (.cells #[.int .u8 (5),.string s,.int .u64 (n:Int),.int .i64 a] 128))=w1 at *
  have HB1:=HB
  have c2':=Lib.cell?_alloc_marked (.cells #[.int .u8 120,.int .u8 39] 5 (2,3)) y1
  have kc:=Lib.run_convert_bytes_const (P:=Tryz.prog) w1 63 5 #[.int .u8 120,.int .u8 39] 2 2 Tryz.underlying63 Tryz.underlying5
  go_wp2_with fail
  have hb2:Below w1.heap.size w1 (w1.alloc (.cells #[.int .u8 120,.int .u8 39] 5 (2,3))):=bA
  have hx0:OwnX (w1.alloc (.cells #[.int .u8 120,.int .u8 39] 5 (2,3))) (Lib.bytesWorld (w1.alloc (.cells #[.int .u8 120,.int .u8 39] 5 (2,3))) 5 s).heap.size 5 (.slice (some ⟨w1.heap.size,0,none⟩) 2 2) [120,39]:=.inr ⟨w1.heap.size,rfl,fun i hi=>by
   rcases i with _ | _ | i
   ·rw [World.cell?_alloc_mark];rfl
   ·rw [World.cell?_alloc_mark];rfl
   ·simp at hi;omega⟩
  have hb3:=Lib.bytesWorld_below (w1.alloc (.cells #[.int .u8 120,.int .u8 39] 5 (2,3))) 5 s
  have hcl:∀ i (hi:i < s.size),(Lib.bytesWorld (w1.alloc (.cells #[.int .u8 120,.int .u8 39] 5 (2,3))) 5 s).cell? ⟨w1.heap.size + 1,i,none⟩=some (.int .u8 ((s[i]).toNat:Int)):=fun i hi=>by
   rw [show w1.heap.size + 1=(w1.alloc (.cells #[.int .u8 120,.int .u8 39] 5 (2,3))).heap.size by simp,Lib.bytesWorld_cell _ _ _ _ hi,List.getD_eq_getElem?_getD,List.getElem?_eq_getElem (by rw [Zx];exact hi)];rfl
  have HX:=Lh (hx0.below hb3)
  have HB3:=Lh (next HB1.out (next hb2 hb3))
  have HCL:=Lh hcl
  clear hb2 hx0 hb3 hcl kc HB1
  clear y0 y1 y2 c2' hcv HB HW1
  generalize grownCap (w1.alloc (.cells #[.int .u8 120,.int .u8 39] 5 (2,3))) s.size 0 5=G
  generalize Lib.bytesWorld (w1.alloc (.cells #[.int .u8 120,.int .u8 39] 5 (2,3))) 5 s=W3 at *
  generalize w1.heap.size + 1=q at *
  go_loopg [3,34] s.size (fun gk ov iv wr=>∃ (k:Nat) (L:List UInt8),iv = .int .i64 (k:Int)∧gk=s.size - k∧k ≤ s.size∧Hid (L=120 :: 39 :: Zlm (s.data.toList.take k))∧Hid (OwnX wr W3.heap.size 5 ov L)∧Hid (Below w.heap.size w wr)∧Hid (Below W3.heap.size W3 wr))
  case atStart=>exact ⟨0,[120,39],rfl,rfl,Nat.zero_le _,Lh rfl,HX,HB3,Lh (Below.refl _ _)⟩
  case round=>
   obtain ⟨k,L,rfl,rfl,hk,HL,HOWN,HBW,HBQ⟩:=hrel
   obtain ⟨ao,co,rfl⟩:=HOWN.out.shape
   have HLEN:Hid (L.length=2 * k + 2):=Lh (by rw [HL.out,List.length_cons,List.length_cons,Zft,List.length_take,Zx];omega)
   by_cases hlt:k < s.size
   ·have ilt:(k:Int) < (s.size:Int):=kW
    have HKK:Hid (wrap64 ((k:Int) + 1)=((k + 1:Nat):Int)):=Lh (by have:=HS.out;unfold wrap64;omega)
    obtain ⟨c,hc⟩:∃ c,c=s[k]:=⟨_,rfl⟩
    have hcell:wr.cell? ⟨q,k,none⟩=some (.int .u8 (c.toNat:Int)):=by rw [hc];exact (HBQ.out.cell (Zd (HCL.out k hlt))).trans (HCL.out k hlt)
    have HNX:Hid (L ++ [Zge (c.toNat / 16),Zge (c.toNat % 16)]=120 :: 39 :: Zlm (s.data.toList.take (k + 1))):=Lh (by
     rw [HL.out,hc,Zsm s hlt];rfl)
    have HLT:=Lh hlt
    clear hlt hc hk
    go_upto_region 15 with fail
    refine Zex 8 (Zwv ao L co c) 52 kY kR kR Zwv.later ?_ ?_
    ·intro i hi A W hother hbW hd
     match i,hi with
      | 0,hi=>
       have h3:=Zt (show A.eval (.tmp 3) = .slice ao L.length co from hother 3 kR)
       clear hother hd hi
       exact Zh rfl (Zf rfl) (.slice ao L.length co) kb0 rfl
      | 1,hi=>
       exact ks66
      | 2,hi=>
       have h39:=(hd _ rfl ⟨1,.data⟩ kY rfl).t (.int .u8 (c.toNat:Int)) 39
       clear hother hd hi
       exact Zh rfl (Zf rfl) (.int .u8 ((c.toNat / 16:Nat):Int)) kb0 rfl
      | 3,hi=>
       have h40:=(hd _ rfl ⟨2,.data⟩ kY rfl).t (.int .u8 ((c.toNat / 16:Nat):Int)) 40
       have hl:=c.toNat_lt
       clear hother hd hi
       exact Zh rfl (Zf rfl) (byte (Zge (c.toNat / 16))) (by simp only [execOp];go_simp;rw [dif_pos (show 0 ≤ (c.toNat:Int) / 16∧(c.toNat:Int) / 16 < 16 by omega)];exact Zvj _ _ kW kW kW _) rfl
      | 4,hi=>
       exact ks66
      | 5,hi=>
       have h42:=(hd _ rfl ⟨4,.data⟩ kY rfl).t (.int .u8 (c.toNat:Int)) 42
       have h16:=and15b c
       clear hother hd hi
       exact Zh rfl (Zf rfl) (.int .u8 ((c.toNat % 16:Nat):Int)) kb0 rfl
      | 6,hi=>
       have h43:=(hd _ rfl ⟨5,.data⟩ kY rfl).t (.int .u8 ((c.toNat % 16:Nat):Int)) 43
       clear hother hd hi
       exact Zh rfl (Zf rfl) (byte (Zge (c.toNat % 16))) (by simp only [execOp];go_simp;rw [dif_pos (show 0 ≤ (c.toNat:Int) % 16∧(c.toNat:Int) % 16 < 16 by omega)];exact Zvj _ _ kW kW kW _) rfl
      | 7,hi=>
       have h41:=(hd _ rfl ⟨3,.data⟩ kY rfl).t (byte (Zge (c.toNat / 16))) 41
       have h44:=(hd _ rfl ⟨6,.data⟩ kY rfl).t (byte (Zge (c.toNat % 16))) 44
       clear hother hd hi
       exact Zg4 rfl (Zf rfl) (.slice (some ⟨W.heap.size,0,none⟩) 2 2) (W.alloc (.cells #[byte (Zge (c.toNat / 16)),byte (Zge (c.toNat % 16))] 5)) kb0 (bA) ⟨_,rfl,by go_simp,by go_simp⟩
      | n + 8,hi=>omega
    intro us W hbW hk
    have h0:us 0 = .slice ao L.length co:=hk 0 kD
    obtain ⟨b,h7,c0,c1⟩:∃ b,us 7 = .slice (some ⟨b,0,none⟩) 2 2∧W.cell? ⟨b,0,none⟩=some (byte (Zge (c.toNat / 16)))∧W.cell? ⟨b,1,none⟩=some (byte (Zge (c.toNat % 16))):=hk 7 kD
    have HO2:=Lh (HOWN.out.below hbW)
    have HBW2:=Lh (next HBW.out hbW)
    have HBQ2:=Lh (next HBQ.out hbW)
    clear hk hbW HOWN HBW HBQ
    simp only [Z1,Z7,List.getElem?_toArray,List.getElem?_cons_zero,List.getElem?_cons_succ,Option.bind_some,Act.put,h0,h7,List.drop_succ_cons,List.drop_zero]
    simp only [List.setIfInBounds_toArray,List.set_cons_zero,List.set_cons_succ]
    refine Zcl rfl (.tmp 38) (.tmp 45) 63 rfl W3.heap.size 5 Num.elem_u8 _ L rfl HO2.out _ [Zge (c.toNat / 16),Zge (c.toNat % 16)] rfl (Zes b [Zge (c.toNat / 16),Zge (c.toNat % 16)] (fun i hi=>by
     rcases i with _ | _ | i
     ·exact c0
     ·exact c1
     ·simp at hi;omega)) kY (by have:=HLEN.out;have:=HS.out;have:=HLT.out;simp;omega) HBQ2.out.size ?_
    intro v' w4 hown hbel
    have HO4:Hid (OwnX w4 W3.heap.size 5 v' (L ++ [Zge (c.toNat / 16),Zge (c.toNat % 16)])):=Lh (.inl hown)
    have HBW4:=Lh (HBW2.out.trans (hbel.mono HB3.out.size))
    have HBQ4:=Lh (HBQ2.out.trans hbel)
    clear hown hbel c0 c1 h0 h7 HO2 HBW2 HBQ2
    go_wp2_with fail
    go_roundg (s.size - (k + 1))
    case measure=>exact Nat.sub_lt_sub_left HLT.out (Nat.lt_succ_self _)
    case rel=>exact ⟨k + 1,_,by first | exact congrArg (Value.int .i64) HKK.out | (simp;exact HKK.out),rfl,HLT.out,HNX,HO4,HBW4,HBQ4⟩
   have ilt:¬ (k:Int) < (s.size:Int):=kW
   have hfull:L ++ [39]=120 :: 39 :: (Zlm s.data.toList ++ [39]):=by
    rw [HL.out,List.take_of_length_le (by rw [Zx];omega)];rfl
   have HF:=Lh hfull
   have hl2:L.length ≤ 2000002:=by have:=HLEN.out;have:=HS.out;omega
   clear hlt hk hfull
   have hA:Below wr.heap.size wr (wr.alloc (.cells #[.int .u8 39] 5)):=bA
   have HA:=Lh hA
   have HOA:=Lh (HOWN.out.below hA)
   have HL2:=Lh hl2
   clear hA hl2
   go_wp2_with (at_builtin;refine Zcl rfl (.tmp 48) (.tmp 49) 63 rfl W3.heap.size 5 Num.elem_u8 _ L rfl HOA.out _ [39] rfl (Zes wr.heap.size [39] (fun i hi=>by
    rcases i with _ | i
    ·go_simp
    ·simp at hi)) kY (by have:=HL2.out;simp;omega) (by have:=HBQ.out.size;simp;omega) ?_;intro v' w4 hown hbel;have hcv2:=convX 63 5 9 Tryz.underlying63 Tryz.underlying5 Tryz.underlying9 (.inl hown);have HBEL:=Lh hbel;clear hown hbel)
   have HB9:=Lh ((HBW.out.trans (HA.out.mono HBW.out.size)).trans (HBEL.out.mono HB3.out.size))
   refine bodyPost_ret (v:=str (L ++ [39])) (by simp [results,Tryz.results107,go_sem]) rfl ⟨by rw [HR.out,HF.out],HB9.out⟩
 have f1:((k:Int) == 1)=false:=by first | (simp;done) | (simp;omega)
 have f2:((k:Int) == 2)=false:=by first | (simp;done) | (simp;omega)
 have f3:((k:Int) == 3)=false:=by first | (simp;done) | (simp;omega)
 have f4:((k:Int) == 4)=false:=by first | (simp;done) | (simp;omega)
 have f5:((k:Int) == 5)=false:=by first | (simp;done) | (simp;omega)
 have f6:((k:Int) == 6)=false:=by first | (simp;done) | (simp;omega)
 have H0:Hid (Zak ⟨k,s,n,a⟩ = []):=Lh (textT_0 (by show k=0 ∨ 6 < k;omega))
 clear hk hk2 hk3 hk4 hk5 hk6
 go_enter Tryz.func107,Tryz.ntmps107
 go_upto_region 1 with fail
 have y0:(w.alloc (.cells #[.int .u8 ((k:Int)),.string s,.int .u64 (n:Int),.int .i64 a] 128)).cell? ⟨w.heap.size,0,none⟩=some (.int .u8 ((k:Int))):=by go_simp
 have y1:(w.alloc (.cells #[.int .u8 ((k:Int)),.string s,.int .u64 (n:Int),.int .i64 a] 128)).cell? ⟨w.heap.size,1,none⟩=some (.string s):=by go_simp
 have y2:(w.alloc (.cells #[.int .u8 ((k:Int)),.string s,.int .u64 (n:Int),.int .i64 a] 128)).cell? ⟨w.heap.size,2,none⟩=some (.int .u64 (n:Int)):=by go_simp
 have HB:Hid (Below w.heap.size w (w.alloc (.cells #[.int .u8 ((k:Int)),.string s,.int .u64 (n:Int),.int .i64 a] 128))):=Lh (bA)
 have HW1:=Lh (HW.out.later HB.out)
 generalize (w.alloc (.cells #[.int .u8 ((k:Int)),.string s,.int .u64 (n:Int),.int .i64 a] 128))=w1 at *
 go_wp2_with fail
 go_ret
 exact ⟨by rw [H0.out];rfl,HB.out⟩
theorem tks_cap2 {w:World} {a:Option Addr} {n c:Nat} {l:List Tk} (h:Zoz w (.slice a n c) l):n=l.length∧l.length ≤ c:=by
 obtain ⟨a',c',e,hc,_⟩:=h
 simp only [Value.slice.injEq] at e
 obtain ⟨_,h1,rfl⟩:=e
 exact ⟨h1,hc⟩
def sT (t:Tk):ByteArray:=⟨(Zak t).toArray⟩
theorem Zlk:∀ l:List (List UInt8),joinL l=Lib.join l [32]
 | []=>rfl
 | [x]=>(Lib.join_one x [32]).symm
 | x :: y :: l=>by
  show x ++ 32 :: joinL (y :: l)=_
  rw [Zlk (y :: l),Lib.join_cons,Lib.join_cons]
  simp [Lib.joinTail]
theorem joinW (v:Value) (l:List ByteArray) (w:World) (h:Zs6 w v l) (hl:(joinL (l.map (·.data.toList))).length ≤ 140737488355328) (hn:l.length ≤ 1000000) :
 Calls Tryz.prog 108 #[v,.string ⟨#[32]⟩] w fun e w'=>e = .returned (str (joinL (l.map (·.data.toList))))∧Below w.heap.size w w':=by
 obtain ⟨a,c,rfl,hc,hx⟩:=h
 cases l with
 | nil=>exact (Tryz.strings_Join_none a c _ w).mono fun _ _ ⟨h1,h2⟩=>⟨h1,h2 ▸ Below.refl _ _⟩
 | cons x l=>
  obtain ⟨b,o,rfl,h0⟩:=hx 0 x rfl
  rw [Zlk] at hl ⊢
  refine (Tryz.strings_Join b o c (x :: l) ⟨#[32]⟩ w (fun j y hy=>?_) (Zd (h0 0 _ rfl)) kW hc hl).mono fun _ _ ⟨h1,h2⟩=>⟨h1,h2⟩
  obtain ⟨b',o',e',h1⟩:=hx j y hy
  cases e'
  have:=h1 0 _ rfl
  simpa using this
theorem out_iff (o:One) (ts:ByteArray) (tk tn n:Nat) (ta:Int):o = .tok tk ts.data.toList tn n ↔ ((outT o).2=0∧Zs3 o=n∧(⟨(outT o).1.k,(outT o).1.s,(outT o).1.n,ta⟩:Tk)=⟨tk,ts,tn,ta⟩)∧∃ k s m j,o = .tok k s m j:=by
 cases o with
 | tok k s m j=>
  simp only [outT,Zs3,One.tok.injEq,Tk.mk.injEq,true_and,and_true]
  constructor
  ·rintro ⟨rfl,rfl,rfl,rfl⟩
   exact ⟨⟨rfl,rfl,ByteArray.ext Array.toArray_toList,rfl⟩,k,_,m,j,rfl,rfl,rfl,rfl⟩
  ·rintro ⟨⟨rfl,rfl,rfl,rfl⟩,_⟩
   exact ⟨rfl,rfl,rfl,rfl⟩
 | bad e m=>simp
theorem Zta {l:List Tk} {t:Tk} (ht:t ∈ l) (h:¬ okT t):Zb1 l=([],2):=by
 unfold Zb1
 rw [if_neg (fun a=>h (a t ht))]
theorem write_ok {l:List Tk} (h:∀ t ∈ l,okT t):Zb1 l=(joinL (l.map Zak),0):=by
 unfold Zb1
 rw [if_pos h]
theorem Ztb (rv:Value) (l:List Tk) (w:World) (hw:LX w) (h:Zoz w rv l) (ho:∀ t ∈ l,t.n < 18446744073709551616) (hl:l.length ≤ 1000000) :
 Calls Tryz.prog 70 #[rv] w fun e w'=>e = .returned (.tuple #[str (Zb1 l).1,.int .i64 ((Zb1 l).2:Int)])∧Below w.heap.size w w':=by
 obtain ⟨ar,cr,rfl⟩:=h.shape
 have HROW:=Lh h
 have HC:=Lh (tks_cap2 h).2
 have HL:=Lh hl
 have HX:=Lh hw
 have HO:=Lh ho
 clear h hl hw ho
 obtain ⟨R,hR⟩:∃ R,R=Zb1 l:=⟨_,rfl⟩
 rw [← hR]
 have HR:=Lh hR
 clear hR
 go_enter Tryz.func70,Tryz.ntmps70
 go_wp2_with fail
 go_loopg [4,13] l.length (fun gk ov iv wr=>∃ k:Nat,iv = .int .i64 (k:Int)∧gk=l.length - k∧k ≤ l.length∧Hid (Below w.heap.size w wr)∧Hid (Zo5 wr w.heap.size ov ((l.take k).map sT))∧Hid (∀ t ∈ l.take k,okT t))
 case atStart=>exact ⟨0,rfl,rfl,Nat.zero_le _,Lh (Below.refl _ _),Lh (Zo5.nil _ _),Lh kY⟩
 case round=>
  obtain ⟨k,rfl,rfl,hkl,HBEL,HOWN,HALL⟩:=hrel
  obtain ⟨ao,co,rfl⟩:=HOWN.out.shape
  have hlen:((l.take k).map sT).length=k:=by rw [List.length_map,List.length_take];omega
  rw [hlen] at HOWN ⊢
  have HLEN:=Lh hlen
  clear hlen
  by_cases hlt:k < l.length
  ·obtain ⟨t,hy⟩:∃ t,l[k]? = some t:=⟨l[k],by simp⟩
   have ilt:(k:Int) < (l.length:Int):=kW
   have icp:(k:Int) < (cr:Int):=by have:=HC.out;omega
   have HLT:=Lh hlt
   have hmem:t ∈ l:=List.mem_of_getElem? hy
   have HMEM:=Lh hmem
   have HTK:Hid (l.take (k + 1)=l.take k ++ [t]):=Lh (by
    have e:l[k]=t:=by rw [List.getElem?_eq_getElem hlt] at hy;exact Option.some.inj hy
    rw [List.take_succ_eq_append_getElem hlt];exact congrArg (fun x=>l.take k ++ [x]) e)
   have HN:=Lh (HO.out t hmem)
   obtain ⟨b,o,rfl,hbz,d0,d1,d2,d3⟩:=at4 (HROW.out.below HBEL.out) hy
   have hbn:Below wr.heap.size wr (wr.alloc (.cells #[.int .u8 (t.k:Int),.string t.s,.int .u64 (t.n:Int),.int .i64 t.a] 128)):=bA
   have HBN:=Lh (next HBEL.out hbn)
   have HON:=Lh (HOWN.out.below hbn)
   obtain ⟨S,hS⟩:∃ S,S=sT t:=⟨_,rfl⟩
   have HS:=Lh hS
   have HONE:Hid (t.s.size ≤ 1000→∀ W,LX W→Calls Tryz.prog 107 #[.agg #[.int .u8 (t.k:Int),.string t.s,.int .u64 (t.n:Int),.int .i64 t.a]] W fun e w'=>e = .returned (.string S)∧Below W.heap.size W w'):=Lh (fun hs W hW=>by rw [hS];exact lexOneW t.k t.n t.s t.a W hW.toLW HN.out hs)
   have HBAD:Hid (¬ okT t→R=([],2)):=Lh (fun h=>by rw [HR.out];exact Zta hmem h)
   have HOKT:Hid (okT t ↔ S.data.toList ≠ []∧t.s.size ≤ 1000∧Zcx S.data.toList = .tok t.k t.s.data.toList t.n S.size):=Lh (by rw [hS];exact Iff.rfl)
   have HSZ:Hid (t.s.size ≤ 1000→S.size ≤ 2003):=Lh (fun hs=>by rw [hS];exact Zjm hs HN.out)
   obtain ⟨tk,ts,tn,ta⟩:=t
   clear hy hlt hkl hbz hbn hmem hS
   go_upto_region 5 with fail
   have y0:(wr.alloc (.cells #[.int .u8 (tk:Int),.string ts,.int .u64 (tn:Int),.int .i64 ta] 128)).cell? ⟨wr.heap.size,0,none⟩=some (.int .u8 (tk:Int)):=by go_simp
   have y1:(wr.alloc (.cells #[.int .u8 (tk:Int),.string ts,.int .u64 (tn:Int),.int .i64 ta] 128)).cell? ⟨wr.heap.size,1,none⟩=some (.string ts):=by go_simp
   have y2:(wr.alloc (.cells #[.int .u8 (tk:Int),.string ts,.int .u64 (tn:Int),.int .i64 ta] 128)).cell? ⟨wr.heap.size,2,none⟩=some (.int .u64 (tn:Int)):=by go_simp
   have y3:(wr.alloc (.cells #[.int .u8 (tk:Int),.string ts,.int .u64 (tn:Int),.int .i64 ta] 128)).cell? ⟨wr.heap.size,3,none⟩=some (.int .i64 ta):=by go_simp
   clear d0 d1 d2 d3
   generalize wr.alloc (.cells #[.int .u8 (tk:Int),.string ts,.int .u64 (tn:Int),.int .i64 ta] 128)=w4 at *
   generalize wr.heap.size=bt at *
   have HY:=Lh (And.intro y0 (And.intro y1 (And.intro y2 y3)))
   simp only at HONE HOKT HSZ HN
   by_cases hs:1000 < ts.size
   ·have es:(1000:Int) < (ts.size:Int):=kW
    have HRS:Hid (R=([],2)):=Lh (HBAD.out (fun h=>by have h1:=h.2.1;simp only at h1;omega))
    clear hs
    go_wp2_with fail
    go_ret2
    exact ⟨by rw [HRS.out];rfl,HBN.out⟩
   have es:¬ (1000:Int) < (ts.size:Int):=kW
   have HS1:Hid (ts.size ≤ 1000):=Lh kW
   clear hs
   go_upto_region 7 with fail
   clear es
   go_wp2_with fail
   refine (HONE.out HS1.out w4 (HX.out.later HBN.out)).mono ?_
   rintro e w5 ⟨rfl,hb5⟩
   have HB5:=Lh (next HBN.out hb5)
   have HO5:=Lh (HON.out.below hb5)
   have HY5:Hid (w5.cell? ⟨bt,0,none⟩=some (.int .u8 (tk:Int))∧w5.cell? ⟨bt,1,none⟩=some (.string ts)∧w5.cell? ⟨bt,2,none⟩=some (.int .u64 (tn:Int))∧w5.cell? ⟨bt,3,none⟩=some (.int .i64 ta)):=Lh ⟨(hb5.cell (Zd y0)).trans y0,(hb5.cell (Zd y1)).trans y1,(hb5.cell (Zd y2)).trans y2,(hb5.cell (Zd y3)).trans y3⟩
   clear y0 y1 y2 y3 hb5 HY
   have hr0:RD w5.heap.size S 0 (w5.alloc (.cells #[.string S,iZ] 125)):=by constructor <;> (simp;try go_simp)
   have hb6:Below w5.heap.size w5 (w5.alloc (.cells #[.string S,iZ] 125)):=bA
   have HRD:=Lh hr0
   have HB6:=Lh (next HB5.out hb6)
   have HO6:=Lh (HO5.out.below hb6)
   have HNB:Hid ((Value.slice ao k co).ownBlock ≠ some w5.heap.size):=Lh (fun e=>Nat.lt_irrefl _ (World.ownsRow.lt HO5.out _ e).2)
   have HRW:Hid (w.heap.size ≤ w5.heap.size∧bt < w5.heap.size):=Lh ⟨HB5.out.size,Zd HY5.out.1⟩
   have HY6:Hid ((w5.alloc (.cells #[.string S,iZ] 125)).cell? ⟨bt,0,none⟩=some (.int .u8 (tk:Int))∧(w5.alloc (.cells #[.string S,iZ] 125)).cell? ⟨bt,1,none⟩=some (.string ts)∧(w5.alloc (.cells #[.string S,iZ] 125)).cell? ⟨bt,2,none⟩=some (.int .u64 (tn:Int))∧(w5.alloc (.cells #[.string S,iZ] 125)).cell? ⟨bt,3,none⟩=some (.int .i64 ta)):=Lh ⟨(hb6.cell (Zd HY5.out.1)).trans HY5.out.1,(hb6.cell (Zd HY5.out.2.1)).trans HY5.out.2.1,(hb6.cell (Zd HY5.out.2.2.1)).trans HY5.out.2.2.1,(hb6.cell (Zd HY5.out.2.2.2)).trans HY5.out.2.2.2⟩
   clear hr0 hb6 HO5 HY5
   go_upto_region 9 with fail
   generalize w5.alloc (.cells #[.string S,iZ] 125)=w6 at *
   obtain ⟨r,hr⟩:∃ r,r=w5.heap.size:=⟨_,rfl⟩
   rw [← hr] at HRD HNB HRW ⊢
   clear hr
   by_cases hS0:S=⟨#[]⟩
   ·subst hS0
    have HRS:Hid (R=([],2)):=Lh (HBAD.out (fun h=>(HOKT.out.1 h).1 rfl))
    go_wp2_with fail
    go_ret2
    exact ⟨by rw [HRS.out];rfl,HB6.out⟩
   have hSl:S.data.toList ≠ []:=fun e=>hS0 (ByteArray.ext (by rw [← Array.toArray_toList (xs:=S.data),e]))
   have es1:(S.toList == [])=false:=by rw [ByteArray.toList_eq];simpa using hSl
   have es2:(S.toList == (⟨#[]⟩:ByteArray).toList)=false:=by rw [str_eq];simpa using hS0
   have HSL:=Lh hSl
   have HSP:Hid (0 < S.size):=Lh (by rw [← Zx];exact List.length_pos_iff.2 hSl)
   clear hS0 hSl
   go_upto_region 11 with fail
   clear es1 es2
   go_wp2_with fail
   refine (tokenW w r S 0 w6 ⟨HX.out,HB6.out,HRW.out.1⟩ HRD.out (by have:=HSZ.out HS1.out;omega) HSP.out).mono ?_
   rintro e w7 ⟨he,hr7,hg7⟩
   rw [List.drop_zero,Nat.zero_add] at hr7
   rw [List.drop_zero] at he
   have HB7:=Lh (Zg5 HB6.out HRW.out.1 hg7 HB6.out.size)
   have HO7:Hid (Zo5 w7 w.heap.size (.slice ao k co) ((l.take k).map sT)):=Lh (World.ownsRow.kept HO6.out hg7 (.inr HNB.out))
   have hY:∀ i,w7.cell? ⟨bt,i,none⟩=w6.cell? ⟨bt,i,none⟩:=fun i=>cell_grown hg7 (Zd HY6.out.1) (fun e=>by have h2:=HRW.out.2;have h3:r=bt:=Option.some.inj e;omega) i
   have HY7:Hid (w7.cell? ⟨bt,0,none⟩=some (.int .u8 (tk:Int))∧w7.cell? ⟨bt,1,none⟩=some (.string ts)∧w7.cell? ⟨bt,2,none⟩=some (.int .u64 (tn:Int))∧w7.cell? ⟨bt,3,none⟩=some (.int .i64 ta)):=Lh ⟨(hY 0).trans HY6.out.1,(hY 1).trans HY6.out.2.1,(hY 2).trans HY6.out.2.2.1,(hY 3).trans HY6.out.2.2.2⟩
   have HR7:=Lh hr7
   clear hY hr7 hg7 HY6 HO6 HRD HNB
   obtain ⟨p,hp⟩:∃ p,p=Zs3 (Zcx S.data.toList):=⟨_,rfl⟩
   obtain ⟨U,hU⟩:∃ U,U=outT (Zcx S.data.toList):=⟨_,rfl⟩
   have hbadc:(∀ k s n m,Zcx S.data.toList ≠ .tok k s n m)→U.2 ≠ 0:=by
    intro hno
    rw [hU]
    cases ho:Zcx S.data.toList with
    | tok k s n m=>exact absurd ho (hno k s n m)
    | bad er m=>exact (Zpx HSL.out ho).2
   have hiff:okT ⟨tk,ts,tn,ta⟩ ↔ (U.2=0∧p=S.size∧(⟨U.1.k,U.1.s,U.1.n,ta⟩:Tk)=⟨tk,ts,tn,ta⟩):=by
    rw [HOKT.out,out_iff (Zcx S.data.toList) ts tk tn S.size ta,← hU,← hp]
    constructor
    ·rintro ⟨_,_,h,_⟩;exact h
    ·intro h
     refine ⟨HSL.out,HS1.out,h,?_⟩
     exact Classical.byContradiction fun hn=>hbadc (fun k s n m e=>hn ⟨k,s,n,m,e⟩) h.1
   rw [Zpw,← hU] at he
   rw [← hp] at HR7
   clear hp hU hbadc HOKT HONE HSZ
   obtain ⟨⟨uk,us,un,ua⟩,code⟩:=U
   simp only at he hiff
   subst he
   obtain ⟨B,hB⟩:∃ B,B=decide (¬ okT ⟨tk,ts,tn,ta⟩):=⟨_,rfl⟩
   have HBB:Hid (B=decide (¬ (code=0∧p=S.size∧(⟨uk,us,un,ta⟩:Tk)=⟨tk,ts,tn,ta⟩))):=Lh (by rw [hB];exact decide_eq_decide.2 (not_congr hiff))
   have HBT:Hid (B=true→R=([],2)):=Lh (fun h=>HBAD.out (of_decide_eq_true (hB ▸ h)))
   have HBF:Hid (B=false→okT ⟨tk,ts,tn,ta⟩):=Lh (fun h=>Classical.byContradiction (of_decide_eq_false (hB ▸ h)))
   clear hB hiff
   have hb8:Below w7.heap.size w7 (w7.alloc (.cells #[.int .u8 (uk:Int),.string us,.int .u64 (un:Int),.int .i64 ua] 128)):=bA
   have hb9:Below w7.heap.size w7 ((w7.alloc (.cells #[.int .u8 (uk:Int),.string us,.int .u64 (un:Int),.int .i64 ua] 128)).setCell ⟨w7.heap.size,3,none⟩ (.int .i64 ta)):=Zbd hb8 (Nat.le_refl _)
   have HB9:=Lh (next HB7.out hb9)
   have HO9:=Lh (HO7.out.below hb9)
   have HR9:=Lh (HR7.out.later hb9)
   have y3:=(hb8.cell (Zd HY7.out.2.2.2)).trans HY7.out.2.2.2
   have HY9:=Lh (And.intro ((hb9.cell (Zd HY7.out.1)).trans HY7.out.1) (And.intro ((hb9.cell (Zd HY7.out.2.1)).trans HY7.out.2.1) (And.intro ((hb9.cell (Zd HY7.out.2.2.1)).trans HY7.out.2.2.1) ((hb9.cell (Zd HY7.out.2.2.2)).trans HY7.out.2.2.2))))
   clear hb8 hb9
   go_upto_region 12 with fail
   have g0:(w7.alloc (.cells #[.int .u8 (uk:Int),.string us,.int .u64 (un:Int),.int .i64 ua] 128)).cell? ⟨w7.heap.size,0,none⟩=some (.int .u8 (uk:Int)):=by go_simp
   have g1:(w7.alloc (.cells #[.int .u8 (uk:Int),.string us,.int .u64 (un:Int),.int .i64 ua] 128)).cell? ⟨w7.heap.size,1,none⟩=some (.string us):=by go_simp
   have g2:(w7.alloc (.cells #[.int .u8 (uk:Int),.string us,.int .u64 (un:Int),.int .i64 ua] 128)).cell? ⟨w7.heap.size,2,none⟩=some (.int .u64 (un:Int)):=by go_simp
   have g3:(w7.alloc (.cells #[.int .u8 (uk:Int),.string us,.int .u64 (un:Int),.int .i64 ua] 128)).cell? ⟨w7.heap.size,3,none⟩=some (.int .i64 ua):=by go_simp
   have q3:(w7.alloc (.cells #[.int .u8 (uk:Int),.string us,.int .u64 (un:Int),.int .i64 ua] 128)).frozen? ⟨w7.heap.size,3,none⟩=false:=by go_simp
   generalize w7.alloc (.cells #[.int .u8 (uk:Int),.string us,.int .u64 (un:Int),.int .i64 ua] 128)=w8 at *
   generalize w7.heap.size=bu at *
   have HG0:=Lh g0
   have HG1:=Lh g1
   have HG2:=Lh g2
   clear g0 g1 g2
   go_upto_region 13 with fail
   have z0:(w8.setCell ⟨bu,3,none⟩ (.int .i64 ta)).cell? ⟨bu,0,none⟩=some (.int .u8 (uk:Int)):=(Zv _ bu 3 0 _ kD).trans HG0.out
   have z1:(w8.setCell ⟨bu,3,none⟩ (.int .i64 ta)).cell? ⟨bu,1,none⟩=some (.string us):=(Zv _ bu 3 1 _ kD).trans HG1.out
   have z2:(w8.setCell ⟨bu,3,none⟩ (.int .i64 ta)).cell? ⟨bu,2,none⟩=some (.int .u64 (un:Int)):=(Zv _ bu 3 2 _ kD).trans HG2.out
   have z3:(w8.setCell ⟨bu,3,none⟩ (.int .i64 ta)).cell? ⟨bu,3,none⟩=some (.int .i64 ta):=Zbk w8 ⟨bu,3,none⟩ _ _ g3
   clear g3 q3 y3
   generalize w8.setCell ⟨bu,3,none⟩ (.int .i64 ta)=w9 at *
   have HZ:=Lh (And.intro z0 (And.intro z1 (And.intro z2 z3)))
   clear z0 z1 z2 z3 HG0 HG1 HG2
   go_cut [51] (fun v wx=>v = .bool B∧Hid (Below w9.heap.size w9 wx))
   case first=>
    obtain ⟨c0,c1,c2⟩:=HR9.out
    by_cases hc:code=0
    ·by_cases hp:p=S.size
     ·obtain ⟨z0,z1,z2,z3⟩:=HZ.out
      obtain ⟨y0,y1,y2,y3⟩:=HY9.out
      have hq:∀ W,(binOp .neq 128 (.agg #[.int .u8 (uk:Int),.string us,.int .u64 (un:Int),.int .i64 ta]) (.agg #[.int .u8 (tk:Int),.string ts,.int .u64 (tn:Int),.int .i64 ta])).run Tryz.prog W = .ok (.bool B) W:=Zuv ⟨uk,us,un,ta⟩ ⟨tk,ts,tn,ta⟩ B (by rw [HBB.out];simp [hc,hp])
      subst hc hp
      go_wp2_with fail
      go_meet
      exact ⟨rfl,Lh (Below.refl _ _)⟩
     obtain rfl:B=true:=by rw [HBB.out];simp [hp]
     have e1:((p:Int) == (S.size:Int))=false:=by first | (simp;done) | (simp;omega)
     have e2:((p:Int) != (S.size:Int))=true:=by first | (simp;done) | (simp;omega)
     subst hc
     clear hp
     go_wp2_with fail
     go_meet
     exact ⟨rfl,Lh (Below.refl _ _)⟩
    obtain rfl:B=true:=by rw [HBB.out];simp [hc]
    have e1:((code:Int) == 0)=false:=by first | (simp;done) | (simp;omega)
    have e2:((code:Int) != 0)=true:=by first | (simp;done) | (simp;omega)
    clear hc
    go_wp2_with fail
    go_meet
    exact ⟨rfl,Lh (Below.refl _ _)⟩
   rename World=>w10
   obtain ⟨rfl,hb10⟩:=hcut
   have HB10:=Lh (next HB9.out hb10.out)
   have HO10:=Lh (HO9.out.below hb10.out)
   clear hb10 HB9 HO9 HR9 HY9 HZ
   cases B with
   | true=>
    have HRS:=Lh (HBT.out rfl)
    go_wp2_with fail
    go_ret2
    exact ⟨by rw [HRS.out];rfl,HB10.out⟩
   | false=>
    have HOK:=Lh (HBF.out rfl)
    have HKK:Hid (wrap64 ((k:Int) + 1)=((k + 1:Nat):Int)):=Lh (by have h1:=HLT.out;have h2:=HL.out;unfold wrap64;omega)
    have HKX:Hid (k ≤ 1000000):=Lh (by have h1:=HLT.out;have h2:=HL.out;omega)
    have HSRC:=Lh (reads_S w10 w.heap.size S HB10.out.size _ rfl)
    go_wp2_with (at_builtin;refine Zda rfl (.tmp 52) (.tmp 54) 23 rfl w.heap.size 9 1 16 elS _ ((l.take k).map sT).length (Zjp ((l.take k).map sT)) rfl (World.ownsRow.alloc HO10.out _) _ 1 _ rfl HSRC.out (by simp [Value.oneCell']) (by have h1:=HKX.out;rw [HLEN.out];unfold maxLen;omega) (by have h1:=HKX.out;rw [HLEN.out];omega) (by have:=HB10.out.size;simp;omega) ?_;intro v' w11 hown11 hgrow11 hbel11;have HB11:=Lh ((HB10.out.alloc HB10.out.size (.cells #[.string S] 9)).trans hbel11);have HO11:Hid (Zo5 w11 w.heap.size v' ((l.take (k + 1)).map sT)):=Lh (by have h:=Zo5.snoc hown11;rw [HTK.out,List.map_append];rw [HS.out] at h;exact h);clear hown11 hgrow11 hbel11)
    go_roundg (l.length - (k + 1))
    case measure=>exact Nat.sub_lt_sub_left HLT.out (Nat.lt_succ_self _)
    case rel=>
     refine ⟨k + 1,by first | exact congrArg (Value.int .i64) HKK.out | (simp;done) | (simp;exact HKK.out),rfl,HLT.out,HB11,HO11,Lh ?_⟩
     rw [HTK.out]
     intro x hx
     rcases List.mem_append.1 hx with h | h
     ·exact HALL.out x h
     ·simp at h;subst h;exact HOK.out
  obtain rfl:k=l.length:=kW
  have i1:¬ (l.length:Int) < (l.length:Int):=kW
  have hall:=HALL.out
  have hown:=HOWN.out
  rw [List.take_length] at hall hown
  have HRS:Hid (R=(joinL (l.map Zak),0)):=Lh (by rw [HR.out];exact write_ok hall)
  have hmm:(l.map sT).map (·.data.toList)=l.map Zak:=by rw [List.map_map];rfl
  have hj:=joinW (.slice ao l.length co) (l.map sT) wr hown.at_ (by
   rw [hmm]
   have h1:=Zoe (l.map Zak) (fun x hx=>by
    obtain ⟨t,ht,rfl⟩:=List.mem_map.1 hx
    exact Zjm (hall t ht).2.1 (HO.out t ht))
   rw [List.length_map] at h1
   have:=HL.out
   omega) (by rw [List.length_map];exact HL.out)
  rw [hmm] at hj
  have HJ:=Lh hj
  clear hlt hkl hall hown hmm hj
  go_wp2_with fail
  refine HJ.out.mono ?_
  rintro e w2 ⟨rfl,hb2⟩
  have HB2:=Lh (next HBEL.out hb2)
  clear hb2
  go_wp2_with fail
  go_ret2
  exact ⟨by rw [HRS.out];rfl,HB2.out⟩
end Go.Proofs.YtmdogmpcmkfjpaaGreatDoor.Dt
