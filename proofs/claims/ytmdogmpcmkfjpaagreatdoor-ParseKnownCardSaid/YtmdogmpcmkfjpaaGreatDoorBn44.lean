import Derived.Deep.DeepCutAuto
import Derived.ChangeKeysEq
import Derived.Test.YtmdogmpcmkfjpaaGreatDoorRows
import Derived.MakeChecks
import Derived.Test.YtmdogmpcmkfjpaaGreatDoorBn43
import Derived.Test.YtmdogmpcmkfjpaaGreatDoorBn38
import Derived.Test.YtmdogmpcmkfjpaaGreatDoorBn36
import Derived.Test.YtmdogmpcmkfjpaaGreatDoorBn09
import Derived.Test.YtmdogmpcmkfjpaaGreatDoorBn08
import Derived.Test.YtmdogmpcmkfjpaaGreatDoorBn04
import Derived.Test.YtmdogmpcmkfjpaaGreatDoorBn16
import Derived.Test.YtmdogmpcmkfjpaaGreatDoorBn25
import Derived.Test.YtmdogmpcmkfjpaaGreatDoorBn34
import Derived.Test.YtmdogmpcmkfjpaaGreatDoorBn02
import Derived.Test.YtmdogmpcmkfjpaaGreatDoorBn41
import Derived.Test.YtmdogmpcmkfjpaaGreatDoorBn11
/- Part of the proof (merged). -/
namespace Go.Proofs.YtmdogmpcmkfjpaaGreatDoor.Dt
open Go.RowKit Go.Proofs.YtmdogmpcmkfjpaaGreatDoor.By
set_option maxRecDepth 100000 in
set_option maxHeartbeats 16000000 in
theorem stmtTb (w1:World) (b:Nat) (x:PSt) (H_k:Hid (x.kind=1))  (a4 a5 a6 a7 a8 a9 a10 a11 a12 a13 a14:Option Addr) (n4 n5 n6 n7 n8 n9 n10 n11 n12 n13 n14:Nat) (l:List UInt8) (w:World) (h:WS w1 b l w) (hwk:SlR 1 TxtR w1 (.slice a5 x.key.length n5) x.key) (hn5:x.key.length ≤ 140737488351232) (hwc:SlR 3 ColR w1 (.slice a4 x.cols.length n4) x.cols) (hn4:x.cols.length ≤ 140737488351232) (hty:∀ c ∈ x.cols,c.ty < 256) (hlen:(wrSt x l).length ≤ 140737488355328) :
 Calls Tryz.prog 24 #[.pointer (some ⟨b,0,none⟩),.agg #[.int .u8 (x.kind:Int),.string x.table,.string x.name,.bool x.uniq,.slice a4 x.cols.length n4,.slice a5 x.key.length n5,.slice a6 x.names.length n6,.slice a7 x.rows.length n7,.slice a8 x.sets.length n8,.slice a9 x.items.length n9,.slice a10 x.src.length n10,.slice a11 x.wh.length n11,.slice a12 x.group.length n12,.slice a13 x.having.length n13,.slice a14 x.order.length n14,.int .i64 x.limit]] w (WPost w1 b (wrSt x l) w):=by
 have HLN:=Lib.hid hlen
 have HQ:=Lib.hid ((h.box 61 #[.pointer (some ⟨b,0,none⟩)]).keep ((h.alloc (.cells #[.pointer (some ⟨b,0,none⟩)] 61)).keepAlloc (.cells #[.int .u8 (x.kind:Int),.string x.table,.string x.name,.bool x.uniq,.slice a4 x.cols.length n4,.slice a5 x.key.length n5,.slice a6 x.names.length n6,.slice a7 x.rows.length n7,.slice a8 x.sets.length n8,.slice a9 x.items.length n9,.slice a10 x.src.length n10,.slice a11 x.wh.length n11,.slice a12 x.group.length n12,.slice a13 x.having.length n13,.slice a14 x.order.length n14,.int .i64 x.limit] 31)))
 have hx0:=(h.alloc (.cells #[.pointer (some ⟨b,0,none⟩)] 61)).box 31 #[.int .u8 (x.kind:Int),.string x.table,.string x.name,.bool x.uniq,.slice a4 x.cols.length n4,.slice a5 x.key.length n5,.slice a6 x.names.length n6,.slice a7 x.rows.length n7,.slice a8 x.sets.length n8,.slice a9 x.items.length n9,.slice a10 x.src.length n10,.slice a11 x.wh.length n11,.slice a12 x.group.length n12,.slice a13 x.having.length n13,.slice a14 x.order.length n14,.int .i64 x.limit]
 have hz:(w.alloc (.cells #[.pointer (some ⟨b,0,none⟩)] 61)).heap.size=w.heap.size + 1:=by simp
 rw [hz] at hx0
 have HX:=Lib.hid hx0
 have HW:=Lib.hid ((h.alloc (.cells #[.pointer (some ⟨b,0,none⟩)] 61)).alloc (.cells #[.int .u8 (x.kind:Int),.string x.table,.string x.name,.bool x.uniq,.slice a4 x.cols.length n4,.slice a5 x.key.length n5,.slice a6 x.names.length n6,.slice a7 x.rows.length n7,.slice a8 x.sets.length n8,.slice a9 x.items.length n9,.slice a10 x.src.length n10,.slice a11 x.wh.length n11,.slice a12 x.group.length n12,.slice a13 x.having.length n13,.slice a14 x.order.length n14,.int .i64 x.limit] 31))
 have HK0:=Lib.hid ((h.keepAlloc (.cells #[.pointer (some ⟨b,0,none⟩)] 61)).trans ((h.alloc (.cells #[.pointer (some ⟨b,0,none⟩)] 61)).keepAlloc (.cells #[.int .u8 (x.kind:Int),.string x.table,.string x.name,.bool x.uniq,.slice a4 x.cols.length n4,.slice a5 x.key.length n5,.slice a6 x.names.length n6,.slice a7 x.rows.length n7,.slice a8 x.sets.length n8,.slice a9 x.items.length n9,.slice a10 x.src.length n10,.slice a11 x.wh.length n11,.slice a12 x.group.length n12,.slice a13 x.having.length n13,.slice a14 x.order.length n14,.int .i64 x.limit] 31)))
 clear h hlen hx0 hz
 go_enter Tryz.func24,Tryz.ntmps24
 go_upto_region 1 with fail
 generalize (w.alloc (.cells #[.pointer (some ⟨b,0,none⟩)] 61)).alloc (.cells #[.int .u8 (x.kind:Int),.string x.table,.string x.name,.bool x.uniq,.slice a4 x.cols.length n4,.slice a5 x.key.length n5,.slice a6 x.names.length n6,.slice a7 x.rows.length n7,.slice a8 x.sets.length n8,.slice a9 x.items.length n9,.slice a10 x.src.length n10,.slice a11 x.wh.length n11,.slice a12 x.group.length n12,.slice a13 x.having.length n13,.slice a14 x.order.length n14,.int .i64 x.limit] 31)=wa at *
 generalize w.heap.size=q at *
 have hk:=H_k.out
 have c:=HQ.out.row.cell (i:=0) (v:=.pointer (some ⟨b,0,none⟩)) rfl
 have p0:=HX.out.row.cell (i:=0) (v:=.int .u8 (x.kind:Int)) rfl
 rw [hk] at p0
 have HT:Hid (wrSt x l=createT x l):=Lib.hid (by unfold wrSt;rw [hk];rfl)
 rw [HT.out] at HLN
 have p1:=HX.out.row.cell (i:=1) (v:=.string x.table) rfl
 have p2:=HX.out.row.cell (i:=2) (v:=.string x.name) rfl
 have p3:=HX.out.row.cell (i:=3) (v:=.bool x.uniq) rfl
 have p4:=HX.out.row.cell (i:=4) (v:=.slice a4 x.cols.length n4) rfl
 have p5:=HX.out.row.cell (i:=5) (v:=.slice a5 x.key.length n5) rfl
 have p6:=HX.out.row.cell (i:=6) (v:=.slice a6 x.names.length n6) rfl
 have p7:=HX.out.row.cell (i:=7) (v:=.slice a7 x.rows.length n7) rfl
 have p8:=HX.out.row.cell (i:=8) (v:=.slice a8 x.sets.length n8) rfl
 have p9:=HX.out.row.cell (i:=9) (v:=.slice a9 x.items.length n9) rfl
 have p10:=HX.out.row.cell (i:=10) (v:=.slice a10 x.src.length n10) rfl
 have p11:=HX.out.row.cell (i:=11) (v:=.slice a11 x.wh.length n11) rfl
 have p12:=HX.out.row.cell (i:=12) (v:=.slice a12 x.group.length n12) rfl
 have p13:=HX.out.row.cell (i:=13) (v:=.slice a13 x.having.length n13) rfl
 have p14:=HX.out.row.cell (i:=14) (v:=.slice a14 x.order.length n14) rfl
 have p15:=HX.out.row.cell (i:=15) (v:=.int .i64 x.limit) rfl
 have hc:=createTb w1 b x H_k a4 a5 a6 a7 a8 a9 a10 a11 a12 a13 a14 n4 n5 n6 n7 n8 n9 n10 n11 n12 n13 n14 l wa HW.out hwk hn5 hwc hn4 hty HLN.out
 rw [hk,show ((1:Nat):Int)=1 from rfl] at hc
 have HC:=Lib.hid hc
 clear hc
 go_wp2_with fail
 refine HC.out.mono ?_
 rintro e3 w3 ⟨rfl,hs3,hk3⟩
 have HW3:=Lib.hid hs3
 have HK3:=Lib.hid (HK0.out.trans hk3)
 clear hs3 hk3 HC c p0 p1 p2 p3 p4 p5 p6 p7 p8 p9 p10 p11 p12 p13 p14 p15
 go_wp2_with fail
 go_end0
 exact ⟨rfl,by rw [HT.out];exact HW3.out,HK3.out⟩
theorem stwTb {w1:World} (b:Nat) (x:PSt) (hk:x.kind=1) (hn5:x.key.length ≤ 140737488351232) (hn4:x.cols.length ≤ 140737488351232) (hty:∀ c ∈ x.cols,c.ty < 256):STW w1 b x:=fun cs l w h hr hlen=>by
 obtain ⟨c4,c5,c6,c7,c8,c9,c10,c11,c12,c13,c14,rfl,h4,h5,h6,h7,h8,h9,h10,h11,h12,h13,h14⟩:=hr
 obtain ⟨a4,n4,rfl,_⟩:=h4.shape
 obtain ⟨a5,n5,rfl,_⟩:=h5.shape
 obtain ⟨a6,n6,rfl,_⟩:=h6.shape
 obtain ⟨a7,n7,rfl,_⟩:=h7.shape
 obtain ⟨a8,n8,rfl,_⟩:=h8.shape
 obtain ⟨a9,n9,rfl,_⟩:=h9.shape
 obtain ⟨a10,n10,rfl,_⟩:=h10.shape
 obtain ⟨a11,n11,rfl,_⟩:=h11.shape
 obtain ⟨a12,n12,rfl,_⟩:=h12.shape
 obtain ⟨a13,n13,rfl,_⟩:=h13.shape
 obtain ⟨a14,n14,rfl,_⟩:=h14.shape
 exact stmtTb w1 b x (Lib.hid hk) a4 a5 a6 a7 a8 a9 a10 a11 a12 a13 a14 n4 n5 n6 n7 n8 n9 n10 n11 n12 n13 n14 l w h h5 hn5 h4 hn4 hty hlen
section
variable {P:Program} {w:World}
end
abbrev ETy:TypeId:=48
abbrev STy:TypeId:=9
def RowE (w0:World) (lo:Nat) (w:World) (v:Value) (E:List PE):Prop:=∃ cs:List (List Value),w.ownsRow lo ETy 8 v E.length cs.flatten∧cs.length=E.length∧∀ (i:Nat) (c:List Value) (x:PE),cs[i]? = some c→E[i]? = some x→c.length=8∧ExR w0 c x
def RowS (lo:Nat) (w:World) (v:Value) (S:List ByteArray):Prop:=w.ownsRow lo STy 1 v S.length (S.map .string)
structure FS (w0:World) (lo:Nat) (bx:List (Nat × TypeId × Array Value)) (ov nv:Value) (E:List PE) (S:List ByteArray) (w:World):Prop where
 e:RowE w0 lo w ov E
 s:RowS lo w nv S
 ne:∀ k,ov.ownBlock=some k→nv.ownBlock ≠ some k
 bx:∀ b ∈ bx,Row b.1 b.2.1 b.2.2 w∧ov.ownBlock ≠ some b.1∧nv.ownBlock ≠ some b.1
 bl:Below lo w0 w
 hl:lo ≤ w.heap.size
section
variable {w0 w w':World} {lo:Nat} {bx:List (Nat × TypeId × Array Value)} {ov nv:Value} {E:List PE} {S:List ByteArray}
end
end Go.Proofs.YtmdogmpcmkfjpaaGreatDoor.Dt
namespace Go.Proofs.YtmdogmpcmkfjpaaGreatDoor.Dt
open Go.RowKit Go.Proofs.YtmdogmpcmkfjpaaGreatDoor.By
structure RJ (w0:World) (lo:Nat) (BX:List (Nat × TypeId × Array Value)) (oc nc:(Nat→Bool)→(Nat→Value)→Value) (Ec:(Nat→Bool)→List PE) (Sc:(Nat→Bool)→List ByteArray)
 (vals:List (Nat × Value)) (lits:List (Nat × TypeId × Nat × Array Value)) (olds:List (Nat × Value)) (fins:List (Nat × Nat)) (dn:Nat→Bool) (us:Nat→Value) (W:World):Prop where
 fs:∃ bx,(∀ b ∈ BX,b ∈ bx)∧FS w0 lo bx (oc dn us) (nc dn us) (Ec dn) (Sc dn) W∧∀ l ∈ lits,dn l.1=true→∃ k,us l.1 = .slice (some ⟨k,0,none⟩) l.2.2.1 l.2.2.1∧(k,l.2.1,l.2.2.2) ∈ bx
 vs:∀ p ∈ vals,dn p.1=true→us p.1=p.2
 old:∀ p ∈ olds,dn p.1=false→us p.1=p.2
 fin:∀ p ∈ fins,dn p.1=true→us p.1=us p.2∧dn p.2=true
section
variable {w0 W W':World} {lo:Nat} {BX:List (Nat × TypeId × Array Value)} {oc nc:(Nat→Bool)→(Nat→Value)→Value} {Ec:(Nat→Bool)→List PE} {Sc:(Nat→Bool)→List ByteArray}
 {vals:List (Nat × Value)} {lits:List (Nat × TypeId × Nat × Array Value)} {olds:List (Nat × Value)} {fins:List (Nat × Nat)} {dn:Nat→Bool} {us:Nat→Value}
end
end Go.Proofs.YtmdogmpcmkfjpaaGreatDoor.Dt
namespace Go.Proofs.YtmdogmpcmkfjpaaGreatDoor.Dt
open Go.RowKit Go.Proofs.YtmdogmpcmkfjpaaGreatDoor.By
set_option linter.unusedSimpArgs false
set_option linter.unusedVariables false
section
variable {w0 w:World} {lo:Nat} {bx:List (Nat × TypeId × Array Value)} {ov nv:Value} {E:List PE} {S:List ByteArray}
theorem frz {k:Nat} {T:TypeId} {cs:Array Value} {W:World} (h:Row k T cs W) (i:Nat):W.frozen? ⟨k,i,none⟩=false:=by
 unfold Row at h
 unfold World.frozen?
 simp [h]
end
end Go.Proofs.YtmdogmpcmkfjpaaGreatDoor.Dt
namespace Go.Proofs.YtmdogmpcmkfjpaaGreatDoor.Dt
open Go.RowKit Go.Proofs.YtmdogmpcmkfjpaaGreatDoor.By
abbrev TSt:TypeId:=31
theorem run_smLdAt (W:World) (b o:Nat) (cs:List Value) (h16:cs.length=16) (hc:∀ (j:Nat) (u:Value),cs[j]? = some u→W.cell? ⟨b,o + j,none⟩=some u):(veilLd TSt ⟨b,o,none⟩).run Tryz.prog W = .ok (.agg cs.toArray) W:=by
 have hl:(loadCells ⟨b,o,none⟩ cs.length).run Tryz.prog W = .ok cs.toArray W:=run_loadCells_list (P:=Tryz.prog) W ⟨b,o,none⟩ cs (fun j v hv=>by rw [Addr.add_lit];exact hc j v hv)
 obtain ⟨fs,hu⟩:=sm_struct
 have hi:=sm_size
 cases hq:Tryz.prog.info? TSt with
 | none=>rw [hq] at hi;cases hi
 | some i=>
  have hs:i.size=16:=by simpa [hq] using hi
  have hagg:(isAgg TSt).run Tryz.prog W = .ok true W:=by
   unfold isAgg
   rw [Sem.run_bind,run_underlying hu W]
   rfl
  rw [h16] at hl
  unfold veilLd
  simp [loadVar,Sem.run_bind,hagg,sizeOf,typeInfo,hq,hs,hl]
theorem gESX:Tryz.prog.globalNamed "strconv.ErrSyntax" = some 4:=by kernel_rfl
theorem gESTypeX:(Tryz.prog.globals[4]?).map (·.type)=some 151:=by kernel_rfl
theorem gERX:Tryz.prog.globalNamed "strconv.ErrRange" = some 5:=by kernel_rfl
theorem gERTypeX:(Tryz.prog.globals[5]?).map (·.type)=some 151:=by kernel_rfl
theorem gTX:Tryz.prog.globalNamed "internal/strconv.uint64pow10" = some 1:=by kernel_rfl
theorem gTTypeX:(Tryz.prog.globals[1]?).map (·.type)=some 218:=by kernel_rfl
theorem gAX:Tryz.prog.globalNamed "strings.asciiSpace" = some 0:=by kernel_rfl
theorem gATypeX:(Tryz.prog.globals[0]?).map (·.type)=some 207:=by kernel_rfl
theorem starErrX: "*" ++ "errors.errorString" = "*errors.errorString" :=by decide
theorem rowErrX (u:TypeId) (h:Tryz.prog.typeName? 3 u=some "*errors.errorString"):u=250:=
 typeName_ptr_named (nm:= "errors.errorString") (by rw [starErrX];kernel_rfl) (by kernel_rfl) (by decide) u (by rw [starErrX];exact h)
theorem pow10_isX:(Rows.laid_internal_strconv_uint64pow10:DataW Unit)=Lib.tabData .u64 Lib.pow10Tab:=by kernel_rfl
theorem ascii_is:(Rows.laid_strings_asciiSpace:DataW Unit)=Lib.tabData .u8 Lib.asciiSpaceTab:=by kernel_rfl
def laid9:List (String × DataW Unit):=[("math/bits.deBruijn32tab",Rows.laid_math_bits_deBruijn32tab),("math/bits.deBruijn64tab",Rows.laid_math_bits_deBruijn64tab),("internal/strconv.uint64pow10",Rows.laid_internal_strconv_uint64pow10),("unicode/utf8.acceptRanges",Rows.laid_unicode_utf8_acceptRanges),("strconv.ErrRange",Rows.laid_strconv_ErrRange),("strconv.ErrSyntax",Rows.laid_strconv_ErrSyntax),("unicode.White_Space",Rows.laid_unicode_White_Space),("strings.asciiSpace",Rows.laid_strings_asciiSpace),("unicode/utf8.first",Rows.laid_unicode_utf8_first)]
theorem lx9 {W:World} (hsh:W.ShapedOpen Tryz.prog) (hL:laidMetH Tryz.prog laid9 W):LX W:=by
 rw [MakeChecks.laidMetH_plain _ _ _ (by kernel_rfl)] at hL
 have h2:laidMet Tryz.prog (("internal/strconv.uint64pow10",Lib.tabData .u64 Lib.pow10Tab) :: [("unicode/utf8.acceptRanges",Rows.laid_unicode_utf8_acceptRanges),("strconv.ErrRange",Rows.laid_strconv_ErrRange),("strconv.ErrSyntax",Rows.laid_strconv_ErrSyntax),("unicode.White_Space",Rows.laid_unicode_White_Space),("strings.asciiSpace",Rows.laid_strings_asciiSpace),("unicode/utf8.first",Rows.laid_unicode_utf8_first)]) W:=by
  rw [← pow10_isX];exact hL.tail.tail
 have h3:laidMet Tryz.prog (("strings.asciiSpace",Lib.tabData .u8 Lib.asciiSpaceTab) :: [("unicode/utf8.first",Rows.laid_unicode_utf8_first)]) W:=by
  rw [← ascii_is];exact hL.tail.tail.tail.tail.tail.tail.tail
 obtain ⟨a1,s1,hv1,-,-,-⟩:=laid_sentinel (n:= "strconv.ErrRange") hL.tail.tail.tail.tail gERX gERTypeX Tryz.underlying151 rowErrX Tryz.underlying250 Tryz.underlying252 rfl rfl Tryz.underlying9 (by kernel_rfl) (by kernel_rfl)
 obtain ⟨a0,s0,hv0,-,-,-⟩:=laid_sentinel (n:= "strconv.ErrSyntax") hL.tail.tail.tail.tail.tail gESX gESTypeX Tryz.underlying151 rowErrX Tryz.underlying250 Tryz.underlying252 rfl rfl Tryz.underlying9 (by kernel_rfl) (by kernel_rfl)
 exact ⟨⟨maxAt hsh,Lib.tabIs_of_head gTX gTTypeX Tryz.underlying218 Tryz.underlying126 (by kernel_rfl) (by kernel_rfl) h2,⟨_,_,hv0⟩,⟨_,_,hv1⟩⟩,Lib.tabIs_of_head gAX gATypeX Tryz.underlying207 Tryz.underlying5 (by kernel_rfl) (by kernel_rfl) h3⟩
end Go.Proofs.YtmdogmpcmkfjpaaGreatDoor.Dt
