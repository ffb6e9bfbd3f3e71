import Derived.Test.YtmdogmpcmkfjpaaGreatDoorRows
import Derived.MakeChecks
import Derived.Test.YtmdogmpcmkfjpaaGreatDoorBq29
import Derived.Test.YtmdogmpcmkfjpaaGreatDoorBq33
import Derived.Test.YtmdogmpcmkfjpaaGreatDoorBq43
import Derived.Test.YtmdogmpcmkfjpaaGreatDoorBq42
import Derived.Test.YtmdogmpcmkfjpaaGreatDoorBq10
set_option maxRecDepth 100000
set_option maxHeartbeats 64000000
/- Part. -/
namespace Go.Proofs.YtmdogmpcmkfjpaaGreatDoor.Dt
open Go.RowKit Go.Proofs.YtmdogmpcmkfjpaaGreatDoor.By
namespace n9_10
abbrev Zja:=@BGT
abbrev Zqy:Nat:=16
abbrev Zn4:Nat:=10
abbrev Zo9:Int:=16
end n9_10
open nr564 in
open n9_10 in
theorem Zvz (w1:World) (b:Nat) (x:PE) (hv:Ze2 x.v) (hx:LX w1) (hkid:∀ y,y ∈ x.kids→EXW w1 b y) (H_hop:Hid (x.op=16)) (H_hn:Hid (x.kids.length=2)):EXW w1 b x:=by exact kf9
namespace n9_11
abbrev Zja:=@BGE
abbrev Zqy:Nat:=17
abbrev Zn4:Nat:=11
abbrev Zo9:Int:=17
end n9_11
open nr564 in
open n9_11 in
theorem Zvy (w1:World) (b:Nat) (x:PE) (hv:Ze2 x.v) (hx:LX w1) (hkid:∀ y,y ∈ x.kids→EXW w1 b y) (H_hop:Hid (x.op=17)) (H_hn:Hid (x.kids.length=2)):EXW w1 b x:=by exact kf9
namespace n9_12
abbrev Zja:=@Zf6
abbrev Zqy:Nat:=18
abbrev Zn4:Nat:=12
abbrev Zo9:Int:=18
end n9_12
open nr564 in
open n9_12 in
theorem Zvx (w1:World) (b:Nat) (x:PE) (hv:Ze2 x.v) (hx:LX w1) (hkid:∀ y,y ∈ x.kids→EXW w1 b y) (H_hop:Hid (x.op=18)) (H_hn:Hid (x.kids.length=2)):EXW w1 b x:=by exact kf9
namespace n9_13
abbrev Zja:=@WOR
abbrev Zqy:Nat:=19
abbrev Zn4:Nat:=13
abbrev Zo9:Int:=19
end n9_13
open nr564 in
open n9_13 in
theorem Zvw (w1:World) (b:Nat) (x:PE) (hv:Ze2 x.v) (hx:LX w1) (hkid:∀ y,y ∈ x.kids→EXW w1 b y) (H_hop:Hid (x.op=19)) (H_hn:Hid (x.kids.length=2)):EXW w1 b x:=by exact kf9
theorem wexprW1 (w1:World) (b:Nat) (x:PE) (hv:Ze2 x.v) (hx:LX w1) (hkid:∀ y,y ∈ x.kids→EXW w1 b y):EXW w1 b x:=by
 by_cases h1:x.op=1
 ·by_cases hn:x.kids.length=0
  ·exact Zvv w1 b x hv hx hkid (Lh h1) (Lh hn)
  exact exprNo1 w1 b x hv hx hkid (Lh h1) (Lh hn)
 by_cases h2:x.op=2
 ·by_cases hn:x.kids.length=0
  ·exact exprCol w1 b x hv hx hkid (Lh h2) (Lh hn)
  exact exprNo2 w1 b x hv hx hkid (Lh h2) (Lh hn)
 by_cases h3:x.op=3
 ·by_cases hn:x.kids.length=1
  ·exact exprNeg w1 b x hv hx hkid (Lh h3) (Lh hn)
  exact exprNo3 w1 b x hv hx hkid (Lh h3) (Lh hn)
 by_cases h4:x.op=4
 ·by_cases hn:x.kids.length=1
  ·exact exprNot w1 b x hv hx hkid (Lh h4) (Lh hn)
  exact exprNo4 w1 b x hv hx hkid (Lh h4) (Lh hn)
 by_cases h5:x.op=5
 ·by_cases hn:x.kids.length=1
  ·exact exprNull w1 b x hv hx hkid (Lh h5) (Lh hn)
  exact exprNo5 w1 b x hv hx hkid (Lh h5) (Lh hn)
 by_cases h20:x.op=20
 ·by_cases hn:x.kids.length=0
  ·exact Zwb w1 b x hv hx hkid (Lh h20) (Lh hn)
  by_cases hn1:x.kids.length=1
  ·exact Zwa w1 b x hv hx hkid (Lh h20) (Lh hn1)
  exact exprNo20 w1 b x hv hx hkid (Lh h20) (Lh hn) (Lh hn1)
 by_cases h21:x.op=21
 ·by_cases hn:x.kids.length=1
  ·exact Zv9 w1 b x hv hx hkid (Lh h21) (Lh hn)
  exact exprNo21 w1 b x hv hx hkid (Lh h21) (Lh hn)
 by_cases h22:x.op=22
 ·by_cases hn:x.kids.length=1
  ·exact Zv8 w1 b x hv hx hkid (Lh h22) (Lh hn)
  exact exprNo22 w1 b x hv hx hkid (Lh h22) (Lh hn)
 by_cases h23:x.op=23
 ·by_cases hn:x.kids.length=1
  ·exact Zv7 w1 b x hv hx hkid (Lh h23) (Lh hn)
  exact exprNo23 w1 b x hv hx hkid (Lh h23) (Lh hn)
 by_cases hr:6 ≤ x.op∧x.op ≤ 19
 ·by_cases hn:x.kids.length=2
  ·have hc:x.op=6 ∨ x.op=7 ∨ x.op=8 ∨ x.op=9 ∨ x.op=10 ∨ x.op=11 ∨ x.op=12 ∨ x.op=13 ∨ x.op=14 ∨ x.op=15 ∨ x.op=16 ∨ x.op=17 ∨ x.op=18 ∨ x.op=19:=kW
   rcases hc with h | h | h | h | h | h | h | h | h | h | h | h | h | h
   ·exact Zrl w1 b x hv hx hkid (Lh h) (Lh hn)
   ·exact exprTwo7 w1 b x hv hx hkid (Lh h) (Lh hn)
   ·exact Zrk w1 b x hv hx hkid (Lh h) (Lh hn)
   ·exact exprTwo9 w1 b x hv hx hkid (Lh h) (Lh hn)
   ·exact Zv5 w1 b x hv hx hkid (Lh h) (Lh hn)
   ·exact Zv4 w1 b x hv hx hkid (Lh h) (Lh hn)
   ·exact Zv3 w1 b x hv hx hkid (Lh h) (Lh hn)
   ·exact Zv2 w1 b x hv hx hkid (Lh h) (Lh hn)
   ·exact Zv1 w1 b x hv hx hkid (Lh h) (Lh hn)
   ·exact Zv0 w1 b x hv hx hkid (Lh h) (Lh hn)
   ·exact Zvz w1 b x hv hx hkid (Lh h) (Lh hn)
   ·exact Zvy w1 b x hv hx hkid (Lh h) (Lh hn)
   ·exact Zvx w1 b x hv hx hkid (Lh h) (Lh hn)
   exact Zvw w1 b x hv hx hkid (Lh h) (Lh hn)
  exact exprNo6 w1 b x hv hx hkid (Lh hr) (Lh hn)
 by_cases h24:24 ≤ x.op
 ·exact exprNo24 w1 b x hv hx hkid (Lh h24)
 exact exprNo0 w1 b x hv hx hkid (Lh (show x.op=0 by omega))
theorem Zit {w1:World} {b:Nat} (hx:LX w1) {x:PE} (h:Zg9 x):EXW w1 b x:=by
 induction h with
 | mk x hv _ ih=>exact wexprW1 w1 b x hv hx ih
theorem sex_of {w1:World} {b:Nat} {x:PSt} (hx:LX w1) (h:SFit x):SEx w1 b x:=
 ⟨fun r hr e he=>Zit hx (h.rows r hr e he),fun s hs=>Zit hx (h.sets s hs),fun s hs=>Zit hx (h.items s hs),fun s hs e he=>Zit hx (h.src s hs e he),fun e he=>Zit hx (h.wh e he),fun e he=>Zit hx (h.group e he),
  fun e he=>Zit hx (h.having e he),fun s hs=>Zit hx (h.order s hs)⟩
theorem Zqz (x:PSt) (cs:List Value) (w:World) (hx:LX w) (hr:StR w cs x) (hs:Zgk x) (hf:SFit x) (hty:∀ c ∈ x.cols,c.ty < 256) (hlen:(Zb3 x []).length ≤ 1000000000) :
 Calls Tryz.prog 10 #[.agg cs.toArray] w (Ziv w (Zc1 x)):=
 Zuk x cs w hx hr (fun _ b hb=>stwAll b x (hx.later hb) hs (sex_of (hx.later hb) hf) hty ⟨hf.lo,hf.hi⟩) hlen
theorem Zum {s:PSt} {B:Nat} (h:GoodS s B) (hB:B ≤ 1048576) (hg:Zlo s=false) (cs:List Value) (w:World) (hx:LX w) (hr:StR w cs s):Calls Tryz.prog 10 #[.agg cs.toArray] w (Ziv w (Zc1 s)):=
 Zqz s cs w hx hr h.short (h.fit hg).1 (fun c hc=>(h.cols c hc).1) (h.written hB hg)
theorem Zul {t:List UInt8} {A:List PSt} (hA:Z4 t = .inr A) {s:PSt} (hs:s ∈ A) (cs:List Value) (w:World) (hx:LX w) (hr:StR w cs s):Calls Tryz.prog 10 #[.agg cs.toArray] w (Ziv w (Zc1 s)):=by
 have h1:=Zd3 hA s hs
 have h2:=Zfc hA s hs
 obtain ⟨h3,h4⟩:=SFit.ok h1
 have h5:=Znb h3
 exact Zqz s cs w hx hr (Zgk.ok h1 (Nat.le_trans h2 kD)) h3 (Zt2 h1 h2).2.2.2.1 kW
open Go.ChangeShapes Go.WideShapes Go.RowKit Go.Proofs.YtmdogmpcmkfjpaaGreatDoor.By
section
variable {H:Type} {enc:TypeId × Value→H} {w:World} {base:Nat} {spare:Nat→Bool} {held:Bool}
theorem arg_St {r:Reach} {b0:Nat} {v:Value} {d:DataW H} {ps:List MemPlace} (hv:Value.okWide Tryz.prog w r b0 31 v) (h:DataW.Trod enc Tryz.prog w base spare held 31 v d ps) (hL:Lim Tryz.prog 31 d) :
 ∃ (cs:List Value) (s:PSt),v = .agg cs.toArray∧StR w cs s∧GoodS s (bk d):=by
 obtain ⟨fs,ht⟩:=Zty (P:=Tryz.prog) (t:=31) (i:=0) (ty:=5) (off:=0) kR
 obtain ⟨cs,rfl⟩:=arg_agg ht hv
 obtain ⟨fuel,h⟩:=h
 obtain ⟨s,h1,h2⟩:=op_St h hL
 exact ⟨_,s,by simp [Value.cells],h1,h2⟩
end
theorem gESX:Tryz.prog.globalNamed "strconv.ErrSyntax" = some 4:=kR
theorem gESTypeX:(Tryz.prog.globals[4]?).map (·.type)=some 151:=kR
theorem gERX:Tryz.prog.globalNamed "strconv.ErrRange" = some 5:=kR
theorem gERTypeX:(Tryz.prog.globals[5]?).map (·.type)=some 151:=kR
theorem gTX:Tryz.prog.globalNamed "internal/strconv.uint64pow10" = some 1:=kR
theorem gTTypeX:(Tryz.prog.globals[1]?).map (·.type)=some 218:=kR
theorem gAX:Tryz.prog.globalNamed "strings.asciiSpace" = some 0:=kR
theorem gATypeX:(Tryz.prog.globals[0]?).map (·.type)=some 207:=kR
theorem Zqn: "*" ++ "errors.errorString" = "*errors.errorString" :=kD
theorem Zud (u:TypeId) (h:Tryz.prog.typeName? 3 u=some "*errors.errorString"):u=250:=
 typeName_ptr_named (nm:= "errors.errorString") (by rw [Zqn];kernel_rfl) kR kD u (by rw [Zqn];exact h)
theorem Zup:(Rows.laid_internal_strconv_uint64pow10:DataW Unit)=Lib.tabData .u64 Lib.pow10Tab:=kR
theorem ascii_is:(Rows.laid_strings_asciiSpace:DataW Unit)=Lib.tabData .u8 Lib.asciiSpaceTab:=kR
def laid9:List (String × DataW Unit):=[("math/bits.deBruijn32tab",Rows.laid_math_bits_deBruijn32tab),("math/bits.deBruijn64tab",Rows.laid_math_bits_deBruijn64tab),("internal/strconv.uint64pow10",Rows.laid_internal_strconv_uint64pow10),("unicode/utf8.acceptRanges",Rows.laid_unicode_utf8_acceptRanges),("strconv.ErrRange",Rows.laid_strconv_ErrRange),("strconv.ErrSyntax",Rows.laid_strconv_ErrSyntax),("unicode.White_Space",Rows.laid_unicode_White_Space),("strings.asciiSpace",Rows.laid_strings_asciiSpace),("unicode/utf8.first",Rows.laid_unicode_utf8_first)]
theorem lx9 {W:World} (hsh:W.ShapedOpen Tryz.prog) (hL:laidMetH Tryz.prog laid9 W):LX W:=by
 rw [MakeChecks.laidMetH_plain _ _ _ kR] at hL
 have h2:laidMet Tryz.prog (("internal/strconv.uint64pow10",Lib.tabData .u64 Lib.pow10Tab) :: [("unicode/utf8.acceptRanges",Rows.laid_unicode_utf8_acceptRanges),("strconv.ErrRange",Rows.laid_strconv_ErrRange),("strconv.ErrSyntax",Rows.laid_strconv_ErrSyntax),("unicode.White_Space",Rows.laid_unicode_White_Space),("strings.asciiSpace",Rows.laid_strings_asciiSpace),("unicode/utf8.first",Rows.laid_unicode_utf8_first)]) W:=by
  rw [← Zup];exact hL.tail.tail
 have h3:laidMet Tryz.prog (("strings.asciiSpace",Lib.tabData .u8 Lib.asciiSpaceTab) :: [("unicode/utf8.first",Rows.laid_unicode_utf8_first)]) W:=by
  rw [← ascii_is];exact hL.tail.tail.tail.tail.tail.tail.tail
 obtain ⟨a1,s1,hv1,-,-,-⟩:=laid_sentinel (n:= "strconv.ErrRange") hL.tail.tail.tail.tail gERX gERTypeX Tryz.underlying151 Zud Tryz.underlying250 Tryz.underlying252 rfl rfl Tryz.underlying9 kR kR
 obtain ⟨a0,s0,hv0,-,-,-⟩:=laid_sentinel (n:= "strconv.ErrSyntax") hL.tail.tail.tail.tail.tail gESX gESTypeX Tryz.underlying151 Zud Tryz.underlying250 Tryz.underlying252 rfl rfl Tryz.underlying9 kR kR
 exact ⟨⟨maxAt hsh,Lib.tabIs_of_head gTX gTTypeX Tryz.underlying218 Tryz.underlying126 kR kR h2,⟨_,_,hv0⟩,⟨_,_,hv1⟩⟩,Lib.tabIs_of_head gAX gATypeX Tryz.underlying207 Tryz.underlying5 kR kR h3⟩
end Go.Proofs.YtmdogmpcmkfjpaaGreatDoor.Dt
