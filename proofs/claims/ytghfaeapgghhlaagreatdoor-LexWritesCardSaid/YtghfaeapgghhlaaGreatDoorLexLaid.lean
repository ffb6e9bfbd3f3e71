/-
  What a row's list of variables gives to the walks of package lex.
-/
import Derived.Test.YtghfaeapgghhlaaGreatDoorLexFind
import Derived.Test.YtghfaeapgghhlaaGreatDoorRows
import Derived.MakeChecks
namespace Go.Proofs.YtghfaeapgghhlaaGreatDoor.Dt
open Go.RowKit Go.Proofs.YtghfaeapgghhlaaGreatDoor.By

theorem gESX : Tryz.prog.globalNamed "strconv.ErrSyntax" = some 6 := by kernel_rfl
theorem gESTypeX : (Tryz.prog.globals[6]?).map (·.type) = some 57 := by kernel_rfl
theorem gERX : Tryz.prog.globalNamed "strconv.ErrRange" = some 7 := by kernel_rfl
theorem gERTypeX : (Tryz.prog.globals[7]?).map (·.type) = some 57 := by kernel_rfl
theorem gTX : Tryz.prog.globalNamed "internal/strconv.uint64pow10" = some 0 := by kernel_rfl
theorem gTTypeX : (Tryz.prog.globals[0]?).map (·.type) = some 98 := by kernel_rfl
theorem gAX : Tryz.prog.globalNamed "strings.asciiSpace" = some 1 := by kernel_rfl
theorem gATypeX : (Tryz.prog.globals[1]?).map (·.type) = some 104 := by kernel_rfl
theorem starErrX : "*" ++ "errors.errorString" = "*errors.errorString" := by decide
theorem rowErrX (u : TypeId) (h : Tryz.prog.typeName? 3 u = some "*errors.errorString") : u = 140 :=
  typeName_ptr_named (nm := "errors.errorString") (by rw [starErrX]; kernel_rfl) (by kernel_rfl) (by decide) u (by rw [starErrX]; exact h)
theorem pow10_isX : (Rows.laid_internal_strconv_uint64pow10 : DataW Unit) = Lib.tabData .u64 Lib.pow10Tab := by kernel_rfl
theorem ascii_is : (Rows.laid_strings_asciiSpace : DataW Unit) = Lib.tabData .u8 Lib.asciiSpaceTab := by kernel_rfl
def laid7 : List (String × DataW Unit) := [("math/bits.deBruijn32tab", Rows.laid_math_bits_deBruijn32tab), ("math/bits.deBruijn64tab", Rows.laid_math_bits_deBruijn64tab), ("internal/strconv.uint64pow10", Rows.laid_internal_strconv_uint64pow10), ("strconv.ErrRange", Rows.laid_strconv_ErrRange), ("strconv.ErrSyntax", Rows.laid_strconv_ErrSyntax), ("unicode.White_Space", Rows.laid_unicode_White_Space), ("strings.asciiSpace", Rows.laid_strings_asciiSpace)]
theorem lx7 {W : World} (hsh : W.ShapedOpen Tryz.prog) (hL : laidMetH Tryz.prog laid7 W) : LX W := by
  rw [MakeChecks.laidMetH_plain _ _ _ (by kernel_rfl)] at hL
  have h2 : laidMet Tryz.prog (("internal/strconv.uint64pow10", Lib.tabData .u64 Lib.pow10Tab) :: [("strconv.ErrRange", Rows.laid_strconv_ErrRange), ("strconv.ErrSyntax", Rows.laid_strconv_ErrSyntax), ("unicode.White_Space", Rows.laid_unicode_White_Space), ("strings.asciiSpace", Rows.laid_strings_asciiSpace)]) W := by
    rw [← pow10_isX]; exact hL.tail.tail
  have h3 : laidMet Tryz.prog (("strings.asciiSpace", Lib.tabData .u8 Lib.asciiSpaceTab) :: []) W := by
    rw [← ascii_is]; exact hL.tail.tail.tail.tail.tail.tail
  obtain ⟨a1, s1, hv1, -, -, -⟩ := laid_sentinel (n := "strconv.ErrRange") hL.tail.tail.tail gERX gERTypeX Tryz.underlying57 rowErrX Tryz.underlying140 Tryz.underlying142 rfl rfl Tryz.underlying9 (by kernel_rfl) (by kernel_rfl)
  obtain ⟨a0, s0, hv0, -, -, -⟩ := laid_sentinel (n := "strconv.ErrSyntax") hL.tail.tail.tail.tail gESX gESTypeX Tryz.underlying57 rowErrX Tryz.underlying140 Tryz.underlying142 rfl rfl Tryz.underlying9 (by kernel_rfl) (by kernel_rfl)
  exact ⟨⟨maxAt hsh, Lib.tabIs_of_head gTX gTTypeX Tryz.underlying98 Tryz.underlying32 (by kernel_rfl) (by kernel_rfl) h2, ⟨_, _, hv0⟩, ⟨_, _, hv1⟩⟩, Lib.tabIs_of_head gAX gATypeX Tryz.underlying104 Tryz.underlying5 (by kernel_rfl) (by kernel_rfl) h3⟩
def laid9 : List (String × DataW Unit) := [("math/bits.deBruijn32tab", Rows.laid_math_bits_deBruijn32tab), ("math/bits.deBruijn64tab", Rows.laid_math_bits_deBruijn64tab), ("internal/strconv.uint64pow10", Rows.laid_internal_strconv_uint64pow10), ("unicode/utf8.acceptRanges", Rows.laid_unicode_utf8_acceptRanges), ("strconv.ErrRange", Rows.laid_strconv_ErrRange), ("strconv.ErrSyntax", Rows.laid_strconv_ErrSyntax), ("unicode.White_Space", Rows.laid_unicode_White_Space), ("strings.asciiSpace", Rows.laid_strings_asciiSpace), ("unicode/utf8.first", Rows.laid_unicode_utf8_first)]
theorem lx9 {W : World} (hsh : W.ShapedOpen Tryz.prog) (hL : laidMetH Tryz.prog laid9 W) : LX W := by
  rw [MakeChecks.laidMetH_plain _ _ _ (by kernel_rfl)] at hL
  have h2 : laidMet Tryz.prog (("internal/strconv.uint64pow10", Lib.tabData .u64 Lib.pow10Tab) :: [("unicode/utf8.acceptRanges", Rows.laid_unicode_utf8_acceptRanges), ("strconv.ErrRange", Rows.laid_strconv_ErrRange), ("strconv.ErrSyntax", Rows.laid_strconv_ErrSyntax), ("unicode.White_Space", Rows.laid_unicode_White_Space), ("strings.asciiSpace", Rows.laid_strings_asciiSpace), ("unicode/utf8.first", Rows.laid_unicode_utf8_first)]) W := by
    rw [← pow10_isX]; exact hL.tail.tail
  have h3 : laidMet Tryz.prog (("strings.asciiSpace", Lib.tabData .u8 Lib.asciiSpaceTab) :: [("unicode/utf8.first", Rows.laid_unicode_utf8_first)]) W := by
    rw [← ascii_is]; exact hL.tail.tail.tail.tail.tail.tail.tail
  obtain ⟨a1, s1, hv1, -, -, -⟩ := laid_sentinel (n := "strconv.ErrRange") hL.tail.tail.tail.tail gERX gERTypeX Tryz.underlying57 rowErrX Tryz.underlying140 Tryz.underlying142 rfl rfl Tryz.underlying9 (by kernel_rfl) (by kernel_rfl)
  obtain ⟨a0, s0, hv0, -, -, -⟩ := laid_sentinel (n := "strconv.ErrSyntax") hL.tail.tail.tail.tail.tail gESX gESTypeX Tryz.underlying57 rowErrX Tryz.underlying140 Tryz.underlying142 rfl rfl Tryz.underlying9 (by kernel_rfl) (by kernel_rfl)
  exact ⟨⟨maxAt hsh, Lib.tabIs_of_head gTX gTTypeX Tryz.underlying98 Tryz.underlying32 (by kernel_rfl) (by kernel_rfl) h2, ⟨_, _, hv0⟩, ⟨_, _, hv1⟩⟩, Lib.tabIs_of_head gAX gATypeX Tryz.underlying104 Tryz.underlying5 (by kernel_rfl) (by kernel_rfl) h3⟩
end Go.Proofs.YtghfaeapgghhlaaGreatDoor.Dt
