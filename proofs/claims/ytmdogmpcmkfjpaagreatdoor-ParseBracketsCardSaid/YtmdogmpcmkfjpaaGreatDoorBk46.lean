import Derived.Test.YtmdogmpcmkfjpaaGreatDoorRows
import Derived.MakeChecks
import Derived.Test.YtmdogmpcmkfjpaaGreatDoorBk13
namespace Go.Proofs.YtmdogmpcmkfjpaaGreatDoor.Dt
open Go.RowKit Go.Proofs.YtmdogmpcmkfjpaaGreatDoor.By

theorem gESX : Tryz.prog.globalNamed "strconv.ErrSyntax" = some 4 := by kernel_rfl
theorem gESTypeX : (Tryz.prog.globals[4]?).map (·.type) = some 151 := by kernel_rfl
theorem gERX : Tryz.prog.globalNamed "strconv.ErrRange" = some 5 := by kernel_rfl
theorem gERTypeX : (Tryz.prog.globals[5]?).map (·.type) = some 151 := by kernel_rfl
theorem gTX : Tryz.prog.globalNamed "internal/strconv.uint64pow10" = some 1 := by kernel_rfl
theorem gTTypeX : (Tryz.prog.globals[1]?).map (·.type) = some 218 := by kernel_rfl
theorem gAX : Tryz.prog.globalNamed "strings.asciiSpace" = some 0 := by kernel_rfl
theorem gATypeX : (Tryz.prog.globals[0]?).map (·.type) = some 207 := by kernel_rfl
theorem starErrX : "*" ++ "errors.errorString" = "*errors.errorString" := by decide
theorem rowErrX (u : TypeId) (h : Tryz.prog.typeName? 3 u = some "*errors.errorString") : u = 250 :=
  typeName_ptr_named (nm := "errors.errorString") (by rw [starErrX]; kernel_rfl) (by kernel_rfl) (by decide) u (by rw [starErrX]; exact h)
theorem pow10_isX : (Rows.laid_internal_strconv_uint64pow10 : DataW Unit) = Lib.tabData .u64 Lib.pow10Tab := by kernel_rfl
theorem ascii_is : (Rows.laid_strings_asciiSpace : DataW Unit) = Lib.tabData .u8 Lib.asciiSpaceTab := by kernel_rfl
def laid9 : List (String × DataW Unit) := [("math/bits.deBruijn32tab", Rows.laid_math_bits_deBruijn32tab), ("math/bits.deBruijn64tab", Rows.laid_math_bits_deBruijn64tab), ("internal/strconv.uint64pow10", Rows.laid_internal_strconv_uint64pow10), ("unicode/utf8.acceptRanges", Rows.laid_unicode_utf8_acceptRanges), ("strconv.ErrRange", Rows.laid_strconv_ErrRange), ("strconv.ErrSyntax", Rows.laid_strconv_ErrSyntax), ("unicode.White_Space", Rows.laid_unicode_White_Space), ("strings.asciiSpace", Rows.laid_strings_asciiSpace), ("unicode/utf8.first", Rows.laid_unicode_utf8_first)]
theorem lx9 {W : World} (hsh : W.ShapedOpen Tryz.prog) (hL : laidMetH Tryz.prog laid9 W) : LX W := by
  rw [MakeChecks.laidMetH_plain _ _ _ (by kernel_rfl)] at hL
  have h2 : laidMet Tryz.prog (("internal/strconv.uint64pow10", Lib.tabData .u64 Lib.pow10Tab) :: [("unicode/utf8.acceptRanges", Rows.laid_unicode_utf8_acceptRanges), ("strconv.ErrRange", Rows.laid_strconv_ErrRange), ("strconv.ErrSyntax", Rows.laid_strconv_ErrSyntax), ("unicode.White_Space", Rows.laid_unicode_White_Space), ("strings.asciiSpace", Rows.laid_strings_asciiSpace), ("unicode/utf8.first", Rows.laid_unicode_utf8_first)]) W := by
    rw [← pow10_isX]; exact hL.tail.tail
  have h3 : laidMet Tryz.prog (("strings.asciiSpace", Lib.tabData .u8 Lib.asciiSpaceTab) :: [("unicode/utf8.first", Rows.laid_unicode_utf8_first)]) W := by
    rw [← ascii_is]; exact hL.tail.tail.tail.tail.tail.tail.tail
  obtain ⟨a1, s1, hv1, -, -, -⟩ := laid_sentinel (n := "strconv.ErrRange") hL.tail.tail.tail.tail gERX gERTypeX Tryz.underlying151 rowErrX Tryz.underlying250 Tryz.underlying252 rfl rfl Tryz.underlying9 (by kernel_rfl) (by kernel_rfl)
  obtain ⟨a0, s0, hv0, -, -, -⟩ := laid_sentinel (n := "strconv.ErrSyntax") hL.tail.tail.tail.tail.tail gESX gESTypeX Tryz.underlying151 rowErrX Tryz.underlying250 Tryz.underlying252 rfl rfl Tryz.underlying9 (by kernel_rfl) (by kernel_rfl)
  exact ⟨⟨maxAt hsh, Lib.tabIs_of_head gTX gTTypeX Tryz.underlying218 Tryz.underlying126 (by kernel_rfl) (by kernel_rfl) h2, ⟨_, _, hv0⟩, ⟨_, _, hv1⟩⟩, Lib.tabIs_of_head gAX gATypeX Tryz.underlying207 Tryz.underlying5 (by kernel_rfl) (by kernel_rfl) h3⟩
end Go.Proofs.YtmdogmpcmkfjpaaGreatDoor.Dt
