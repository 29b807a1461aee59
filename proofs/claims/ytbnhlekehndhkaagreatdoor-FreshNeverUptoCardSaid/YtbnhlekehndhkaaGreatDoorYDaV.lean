import Derived.Test.YtbnhlekehndhkaaGreatDoorYDaU
import Derived.Test.YtbnhlekehndhkaaGreatDoorRows
import Derived.Lib.LaidTab
import Derived.Stop.LaidErr
import Derived.LaidSub
import Derived.Shelf.Vars
import Derived.LaidByTextLater







/- What a row's list 'laid', and its world's shape, give the walks. -/
namespace Go.Proofs.YtbnhlekehndhkaaGreatDoor.Da
open Go.RowKit
set_option linter.unusedVariables false
def laidL : List (String × DataW Unit) := [("math/bits.deBruijn32tab", Rows.laid_math_bits_deBruijn32tab), ("math/bits.deBruijn64tab", Rows.laid_math_bits_deBruijn64tab), ("internal/strconv.uint64pow10", Rows.laid_internal_strconv_uint64pow10), ("unicode/utf8.acceptRanges", Rows.laid_unicode_utf8_acceptRanges), ("strconv.ErrRange", Rows.laid_strconv_ErrRange), ("strconv.ErrSyntax", Rows.laid_strconv_ErrSyntax), ("unicode.White_Space", Rows.laid_unicode_White_Space), ("strings.asciiSpace", Rows.laid_strings_asciiSpace), ("unicode/utf8.first", Rows.laid_unicode_utf8_first)]
theorem star : "*" ++ "errors.errorString" = "*errors.errorString" := by decide
theorem rowES (u : TypeId) (h : Tryz.prog.typeName? 3 u = some "*errors.errorString") : u = 233 :=
  typeName_ptr_named (nm := "errors.errorString") (by rw [star]; kernel_rfl) (by kernel_rfl) (by decide) u (by rw [star]; exact h)
theorem e7 : (Rows.laid_strings_asciiSpace : DataW Unit) = Lib.tabData .u8 Lib.asciiSpaceTab := by kernel_rfl
theorem glob_of {W : World} (hL : laidMetH Tryz.prog laidL W) (hS : W.ShapedOpen Tryz.prog) : Glob W := by
  rw [MakeChecks.laidMetH_plain _ _ _ (by kernel_rfl)] at hL
  have h2 := hL.tail.tail
  have h4 := h2.tail.tail
  have h5 := h4.tail
  have h7 : laidMet Tryz.prog (("strings.asciiSpace", Rows.laid_strings_asciiSpace) :: [("unicode/utf8.first", Rows.laid_unicode_utf8_first)]) W := h5.tail.tail
  rw [e7] at h7
  obtain ⟨a0, s0, hv0, -, -, -⟩ := laid_sentinel h4 (g := 3) (ti := 103) (tp := 233) (te := 235) (ts := 9) (by kernel_rfl) (by kernel_rfl) Tryz.underlying103 rowES Tryz.underlying233 Tryz.underlying235 rfl rfl Tryz.underlying9 (by kernel_rfl) (by kernel_rfl)
  obtain ⟨a1, s1, hv1, -, -, -⟩ := laid_sentinel h5 (g := 2) (ti := 103) (tp := 233) (te := 235) (ts := 9) (by kernel_rfl) (by kernel_rfl) Tryz.underlying103 rowES Tryz.underlying233 Tryz.underlying235 rfl rfl Tryz.underlying9 (by kernel_rfl) (by kernel_rfl)
  exact ⟨Lib.tabIs_of_head (k := .u8) (zs := Lib.asciiSpaceTab) (g := 0) (t := 118) (e := 5) (n := 256) (by kernel_rfl) (by kernel_rfl) Tryz.underlying118 Tryz.underlying5 (by kernel_rfl) (by kernel_rfl) h7,
    Lib.tabIs_of_head (k := .u64) (zs := Lib.pow10Tab) (g := 5) (t := 224) (e := 90) (n := 20) (by kernel_rfl) (by kernel_rfl) Tryz.underlying224 Tryz.underlying90 (by kernel_rfl) (by kernel_rfl) h2,
    cell_of_shapedOpen_int (P := Tryz.prog) (g := 4) (t := 3) (zero := #[.int .i64 0]) hS (of_decide_eq_true (by kernel_rfl)) (by kernel_rfl) rfl (by kernel_rfl) (by kernel_rfl) Tryz.underlying3,
    ⟨_, _, hv1⟩, ⟨_, _, hv0⟩⟩
end Go.Proofs.YtbnhlekehndhkaaGreatDoor.Da

