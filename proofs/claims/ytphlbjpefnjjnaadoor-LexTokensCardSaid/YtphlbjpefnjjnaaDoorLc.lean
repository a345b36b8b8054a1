/- From a row's condition on the listed variables to what strconv's contracts ask of the world. -/
import Derived.Test.YtphlbjpefnjjnaaDoorRows
import Derived.Test.YtphlbjpefnjjnaaDoorHb
import Derived.MakeChecks
import Derived.LaidLaws
import Derived.Lib.LaidTab
namespace Go.Proofs.YtphlbjpefnjjnaaDoor.P
open Go Go.RowKit
set_option linter.unusedVariables false
def laidL : List (String × DataW Unit) := [("math/bits.deBruijn32tab", Rows.laid_math_bits_deBruijn32tab), ("math/bits.deBruijn64tab", Rows.laid_math_bits_deBruijn64tab), ("internal/strconv.uint64pow10", Rows.laid_internal_strconv_uint64pow10), ("unicode/utf8.acceptRanges", Rows.laid_unicode_utf8_acceptRanges), ("strconv.ErrRange", Rows.laid_strconv_ErrRange), ("strconv.ErrSyntax", Rows.laid_strconv_ErrSyntax), ("unicode/utf8.first", Rows.laid_unicode_utf8_first)]
theorem gPow : Tryd.prog.globalNamed "internal/strconv.uint64pow10" = some 5 := by kernel_rfl
theorem gPowT : (Tryd.prog.globals[5]?).map (·.type) = some 108 := by kernel_rfl
theorem gErr : Tryd.prog.globalNamed "strconv.ErrRange" = some 4 := by kernel_rfl
theorem gErrT : (Tryd.prog.globals[4]?).map (·.type) = some 64 := by kernel_rfl
theorem powD : (Rows.laid_internal_strconv_uint64pow10 : DataW Unit) = Lib.tabData .u64 Lib.pow10Tab := by kernel_rfl
theorem laid_of_row {W : World} (h : laidMetH Tryd.prog laidL W) : Laid W := by
  rw [MakeChecks.laidMetH_plain _ _ _ (by kernel_rfl)] at h
  obtain ⟨ps, h, -⟩ := h
  obtain ⟨_, _, _, _, _, _, -, -, -, -, h, -⟩ := h
  obtain ⟨_, _, _, _, _, _, -, -, -, -, h, -⟩ := h
  obtain ⟨g, t, cs, f, p, q, hg, ht, hv, hd, h, -⟩ := h
  obtain ⟨_, _, _, _, _, _, -, -, -, -, h, -⟩ := h
  obtain ⟨g', t', cs', f', p', q', hg', ht', hv', hd', h, -⟩ := h
  clear h
  refine ⟨?_, ?_⟩
  · obtain rfl := Option.some.inj (gPow.symm.trans hg)
    obtain rfl := Option.some.inj (gPowT.symm.trans ht)
    rw [powD] at hd
    unfold Lib.TabIs
    rw [hv, ← Lib.cells_of_tab Tryd.underlying108 Tryd.underlying36 (by kernel_rfl) (by kernel_rfl) hd]
  · obtain rfl := Option.some.inj (gErr.symm.trans hg')
    obtain rfl := Option.some.inj (gErrT.symm.trans ht')
    obtain ⟨f2, u, v, hcs, -, -⟩ := iface_of_trod Tryd.underlying64 hd'
    refine ⟨.iface u v, ?_, .inr ⟨u, v, rfl⟩⟩
    have h0 := World.var?_cell gErr hv' 0
    rw [h0]
    have : cs'.toList[0]? = some (.iface u v) := by rw [hcs]; rfl
    simpa using this
end Go.Proofs.YtphlbjpefnjjnaaDoor.P
