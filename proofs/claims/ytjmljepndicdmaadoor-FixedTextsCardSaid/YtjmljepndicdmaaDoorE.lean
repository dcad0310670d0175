import Derived.Test.YtjmljepndicdmaaDoorB2
import Derived.Test.YtjmljepndicdmaaDoorRows
import Derived.Stop.LaidErr
import Derived.LaidMore
import Derived.Lay
import Derived.ProofKit
set_option linter.unusedVariables false
set_option linter.unusedSimpArgs false
namespace Go.Proofs.YtjmljepndicdmaaDoor
open Go Go.RowKit

theorem tPow10 : (Tryd.prog.globals[2]?).map (·.type) = some 112 := by kernel_rfl
theorem tErrSyntax : (Tryd.prog.globals[3]?).map (·.type) = some 61 := by kernel_rfl
theorem cells112 : Tryd.prog.cellsOf 112 = 20 := by kernel_rfl
theorem cells35 : Tryd.prog.cellsOf 35 = 1 := by kernel_rfl
theorem cells130 : Tryd.prog.cellsOf 130 = 1 := by kernel_rfl
theorem cells9 : Tryd.prog.cellsOf 9 = 1 := by kernel_rfl
theorem star : "*" ++ "errors.errorString" = "*errors.errorString" := by decide
theorem rowES : ∀ u, Tryd.prog.typeName? 3 u = some "*errors.errorString" → u = 128 := by
  intro u h
  exact typeName_ptr_named (nm := "errors.errorString") (by rw [star]; kernel_rfl) (by kernel_rfl) (by decide) u (by rw [star]; exact h)
theorem pow10_data : (Rows.laid_internal_strconv_uint64pow10 : DataW Unit) = Lib.tabData .u64 Lib.pow10Tab := by kernel_rfl

theorem env_of_laid {W : World} {r : List (String × DataW Unit)} (h : laidMet Tryd.prog (("internal/strconv.uint64pow10", Rows.laid_internal_strconv_uint64pow10) :: r) W)
    (h2 : laidMet Tryd.prog [("strconv.ErrSyntax", Rows.laid_strconv_ErrSyntax)] W) : Env W := by
  rw [pow10_data] at h
  obtain ⟨a, s, hv, _⟩ := laid_sentinel h2 gErrSyntax tErrSyntax Tryd.underlying61 rowES Tryd.underlying128 Tryd.underlying130 rfl rfl Tryd.underlying9 cells130 cells9
  exact ⟨⟨_, _, hv⟩, Lib.tabIs_of_head gPow10 tPow10 Tryd.underlying112 Tryd.underlying35 cells35 cells112 h⟩
end Go.Proofs.YtjmljepndicdmaaDoor
