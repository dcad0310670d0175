import Derived.Test.YtjmljepndicdmaaDoorE
set_option linter.unusedVariables false
set_option linter.unusedSimpArgs false
namespace Go.Proofs.YtjmljepndicdmaaDoor
open Go.RowKit
theorem env_of_laid2 {W : World} {r r2 : List (String × DataW Unit)} (h : laidMet Tryd.prog (("internal/strconv.uint64pow10", Rows.laid_internal_strconv_uint64pow10) :: r) W)
    (h2 : laidMet Tryd.prog (("strconv.ErrSyntax", Rows.laid_strconv_ErrSyntax) :: r2) W) : Env W := by
  rw [pow10_data] at h
  obtain ⟨a, s, hv, _⟩ := laid_sentinel h2 gErrSyntax tErrSyntax Tryd.underlying61 rowES Tryd.underlying128 Tryd.underlying130 rfl rfl Tryd.underlying9 cells130 cells9
  exact ⟨⟨_, _, hv⟩, Lib.tabIs_of_head gPow10 tPow10 Tryd.underlying112 Tryd.underlying35 cells35 cells112 h⟩
end Go.Proofs.YtjmljepndicdmaaDoor
