/-
  
-/
import Derived.Test.YtmcfmhiadlkglaaLwB
import Derived.Test.YtmcfmhiadlkglaaPd
namespace Go.Proofs.Ytmcfmhiadlkglaa.Sx
open Go
set_option linter.unusedVariables false
set_option linter.unusedSimpArgs false



theorem keyT : KeyT Try.prog 34 where
  wide := by kernel_rfl
  chk := fun em ⟨x0, x1, x2, x3, x4⟩ w => by kernel_rfl
  eq := fun ⟨x0, x1, x2, x3, x4⟩ ⟨y0, y1, y2, y3, y4⟩ w => by
    show (Op.equalIn 10000 34 (.agg _) (.agg _)).run Try.prog w = _
    by_cases h0 : x0 = y0
    · skip
      by_cases h1 : x1 = y1
      · skip
        by_cases h2 : x2 = y2
        · skip
          by_cases h3 : x3 = y3
          · skip
            by_cases h4 : x4 = y4
            · simp [go_sem, h0, h1, h2, h3, h4]
            · simp [go_sem, h0, h1, h2, h3, h4]
          · simp [go_sem, h0, h1, h2, h3]
        · simp [go_sem, h0, h1, h2]
      · simp [go_sem, h0, h1]
    · simp [go_sem, h0]
end Go.Proofs.Ytmcfmhiadlkglaa.Sx
