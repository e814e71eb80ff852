/- The closed facts of the row of FnExactFirstMoves: the kernel reckons them out of the program and the row alone. No conditions. -/
import Derived.Test.YtfldgimmdeijjaaRows
import Derived.JoinedOf
import Derived.KernelRfl
namespace Go.Proofs.Ytfldgimmdeijjaa.fnExactFirstMoves
set_option maxRecDepth 100000 in
set_option maxHeartbeats 4000000 in
theorem facts : joinedFacts Try.pinned.checked.prog 14 Try.f14 Rows.fnExactFirstMovesSpec Rows.fnExactFirstMovesRow = true := by
  unfold joinedFacts
  repeat' (with_reducible refine Bool.and_eq_true_iff.mpr ⟨?_, ?_⟩)
  all_goals (as_aux_lemma => kernel_rfl)
end Go.Proofs.Ytfldgimmdeijjaa.fnExactFirstMoves
