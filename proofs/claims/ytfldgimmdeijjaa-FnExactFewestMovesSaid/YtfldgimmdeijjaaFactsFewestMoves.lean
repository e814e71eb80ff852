/- The closed facts of the row of FnExactFewestMoves: the kernel reckons them out of the program and the row alone. No conditions. -/
import Derived.Test.YtfldgimmdeijjaaRows
import Derived.JoinedOf
import Derived.KernelRfl
namespace Go.Proofs.Ytfldgimmdeijjaa.fnExactFewestMoves
set_option maxRecDepth 100000 in
set_option maxHeartbeats 4000000 in
theorem facts : joinedFacts Try.pinned.checked.prog 15 Try.f15 Rows.fnExactFewestMovesSpec Rows.fnExactFewestMovesRow = true := by
  unfold joinedFacts
  repeat' (with_reducible refine Bool.and_eq_true_iff.mpr ⟨?_, ?_⟩)
  all_goals (as_aux_lemma => kernel_rfl)
end Go.Proofs.Ytfldgimmdeijjaa.fnExactFewestMoves
