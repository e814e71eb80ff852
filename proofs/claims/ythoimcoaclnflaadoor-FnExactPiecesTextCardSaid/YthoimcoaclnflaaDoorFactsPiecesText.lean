/- The closed facts of the row of FnExactPiecesText: the kernel reckons them out of the program and the row alone. No conditions. -/
import Derived.Test.YthoimcoaclnflaaDoorRows
import Derived.JoinedOf
import Derived.KernelRfl
namespace Go.Proofs.YthoimcoaclnflaaDoor.fnExactPiecesText
set_option maxRecDepth 100000 in
set_option maxHeartbeats 4000000 in
theorem facts : joinedFacts Tryd.pinned.checked.prog 3 Tryd.f3 Rows.fnExactPiecesTextSpec Rows.fnExactPiecesTextRow = true := by
  unfold joinedFacts
  repeat' (with_reducible refine Bool.and_eq_true_iff.mpr ⟨?_, ?_⟩)
  all_goals (as_aux_lemma => kernel_rfl)
end Go.Proofs.YthoimcoaclnflaaDoor.fnExactPiecesText
