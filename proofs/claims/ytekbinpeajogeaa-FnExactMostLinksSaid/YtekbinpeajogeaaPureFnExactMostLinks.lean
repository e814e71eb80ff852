/- For every whole number, the program's MostLinks tells what the reference's tells. No conditions. -/
import Derived.Test.YtekbinpeajogeaaPFnExactMostLinksx1
namespace Go.Proofs.Ytekbinpeajogeaa.Pure
open Go.RowKit Go.Proofs.Ytekbinpeajogeaa.PFnExactMostLinks Go.Proofs.YtekbinpeajogeaaW.PrintWords Go.Proofs.YtekbinpeajogeaaW.PrintLast

-- BODY
theorem FnExactMostLinks : laws_FnExactMostLinks.Pure := by
  intro a0 h
  unfold laws_FnExactMostLinks.f spec_MostLinks.f impl_MostLinks.f spec_l1In.f impl_within.f
  by_cases c1 : 0 ≤ a0
  · by_cases c2 : a0 ≤ 9
    · have e : 0 ≤ wrap64 (a0 + 1) := by unfold wrap64; omega
      simp [c1, c2, spec_chMost.f, impl_mostLinks.f, e]
    · simp [c1, c2]
  · simp [c1]

end Go.Proofs.Ytekbinpeajogeaa.Pure
