/- For every whole number, the program's MostRing tells what the reference's tells. No conditions. -/
import Derived.Test.YtekbinpeajogeaaPFnExactMostRingx1
namespace Go.Proofs.Ytekbinpeajogeaa.Pure
open Go.RowKit Go.Proofs.Ytekbinpeajogeaa.PFnExactMostRing Go.Proofs.YtekbinpeajogeaaW.PrintWords Go.Proofs.YtekbinpeajogeaaW.PrintLast

-- BODY
theorem FnExactMostRing : laws_FnExactMostRing.Pure := by
  intro a0 h
  unfold laws_FnExactMostRing.f spec_MostRing.f impl_MostRing.f spec_l1In.f impl_within.f
  by_cases c1 : 1 ≤ a0
  · by_cases c2 : a0 ≤ 9
    · have e : 0 ≤ a0 := by omega
      simp [c1, c2, spec_chRing.f, impl_mostRing.f, e]
    · simp [c1, c2]
  · simp [c1]

end Go.Proofs.Ytekbinpeajogeaa.Pure
