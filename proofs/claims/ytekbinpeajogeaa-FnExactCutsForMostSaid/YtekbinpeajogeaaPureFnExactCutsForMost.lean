/- For every whole number, the program's CutsForMost tells what the reference's tells, in new memory. No conditions. -/
import Derived.Test.YtekbinpeajogeaaPFnExactCutsForMostx2
namespace Go.Proofs.Ytekbinpeajogeaa.Pure
open Go.RowKit Go.Proofs.Ytekbinpeajogeaa.PFnExactCutsForMost Go.Proofs.YtekbinpeajogeaaW.PrintWords Go.Proofs.YtekbinpeajogeaaW.PrintLast

-- BODY
theorem FnExactCutsForMost : laws_FnExactCutsForMost.Pure := by
  intro a0 h
  by_cases c : 0 ≤ a0 ∧ a0 ≤ 6
  · obtain ⟨c1, c2⟩ := c
    have : a0 = 0 ∨ a0 = 1 ∨ a0 = 2 ∨ a0 = 3 ∨ a0 = 4 ∨ a0 = 5 ∨ a0 = 6 := by omega
    rcases this with rfl | rfl | rfl | rfl | rfl | rfl | rfl <;> exact ⟨20, by decide +kernel⟩
  · have h1 : spec_l1In.f a0 0 6 = some false := by
      unfold spec_l1In.f
      by_cases d : a0 ≥ 0
      · rw [if_pos d, decide_eq_false (by omega)]
      · rw [if_neg d]
    have h2 : impl_within.f a0 0 6 = some false := by
      unfold impl_within.f
      by_cases d : 0 ≤ a0
      · rw [if_pos d, decide_eq_false (by omega)]
      · rw [if_neg d]
    have s : ∀ k, spec_CutsForMost.f k a0 = some ([], false) := fun k => by
      unfold spec_CutsForMost.f; rw [h1]; rfl
    have i : ∀ k, impl_CutsForMost.f k a0 = some ([], false) := fun k => by
      unfold impl_CutsForMost.f; rw [h2]; rfl
    refine ⟨5, ?_⟩
    unfold laws_FnExactCutsForMost.f
    rw [s, i]
    simp only [Option.bind_some]
    have e : laws_eqIntS.f 5 [] [] = some true := by decide +kernel
    rw [e]
    simp only [Option.bind_some, if_true]
    rw [show laws_FnExactCutsForMost.j0 5 = laws_FnExactCutsForMost.j0 (4 + 1) from rfl, laws_FnExactCutsForMost.j0]
    simp only [i, Option.bind_some]
    decide +kernel

end Go.Proofs.Ytekbinpeajogeaa.Pure
