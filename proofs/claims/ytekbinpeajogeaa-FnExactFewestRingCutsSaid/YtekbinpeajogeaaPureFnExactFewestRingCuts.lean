/- For every number, the program's FewestRingCuts tells what the reference's tells. No conditions. -/
import Derived.Test.YtekbinpeajogeaaPFnExactFewestRingCutsx1
namespace Go.Proofs.Ytekbinpeajogeaa.Pure
open Go.RowKit Go.Proofs.Ytekbinpeajogeaa.PFnExactFewestRingCuts Go.Proofs.YtekbinpeajogeaaW.PrintWords Go.Proofs.YtekbinpeajogeaaW.PrintLast
set_option linter.unusedVariables false
set_option linter.unusedSimpArgs false

theorem wrap_id (x : Int) (h0 : -9223372036854775808 ≤ x) (h1 : x ≤ 9223372036854775807) : wrap64 x = x := by
  unfold wrap64; omega
theorem wrap_succ (i : Nat) (h : i < 4611686018427387904) : wrap64 ((i : Int) + 1) = ((i + 1 : Nat) : Int) := by
  rw [wrap_id _ (by omega) (by omega)]; rfl
theorem rd_nat (l : List Int) (i : Nat) : rd l (i : Int) = l.getD i 0 := rfl
theorem getD_some (l : List Int) (i : Nat) (h : i < l.length) : l[i]? = some (l.getD i 0) := by
  rw [List.getD_eq_getElem?_getD, List.getElem?_eq_getElem h]; rfl
theorem bool_same {b c : Bool} {P : Prop} (hb : b = true ↔ P) (hc : c = true ↔ P) : b = c := by
  cases b <;> cases c <;> simp_all

theorem l1In_eq (x lo hi : Int) : spec_l1In.f x lo hi = some (decide (lo ≤ x ∧ x ≤ hi)) := by
  unfold spec_l1In.f
  by_cases c : x ≥ lo
  · rw [if_pos c]; congr 1; by_cases d : x ≤ hi
    · rw [decide_eq_true d, decide_eq_true ⟨c, d⟩]
    · rw [decide_eq_false d, decide_eq_false (fun h => d h.2)]
  · rw [if_neg c, decide_eq_false (fun h => c h.1)]

theorem within_eq (x lo hi : Int) : impl_within.f x lo hi = some (decide (lo ≤ x ∧ x ≤ hi)) := by
  unfold impl_within.f
  by_cases c : lo ≤ x
  · rw [if_pos c]; congr 1; by_cases d : x ≤ hi
    · rw [decide_eq_true d, decide_eq_true ⟨c, d⟩]
    · rw [decide_eq_false d, decide_eq_false (fun h => d h.2)]
  · rw [if_neg c, decide_eq_false (fun h => c h.1)]

theorem ring_some (c : Nat) (h : c ≤ 14) : ∃ v, spec_chRing.f (c : Int) = some v ∧ (c = 14 → 100000 ≤ v) := by
  by_cases e : c = 14
  · subst e
    exact ⟨245759, by decide +kernel, fun _ => by decide⟩
  · unfold spec_chRing.f
    rw [if_pos (by omega)]
    exact ⟨_, rfl, fun h => absurd h e⟩
theorem ring_eq (x : Int) : impl_mostRing.f x = spec_chRing.f x := rfl
theorem loop_eq : ∀ k a c, impl_FewestRingCuts.l0 k a c = spec_FewestRingCuts.l0 k a c
  | 0, _, _ => by rw [impl_FewestRingCuts.l0, spec_FewestRingCuts.l0]
  | k + 1, a, c => by rw [impl_FewestRingCuts.l0, spec_FewestRingCuts.l0]; simp only [loop_eq k, ring_eq]
theorem few_loop (a : Int) (ha : a ≤ 100000) : ∀ (d c : Nat), c + d = 14 → ∃ r, Ev (fun k => spec_FewestRingCuts.l0 k a (c : Int)) r
  | 0, c, h => by
    obtain ⟨v, hv, hb⟩ := ring_some c (by omega)
    have hc := hb (by omega)
    refine ⟨((c : Int), true), ?_⟩
    refine Ev.step (fun k => by rw [spec_FewestRingCuts.l0]) ?_
    refine Ev.bind (a := v) (by rw [hv]; exact Ev.now _) ?_
    simp only [if_neg (show ¬ v < a by omega)]
    exact Ev.now _
  | d + 1, c, h => by
    obtain ⟨v, hv, _⟩ := ring_some c (by omega)
    by_cases z : v < a
    · obtain ⟨r, h1⟩ := few_loop a ha d (c + 1) (by omega)
      refine ⟨r, ?_⟩
      refine Ev.step (fun k => by rw [spec_FewestRingCuts.l0]) ?_
      refine Ev.bind (a := v) (by rw [hv]; exact Ev.now _) ?_
      simp only [if_pos z]
      rw [wrap_succ c (by omega)]
      exact h1
    · refine ⟨((c : Int), true), ?_⟩
      refine Ev.step (fun k => by rw [spec_FewestRingCuts.l0]) ?_
      refine Ev.bind (a := v) (by rw [hv]; exact Ev.now _) ?_
      simp only [if_neg z]
      exact Ev.now _
theorem FnExactFewestRingCuts : laws_FnExactFewestRingCuts.Pure := by
  intro a0 _
  apply Ev.rounds
  unfold laws_FnExactFewestRingCuts.f
  have same : ∃ r : Int × Bool, Ev (fun k => spec_FewestRingCuts.f k a0) r ∧ Ev (fun k => impl_FewestRingCuts.f k a0) r := by
    unfold spec_FewestRingCuts.f impl_FewestRingCuts.f
    by_cases d : 1 ≤ a0 ∧ a0 ≤ 100000
    · obtain ⟨r, h1⟩ := few_loop a0 d.2 13 1 rfl
      refine ⟨r, ?_, ?_⟩
      · refine Ev.bind (a := true) (by rw [l1In_eq, decide_eq_true d]; exact Ev.now _) ?_
        simp only [if_true]
        exact h1
      · refine Ev.bind (a := true) (by rw [within_eq, decide_eq_true d]; exact Ev.now _) ?_
        simp only [if_true]
        exact Ev.congr (fun k => loop_eq k a0 1) h1
    · refine ⟨(0, false), ?_, ?_⟩
      · refine Ev.bind (a := false) (by rw [l1In_eq, decide_eq_false d]; exact Ev.now _) ?_
        simp only [Bool.false_eq_true, if_false]
        exact Ev.now _
      · refine Ev.bind (a := false) (by rw [within_eq, decide_eq_false d]; exact Ev.now _) ?_
        simp only [Bool.false_eq_true, if_false]
        exact Ev.now _
  obtain ⟨r, hs, hi⟩ := same
  refine Ev.bind hs (Ev.bind hi ?_)
  simp only [if_true, bne_self_eq_false, Bool.false_eq_true, if_false]
  exact Ev.now _

end Go.Proofs.Ytekbinpeajogeaa.Pure
