/- For every list of whole numbers and every number, the program's GrowRuler tells what the reference's tells, in new memory, and the list reads as before. No conditions. -/
import Derived.Test.YtfapijfjonnmcaaPFnExactGrowRulerx3
namespace Go.Proofs.Ytfapijfjonnmcaa.Pure
open Go.RowKit Go.Proofs.Ytfapijfjonnmcaa.PFnExactGrowRuler Go.Proofs.YtfapijfjonnmcaaW.PrintWords Go.Proofs.YtfapijfjonnmcaaW.PrintLast
set_option linter.unusedVariables false
set_option linter.unusedSimpArgs false

theorem wrap_id (x : Int) (h0 : -9223372036854775808 ≤ x) (h1 : x ≤ 9223372036854775807) : wrap64 x = x := by
  unfold wrap64; omega
theorem wrap_succ (i : Nat) (h : i < 4611686018427387904) : wrap64 ((i : Int) + 1) = ((i + 1 : Nat) : Int) := by
  rw [wrap_id _ (by omega) (by omega)]; rfl
theorem rd_nat (l : List Int) (i : Nat) : rd l (i : Int) = l.getD i 0 := rfl
theorem getD_some (l : List Int) (i : Nat) (h : i < l.length) : l[i]? = some (l.getD i 0) := by
  rw [List.getD_eq_getElem?_getD, List.getElem?_eq_getElem h]; rfl
theorem bool_same {b c : Bool} {P : Prop} (hb : b = true ↔ P) (hc : c = true ↔ P) : b = c := by
  cases b <;> cases c <;> simp_all

theorem eq_loop (a : List Int) (hm : a.length ≤ 1099511627776) : ∀ (d i : Nat), i + d = a.length → Ev (fun k => laws_eqIntS.l0 k a a (i : Int)) true
  | 0, i, h => by
    refine Ev.step (fun k => by rw [laws_eqIntS.l0]) ?_
    simp only [if_neg (show ¬ ((i : Int) < (a.length : Int)) by omega)]
    exact Ev.now _
  | d + 1, i, h => by
    refine Ev.step (fun k => by rw [laws_eqIntS.l0]) ?_
    simp only [if_pos (show (i : Int) < (a.length : Int) by omega), if_pos (show (0 : Int) ≤ (i : Int) by omega), if_true]
    rw [wrap_succ i (by omega)]
    exact eq_loop a hm d (i + 1) (by omega)
theorem eq_ev (a : List Int) (hm : a.length ≤ 1099511627776) : Ev (fun k => laws_eqIntS.f k a a) true := by
  unfold laws_eqIntS.f
  simp only [if_true]
  exact eq_loop a hm a.length 0 (by omega)

theorem toInt_loop (l : List Int) (hm : l.length ≤ 1099511627776) : ∀ (d i : Nat) (cur : List Int), i + d = l.length → cur.length = l.length → (∀ j, j < i → cur[j]? = l[j]?) → Ev (fun k => laws_toIntS.l0 k l cur (i : Int)) l
  | 0, i, cur, h, hc, hj => by
    refine Ev.step (fun k => by rw [laws_toIntS.l0]) ?_
    simp only [if_neg (show ¬ ((i : Int) < (l.length : Int)) by omega)]
    have e : cur = l := by
      apply List.ext_getElem?
      intro j
      by_cases c : j < i
      · exact hj j c
      · rw [List.getElem?_eq_none (by omega), List.getElem?_eq_none (by omega)]
    rw [e]
    exact Ev.now _
  | d + 1, i, cur, h, hc, hj => by
    refine Ev.step (fun k => by rw [laws_toIntS.l0]) ?_
    simp only [if_pos (show (i : Int) < (l.length : Int) by omega), if_pos (show (0 : Int) ≤ (i : Int) by omega), if_pos (show (i : Int) < (cur.length : Int) by omega)]
    rw [wrap_succ i (by omega), Int.toNat_natCast, rd_nat]
    refine toInt_loop l hm d (i + 1) _ (by omega) (by rw [List.length_set]; exact hc) ?_
    intro j hlt
    rw [List.getElem?_set]
    by_cases c : i = j
    · subst c
      rw [if_pos rfl, if_pos (by omega), getD_some l i (by omega)]
    · rw [if_neg c]
      exact hj j (by omega)
theorem toInt_ev (l : List Int) (hm : l.length ≤ 1099511627776) : Ev (fun k => laws_toIntS.f k l) l := by
  unfold laws_toIntS.f
  simp only [if_pos (show (0 : Int) ≤ (l.length : Int) by omega), if_pos (show ((l.length : Int)).toNat ≤ 35184372088832 by omega)]
  exact toInt_loop l hm l.length 0 _ (by omega) (by simp) (fun j hj => by omega)

theorem mark_loop : ∀ (d i : Nat) (cur : List Int), i + d = cur.length → cur.length ≤ 1099511627776 → (∀ j, j < i → cur[j]? = some ((j : Int) + 1)) →
    ∃ m : List Int, m.length = cur.length ∧ (∀ j, j < m.length → m[j]? = some ((j : Int) + 1)) ∧ Ev (fun k => laws_markIntS.l0 k cur ((i : Int) + 1) (i : Int)) ((cur.length : Int) + 1, m)
  | 0, i, cur, h, hm, hj => by
    refine ⟨cur, rfl, fun j hlt => hj j (by omega), ?_⟩
    refine Ev.step (fun k => by rw [laws_markIntS.l0]) ?_
    simp only [if_neg (show ¬ ((i : Int) < (cur.length : Int)) by omega)]
    rw [show ((cur.length : Int) + 1) = ((i : Int) + 1) by omega]
    exact Ev.now _
  | d + 1, i, cur, h, hm, hj => by
    obtain ⟨m, h1, h2, h3⟩ := mark_loop d (i + 1) (cur.set i ((i : Int) + 1)) (by simp; omega) (by simpa using hm) (fun j hlt => by
      rw [List.getElem?_set]
      by_cases c : i = j
      · subst c; rw [if_pos rfl, if_pos (by omega)]
      · rw [if_neg c]; exact hj j (by omega))
    rw [List.length_set] at h1 h3
    refine ⟨m, h1, h2, ?_⟩
    refine Ev.step (fun k => by rw [laws_markIntS.l0]) ?_
    simp only [if_pos (show (i : Int) < (cur.length : Int) by omega), if_pos (show (0 : Int) ≤ (i : Int) by omega)]
    rw [wrap_succ i (by omega), Int.toNat_natCast, show wrap64 ((i : Int) + 1 + 1) = ((i + 1 : Nat) : Int) + 1 by rw [wrap_id _ (by omega) (by omega)]; omega]
    exact h3
theorem held_loop (m : List Int) (hm : m.length ≤ 1099511627776) (hj : ∀ j, j < m.length → m[j]? = some ((j : Int) + 1)) : ∀ (d i : Nat), i + d = m.length →
    Ev (fun k => laws_heldIntS.l0 k m ((i : Int) + 1) (i : Int)) ((m.length : Int) + 1)
  | 0, i, h => by
    refine Ev.step (fun k => by rw [laws_heldIntS.l0]) ?_
    simp only [if_neg (show ¬ ((i : Int) < (m.length : Int)) by omega)]
    rw [show ((m.length : Int) + 1) = ((i : Int) + 1) by omega]
    exact Ev.now _
  | d + 1, i, h => by
    refine Ev.step (fun k => by rw [laws_heldIntS.l0]) ?_
    have e : rd m (i : Int) = (i : Int) + 1 := by
      rw [rd_nat, List.getD_eq_getElem?_getD, hj i (by omega)]; rfl
    simp only [if_pos (show (i : Int) < (m.length : Int) by omega), if_pos (show (0 : Int) ≤ (i : Int) by omega), e, if_true]
    rw [wrap_succ i (by omega), show wrap64 ((i : Int) + 1 + 1) = ((i + 1 : Nat) : Int) + 1 by rw [wrap_id _ (by omega) (by omega)]; omega]
    exact held_loop m hm hj d (i + 1) (by omega)
theorem mark_ev (l : List Int) (hm : l.length ≤ 1099511627776) : ∃ m : List Int, Ev (fun k => laws_markIntS.f k l 1) ((l.length : Int) + 1, m) ∧ Ev (fun k => laws_heldIntS.f k m 1) ((l.length : Int) + 1) := by
  obtain ⟨m, h1, h2, h3⟩ := mark_loop l.length 0 l (by omega) hm (fun j h => by omega)
  refine ⟨m, h3, ?_⟩
  rw [← h1]
  exact held_loop m (by omega) h2 m.length 0 (by omega)

theorem l1In_eq (x lo hi : Int) : spec_l1In.f x lo hi = some (decide (lo ≤ x ∧ x ≤ hi)) := by
  unfold spec_l1In.f
  by_cases c : x ≥ lo
  · rw [if_pos c]; congr 1; by_cases d : x ≤ hi
    · rw [decide_eq_true d, decide_eq_true ⟨c, d⟩]
    · rw [decide_eq_false d, decide_eq_false (fun h => d h.2)]
  · rw [if_neg c, decide_eq_false (fun h => c h.1)]

theorem within_eq (x lo hi : Int) : impl_within.f x lo hi = some (decide (lo ≤ x ∧ x ≤ hi)) := by
  unfold impl_within.f
  by_cases c : lo ≤ x
  · rw [if_pos c]; congr 1; by_cases d : x ≤ hi
    · rw [decide_eq_true d, decide_eq_true ⟨c, d⟩]
    · rw [decide_eq_false d, decide_eq_false (fun h => d h.2)]
  · rw [if_neg c, decide_eq_false (fun h => c h.1)]

theorem l1Rising_loop (lo hi : Int) (l : List Int) (hm : l.length ≤ 1099511627776) : ∀ (d i : Nat), i + d = l.length →
    ∃ b, Ev (fun k => spec_l1Rising.l0 k l lo hi l (l.length : Int) (i : Int)) b ∧ (b = true ↔ ∀ j, i ≤ j → j < l.length → (lo ≤ l.getD j 0 ∧ l.getD j 0 ≤ hi) ∧ (0 < j → l.getD (j - 1) 0 < l.getD j 0))
  | 0, i, h => by
    refine ⟨true, ?_, by simp only [true_iff]; intro j h1 h2; omega⟩
    refine Ev.step (fun k => by rw [spec_l1Rising.l0]) ?_
    simp only [if_neg (show ¬ ((i : Int) < (l.length : Int)) by omega)]
    exact Ev.now _
  | d + 1, i, h => by
    have w : 0 < i → wrap64 ((i : Int) - 1) = ((i - 1 : Nat) : Int) := fun h => by rw [wrap_id _ (by omega) (by omega)]; omega
    by_cases c : (lo ≤ l.getD i 0 ∧ l.getD i 0 ≤ hi)
    · by_cases c2 : 0 < i → l.getD (i - 1) 0 < l.getD i 0
      · obtain ⟨b, hb, hj⟩ := l1Rising_loop lo hi l hm d (i + 1) (by omega)
        refine ⟨b, ?_, ?_⟩
        · refine Ev.step (fun k => by rw [spec_l1Rising.l0]) ?_
          simp only [if_pos (show (i : Int) < (l.length : Int) by omega), if_pos (show (0 : Int) ≤ (i : Int) by omega), l1In_eq, rd_nat, decide_eq_true c, Option.bind_some, if_true]
          rw [wrap_succ i (by omega)]
          by_cases p : 0 < i
          · have c3 := c2 p
            simp only [w p, rd_nat, if_pos (show (i : Int) > 0 by omega), if_pos (show (0 : Int) ≤ ((i - 1 : Nat) : Int) by omega), if_pos (show ((i - 1 : Nat) : Int) < (l.length : Int) by omega), if_neg (show ¬ (l.getD (i - 1) 0 ≥ l.getD i 0) by omega)]
            exact hb
          · simp only [if_neg (show ¬ ((i : Int) > 0) by omega)]
            exact hb
        · rw [hj]
          constructor
          · intro H j h1 h2
            by_cases e : j = i
            · rw [e]; exact ⟨c, c2⟩
            · exact H j (by omega) h2
          · intro H j h1 h2
            exact H j (by omega) h2
      · have p : 0 < i := by
          rcases Nat.eq_zero_or_pos i with z | z
          · exact absurd (fun hh => by omega) c2
          · exact z
        have c3 : ¬ l.getD (i - 1) 0 < l.getD i 0 := fun hh => c2 (fun _ => hh)
        refine ⟨false, ?_, ?_⟩
        · refine Ev.step (fun k => by rw [spec_l1Rising.l0]) ?_
          simp only [if_pos (show (i : Int) < (l.length : Int) by omega), if_pos (show (0 : Int) ≤ (i : Int) by omega), l1In_eq, rd_nat, decide_eq_true c, Option.bind_some, if_true]
          simp only [w p, rd_nat, if_pos (show (i : Int) > 0 by omega), if_pos (show (0 : Int) ≤ ((i - 1 : Nat) : Int) by omega), if_pos (show ((i - 1 : Nat) : Int) < (l.length : Int) by omega), if_pos (show (l.getD (i - 1) 0 ≥ l.getD i 0) by omega)]
          exact Ev.now _
        · exact ⟨fun H => (by cases H), fun H => absurd (H i (by omega) (by omega)).2 c2⟩
    · refine ⟨false, ?_, ?_⟩
      · refine Ev.step (fun k => by rw [spec_l1Rising.l0]) ?_
        simp only [if_pos (show (i : Int) < (l.length : Int) by omega), if_pos (show (0 : Int) ≤ (i : Int) by omega), l1In_eq, rd_nat, decide_eq_false c, Option.bind_some, Bool.false_eq_true, if_false]
        exact Ev.now _
      · exact ⟨fun H => (by cases H), fun H => absurd (H i (by omega) (by omega)).1 c⟩
theorem l1Rising_ev (lo hi : Int) (l : List Int) (hm : l.length ≤ 1099511627776) :
    ∃ b, Ev (fun k => spec_l1Rising.f k l lo hi) b ∧ (b = true ↔ ∀ j, j < l.length → (lo ≤ l.getD j 0 ∧ l.getD j 0 ≤ hi) ∧ (0 < j → l.getD (j - 1) 0 < l.getD j 0)) := by
  obtain ⟨b, hb, hj⟩ := l1Rising_loop lo hi l hm l.length 0 (by omega)
  exact ⟨b, hb, by rw [hj]; exact ⟨fun H j h => H j (by omega) h, fun H j _ h => H j h⟩⟩
theorem rises_loop (l : List Int) (hm : l.length ≤ 1099511627776) : ∀ (d i : Nat), 1 ≤ i → l.length ≤ i + d →
    ∃ b, Ev (fun k => impl_rises.l0 k l (i : Int)) b ∧ (b = true ↔ ∀ j, i ≤ j → j < l.length → l.getD (j - 1) 0 < l.getD j 0)
  | 0, i, h0, h => by
    refine ⟨true, ?_, by simp only [true_iff]; intro j h1 h2; omega⟩
    refine Ev.step (fun k => by rw [impl_rises.l0]) ?_
    simp only [if_neg (show ¬ ((i : Int) < (l.length : Int)) by omega)]
    exact Ev.now _
  | d + 1, i, h0, h => by
    by_cases hlt : i < l.length
    · have w : wrap64 ((i : Int) - 1) = ((i - 1 : Nat) : Int) := by rw [wrap_id _ (by omega) (by omega)]; omega
      by_cases c : l.getD (i - 1) 0 < l.getD i 0
      · obtain ⟨b, hb, hj⟩ := rises_loop l hm d (i + 1) (by omega) (by omega)
        refine ⟨b, ?_, ?_⟩
        · refine Ev.step (fun k => by rw [impl_rises.l0]) ?_
          simp only [w, rd_nat, if_pos (show (i : Int) < (l.length : Int) by omega), if_pos (show (0 : Int) ≤ (i : Int) by omega), if_pos (show (0 : Int) ≤ ((i - 1 : Nat) : Int) by omega), if_pos (show ((i - 1 : Nat) : Int) < (l.length : Int) by omega), if_neg (show ¬ (l.getD (i - 1) 0 ≥ l.getD i 0) by omega)]
          rw [wrap_succ i (by omega)]
          exact hb
        · rw [hj]
          constructor
          · intro H j h1 h2
            by_cases e : j = i
            · rw [e]; exact c
            · exact H j (by omega) h2
          · intro H j h1 h2
            exact H j (by omega) h2
      · refine ⟨false, ?_, ?_⟩
        · refine Ev.step (fun k => by rw [impl_rises.l0]) ?_
          simp only [w, rd_nat, if_pos (show (i : Int) < (l.length : Int) by omega), if_pos (show (0 : Int) ≤ (i : Int) by omega), if_pos (show (0 : Int) ≤ ((i - 1 : Nat) : Int) by omega), if_pos (show ((i - 1 : Nat) : Int) < (l.length : Int) by omega), if_pos (show (l.getD (i - 1) 0 ≥ l.getD i 0) by omega)]
          exact Ev.now _
        · exact ⟨fun H => (by cases H), fun H => absurd (H i (by omega) hlt) c⟩
    · exact rises_loop l hm 0 i h0 (by omega)
theorem rises_ev (l : List Int) (hm : l.length ≤ 1099511627776) :
    ∃ b, Ev (fun k => impl_rises.f k l) b ∧ (b = true ↔ ∀ j, 0 < j → j < l.length → l.getD (j - 1) 0 < l.getD j 0) :=
  rises_loop l hm l.length 1 (by omega) (by omega)

theorem up_to (l : List Int) (h : ∀ j, 0 < j → j < l.length → l.getD (j - 1) 0 < l.getD j 0) : ∀ (d i : Nat), i + d < l.length → l.getD i 0 ≤ l.getD (i + d) 0
  | 0, i, _ => by simp
  | d + 1, i, hd => by
    have a := up_to l h d i (by omega)
    have b := h (i + d + 1) (by omega) (by omega)
    rw [Nat.add_sub_cancel] at b
    rw [← Nat.add_assoc]
    omega

/-- What a ruler is. -/
def Ruler (l : List Int) : Prop := 2 ≤ l.length ∧ l.getD 0 0 = 0 ∧ (∀ j, j < l.length → 0 ≤ l.getD j 0 ∧ l.getD j 0 ≤ 60) ∧ ∀ j, 0 < j → j < l.length → l.getD (j - 1) 0 < l.getD j 0
theorem ruGood_ev (l : List Int) (hm : l.length ≤ 1099511627776) : ∃ b, Ev (fun k => spec_ruGood.f k l) b ∧ (b = true ↔ Ruler l) := by
  unfold spec_ruGood.f
  by_cases c : 2 ≤ l.length
  · simp only [if_pos (show ((l.length : Int) ≥ 2) by omega)]
    obtain ⟨b, hb, jb⟩ := l1Rising_ev 0 60 l hm
    cases b with
    | true =>
      have J := jb.1 rfl
      refine ⟨rd l 0 == 0, Ev.bind hb ?_, ?_⟩
      · simp only [if_true, if_pos (show (0 : Int) < (l.length : Int) by omega)]
        exact Ev.now _
      · rw [beq_iff_eq]
        exact ⟨fun H => ⟨c, H, fun j h => (J j h).1, fun j h0 h => (J j h).2 h0⟩, fun H => H.2.1⟩
    | false =>
      refine ⟨false, Ev.bind hb ?_, ?_⟩
      · simp only [Bool.false_eq_true, if_false]
        exact Ev.now _
      · exact ⟨fun H => (by cases H), fun H => jb.2 (fun j h => ⟨H.2.2.1 j h, fun h0 => H.2.2.2 j h0 h⟩)⟩
  · simp only [if_neg (show ¬ ((l.length : Int) ≥ 2) by omega)]
    exact ⟨false, Ev.now _, fun H => (by cases H), fun H => absurd H.1 c⟩
theorem isRuler_ev (l : List Int) (hm : l.length ≤ 1099511627776) : ∃ b, Ev (fun k => impl_IsRuler.f k l) b ∧ (b = true ↔ Ruler l) := by
  unfold impl_IsRuler.f
  by_cases c : 2 ≤ l.length
  · have w : wrap64 ((l.length : Int) - 1) = ((l.length - 1 : Nat) : Int) := by rw [wrap_id _ (by omega) (by omega)]; omega
    simp only [if_pos (show ((l.length : Int) ≥ 2) by omega), if_pos (show (0 : Int) < (l.length : Int) by omega), w, if_pos (show (0 : Int) ≤ ((l.length - 1 : Nat) : Int) by omega), if_pos (show ((l.length - 1 : Nat) : Int) < (l.length : Int) by omega)]
    by_cases c1 : rd l 0 = 0
    · simp only [if_pos c1]
      by_cases c2 : rd l ((l.length - 1 : Nat) : Int) ≤ 60
      · simp only [if_pos c2]
        obtain ⟨b, hb, jb⟩ := rises_ev l hm
        refine ⟨b, Ev.bind hb (Ev.now _), ?_⟩
        rw [jb]
        constructor
        · intro H
          refine ⟨c, c1, fun j hj => ?_, H⟩
          have a1 := up_to l H j 0 (by omega)
          have a2 := up_to l H (l.length - 1 - j) j (by omega)
          rw [Nat.zero_add] at a1
          rw [show j + (l.length - 1 - j) = l.length - 1 by omega] at a2
          have b1 : l.getD 0 0 = 0 := c1
          have b2 : l.getD (l.length - 1) 0 ≤ 60 := c2
          omega
        · intro H
          exact H.2.2.2
      · simp only [if_neg c2]
        exact ⟨false, Ev.now _, fun H => (by cases H), fun H => absurd (H.2.2.1 (l.length - 1) (by omega)).2 c2⟩
    · simp only [if_neg c1]
      exact ⟨false, Ev.now _, fun H => (by cases H), fun H => absurd H.2.1 c1⟩
  · simp only [if_neg (show ¬ ((l.length : Int) ≥ 2) by omega)]
    exact ⟨false, Ev.now _, fun H => (by cases H), fun H => absurd H.1 c⟩
theorem ruler_same (l : List Int) (hm : l.length ≤ 1099511627776) : ∃ b, Ev (fun k => spec_ruGood.f k l) b ∧ Ev (fun k => impl_IsRuler.f k l) b ∧ (b = true ↔ Ruler l) := by
  obtain ⟨b, hb, jb⟩ := ruGood_ev l hm
  obtain ⟨c, hc, jc⟩ := isRuler_ev l hm
  have e := bool_same jb jc
  subst e
  exact ⟨b, hb, hc, jb⟩

/-- The marks, all so many times as far. -/
def grown (k : Int) (l : List Int) : List Int := l.map (fun x => wrap64 (k * x))
theorem grown_getD (k : Int) (l : List Int) (j : Nat) (h : j < l.length) : (grown k l).getD j 0 = wrap64 (k * l.getD j 0) := by
  unfold grown
  rw [List.getD_eq_getElem?_getD, List.getElem?_map, List.getElem?_eq_getElem h, List.getD_eq_getElem?_getD, List.getElem?_eq_getElem h]; rfl
theorem grown_take (k : Int) (l : List Int) (i : Nat) (h : i < l.length) : grown k (l.take (i + 1)) = grown k (l.take i) ++ [wrap64 (k * rd l (i : Int))] := by
  unfold grown
  have e : rd l (i : Int) = l[i] := by
    show l.getD i 0 = _
    rw [List.getD_eq_getElem?_getD, List.getElem?_eq_getElem h]; rfl
  rw [List.take_succ_eq_append_getElem h, List.map_append, e]; rfl
theorem growS_loop (q : Int) (l : List Int) (hm : l.length ≤ 1099511627776) (r : List Int × Bool)
    (K : Ev (fun k => (spec_ruGood.f k (grown q l)).bind fun t => (if t = true then (some (grown q l, true)) else (some (([] : List Int), false)))) r) : ∀ (d i : Nat), i + d = l.length →
    Ev (fun k => spec_GrowRuler.l0 k q (grown q (l.take i)) l (l.length : Int) (i : Int)) r
  | 0, i, h => by
    refine Ev.step (fun k => by rw [spec_GrowRuler.l0]) ?_
    simp only [if_neg (show ¬ ((i : Int) < (l.length : Int)) by omega)]
    rw [List.take_of_length_le (by omega)]
    exact K
  | d + 1, i, h => by
    have ih := growS_loop q l hm r K d (i + 1) (by omega)
    rw [grown_take q l i (by omega)] at ih
    have e : (grown q (l.take i)).length ≤ l.length := by unfold grown; rw [List.length_map, List.length_take]; omega
    refine Ev.step (fun k => by rw [spec_GrowRuler.l0]) ?_
    simp only [if_pos (show (i : Int) < (l.length : Int) by omega), if_pos (show (0 : Int) ≤ (i : Int) by omega), if_pos (show (grown q (l.take i)).length < 17592186044416 by omega)]
    rw [wrap_succ i (by omega)]
    exact ih
theorem growI_loop (q : Int) (l : List Int) (hm : l.length ≤ 1099511627776) : ∀ (d i : Nat), i + d = l.length →
    Ev (fun k => impl_GrowRuler.l0 k q (grown q (l.take i)) l (l.length : Int) (i : Int)) (grown q l, true)
  | 0, i, h => by
    refine Ev.step (fun k => by rw [impl_GrowRuler.l0]) ?_
    simp only [if_neg (show ¬ ((i : Int) < (l.length : Int)) by omega)]
    rw [List.take_of_length_le (by omega)]
    exact Ev.now _
  | d + 1, i, h => by
    have ih := growI_loop q l hm d (i + 1) (by omega)
    rw [grown_take q l i (by omega)] at ih
    have e : (grown q (l.take i)).length ≤ l.length := by unfold grown; rw [List.length_map, List.length_take]; omega
    refine Ev.step (fun k => by rw [impl_GrowRuler.l0]) ?_
    simp only [if_pos (show (i : Int) < (l.length : Int) by omega), if_pos (show (0 : Int) ≤ (i : Int) by omega), if_pos (show (grown q (l.take i)).length < 17592186044416 by omega)]
    rw [wrap_succ i (by omega)]
    exact ih
theorem ruler_last {l : List Int} (g : Ruler l) : 1 ≤ l.getD (l.length - 1) 0 ∧ l.getD (l.length - 1) 0 ≤ 60 ∧ ∀ j, j < l.length → l.getD j 0 ≤ l.getD (l.length - 1) 0 := by
  obtain ⟨g1, g2, g3, g4⟩ := g
  have a := up_to l g4 (l.length - 2) 1 (by omega)
  have b := g4 1 (by omega) (by omega)
  rw [show 1 + (l.length - 2) = l.length - 1 by omega] at a
  rw [show 1 - 1 = 0 from rfl, g2] at b
  refine ⟨by omega, (g3 _ (by omega)).2, fun j hj => ?_⟩
  have c := up_to l g4 (l.length - 1 - j) j (by omega)
  rw [show j + (l.length - 1 - j) = l.length - 1 by omega] at c
  exact c
theorem grown_at {l : List Int} (g : Ruler l) (q : Int) (h1 : 1 ≤ q) (h2 : q ≤ 60) (j : Nat) (h : j < l.length) : (grown q l).getD j 0 = q * l.getD j 0 ∧ 0 ≤ q * l.getD j 0 ∧ q * l.getD j 0 ≤ 3600 := by
  have a := g.2.2.1 j h
  have b : 0 ≤ q * l.getD j 0 := Int.mul_nonneg (by omega) a.1
  have c : q * l.getD j 0 ≤ 60 * 60 := Int.mul_le_mul h2 a.2 a.1 (by omega)
  exact ⟨by rw [grown_getD q l j h, wrap_id _ (by omega) (by omega)], b, by omega⟩
/-- The marks that are told again are a ruler just if the last one is not too far. -/
theorem grown_ruler {l : List Int} (g : Ruler l) (q : Int) (h1 : 1 ≤ q) (h2 : q ≤ 60) : Ruler (grown q l) ↔ q * l.getD (l.length - 1) 0 ≤ 60 := by
  have hl : (grown q l).length = l.length := by unfold grown; simp
  have g0 := g
  obtain ⟨g1, g2, g3, g4⟩ := g
  have la := ruler_last g0
  constructor
  · intro H
    have := (H.2.2.1 (l.length - 1) (by omega)).2
    rw [(grown_at g0 q h1 h2 (l.length - 1) (by omega)).1] at this
    exact this
  · intro H
    refine ⟨by omega, ?_, ?_, ?_⟩
    · rw [(grown_at g0 q h1 h2 0 (by omega)).1, g2, Int.mul_zero]
    · intro j hj
      rw [hl] at hj
      obtain ⟨e1, e2, e3⟩ := grown_at g0 q h1 h2 j hj
      have m : q * l.getD j 0 ≤ q * l.getD (l.length - 1) 0 := Int.mul_le_mul_of_nonneg_left (la.2.2 j hj) (by omega)
      rw [e1]
      omega
    · intro j h0 hj
      rw [hl] at hj
      rw [(grown_at g0 q h1 h2 j hj).1, (grown_at g0 q h1 h2 (j - 1) (by omega)).1]
      exact Int.mul_lt_mul_of_pos_left (g4 j h0 hj) (by omega)
theorem GrowRuler_same (l : List Int) (q : Int) (hm : l.length ≤ 1099511627776) : ∃ r : List Int × Bool, r.1.length ≤ 1099511627776 ∧ Ev (fun k => spec_GrowRuler.f k l q) r ∧ Ev (fun k => impl_GrowRuler.f k l q) r := by
  obtain ⟨b, hs, hi, jb⟩ := ruler_same l hm
  unfold spec_GrowRuler.f impl_GrowRuler.f
  have hl : (grown q l).length = l.length := by unfold grown; simp
  cases b with
  | true =>
    have g := jb.1 rfl
    have g1 := g.1
    have la := ruler_last g
    have w : wrap64 ((l.length : Int) - 1) = ((l.length - 1 : Nat) : Int) := by rw [wrap_id _ (by omega) (by omega)]; omega
    have il : impl_length.f l = some (l.getD (l.length - 1) 0) := by
      unfold impl_length.f
      rw [w, if_pos (by omega), if_pos (by omega)]; rfl
    generalize hL : l.getD (l.length - 1) 0 = L at il la
    have hd0 : 0 ≤ 60 / L := Int.ediv_nonneg (by omega) (by omega)
    have hd1 : 60 / L ≤ 60 := Int.ediv_le_self _ (by omega)
    have hdv : q ≤ 60 / L ↔ q * L ≤ 60 := Int.le_ediv_iff_mul_le (by omega)
    have hi' : ∀ r, Ev (fun k => impl_GrowRuler.j0 k l q (!decide (1 ≤ q ∧ q ≤ 60 / L))) r → Ev (fun k => (impl_IsRuler.f k l).bind fun t126 => (if t126 = true then ((impl_length.f l).bind fun t127 => (if t127 = 0 then (none) else ((impl_within.f q 1 (wrap64 ((60 : Int) / t127))).bind fun t128 => (impl_GrowRuler.j0 k l q (!t128))))) else (impl_GrowRuler.j0 k l q true))) r := by
      intro r H
      refine Ev.bind hi ?_
      simp only [if_true, il, Option.bind_some, if_neg (show ¬ L = 0 by omega), within_eq]
      rw [wrap_id (60 / L) (by omega) (by omega)]
      exact H
    by_cases c : 1 ≤ q ∧ q ≤ 60
    · have gr := grown_ruler g q c.1 c.2
      rw [hL] at gr
      obtain ⟨b2, hb2, jb2⟩ := ruGood_ev (grown q l) (by omega)
      have hs' : ∀ r, Ev (fun k => (spec_ruGood.f k (grown q l)).bind fun t => (if t = true then (some (grown q l, true)) else (some (([] : List Int), false)))) r → Ev (fun k => (spec_ruGood.f k l).bind fun t113 => (if t113 = true then ((spec_l1In.f q 1 60).bind fun t114 => (spec_GrowRuler.j0 k l q (!t114))) else (spec_GrowRuler.j0 k l q true))) r := by
        intro r H
        refine Ev.bind hs ?_
        simp only [if_true, l1In_eq, Option.bind_some, decide_eq_true c, Bool.not_true]
        refine Ev.step (fun k => by rw [spec_GrowRuler.j0]) ?_
        simp only [Bool.false_eq_true, if_false]
        exact growS_loop q l hm r H l.length 0 (by omega)
      by_cases c2 : q ≤ 60 / L
      · have e2 : b2 = true := jb2.2 (gr.2 (hdv.1 c2))
        subst e2
        refine ⟨(grown q l, true), by simp only; omega, hs' _ (Ev.bind hb2 (by simp only [if_true]; exact Ev.now _)), hi' _ ?_⟩
        rw [decide_eq_true ⟨c.1, c2⟩]
        refine Ev.step (fun k => by rw [impl_GrowRuler.j0]) ?_
        simp only [Bool.not_true, Bool.false_eq_true, if_false]
        exact growI_loop q l hm l.length 0 (by omega)
      · have e2 : b2 = false := by
          cases b2 with
          | true => exact absurd (hdv.2 (gr.1 (jb2.1 rfl))) c2
          | false => rfl
        subst e2
        refine ⟨([], false), by simp, hs' _ (Ev.bind hb2 (by simp only [Bool.false_eq_true, if_false]; exact Ev.now _)), hi' _ ?_⟩
        rw [decide_eq_false (fun h => c2 h.2)]
        refine Ev.step (fun k => by rw [impl_GrowRuler.j0]) ?_
        simp only [Bool.not_false, if_true]
        exact Ev.now _
    · refine ⟨([], false), by simp, Ev.bind hs ?_, hi' _ ?_⟩
      · simp only [if_true, l1In_eq, Option.bind_some, decide_eq_false c, Bool.not_false]
        refine Ev.step (fun k => by rw [spec_GrowRuler.j0]) ?_
        simp only [if_true]
        exact Ev.now _
      · rw [decide_eq_false (fun h => c ⟨h.1, by omega⟩)]
        refine Ev.step (fun k => by rw [impl_GrowRuler.j0]) ?_
        simp only [Bool.not_false, if_true]
        exact Ev.now _
  | false =>
    refine ⟨([], false), by simp, Ev.bind hs ?_, Ev.bind hi ?_⟩
    · simp only [Bool.false_eq_true, if_false]
      refine Ev.step (fun k => by rw [spec_GrowRuler.j0]) ?_
      simp only [if_true]
      exact Ev.now _
    · simp only [Bool.false_eq_true, if_false]
      refine Ev.step (fun k => by rw [impl_GrowRuler.j0]) ?_
      simp only [if_true]
      exact Ev.now _
theorem FnExactGrowRuler : laws_FnExactGrowRuler.Pure := by
  intro l0 a1 h1 h2 h3 w_a1
  apply Ev.rounds
  unfold laws_FnExactGrowRuler.f
  by_cases c : (l0.length : Int) > 1048576
  · simp only [if_pos c]; exact Ev.now _
  · simp only [if_neg c]
    have hm : l0.length ≤ 1099511627776 := by omega
    obtain ⟨⟨r1, r2⟩, hr, hs, hi⟩ := GrowRuler_same l0 a1 hm
    replace hr : r1.length ≤ 1099511627776 := hr
    obtain ⟨m0, hm0, hm1⟩ := mark_ev l0 hm
    obtain ⟨m2, hm2, hm3⟩ := mark_ev r1 hr
    refine Ev.bind (toInt_ev l0 hm) ?_
    refine Ev.bind hs ?_
    refine Ev.bind (toInt_ev l0 hm) ?_
    refine Ev.bind hi ?_
    refine Ev.bind (eq_ev r1 hr) ?_
    simp only [if_true, bne_self_eq_false]
    refine Ev.step (fun k => by rw [laws_FnExactGrowRuler.j0]) ?_
    simp only [Bool.false_eq_true, if_false]
    refine Ev.bind (toInt_ev l0 hm) ?_
    refine Ev.bind (eq_ev l0 hm) ?_
    simp only [if_true]
    refine Ev.bind hm0 ?_
    simp only [if_neg (show ¬ ((l0.length : Int) + 1 < 0) by omega)]
    refine Ev.bind (eq_ev r1 hr) ?_
    simp only [if_true, bne_self_eq_false]
    refine Ev.step (fun k => by rw [laws_FnExactGrowRuler.j1]) ?_
    simp only [Bool.false_eq_true, if_false]
    refine Ev.bind hm2 ?_
    refine Ev.bind hm3 ?_
    simp only [if_neg (show ¬ ((r1.length : Int) + 1 < 0) by omega), if_true]
    refine Ev.bind (toInt_ev l0 hm) ?_
    refine Ev.bind hi ?_
    refine Ev.bind (eq_ev r1 hr) ?_
    simp only [if_true, bne_self_eq_false]
    refine Ev.step (fun k => by rw [laws_FnExactGrowRuler.j2]) ?_
    simp only [Bool.false_eq_true, if_false]
    refine Ev.bind hm3 ?_
    simp only [if_neg (show ¬ ((r1.length : Int) + 1 < 0) by omega), if_true]
    exact Ev.now _

end Go.Proofs.Ytfapijfjonnmcaa.Pure
