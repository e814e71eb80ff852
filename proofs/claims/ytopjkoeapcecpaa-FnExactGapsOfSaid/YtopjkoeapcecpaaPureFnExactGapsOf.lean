/- For every list of whole numbers, the program's GapsOf tells what the reference's tells, in new memory, and the list reads as before. No conditions. -/
import Derived.Test.YtopjkoeapcecpaaPFnExactGapsOfx5
namespace Go.Proofs.Ytopjkoeapcecpaa.Pure
open Go.RowKit Go.Proofs.Ytopjkoeapcecpaa.PFnExactGapsOf Go.Proofs.YtopjkoeapcecpaaW.PrintWords Go.Proofs.YtopjkoeapcecpaaW.PrintLast
set_option linter.unusedVariables false
set_option linter.unusedSimpArgs false

theorem wrap_id (x : Int) (h0 : -9223372036854775808 ≤ x) (h1 : x ≤ 9223372036854775807) : wrap64 x = x := by
  unfold wrap64; omega
theorem wrap_succ (i : Nat) (h : i < 4611686018427387904) : wrap64 ((i : Int) + 1) = ((i + 1 : Nat) : Int) := by
  rw [wrap_id _ (by omega) (by omega)]; rfl
theorem rd_nat (l : List Int) (i : Nat) : rd l (i : Int) = l.getD i 0 := rfl
theorem getD_some (l : List Int) (i : Nat) (h : i < l.length) : l[i]? = some (l.getD i 0) := by
  rw [List.getD_eq_getElem?_getD, List.getElem?_eq_getElem h]; rfl
theorem bool_same {b c : Bool} {P : Prop} (hb : b = true ↔ P) (hc : c = true ↔ P) : b = c := by
  cases b <;> cases c <;> simp_all

theorem eq_loop (a : List Int) (hm : a.length ≤ 1099511627776) : ∀ (d i : Nat), i + d = a.length → Ev (fun k => laws_eqIntS.l0 k a a (i : Int)) true
  | 0, i, h => by
    refine Ev.step (fun k => by rw [laws_eqIntS.l0]) ?_
    simp only [if_neg (show ¬ ((i : Int) < (a.length : Int)) by omega)]
    exact Ev.now _
  | d + 1, i, h => by
    refine Ev.step (fun k => by rw [laws_eqIntS.l0]) ?_
    simp only [if_pos (show (i : Int) < (a.length : Int) by omega), if_pos (show (0 : Int) ≤ (i : Int) by omega), if_true]
    rw [wrap_succ i (by omega)]
    exact eq_loop a hm d (i + 1) (by omega)
theorem eq_ev (a : List Int) (hm : a.length ≤ 1099511627776) : Ev (fun k => laws_eqIntS.f k a a) true := by
  unfold laws_eqIntS.f
  simp only [if_true]
  exact eq_loop a hm a.length 0 (by omega)

theorem toInt_loop (l : List Int) (hm : l.length ≤ 1099511627776) : ∀ (d i : Nat) (cur : List Int), i + d = l.length → cur.length = l.length → (∀ j, j < i → cur[j]? = l[j]?) → Ev (fun k => laws_toIntS.l0 k l cur (i : Int)) l
  | 0, i, cur, h, hc, hj => by
    refine Ev.step (fun k => by rw [laws_toIntS.l0]) ?_
    simp only [if_neg (show ¬ ((i : Int) < (l.length : Int)) by omega)]
    have e : cur = l := by
      apply List.ext_getElem?
      intro j
      by_cases c : j < i
      · exact hj j c
      · rw [List.getElem?_eq_none (by omega), List.getElem?_eq_none (by omega)]
    rw [e]
    exact Ev.now _
  | d + 1, i, cur, h, hc, hj => by
    refine Ev.step (fun k => by rw [laws_toIntS.l0]) ?_
    simp only [if_pos (show (i : Int) < (l.length : Int) by omega), if_pos (show (0 : Int) ≤ (i : Int) by omega), if_pos (show (i : Int) < (cur.length : Int) by omega)]
    rw [wrap_succ i (by omega), Int.toNat_natCast, rd_nat]
    refine toInt_loop l hm d (i + 1) _ (by omega) (by rw [List.length_set]; exact hc) ?_
    intro j hlt
    rw [List.getElem?_set]
    by_cases c : i = j
    · subst c
      rw [if_pos rfl, if_pos (by omega), getD_some l i (by omega)]
    · rw [if_neg c]
      exact hj j (by omega)
theorem toInt_ev (l : List Int) (hm : l.length ≤ 1099511627776) : Ev (fun k => laws_toIntS.f k l) l := by
  unfold laws_toIntS.f
  simp only [if_pos (show (0 : Int) ≤ (l.length : Int) by omega), if_pos (show ((l.length : Int)).toNat ≤ 35184372088832 by omega)]
  exact toInt_loop l hm l.length 0 _ (by omega) (by simp) (fun j hj => by omega)

theorem mark_loop : ∀ (d i : Nat) (cur : List Int), i + d = cur.length → cur.length ≤ 1099511627776 → (∀ j, j < i → cur[j]? = some ((j : Int) + 1)) →
    ∃ m : List Int, m.length = cur.length ∧ (∀ j, j < m.length → m[j]? = some ((j : Int) + 1)) ∧ Ev (fun k => laws_markIntS.l0 k cur ((i : Int) + 1) (i : Int)) ((cur.length : Int) + 1, m)
  | 0, i, cur, h, hm, hj => by
    refine ⟨cur, rfl, fun j hlt => hj j (by omega), ?_⟩
    refine Ev.step (fun k => by rw [laws_markIntS.l0]) ?_
    simp only [if_neg (show ¬ ((i : Int) < (cur.length : Int)) by omega)]
    rw [show ((cur.length : Int) + 1) = ((i : Int) + 1) by omega]
    exact Ev.now _
  | d + 1, i, cur, h, hm, hj => by
    obtain ⟨m, h1, h2, h3⟩ := mark_loop d (i + 1) (cur.set i ((i : Int) + 1)) (by simp; omega) (by simpa using hm) (fun j hlt => by
      rw [List.getElem?_set]
      by_cases c : i = j
      · subst c; rw [if_pos rfl, if_pos (by omega)]
      · rw [if_neg c]; exact hj j (by omega))
    rw [List.length_set] at h1 h3
    refine ⟨m, h1, h2, ?_⟩
    refine Ev.step (fun k => by rw [laws_markIntS.l0]) ?_
    simp only [if_pos (show (i : Int) < (cur.length : Int) by omega), if_pos (show (0 : Int) ≤ (i : Int) by omega)]
    rw [wrap_succ i (by omega), Int.toNat_natCast, show wrap64 ((i : Int) + 1 + 1) = ((i + 1 : Nat) : Int) + 1 by rw [wrap_id _ (by omega) (by omega)]; omega]
    exact h3
theorem held_loop (m : List Int) (hm : m.length ≤ 1099511627776) (hj : ∀ j, j < m.length → m[j]? = some ((j : Int) + 1)) : ∀ (d i : Nat), i + d = m.length →
    Ev (fun k => laws_heldIntS.l0 k m ((i : Int) + 1) (i : Int)) ((m.length : Int) + 1)
  | 0, i, h => by
    refine Ev.step (fun k => by rw [laws_heldIntS.l0]) ?_
    simp only [if_neg (show ¬ ((i : Int) < (m.length : Int)) by omega)]
    rw [show ((m.length : Int) + 1) = ((i : Int) + 1) by omega]
    exact Ev.now _
  | d + 1, i, h => by
    refine Ev.step (fun k => by rw [laws_heldIntS.l0]) ?_
    have e : rd m (i : Int) = (i : Int) + 1 := by
      rw [rd_nat, List.getD_eq_getElem?_getD, hj i (by omega)]; rfl
    simp only [if_pos (show (i : Int) < (m.length : Int) by omega), if_pos (show (0 : Int) ≤ (i : Int) by omega), e, if_true]
    rw [wrap_succ i (by omega), show wrap64 ((i : Int) + 1 + 1) = ((i + 1 : Nat) : Int) + 1 by rw [wrap_id _ (by omega) (by omega)]; omega]
    exact held_loop m hm hj d (i + 1) (by omega)
theorem mark_ev (l : List Int) (hm : l.length ≤ 1099511627776) : ∃ m : List Int, Ev (fun k => laws_markIntS.f k l 1) ((l.length : Int) + 1, m) ∧ Ev (fun k => laws_heldIntS.f k m 1) ((l.length : Int) + 1) := by
  obtain ⟨m, h1, h2, h3⟩ := mark_loop l.length 0 l (by omega) hm (fun j h => by omega)
  refine ⟨m, h3, ?_⟩
  rw [← h1]
  exact held_loop m (by omega) h2 m.length 0 (by omega)

theorem l1In_eq (x lo hi : Int) : spec_l1In.f x lo hi = some (decide (lo ≤ x ∧ x ≤ hi)) := by
  unfold spec_l1In.f
  by_cases c : x ≥ lo
  · rw [if_pos c]; congr 1; by_cases d : x ≤ hi
    · rw [decide_eq_true d, decide_eq_true ⟨c, d⟩]
    · rw [decide_eq_false d, decide_eq_false (fun h => d h.2)]
  · rw [if_neg c, decide_eq_false (fun h => c h.1)]

theorem l1All_loop (lo hi : Int) (l : List Int) (hm : l.length ≤ 1099511627776) : ∀ (d i : Nat), i + d = l.length →
    ∃ b, Ev (fun k => spec_l1All.l0 k lo hi l (l.length : Int) (i : Int)) b ∧ (b = true ↔ ∀ j, i ≤ j → j < l.length → lo ≤ l.getD j 0 ∧ l.getD j 0 ≤ hi)
  | 0, i, h => by
    refine ⟨true, ?_, by simp only [true_iff]; intro j h1 h2; omega⟩
    refine Ev.step (fun k => by rw [spec_l1All.l0]) ?_
    simp only [if_neg (show ¬ ((i : Int) < (l.length : Int)) by omega)]
    exact Ev.now _
  | d + 1, i, h => by
    by_cases c : lo ≤ l.getD i 0 ∧ l.getD i 0 ≤ hi
    · obtain ⟨b, hb, hj⟩ := l1All_loop lo hi l hm d (i + 1) (by omega)
      refine ⟨b, ?_, ?_⟩
      · refine Ev.step (fun k => by rw [spec_l1All.l0]) ?_
        simp only [if_pos (show (i : Int) < (l.length : Int) by omega), if_pos (show (0 : Int) ≤ (i : Int) by omega), l1In_eq, rd_nat, decide_eq_true c, Option.bind_some, if_true]
        rw [wrap_succ i (by omega)]
        exact hb
      · rw [hj]
        constructor
        · intro H j h1 h2
          by_cases e : j = i
          · rw [e]; exact c
          · exact H j (by omega) h2
        · intro H j h1 h2
          exact H j (by omega) h2
    · refine ⟨false, ?_, ?_⟩
      · refine Ev.step (fun k => by rw [spec_l1All.l0]) ?_
        simp only [if_pos (show (i : Int) < (l.length : Int) by omega), if_pos (show (0 : Int) ≤ (i : Int) by omega), l1In_eq, rd_nat, decide_eq_false c, Option.bind_some, Bool.false_eq_true, if_false]
        exact Ev.now _
      · constructor
        · intro H; cases H
        · intro H; exact absurd (H i (by omega) (by omega)) c
theorem l1All_ev (lo hi : Int) (l : List Int) (hm : l.length ≤ 1099511627776) :
    ∃ b, Ev (fun k => spec_l1All.f k l lo hi) b ∧ (b = true ↔ ∀ j, j < l.length → lo ≤ l.getD j 0 ∧ l.getD j 0 ≤ hi) := by
  obtain ⟨b, hb, hj⟩ := l1All_loop lo hi l hm l.length 0 (by omega)
  exact ⟨b, hb, by rw [hj]; exact ⟨fun H j h => H j (by omega) h, fun H j _ h => H j h⟩⟩

/-- What pieces are. -/
def Good (l : List Int) : Prop := l.length ≤ 20 ∧ (∀ j, j < l.length → 1 ≤ l.getD j 0 ∧ l.getD j 0 ≤ 10000) ∧ (∀ j, 1 ≤ j → j < l.length → l.getD (j - 1) 0 ≤ l.getD j 0)

theorem piGood_loop (l : List Int) (hm : l.length ≤ 1099511627776) : ∀ (d i : Nat), 1 ≤ i → l.length ≤ i + d →
    ∃ b, Ev (fun k => spec_piGood.l0 k l (i : Int)) b ∧ (b = true ↔ ∀ j, i ≤ j → j < l.length → l.getD (j - 1) 0 ≤ l.getD j 0)
  | 0, i, h0, h => by
    refine ⟨true, ?_, by simp only [true_iff]; intro j h1 h2; omega⟩
    refine Ev.step (fun k => by rw [spec_piGood.l0]) ?_
    simp only [if_neg (show ¬ ((i : Int) < (l.length : Int)) by omega)]
    exact Ev.now _
  | d + 1, i, h0, h => by
    by_cases hlt : i < l.length
    · have w : wrap64 ((i : Int) - 1) = ((i - 1 : Nat) : Int) := by rw [wrap_id _ (by omega) (by omega)]; omega
      by_cases c : l.getD (i - 1) 0 ≤ l.getD i 0
      · obtain ⟨b, hb, hj⟩ := piGood_loop l hm d (i + 1) (by omega) (by omega)
        refine ⟨b, ?_, ?_⟩
        · refine Ev.step (fun k => by rw [spec_piGood.l0]) ?_
          simp only [w, rd_nat, if_pos (show (i : Int) < (l.length : Int) by omega), if_pos (show (0 : Int) ≤ (i : Int) by omega), if_pos (show (0 : Int) ≤ ((i - 1 : Nat) : Int) by omega), if_pos (show ((i - 1 : Nat) : Int) < (l.length : Int) by omega), if_neg (show ¬ (l.getD (i - 1) 0 > l.getD i 0) by omega)]
          rw [wrap_succ i (by omega)]
          exact hb
        · rw [hj]
          constructor
          · intro H j h1 h2
            by_cases e : j = i
            · rw [e]; exact c
            · exact H j (by omega) h2
          · intro H j h1 h2
            exact H j (by omega) h2
      · refine ⟨false, ?_, ?_⟩
        · refine Ev.step (fun k => by rw [spec_piGood.l0]) ?_
          simp only [w, rd_nat, if_pos (show (i : Int) < (l.length : Int) by omega), if_pos (show (0 : Int) ≤ (i : Int) by omega), if_pos (show (0 : Int) ≤ ((i - 1 : Nat) : Int) by omega), if_pos (show ((i - 1 : Nat) : Int) < (l.length : Int) by omega), if_pos (show (l.getD (i - 1) 0 > l.getD i 0) by omega)]
          exact Ev.now _
        · constructor
          · intro H; cases H
          · intro H; exact absurd (H i (by omega) hlt) c
    · exact piGood_loop l hm 0 i h0 (by omega)
theorem piGood_ev (l : List Int) (hm : l.length ≤ 1099511627776) : ∃ b, Ev (fun k => spec_piGood.f k l) b ∧ (b = true ↔ Good l) := by
  by_cases c : l.length ≤ 20
  · obtain ⟨a, ha, ja⟩ := l1All_ev 1 10000 l hm
    cases a with
    | true =>
      obtain ⟨b, hb, jb⟩ := piGood_loop l hm l.length 1 (by omega) (by omega)
      refine ⟨b, ?_, ?_⟩
      · unfold spec_piGood.f
        simp only [if_neg (show ¬ ((l.length : Int) > 20) by omega)]
        refine Ev.bind ha ?_
        refine Ev.step (fun k => by rw [spec_piGood.j0]) ?_
        simp only [Bool.not_true, Bool.false_eq_true, if_false]
        exact hb
      · rw [jb]
        exact ⟨fun H => ⟨c, ja.1 rfl, H⟩, fun H => H.2.2⟩
    | false =>
      refine ⟨false, ?_, ?_⟩
      · unfold spec_piGood.f
        simp only [if_neg (show ¬ ((l.length : Int) > 20) by omega)]
        refine Ev.bind ha ?_
        refine Ev.step (fun k => by rw [spec_piGood.j0]) ?_
        simp only [Bool.not_false, if_true]
        exact Ev.now _
      · exact ⟨fun H => (by cases H), fun H => ja.2 H.2.1⟩
  · refine ⟨false, ?_, ?_⟩
    · unfold spec_piGood.f
      simp only [if_pos (show ((l.length : Int) > 20) by omega)]
      refine Ev.step (fun k => by rw [spec_piGood.j0]) ?_
      simp only [if_true]
      exact Ev.now _
    · exact ⟨fun H => (by cases H), fun H => absurd H.1 c⟩

theorem areWithin_eq (l : List Int) (lo hi : Int) (hm : l.length ≤ 1099511627776) :
    ∃ b, impl_areWithin.f l lo hi = some b ∧ (b = true ↔ ∀ j, j < l.length → lo ≤ l.getD j 0 ∧ l.getD j 0 ≤ hi) := by
  refine ⟨_, by unfold impl_areWithin.f; rw [if_pos (by omega)], ?_⟩
  rw [Bool.not_eq_true', List.any_eq_false]
  constructor
  · intro H j hj
    have := H (l.getD j 0) (by rw [List.getD_eq_getElem?_getD, List.getElem?_eq_getElem hj]; exact List.getElem_mem hj)
    simpa using this
  · intro H x hx
    obtain ⟨j, hj, rfl⟩ := List.getElem_of_mem hx
    have := H j hj
    rw [List.getD_eq_getElem?_getD, List.getElem?_eq_getElem hj] at this
    simpa using this

theorem less_eq (a b : Int) : cmp_Less_int.f a b = some (decide (a < b)) := by
  unfold cmp_Less_int.f cmp_isNaN_int.f
  simp
theorem isSorted_loop (l : List Int) (hm : l.length ≤ 1099511627776) : ∀ (i : Nat), i < l.length →
    ∃ b, Ev (fun k => slices_IsSorted_int_int.l0 k l (i : Int)) b ∧ (b = true ↔ ∀ j, 1 ≤ j → j ≤ i → l.getD (j - 1) 0 ≤ l.getD j 0)
  | 0, h => by
    refine ⟨true, ?_, by simp only [true_iff]; intro j h1 h2; omega⟩
    refine Ev.step (fun k => by rw [slices_IsSorted_int_int.l0]) ?_
    simp only [if_neg (show ¬ (((0 : Nat) : Int) > 0) by omega)]
    exact Ev.now _
  | i + 1, h => by
    have w : wrap64 (((i + 1 : Nat) : Int) - 1) = (i : Int) := by rw [wrap_id _ (by omega) (by omega)]; omega
    by_cases c : l.getD i 0 ≤ l.getD (i + 1) 0
    · obtain ⟨b, hb, hj⟩ := isSorted_loop l hm i (by omega)
      refine ⟨b, ?_, ?_⟩
      · refine Ev.step (fun k => by rw [slices_IsSorted_int_int.l0]) ?_
        simp only [w, rd_nat, less_eq, if_pos (show ((i + 1 : Nat) : Int) > 0 by omega), if_pos (show (0 : Int) ≤ ((i + 1 : Nat) : Int) by omega), if_pos (show ((i + 1 : Nat) : Int) < (l.length : Int) by omega), if_pos (show (0 : Int) ≤ (i : Int) by omega), if_pos (show (i : Int) < (l.length : Int) by omega), Option.bind_some, decide_eq_false (show ¬ (l.getD (i + 1) 0 < l.getD i 0) by omega), Bool.false_eq_true, if_false]
        exact hb
      · rw [hj]
        constructor
        · intro H j h1 h2
          by_cases e : j = i + 1
          · subst e; exact c
          · exact H j h1 (by omega)
        · intro H j h1 h2
          exact H j h1 (by omega)
    · refine ⟨false, ?_, ?_⟩
      · refine Ev.step (fun k => by rw [slices_IsSorted_int_int.l0]) ?_
        simp only [w, rd_nat, less_eq, if_pos (show ((i + 1 : Nat) : Int) > 0 by omega), if_pos (show (0 : Int) ≤ ((i + 1 : Nat) : Int) by omega), if_pos (show ((i + 1 : Nat) : Int) < (l.length : Int) by omega), if_pos (show (0 : Int) ≤ (i : Int) by omega), if_pos (show (i : Int) < (l.length : Int) by omega), Option.bind_some, decide_eq_true (show (l.getD (i + 1) 0 < l.getD i 0) by omega), if_true]
        exact Ev.now _
      · constructor
        · intro H; cases H
        · intro H; exact absurd (H (i + 1) (by omega) (by omega)) c
theorem isSorted_ev (l : List Int) (hm : l.length ≤ 1099511627776) :
    ∃ b, Ev (fun k => slices_IsSorted_int_int.f k l) b ∧ (b = true ↔ ∀ j, 1 ≤ j → j < l.length → l.getD (j - 1) 0 ≤ l.getD j 0) := by
  unfold slices_IsSorted_int_int.f
  by_cases c : l.length = 0
  · refine ⟨true, ?_, by simp only [true_iff]; intro j h1 h2; omega⟩
    rw [c, wrap_id _ (by omega) (by omega)]
    refine Ev.step (fun k => by rw [slices_IsSorted_int_int.l0]) ?_
    simp only [if_neg (show ¬ (((0 : Nat) : Int) - 1 > 0) by omega)]
    exact Ev.now _
  · obtain ⟨b, hb, hj⟩ := isSorted_loop l hm (l.length - 1) (by omega)
    refine ⟨b, ?_, ?_⟩
    · rw [wrap_id _ (by omega) (by omega), show ((l.length : Int) - 1) = ((l.length - 1 : Nat) : Int) by omega]
      exact hb
    · rw [hj]
      exact ⟨fun H j h1 h2 => H j h1 (by omega), fun H j h1 h2 => H j h1 (by omega)⟩

theorem arePieces_ev (l : List Int) (hm : l.length ≤ 1099511627776) : ∃ b, Ev (fun k => impl_ArePieces.f k l) b ∧ (b = true ↔ Good l) := by
  unfold impl_ArePieces.f
  by_cases c : l.length ≤ 20
  · simp only [if_pos (show ((l.length : Int) ≤ 20) by omega)]
    obtain ⟨a, ha, ja⟩ := areWithin_eq l 1 10000 hm
    rw [ha]
    cases a with
    | true =>
      obtain ⟨b, hb, jb⟩ := isSorted_ev l hm
      refine ⟨b, ?_, ?_⟩
      · simp only [Option.bind_some, if_true]
        refine Ev.bind hb ?_
        exact Ev.now _
      · rw [jb]
        exact ⟨fun H => ⟨c, ja.1 rfl, H⟩, fun H => H.2.2⟩
    | false =>
      refine ⟨false, ?_, ?_⟩
      · simp only [Option.bind_some, Bool.false_eq_true, if_false]
        exact Ev.now _
      · exact ⟨fun H => (by cases H), fun H => ja.2 H.2.1⟩
  · refine ⟨false, ?_, ?_⟩
    · simp only [if_neg (show ¬ ((l.length : Int) ≤ 20) by omega)]
      exact Ev.now _
    · exact ⟨fun H => (by cases H), fun H => absurd H.1 c⟩
theorem good_same (l : List Int) (hm : l.length ≤ 1099511627776) : ∃ b, Ev (fun k => spec_piGood.f k l) b ∧ Ev (fun k => impl_ArePieces.f k l) b ∧ (b = true ↔ Good l) := by
  obtain ⟨b, hb, jb⟩ := piGood_ev l hm
  obtain ⟨c, hc, jc⟩ := arePieces_ev l hm
  have e := bool_same jb jc
  subst e
  exact ⟨b, hb, hc, jb⟩

theorem sum_take_succ (l : List Int) (i : Nat) (h : i < l.length) : (l.take (i + 1)).sum = (l.take i).sum + l.getD i 0 := by
  rw [List.take_succ_eq_append_getElem h, List.sum_append, List.getD_eq_getElem?_getD, List.getElem?_eq_getElem h]; simp
theorem Good.at {l : List Int} (g : Good l) (j : Nat) (h : j < l.length) : 1 ≤ l.getD j 0 ∧ l.getD j 0 ≤ 10000 := g.2.1 j h
theorem Good.sums {l : List Int} (g : Good l) : ∀ i, i ≤ l.length → 0 ≤ (l.take i).sum ∧ (l.take i).sum ≤ 10000 * i
  | 0, _ => by simp
  | i + 1, h => by
    have ih := Good.sums g i (by omega)
    have a := g.at i (by omega)
    rw [sum_take_succ l i (by omega)]
    omega
theorem Good.sum {l : List Int} (g : Good l) : 0 ≤ l.sum ∧ l.sum ≤ 200000 := by
  have h := g.sums l.length (Nat.le_refl _)
  rw [List.take_length] at h
  have := g.1
  omega
theorem Good.mem {l : List Int} (g : Good l) (x : Int) (h : x ∈ l) : 1 ≤ x ∧ x ≤ 10000 := by
  obtain ⟨j, hj, rfl⟩ := List.getElem_of_mem h
  have := g.at j hj
  rw [List.getD_eq_getElem?_getD, List.getElem?_eq_getElem hj] at this
  simpa using this
theorem piSum_loop (l : List Int) (g : Good l) : ∀ (d i : Nat), i + d = l.length → Ev (fun k => spec_piSum.l0 k (l.take i).sum l (l.length : Int) (i : Int)) l.sum
  | 0, i, h => by
    refine Ev.step (fun k => by rw [spec_piSum.l0]) ?_
    simp only [if_neg (show ¬ ((i : Int) < (l.length : Int)) by omega)]
    rw [List.take_of_length_le (by omega)]
    exact Ev.now _
  | d + 1, i, h => by
    refine Ev.step (fun k => by rw [spec_piSum.l0]) ?_
    have gs := g.sums (i + 1) (by omega)
    have g1 := g.1
    simp only [if_pos (show (i : Int) < (l.length : Int) by omega), if_pos (show (0 : Int) ≤ (i : Int) by omega), rd_nat]
    rw [wrap_succ i (by omega), ← sum_take_succ l i (by omega), wrap_id _ (by omega) (by omega)]
    exact piSum_loop l g d (i + 1) (by omega)
theorem piSum_ev (l : List Int) (g : Good l) : Ev (fun k => spec_piSum.f k l) l.sum := piSum_loop l g l.length 0 (by omega)
theorem total_eq0 : ∀ k a b c d, impl_total.l0 k a b c d = spec_piSum.l0 k a b c d
  | 0, _, _, _, _ => rfl
  | k + 1, a, b, c, d => by rw [impl_total.l0, spec_piSum.l0]; simp only [total_eq0 k]
theorem total_eq (k : Nat) (l : List Int) : impl_total.f k l = spec_piSum.f k l := total_eq0 k _ _ _ _
theorem total_ev (l : List Int) (g : Good l) : Ev (fun k => impl_total.f k l) l.sum := Ev.congr (fun k => total_eq k l) (piSum_ev l g)

/-- In how many ways some of the numbers make a sum. -/
def cnt : List Int → Int → Int
  | [], s => if s = 0 then 1 else 0
  | n :: l, s => cnt l s + cnt l (s - n)

theorem cnt_snoc (l : List Int) (n : Int) : ∀ s, cnt (l ++ [n]) s = cnt l s + cnt l (s - n) := by
  induction l with
  | nil => intro s; rfl
  | cons m l ih =>
    intro s
    simp only [List.cons_append, cnt, ih]
    rw [show s - m - n = s - n - m by omega]
    omega

theorem cnt_nonneg (l : List Int) : ∀ s, 0 ≤ cnt l s := by
  induction l with
  | nil => intro s; unfold cnt; split <;> omega
  | cons m l ih => intro s; have a := ih s; have b := ih (s - m); unfold cnt; omega

theorem cnt_neg (l : List Int) (hl : ∀ x ∈ l, 0 ≤ x) : ∀ s, s < 0 → cnt l s = 0 := by
  induction l with
  | nil => intro s h; unfold cnt; rw [if_neg (by omega)]
  | cons m l ih =>
    intro s h
    have hm := hl m (by simp)
    have i := ih (fun x hx => hl x (by simp [hx]))
    unfold cnt
    rw [i s h, i (s - m) (by omega)]; rfl

theorem cnt_big (l : List Int) (hl : ∀ x ∈ l, 0 ≤ x) : ∀ s, l.sum < s → cnt l s = 0 := by
  induction l with
  | nil => intro s h; unfold cnt; rw [if_neg (by simp at h; omega)]
  | cons m l ih =>
    intro s h
    have hm := hl m (by simp)
    have i := ih (fun x hx => hl x (by simp [hx]))
    simp only [List.sum_cons] at h
    unfold cnt
    rw [i s (by omega), i (s - m) (by omega)]; rfl

theorem cnt_le (l : List Int) : ∀ s, cnt l s ≤ 2 ^ l.length := by
  induction l with
  | nil => intro s; unfold cnt; split <;> simp
  | cons m l ih =>
    intro s
    have a := ih s
    have b := ih (s - m)
    unfold cnt
    rw [List.length_cons, Int.pow_succ]
    omega

theorem cnt_small (l : List Int) (h : l.length ≤ 20) (s : Int) : cnt l s ≤ 1048576 := by
  have a := cnt_le l s
  have b : (2 : Int) ^ l.length ≤ 2 ^ 20 := by
    have := Nat.pow_le_pow_right (n := 2) (by omega) h
    exact_mod_cast this
  have c : (2 : Int) ^ 20 = 1048576 := by decide
  omega

/-- A table of a function's values. -/
def tabf (N : Nat) (f : Nat → Int) : List Int := (List.range N).map f
theorem tabf_length (N : Nat) (f : Nat → Int) : (tabf N f).length = N := by simp [tabf]
theorem tabf_get? (N : Nat) (f : Nat → Int) (j : Nat) : (tabf N f)[j]? = if j < N then some (f j) else none := by
  unfold tabf
  rw [List.getElem?_map]
  by_cases c : j < N
  · rw [if_pos c, List.getElem?_range c]; rfl
  · rw [if_neg c, List.getElem?_eq_none (by simpa using c)]; rfl
theorem tabf_getD (N : Nat) (f : Nat → Int) (j : Nat) (h : j < N) : (tabf N f).getD j 0 = f j := by
  rw [List.getD_eq_getElem?_getD, tabf_get?, if_pos h]; rfl
theorem tabf_ext (N : Nat) (f g : Nat → Int) (h : ∀ j, j < N → f j = g j) : tabf N f = tabf N g := by
  apply List.ext_getElem?
  intro j
  rw [tabf_get?, tabf_get?]
  by_cases c : j < N
  · rw [if_pos c, if_pos c, h j c]
  · rw [if_neg c, if_neg c]
theorem tabf_set (N : Nat) (f g : Nat → Int) (s : Nat) (v : Int) (hs : s < N) (hv : v = g s) (h : ∀ j, j < N → j ≠ s → f j = g j) : (tabf N f).set s v = tabf N g := by
  apply List.ext_getElem?
  intro j
  rw [List.getElem?_set, tabf_length, tabf_get?, tabf_get?]
  by_cases c : s = j
  · subst c
    rw [if_pos rfl, if_pos hs, if_pos hs, hv]
  · rw [if_neg c]
    by_cases d : j < N
    · rw [if_pos d, if_pos d, h j d (fun e => c e.symm)]
    · rw [if_neg d, if_neg d]
theorem replicate_tabf (N : Nat) (v : Int) : List.replicate N v = tabf N (fun _ => v) := by
  apply List.ext_getElem?
  intro j
  rw [tabf_get?, List.getElem?_replicate]

theorem take_snoc (l : List Int) (i : Nat) (h : i < l.length) : l.take (i + 1) = l.take i ++ [l.getD i 0] := by
  rw [List.take_succ_eq_append_getElem h, List.getD_eq_getElem?_getD, List.getElem?_eq_getElem h]; rfl
theorem ways_inner (p : List Int) (n : Int) (hn : 1 ≤ n) (hp : p.length ≤ 20) (hp0 : ∀ x ∈ p, 0 ≤ x) (N : Nat) (hN : N ≤ 1099511627776) (x13 : List Int) (x14 x15 : Int) (r : List Int)
    (K : Ev (fun k => spec_piWays.l0 k (tabf N (fun j => cnt (p ++ [n]) j)) x13 x14 (wrap64 (x15 + 1))) r) :
    ∀ s : Nat, s ≤ N → Ev (fun k => spec_piWays.l1 k (tabf N (fun j => if s ≤ j then cnt (p ++ [n]) j else cnt p j)) n ((s : Int) - 1) x13 x14 x15) r
  | 0, _ => by
    refine Ev.step (fun k => by rw [spec_piWays.l1]) ?_
    simp only [if_neg (show ¬ (((0 : Nat) : Int) - 1 ≥ n) by omega), Nat.zero_le, if_true]
    exact K
  | s + 1, hs => by
    have e0 : ((s + 1 : Nat) : Int) - 1 = (s : Int) := by omega
    refine Ev.step (fun k => by rw [spec_piWays.l1]) ?_
    rw [e0]
    by_cases c : (s : Int) ≥ n
    · have w : wrap64 ((s : Int) - n) = ((s - n.toNat : Nat) : Int) := by rw [wrap_id _ (by omega) (by omega)]; omega
      have e1 : ((s - n.toNat : Nat) : Int) = (s : Int) - n := by omega
      have a1 := cnt_nonneg p s
      have a2 := cnt_small p hp s
      have a3 := cnt_nonneg p ((s : Int) - n)
      have a4 := cnt_small p hp ((s : Int) - n)
      have v : wrap64 (cnt p s + cnt p ((s - n.toNat : Nat) : Int)) = cnt (p ++ [n]) s := by
        rw [cnt_snoc, e1, wrap_id _ (by omega) (by omega)]
      simp only [if_pos c, w, if_pos (show (0 : Int) ≤ (s : Int) by omega), tabf_length, if_pos (show (s : Int) < (N : Int) by omega), if_pos (show (0 : Int) ≤ ((s - n.toNat : Nat) : Int) by omega), if_pos (show ((s - n.toNat : Nat) : Int) < (N : Int) by omega), rd_nat]
      rw [tabf_getD N _ s (by omega), tabf_getD N _ (s - n.toNat) (by omega), if_neg (by omega), if_neg (by omega), v, wrap_id ((s : Int) - 1) (by omega) (by omega), Int.toNat_natCast,
        tabf_set N _ (fun j => if s ≤ j then cnt (p ++ [n]) j else cnt p j) s _ (by omega) (by rw [if_pos (Nat.le_refl _)]) (fun j hj hne => by
          by_cases d : s ≤ j
          · rw [if_pos (by omega), if_pos d]
          · rw [if_neg (by omega), if_neg d])]
      exact ways_inner p n hn hp hp0 N hN x13 x14 x15 r K s (by omega)
    · simp only [if_neg c]
      rw [tabf_ext N _ (fun j => cnt (p ++ [n]) j) (fun j hj => by
        by_cases d : s + 1 ≤ j
        · rw [if_pos d]
        · rw [if_neg d, cnt_snoc, cnt_neg p hp0 ((j : Int) - n) (by omega)]; omega)]
      exact K
theorem ways_outer (l : List Int) (g : Good l) (N : Nat) (hN : N ≤ 1099511627776) : ∀ (d i : Nat), i + d = l.length →
    Ev (fun k => spec_piWays.l0 k (tabf N (fun j => cnt (l.take i) j)) l (l.length : Int) (i : Int)) (tabf N (fun j => cnt l j))
  | 0, i, h => by
    refine Ev.step (fun k => by rw [spec_piWays.l0]) ?_
    simp only [if_neg (show ¬ ((i : Int) < (l.length : Int)) by omega)]
    rw [List.take_of_length_le (by omega)]
    exact Ev.now _
  | d + 1, i, h => by
    have g1 := g.1
    refine Ev.step (fun k => by rw [spec_piWays.l0]) ?_
    simp only [if_pos (show (i : Int) < (l.length : Int) by omega), if_pos (show (0 : Int) ≤ (i : Int) by omega), rd_nat, tabf_length]
    rw [wrap_id ((N : Int) - 1) (by omega) (by omega)]
    have hi := ways_inner (l.take i) (l.getD i 0) (g.at i (by omega)).1 (by rw [List.length_take]; omega) (fun x hx => by have := g.mem x (List.mem_of_mem_take hx); omega) N hN l (l.length : Int) (i : Int) (tabf N (fun j => cnt l j))
      (by rw [wrap_succ i (by omega), ← take_snoc l i (by omega)]; exact ways_outer l g N hN d (i + 1) (by omega)) N (Nat.le_refl _)
    rw [tabf_ext N (fun j => if N ≤ j then cnt (l.take i ++ [l.getD i 0]) j else cnt (l.take i) j) (fun j => cnt (l.take i) j) (fun j hj => if_neg (by omega))] at hi
    exact hi
theorem ways_ev (l : List Int) (g : Good l) : Ev (fun k => spec_piWays.f k l) (tabf (l.sum + 1).toNat (fun j => cnt l j)) := by
  unfold spec_piWays.f
  have gs := g.sum
  refine Ev.bind (piSum_ev l g) ?_
  rw [wrap_id _ (by omega) (by omega)]
  simp only [if_pos (show 0 ≤ l.sum + 1 by omega), if_pos (show (l.sum + 1).toNat ≤ 35184372088832 by omega), Option.bind_some, replicate_tabf, tabf_length, if_pos (show (0 : Int) < ((l.sum + 1).toNat : Int) by omega)]
  rw [show (0 : Int).toNat = 0 from rfl, tabf_set _ _ (fun j => cnt (l.take 0) j) 0 1 (by omega) (by simp [cnt]) (fun j _ hj => by simp only [List.take_zero, cnt]; rw [if_neg (by omega)])]
  exact ways_outer l g _ (by omega) l.length 0 (by omega)
theorem ways_eq0 : ∀ k, (∀ a b c d, impl_ways.l0 k a b c d = spec_piWays.l0 k a b c d) ∧ (∀ a b c d e f, impl_ways.l1 k a b c d e f = spec_piWays.l1 k a b c d e f)
  | 0 => ⟨fun _ _ _ _ => by rw [impl_ways.l0, spec_piWays.l0], fun _ _ _ _ _ _ => by rw [impl_ways.l1, spec_piWays.l1]⟩
  | k + 1 => by
    obtain ⟨h0, h1⟩ := ways_eq0 k
    exact ⟨fun a b c d => by rw [impl_ways.l0, spec_piWays.l0]; simp only [h1], fun a b c d e f => by rw [impl_ways.l1, spec_piWays.l1]; simp only [h0, h1]⟩
theorem ways_eq (k : Nat) (l : List Int) : impl_ways.f k l = spec_piWays.f k l := by
  unfold impl_ways.f spec_piWays.f
  simp only [(ways_eq0 k).1, total_eq]
theorem implWays_ev (l : List Int) (g : Good l) : Ev (fun k => impl_ways.f k l) (tabf (l.sum + 1).toNat (fun j => cnt l j)) := Ev.congr (fun k => ways_eq k l) (ways_ev l g)

/-- The numbers below a bound of which something holds, increasing. -/
def sel (p : Nat → Bool) : Nat → List Int
  | 0 => []
  | n + 1 => if p n then sel p n ++ [(n : Int)] else sel p n
theorem sel_length (p : Nat → Bool) : ∀ n, (sel p n).length ≤ n
  | 0 => by simp [sel]
  | n + 1 => by
    have := sel_length p n
    unfold sel
    split
    · simp; omega
    · omega
theorem sel_mono (p : Nat → Bool) : ∀ (d n : Nat), (sel p n).length ≤ (sel p (n + d)).length
  | 0, n => Nat.le_refl _
  | d + 1, n => by
    have := sel_mono p d n
    rw [← Nat.add_assoc]
    have e : (sel p (n + d)).length ≤ (sel p (n + d + 1)).length := by
      conv => rhs; unfold sel
      split
      · simp
      · exact Nat.le_refl _
    omega
theorem mem_sel (p : Nat → Bool) (x : Int) : ∀ n, x ∈ sel p n ↔ ∃ j : Nat, j < n ∧ p j = true ∧ x = j
  | 0 => by simp [sel]
  | n + 1 => by
    have ih := mem_sel p x n
    unfold sel
    by_cases c : p n = true
    · rw [if_pos c, List.mem_append, ih, List.mem_singleton]
      constructor
      · rintro (⟨j, h1, h2, h3⟩ | h)
        · exact ⟨j, by omega, h2, h3⟩
        · exact ⟨n, by omega, c, h⟩
      · rintro ⟨j, h1, h2, h3⟩
        by_cases e : j = n
        · subst e; exact .inr h3
        · exact .inl ⟨j, by omega, h2, h3⟩
    · rw [if_neg c, ih]
      constructor
      · rintro ⟨j, h1, h2, h3⟩
        exact ⟨j, by omega, h2, h3⟩
      · rintro ⟨j, h1, h2, h3⟩
        by_cases e : j = n
        · subst e; exact absurd h2 c
        · exact ⟨j, by omega, h2, h3⟩
theorem sel_at (p : Nat → Bool) (n : Nat) (h : p n = true) : sel p (n + 1) = sel p n ++ [(n : Int)] := by
  show (if p n then sel p n ++ [(n : Int)] else sel p n) = _
  rw [if_pos h]
theorem sel_skip (p : Nat → Bool) (n : Nat) (h : ¬ p n = true) : sel p (n + 1) = sel p n := by
  show (if p n then sel p n ++ [(n : Int)] else sel p n) = _
  rw [if_neg h]
theorem sel_congr (p q : Nat → Bool) : ∀ n, (∀ j, j < n → p j = q j) → sel p n = sel q n
  | 0, _ => rfl
  | n + 1, h => by
    have ih := sel_congr p q n (fun j hj => h j (by omega))
    show (if p n then sel p n ++ [(n : Int)] else sel p n) = (if q n then sel q n ++ [(n : Int)] else sel q n)
    rw [h n (by omega), ih]

theorem sums_loop (N : Nat) (f : Nat → Int) (hN : N ≤ 1099511627776) : ∀ (d i : Nat), i + d = N →
    Ev (fun k => impl_sums.l0 k (sel (fun j => decide (f j > 0)) i) (tabf N f) ((tabf N f).length : Int) (i : Int)) (sel (fun j => decide (f j > 0)) N)
  | 0, i, h => by
    refine Ev.step (fun k => by rw [impl_sums.l0]) ?_
    rw [tabf_length]
    simp only [if_neg (show ¬ ((i : Int) < (N : Int)) by omega)]
    rw [show i = N by omega]
    exact Ev.now _
  | d + 1, i, h => by
    have ih := sums_loop N f hN d (i + 1) (by omega)
    have hl := sel_length (fun j => decide (f j > 0)) i
    refine Ev.step (fun k => by rw [impl_sums.l0]) ?_
    rw [tabf_length] at ih ⊢
    simp only [if_pos (show (i : Int) < (N : Int) by omega), if_pos (show (0 : Int) ≤ (i : Int) by omega)]
    rw [wrap_succ i (by omega)]
    have e : rd (tabf N f) (i : Int) = f i := tabf_getD N f i (by omega)
    by_cases c : rd (tabf N f) (i : Int) > 0
    · rw [sel_at _ i (by rw [e] at c; simpa using c)] at ih
      simp only [if_pos c, if_pos (show (sel (fun j => decide (f j > 0)) i).length < 17592186044416 by omega)]
      exact ih
    · rw [sel_skip _ i (by rw [e] at c; simpa using c)] at ih
      simp only [if_neg c]
      exact ih
/-- All sums, increasing. -/
theorem sums_ev (l : List Int) (g : Good l) : Ev (fun k => impl_sums.f k l) (sel (fun j => decide (cnt l j > 0)) (l.sum + 1).toNat) := by
  have gs := g.sum
  unfold impl_sums.f
  refine Ev.bind (implWays_ev l g) ?_
  exact sums_loop _ (fun j => cnt l j) (by omega) _ 0 (Nat.zero_add _)

/-- A table of a function's values. -/
def tabb (N : Nat) (f : Nat → Bool) : List Bool := (List.range N).map f
theorem tabb_length (N : Nat) (f : Nat → Bool) : (tabb N f).length = N := by simp [tabb]
theorem tabb_get? (N : Nat) (f : Nat → Bool) (j : Nat) : (tabb N f)[j]? = if j < N then some (f j) else none := by
  unfold tabb
  rw [List.getElem?_map]
  by_cases c : j < N
  · rw [if_pos c, List.getElem?_range c]; rfl
  · rw [if_neg c, List.getElem?_eq_none (by simpa using c)]; rfl
theorem tabb_getD (N : Nat) (f : Nat → Bool) (j : Nat) (h : j < N) : (tabb N f).getD j false = f j := by
  rw [List.getD_eq_getElem?_getD, tabb_get?, if_pos h]; rfl
theorem tabb_ext (N : Nat) (f g : Nat → Bool) (h : ∀ j, j < N → f j = g j) : tabb N f = tabb N g := by
  apply List.ext_getElem?
  intro j
  rw [tabb_get?, tabb_get?]
  by_cases c : j < N
  · rw [if_pos c, if_pos c, h j c]
  · rw [if_neg c, if_neg c]
theorem tabb_set (N : Nat) (f g : Nat → Bool) (s : Nat) (v : Bool) (hs : s < N) (hv : v = g s) (h : ∀ j, j < N → j ≠ s → f j = g j) : (tabb N f).set s v = tabb N g := by
  apply List.ext_getElem?
  intro j
  rw [List.getElem?_set, tabb_length, tabb_get?, tabb_get?]
  by_cases c : s = j
  · subst c
    rw [if_pos rfl, if_pos hs, if_pos hs, hv]
  · rw [if_neg c]
    by_cases d : j < N
    · rw [if_pos d, if_pos d, h j d (fun e => c e.symm)]
    · rw [if_neg d, if_neg d]
theorem replicate_tabb (N : Nat) (v : Bool) : List.replicate N v = tabb N (fun _ => v) := by
  apply List.ext_getElem?
  intro j
  rw [tabb_get?, List.getElem?_replicate]

/-- What is told of the numbers that fail. -/
def gapsTold (q : Nat → Bool) (N : Nat) : List Int × Bool := if (sel q N).length > 1000 then ([], false) else (sel q N, true)
theorem gapsS_loop (N : Nat) (f : Nat → Int) (hN : N ≤ 1099511627776) : ∀ (d i : Nat), i + d = N →
    Ev (fun k => spec_GapsOf.l0 k (sel (fun j => decide (f j = 0)) i) (tabf N f) ((tabf N f).length : Int) (i : Int)) (gapsTold (fun j => decide (f j = 0)) N)
  | 0, i, h => by
    refine Ev.step (fun k => by rw [spec_GapsOf.l0]) ?_
    rw [tabf_length]
    simp only [if_neg (show ¬ ((i : Int) < (N : Int)) by omega)]
    rw [show i = N by omega]
    unfold gapsTold
    by_cases c : (sel (fun j => decide (f j = 0)) N).length > 1000
    · simp only [if_pos (show ((sel (fun j => decide (f j = 0)) N).length : Int) > 1000 by omega), if_pos c]
      exact Ev.now _
    · simp only [if_neg (show ¬ ((sel (fun j => decide (f j = 0)) N).length : Int) > 1000 by omega), if_neg c]
      exact Ev.now _
  | d + 1, i, h => by
    have ih := gapsS_loop N f hN d (i + 1) (by omega)
    have hl := sel_length (fun j => decide (f j = 0)) i
    refine Ev.step (fun k => by rw [spec_GapsOf.l0]) ?_
    rw [tabf_length] at ih ⊢
    simp only [if_pos (show (i : Int) < (N : Int) by omega), if_pos (show (0 : Int) ≤ (i : Int) by omega)]
    rw [wrap_succ i (by omega)]
    have e : rd (tabf N f) (i : Int) = f i := tabf_getD N f i (by omega)
    by_cases c : rd (tabf N f) (i : Int) = 0
    · rw [sel_at _ i (by rw [e] at c; simpa using c)] at ih
      simp only [if_pos c, if_pos (show (sel (fun j => decide (f j = 0)) i).length < 17592186044416 by omega)]
      exact ih
    · rw [sel_skip _ i (by rw [e] at c; simpa using c)] at ih
      simp only [if_neg c]
      exact ih
theorem miss_loop (N : Nat) (b : Nat → Bool) (hN : N ≤ 1099511627776) : ∀ (d i : Nat), i + d = N → (sel (fun j => !b j) i).length ≤ 1000 →
    Ev (fun k => impl_missing.l0 k (sel (fun j => !b j) i) (tabb N b) ((tabb N b).length : Int) (i : Int)) (gapsTold (fun j => !b j) N)
  | 0, i, h, hl => by
    refine Ev.step (fun k => by rw [impl_missing.l0]) ?_
    rw [tabb_length]
    simp only [if_neg (show ¬ ((i : Int) < (N : Int)) by omega)]
    rw [show i = N by omega] at hl ⊢
    unfold gapsTold
    rw [if_neg (by omega)]
    exact Ev.now _
  | d + 1, i, h, hl => by
    have ih := miss_loop N b hN d (i + 1) (by omega)
    refine Ev.step (fun k => by rw [impl_missing.l0]) ?_
    rw [tabb_length] at ih ⊢
    simp only [if_pos (show (i : Int) < (N : Int) by omega), if_pos (show (0 : Int) ≤ (i : Int) by omega)]
    rw [wrap_succ i (by omega)]
    have e : rdOf false (tabb N b) (i : Int) = b i := tabb_getD N b i (by omega)
    by_cases c : rdOf false (tabb N b) (i : Int) = true
    · rw [sel_skip _ i (by rw [e] at c; simp [c])] at ih
      simp only [if_pos c]
      exact ih hl
    · have hp : (!b i) = true := by rw [e] at c; simpa using c
      have hs := sel_at (fun j => !b j) i hp
      by_cases c2 : (sel (fun j => !b j) i).length = 1000
      · have hm := sel_mono (fun j => !b j) d (i + 1)
        rw [show i + 1 + d = N by omega, hs, List.length_append, c2] at hm
        simp only [if_neg c, if_pos (show ((sel (fun j => !b j) i).length : Int) = 1000 by omega)]
        unfold gapsTold
        rw [if_pos (by simp at hm; omega)]
        exact Ev.now _
      · rw [hs] at ih
        simp only [if_neg c, if_neg (show ¬ ((sel (fun j => !b j) i).length : Int) = 1000 by omega), if_pos (show (sel (fun j => !b j) i).length < 17592186044416 by omega)]
        exact ih (by simp; omega)
theorem told_loop (N : Nat) (S : List Int) (hN : N ≤ 1099511627776) (hS : S.length ≤ N) (hb : ∀ x ∈ S, 0 ≤ x ∧ x < N) (R : List Int × Bool)
    (K : Ev (fun k => impl_missing.f k (tabb N (fun j => decide ((j : Int) ∈ S)))) R) : ∀ (d i : Nat), i + d = S.length →
    Ev (fun k => impl_GapsOf.l0 k (tabb N (fun j => decide ((j : Int) ∈ S.take i))) S (S.length : Int) (i : Int)) R
  | 0, i, h => by
    refine Ev.step (fun k => by rw [impl_GapsOf.l0]) ?_
    simp only [if_neg (show ¬ ((i : Int) < (S.length : Int)) by omega)]
    rw [List.take_of_length_le (by omega)]
    exact Ev.bind K (Ev.now _)
  | d + 1, i, h => by
    have ih := told_loop N S hN hS hb R K d (i + 1) (by omega)
    have hi : i < S.length := by omega
    have hx := hb (S.getD i 0) (by rw [List.getD_eq_getElem?_getD, List.getElem?_eq_getElem hi]; exact List.getElem_mem hi)
    refine Ev.step (fun k => by rw [impl_GapsOf.l0]) ?_
    have e : rd S (i : Int) = S.getD i 0 := rfl
    simp only [if_pos (show (i : Int) < (S.length : Int) by omega), if_pos (show (0 : Int) ≤ (i : Int) by omega), tabb_length, if_pos (show 0 ≤ rd S (i : Int) by omega), if_pos (show rd S (i : Int) < (N : Int) by omega)]
    rw [wrap_succ i (by omega), e, tabb_set N _ (fun j => decide ((j : Int) ∈ S.take (i + 1))) (S.getD i 0).toNat true (by omega) ?_ ?_]
    · exact ih
    · rw [Int.toNat_of_nonneg hx.1]
      refine (decide_eq_true ?_).symm
      rw [List.take_succ_eq_append_getElem hi, List.getD_eq_getElem?_getD, List.getElem?_eq_getElem hi]
      exact List.mem_append.2 (.inr (List.mem_singleton.2 rfl))
    · intro j hj hne
      have : ¬ ((j : Int) = S[i]) := by
        intro hh
        rw [List.getD_eq_getElem?_getD, List.getElem?_eq_getElem hi] at hne
        simp at hne
        omega
      have e2 : ((j : Int) ∈ S.take (i + 1)) ↔ ((j : Int) ∈ S.take i) := by
        rw [List.take_succ_eq_append_getElem hi, List.mem_append, List.mem_singleton]
        exact ⟨fun h => h.elim id (fun h => absurd h this), .inl⟩
      simp only [e2]
theorem GapsOf_same (l : List Int) (hm : l.length ≤ 1099511627776) : ∃ r : List Int × Bool, r.1.length ≤ 1099511627776 ∧ Ev (fun k => spec_GapsOf.f k l) r ∧ Ev (fun k => impl_GapsOf.f k l) r := by
  obtain ⟨b, hs, hi, jb⟩ := good_same l hm
  unfold spec_GapsOf.f impl_GapsOf.f
  cases b with
  | true =>
    have g := jb.1 rfl
    have gs := g.sum
    have hN : (l.sum + 1).toNat ≤ 1099511627776 := by omega
    generalize hNe : (l.sum + 1).toNat = N at hN
    refine ⟨gapsTold (fun j => decide (cnt l j = 0)) N, ?_, Ev.bind hs ?_, Ev.bind hi ?_⟩
    · unfold gapsTold
      split
      · simp
      · simp only; omega
    · simp only [if_true]
      have w := ways_ev l g
      rw [hNe] at w
      refine Ev.bind w ?_
      exact gapsS_loop N (fun j => cnt l j) hN N 0 (Nat.zero_add _)
    · simp only [if_true]
      refine Ev.bind (total_ev l g) ?_
      rw [wrap_id _ (by omega) (by omega)]
      have s := sums_ev l g
      rw [hNe] at s
      simp only [if_pos (show 0 ≤ l.sum + 1 by omega), hNe, if_pos (show N ≤ 281474976710656 by omega)]
      refine Ev.bind s ?_
      have hl := sel_length (fun j => decide (cnt l j > 0)) N
      have hmem := fun x => mem_sel (fun j => decide (cnt l j > 0)) x N
      have et : List.replicate N false = tabb N (fun j => decide ((j : Int) ∈ (sel (fun j => decide (cnt l j > 0)) N).take 0)) := by
        rw [replicate_tabb]
        exact tabb_ext N _ _ (fun j _ => by simp)
      rw [et]
      refine told_loop N _ hN hl (fun x hx => ?_) _ ?_ _ 0 (Nat.zero_add _)
      · obtain ⟨j, h1, _, h3⟩ := (hmem x).1 hx
        omega
      · have ef : tabb N (fun j => decide ((j : Int) ∈ sel (fun j => decide (cnt l j > 0)) N)) = tabb N (fun j => !decide (cnt l j = 0)) := by
          refine tabb_ext N _ _ (fun j hj => ?_)
          have h0 := cnt_nonneg l j
          rw [Bool.eq_iff_iff, decide_eq_true_iff, hmem]
          simp only [Bool.not_eq_true', decide_eq_false_iff_not, decide_eq_true_eq]
          constructor
          · rintro ⟨j', h1, h2, h3⟩
            have : j = j' := by omega
            subst this
            omega
          · intro h
            exact ⟨j, hj, by omega, rfl⟩
        rw [ef]
        have m := miss_loop N (fun j => !decide (cnt l j = 0)) hN N 0 (Nat.zero_add _) (by simp [sel])
        simp only [Bool.not_not] at m
        exact m
  | false =>
    exact ⟨([], false), by simp, Ev.bind hs (by simp only [Bool.false_eq_true, if_false]; exact Ev.now _), Ev.bind hi (by simp only [Bool.false_eq_true, if_false]; exact Ev.now _)⟩
theorem FnExactGapsOf : laws_FnExactGapsOf.Pure := by
  intro l0  h1 h2 h3 
  apply Ev.rounds
  unfold laws_FnExactGapsOf.f
  by_cases c : (l0.length : Int) > 1048576
  · simp only [if_pos c]; exact Ev.now _
  · simp only [if_neg c]
    have hm : l0.length ≤ 1099511627776 := by omega
    obtain ⟨⟨r1, r2⟩, hr, hs, hi⟩ := GapsOf_same l0  hm
    replace hr : r1.length ≤ 1099511627776 := hr
    obtain ⟨m0, hm0, hm1⟩ := mark_ev l0 hm
    obtain ⟨m2, hm2, hm3⟩ := mark_ev r1 hr
    refine Ev.bind (toInt_ev l0 hm) ?_
    refine Ev.bind hs ?_
    refine Ev.bind (toInt_ev l0 hm) ?_
    refine Ev.bind hi ?_
    refine Ev.bind (eq_ev r1 hr) ?_
    simp only [if_true, bne_self_eq_false]
    refine Ev.step (fun k => by rw [laws_FnExactGapsOf.j0]) ?_
    simp only [Bool.false_eq_true, if_false]
    refine Ev.bind (toInt_ev l0 hm) ?_
    refine Ev.bind (eq_ev l0 hm) ?_
    simp only [if_true]
    refine Ev.bind hm0 ?_
    simp only [if_neg (show ¬ ((l0.length : Int) + 1 < 0) by omega)]
    refine Ev.bind (eq_ev r1 hr) ?_
    simp only [if_true, bne_self_eq_false]
    refine Ev.step (fun k => by rw [laws_FnExactGapsOf.j1]) ?_
    simp only [Bool.false_eq_true, if_false]
    refine Ev.bind hm2 ?_
    refine Ev.bind hm3 ?_
    simp only [if_neg (show ¬ ((r1.length : Int) + 1 < 0) by omega), if_true]
    refine Ev.bind (toInt_ev l0 hm) ?_
    refine Ev.bind hi ?_
    refine Ev.bind (eq_ev r1 hr) ?_
    simp only [if_true, bne_self_eq_false]
    refine Ev.step (fun k => by rw [laws_FnExactGapsOf.j2]) ?_
    simp only [Bool.false_eq_true, if_false]
    refine Ev.bind hm3 ?_
    simp only [if_neg (show ¬ ((r1.length : Int) + 1 < 0) by omega), if_true]
    exact Ev.now _

end Go.Proofs.Ytopjkoeapcecpaa.Pure
