/- For every list of whole numbers and every number, the program's PutPiece tells what the reference's tells, in new memory, and the list reads as before. No conditions. -/
import Derived.Test.YtopjkoeapcecpaaPFnExactPutPiecex4
namespace Go.Proofs.Ytopjkoeapcecpaa.Pure
open Go.RowKit Go.Proofs.Ytopjkoeapcecpaa.PFnExactPutPiece Go.Proofs.YtopjkoeapcecpaaW.PrintWords Go.Proofs.YtopjkoeapcecpaaW.PrintLast
set_option linter.unusedVariables false
set_option linter.unusedSimpArgs false

theorem wrap_id (x : Int) (h0 : -9223372036854775808 ≤ x) (h1 : x ≤ 9223372036854775807) : wrap64 x = x := by
  unfold wrap64; omega
theorem wrap_succ (i : Nat) (h : i < 4611686018427387904) : wrap64 ((i : Int) + 1) = ((i + 1 : Nat) : Int) := by
  rw [wrap_id _ (by omega) (by omega)]; rfl
theorem rd_nat (l : List Int) (i : Nat) : rd l (i : Int) = l.getD i 0 := rfl
theorem getD_some (l : List Int) (i : Nat) (h : i < l.length) : l[i]? = some (l.getD i 0) := by
  rw [List.getD_eq_getElem?_getD, List.getElem?_eq_getElem h]; rfl
theorem bool_same {b c : Bool} {P : Prop} (hb : b = true ↔ P) (hc : c = true ↔ P) : b = c := by
  cases b <;> cases c <;> simp_all

theorem eq_loop (a : List Int) (hm : a.length ≤ 1099511627776) : ∀ (d i : Nat), i + d = a.length → Ev (fun k => laws_eqIntS.l0 k a a (i : Int)) true
  | 0, i, h => by
    refine Ev.step (fun k => by rw [laws_eqIntS.l0]) ?_
    simp only [if_neg (show ¬ ((i : Int) < (a.length : Int)) by omega)]
    exact Ev.now _
  | d + 1, i, h => by
    refine Ev.step (fun k => by rw [laws_eqIntS.l0]) ?_
    simp only [if_pos (show (i : Int) < (a.length : Int) by omega), if_pos (show (0 : Int) ≤ (i : Int) by omega), if_true]
    rw [wrap_succ i (by omega)]
    exact eq_loop a hm d (i + 1) (by omega)
theorem eq_ev (a : List Int) (hm : a.length ≤ 1099511627776) : Ev (fun k => laws_eqIntS.f k a a) true := by
  unfold laws_eqIntS.f
  simp only [if_true]
  exact eq_loop a hm a.length 0 (by omega)

theorem toInt_loop (l : List Int) (hm : l.length ≤ 1099511627776) : ∀ (d i : Nat) (cur : List Int), i + d = l.length → cur.length = l.length → (∀ j, j < i → cur[j]? = l[j]?) → Ev (fun k => laws_toIntS.l0 k l cur (i : Int)) l
  | 0, i, cur, h, hc, hj => by
    refine Ev.step (fun k => by rw [laws_toIntS.l0]) ?_
    simp only [if_neg (show ¬ ((i : Int) < (l.length : Int)) by omega)]
    have e : cur = l := by
      apply List.ext_getElem?
      intro j
      by_cases c : j < i
      · exact hj j c
      · rw [List.getElem?_eq_none (by omega), List.getElem?_eq_none (by omega)]
    rw [e]
    exact Ev.now _
  | d + 1, i, cur, h, hc, hj => by
    refine Ev.step (fun k => by rw [laws_toIntS.l0]) ?_
    simp only [if_pos (show (i : Int) < (l.length : Int) by omega), if_pos (show (0 : Int) ≤ (i : Int) by omega), if_pos (show (i : Int) < (cur.length : Int) by omega)]
    rw [wrap_succ i (by omega), Int.toNat_natCast, rd_nat]
    refine toInt_loop l hm d (i + 1) _ (by omega) (by rw [List.length_set]; exact hc) ?_
    intro j hlt
    rw [List.getElem?_set]
    by_cases c : i = j
    · subst c
      rw [if_pos rfl, if_pos (by omega), getD_some l i (by omega)]
    · rw [if_neg c]
      exact hj j (by omega)
theorem toInt_ev (l : List Int) (hm : l.length ≤ 1099511627776) : Ev (fun k => laws_toIntS.f k l) l := by
  unfold laws_toIntS.f
  simp only [if_pos (show (0 : Int) ≤ (l.length : Int) by omega), if_pos (show ((l.length : Int)).toNat ≤ 35184372088832 by omega)]
  exact toInt_loop l hm l.length 0 _ (by omega) (by simp) (fun j hj => by omega)

theorem mark_loop : ∀ (d i : Nat) (cur : List Int), i + d = cur.length → cur.length ≤ 1099511627776 → (∀ j, j < i → cur[j]? = some ((j : Int) + 1)) →
    ∃ m : List Int, m.length = cur.length ∧ (∀ j, j < m.length → m[j]? = some ((j : Int) + 1)) ∧ Ev (fun k => laws_markIntS.l0 k cur ((i : Int) + 1) (i : Int)) ((cur.length : Int) + 1, m)
  | 0, i, cur, h, hm, hj => by
    refine ⟨cur, rfl, fun j hlt => hj j (by omega), ?_⟩
    refine Ev.step (fun k => by rw [laws_markIntS.l0]) ?_
    simp only [if_neg (show ¬ ((i : Int) < (cur.length : Int)) by omega)]
    rw [show ((cur.length : Int) + 1) = ((i : Int) + 1) by omega]
    exact Ev.now _
  | d + 1, i, cur, h, hm, hj => by
    obtain ⟨m, h1, h2, h3⟩ := mark_loop d (i + 1) (cur.set i ((i : Int) + 1)) (by simp; omega) (by simpa using hm) (fun j hlt => by
      rw [List.getElem?_set]
      by_cases c : i = j
      · subst c; rw [if_pos rfl, if_pos (by omega)]
      · rw [if_neg c]; exact hj j (by omega))
    rw [List.length_set] at h1 h3
    refine ⟨m, h1, h2, ?_⟩
    refine Ev.step (fun k => by rw [laws_markIntS.l0]) ?_
    simp only [if_pos (show (i : Int) < (cur.length : Int) by omega), if_pos (show (0 : Int) ≤ (i : Int) by omega)]
    rw [wrap_succ i (by omega), Int.toNat_natCast, show wrap64 ((i : Int) + 1 + 1) = ((i + 1 : Nat) : Int) + 1 by rw [wrap_id _ (by omega) (by omega)]; omega]
    exact h3
theorem held_loop (m : List Int) (hm : m.length ≤ 1099511627776) (hj : ∀ j, j < m.length → m[j]? = some ((j : Int) + 1)) : ∀ (d i : Nat), i + d = m.length →
    Ev (fun k => laws_heldIntS.l0 k m ((i : Int) + 1) (i : Int)) ((m.length : Int) + 1)
  | 0, i, h => by
    refine Ev.step (fun k => by rw [laws_heldIntS.l0]) ?_
    simp only [if_neg (show ¬ ((i : Int) < (m.length : Int)) by omega)]
    rw [show ((m.length : Int) + 1) = ((i : Int) + 1) by omega]
    exact Ev.now _
  | d + 1, i, h => by
    refine Ev.step (fun k => by rw [laws_heldIntS.l0]) ?_
    have e : rd m (i : Int) = (i : Int) + 1 := by
      rw [rd_nat, List.getD_eq_getElem?_getD, hj i (by omega)]; rfl
    simp only [if_pos (show (i : Int) < (m.length : Int) by omega), if_pos (show (0 : Int) ≤ (i : Int) by omega), e, if_true]
    rw [wrap_succ i (by omega), show wrap64 ((i : Int) + 1 + 1) = ((i + 1 : Nat) : Int) + 1 by rw [wrap_id _ (by omega) (by omega)]; omega]
    exact held_loop m hm hj d (i + 1) (by omega)
theorem mark_ev (l : List Int) (hm : l.length ≤ 1099511627776) : ∃ m : List Int, Ev (fun k => laws_markIntS.f k l 1) ((l.length : Int) + 1, m) ∧ Ev (fun k => laws_heldIntS.f k m 1) ((l.length : Int) + 1) := by
  obtain ⟨m, h1, h2, h3⟩ := mark_loop l.length 0 l (by omega) hm (fun j h => by omega)
  refine ⟨m, h3, ?_⟩
  rw [← h1]
  exact held_loop m (by omega) h2 m.length 0 (by omega)

theorem l1In_eq (x lo hi : Int) : spec_l1In.f x lo hi = some (decide (lo ≤ x ∧ x ≤ hi)) := by
  unfold spec_l1In.f
  by_cases c : x ≥ lo
  · rw [if_pos c]; congr 1; by_cases d : x ≤ hi
    · rw [decide_eq_true d, decide_eq_true ⟨c, d⟩]
    · rw [decide_eq_false d, decide_eq_false (fun h => d h.2)]
  · rw [if_neg c, decide_eq_false (fun h => c h.1)]

theorem l1All_loop (lo hi : Int) (l : List Int) (hm : l.length ≤ 1099511627776) : ∀ (d i : Nat), i + d = l.length →
    ∃ b, Ev (fun k => spec_l1All.l0 k lo hi l (l.length : Int) (i : Int)) b ∧ (b = true ↔ ∀ j, i ≤ j → j < l.length → lo ≤ l.getD j 0 ∧ l.getD j 0 ≤ hi)
  | 0, i, h => by
    refine ⟨true, ?_, by simp only [true_iff]; intro j h1 h2; omega⟩
    refine Ev.step (fun k => by rw [spec_l1All.l0]) ?_
    simp only [if_neg (show ¬ ((i : Int) < (l.length : Int)) by omega)]
    exact Ev.now _
  | d + 1, i, h => by
    by_cases c : lo ≤ l.getD i 0 ∧ l.getD i 0 ≤ hi
    · obtain ⟨b, hb, hj⟩ := l1All_loop lo hi l hm d (i + 1) (by omega)
      refine ⟨b, ?_, ?_⟩
      · refine Ev.step (fun k => by rw [spec_l1All.l0]) ?_
        simp only [if_pos (show (i : Int) < (l.length : Int) by omega), if_pos (show (0 : Int) ≤ (i : Int) by omega), l1In_eq, rd_nat, decide_eq_true c, Option.bind_some, if_true]
        rw [wrap_succ i (by omega)]
        exact hb
      · rw [hj]
        constructor
        · intro H j h1 h2
          by_cases e : j = i
          · rw [e]; exact c
          · exact H j (by omega) h2
        · intro H j h1 h2
          exact H j (by omega) h2
    · refine ⟨false, ?_, ?_⟩
      · refine Ev.step (fun k => by rw [spec_l1All.l0]) ?_
        simp only [if_pos (show (i : Int) < (l.length : Int) by omega), if_pos (show (0 : Int) ≤ (i : Int) by omega), l1In_eq, rd_nat, decide_eq_false c, Option.bind_some, Bool.false_eq_true, if_false]
        exact Ev.now _
      · constructor
        · intro H; cases H
        · intro H; exact absurd (H i (by omega) (by omega)) c
theorem l1All_ev (lo hi : Int) (l : List Int) (hm : l.length ≤ 1099511627776) :
    ∃ b, Ev (fun k => spec_l1All.f k l lo hi) b ∧ (b = true ↔ ∀ j, j < l.length → lo ≤ l.getD j 0 ∧ l.getD j 0 ≤ hi) := by
  obtain ⟨b, hb, hj⟩ := l1All_loop lo hi l hm l.length 0 (by omega)
  exact ⟨b, hb, by rw [hj]; exact ⟨fun H j h => H j (by omega) h, fun H j _ h => H j h⟩⟩

/-- What pieces are. -/
def Good (l : List Int) : Prop := l.length ≤ 20 ∧ (∀ j, j < l.length → 1 ≤ l.getD j 0 ∧ l.getD j 0 ≤ 10000) ∧ (∀ j, 1 ≤ j → j < l.length → l.getD (j - 1) 0 ≤ l.getD j 0)

theorem piGood_loop (l : List Int) (hm : l.length ≤ 1099511627776) : ∀ (d i : Nat), 1 ≤ i → l.length ≤ i + d →
    ∃ b, Ev (fun k => spec_piGood.l0 k l (i : Int)) b ∧ (b = true ↔ ∀ j, i ≤ j → j < l.length → l.getD (j - 1) 0 ≤ l.getD j 0)
  | 0, i, h0, h => by
    refine ⟨true, ?_, by simp only [true_iff]; intro j h1 h2; omega⟩
    refine Ev.step (fun k => by rw [spec_piGood.l0]) ?_
    simp only [if_neg (show ¬ ((i : Int) < (l.length : Int)) by omega)]
    exact Ev.now _
  | d + 1, i, h0, h => by
    by_cases hlt : i < l.length
    · have w : wrap64 ((i : Int) - 1) = ((i - 1 : Nat) : Int) := by rw [wrap_id _ (by omega) (by omega)]; omega
      by_cases c : l.getD (i - 1) 0 ≤ l.getD i 0
      · obtain ⟨b, hb, hj⟩ := piGood_loop l hm d (i + 1) (by omega) (by omega)
        refine ⟨b, ?_, ?_⟩
        · refine Ev.step (fun k => by rw [spec_piGood.l0]) ?_
          simp only [w, rd_nat, if_pos (show (i : Int) < (l.length : Int) by omega), if_pos (show (0 : Int) ≤ (i : Int) by omega), if_pos (show (0 : Int) ≤ ((i - 1 : Nat) : Int) by omega), if_pos (show ((i - 1 : Nat) : Int) < (l.length : Int) by omega), if_neg (show ¬ (l.getD (i - 1) 0 > l.getD i 0) by omega)]
          rw [wrap_succ i (by omega)]
          exact hb
        · rw [hj]
          constructor
          · intro H j h1 h2
            by_cases e : j = i
            · rw [e]; exact c
            · exact H j (by omega) h2
          · intro H j h1 h2
            exact H j (by omega) h2
      · refine ⟨false, ?_, ?_⟩
        · refine Ev.step (fun k => by rw [spec_piGood.l0]) ?_
          simp only [w, rd_nat, if_pos (show (i : Int) < (l.length : Int) by omega), if_pos (show (0 : Int) ≤ (i : Int) by omega), if_pos (show (0 : Int) ≤ ((i - 1 : Nat) : Int) by omega), if_pos (show ((i - 1 : Nat) : Int) < (l.length : Int) by omega), if_pos (show (l.getD (i - 1) 0 > l.getD i 0) by omega)]
          exact Ev.now _
        · constructor
          · intro H; cases H
          · intro H; exact absurd (H i (by omega) hlt) c
    · exact piGood_loop l hm 0 i h0 (by omega)
theorem piGood_ev (l : List Int) (hm : l.length ≤ 1099511627776) : ∃ b, Ev (fun k => spec_piGood.f k l) b ∧ (b = true ↔ Good l) := by
  by_cases c : l.length ≤ 20
  · obtain ⟨a, ha, ja⟩ := l1All_ev 1 10000 l hm
    cases a with
    | true =>
      obtain ⟨b, hb, jb⟩ := piGood_loop l hm l.length 1 (by omega) (by omega)
      refine ⟨b, ?_, ?_⟩
      · unfold spec_piGood.f
        simp only [if_neg (show ¬ ((l.length : Int) > 20) by omega)]
        refine Ev.bind ha ?_
        refine Ev.step (fun k => by rw [spec_piGood.j0]) ?_
        simp only [Bool.not_true, Bool.false_eq_true, if_false]
        exact hb
      · rw [jb]
        exact ⟨fun H => ⟨c, ja.1 rfl, H⟩, fun H => H.2.2⟩
    | false =>
      refine ⟨false, ?_, ?_⟩
      · unfold spec_piGood.f
        simp only [if_neg (show ¬ ((l.length : Int) > 20) by omega)]
        refine Ev.bind ha ?_
        refine Ev.step (fun k => by rw [spec_piGood.j0]) ?_
        simp only [Bool.not_false, if_true]
        exact Ev.now _
      · exact ⟨fun H => (by cases H), fun H => ja.2 H.2.1⟩
  · refine ⟨false, ?_, ?_⟩
    · unfold spec_piGood.f
      simp only [if_pos (show ((l.length : Int) > 20) by omega)]
      refine Ev.step (fun k => by rw [spec_piGood.j0]) ?_
      simp only [if_true]
      exact Ev.now _
    · exact ⟨fun H => (by cases H), fun H => absurd H.1 c⟩

theorem areWithin_eq (l : List Int) (lo hi : Int) (hm : l.length ≤ 1099511627776) :
    ∃ b, impl_areWithin.f l lo hi = some b ∧ (b = true ↔ ∀ j, j < l.length → lo ≤ l.getD j 0 ∧ l.getD j 0 ≤ hi) := by
  refine ⟨_, by unfold impl_areWithin.f; rw [if_pos (by omega)], ?_⟩
  rw [Bool.not_eq_true', List.any_eq_false]
  constructor
  · intro H j hj
    have := H (l.getD j 0) (by rw [List.getD_eq_getElem?_getD, List.getElem?_eq_getElem hj]; exact List.getElem_mem hj)
    simpa using this
  · intro H x hx
    obtain ⟨j, hj, rfl⟩ := List.getElem_of_mem hx
    have := H j hj
    rw [List.getD_eq_getElem?_getD, List.getElem?_eq_getElem hj] at this
    simpa using this

theorem less_eq (a b : Int) : cmp_Less_int.f a b = some (decide (a < b)) := by
  unfold cmp_Less_int.f cmp_isNaN_int.f
  simp
theorem isSorted_loop (l : List Int) (hm : l.length ≤ 1099511627776) : ∀ (i : Nat), i < l.length →
    ∃ b, Ev (fun k => slices_IsSorted_int_int.l0 k l (i : Int)) b ∧ (b = true ↔ ∀ j, 1 ≤ j → j ≤ i → l.getD (j - 1) 0 ≤ l.getD j 0)
  | 0, h => by
    refine ⟨true, ?_, by simp only [true_iff]; intro j h1 h2; omega⟩
    refine Ev.step (fun k => by rw [slices_IsSorted_int_int.l0]) ?_
    simp only [if_neg (show ¬ (((0 : Nat) : Int) > 0) by omega)]
    exact Ev.now _
  | i + 1, h => by
    have w : wrap64 (((i + 1 : Nat) : Int) - 1) = (i : Int) := by rw [wrap_id _ (by omega) (by omega)]; omega
    by_cases c : l.getD i 0 ≤ l.getD (i + 1) 0
    · obtain ⟨b, hb, hj⟩ := isSorted_loop l hm i (by omega)
      refine ⟨b, ?_, ?_⟩
      · refine Ev.step (fun k => by rw [slices_IsSorted_int_int.l0]) ?_
        simp only [w, rd_nat, less_eq, if_pos (show ((i + 1 : Nat) : Int) > 0 by omega), if_pos (show (0 : Int) ≤ ((i + 1 : Nat) : Int) by omega), if_pos (show ((i + 1 : Nat) : Int) < (l.length : Int) by omega), if_pos (show (0 : Int) ≤ (i : Int) by omega), if_pos (show (i : Int) < (l.length : Int) by omega), Option.bind_some, decide_eq_false (show ¬ (l.getD (i + 1) 0 < l.getD i 0) by omega), Bool.false_eq_true, if_false]
        exact hb
      · rw [hj]
        constructor
        · intro H j h1 h2
          by_cases e : j = i + 1
          · subst e; exact c
          · exact H j h1 (by omega)
        · intro H j h1 h2
          exact H j h1 (by omega)
    · refine ⟨false, ?_, ?_⟩
      · refine Ev.step (fun k => by rw [slices_IsSorted_int_int.l0]) ?_
        simp only [w, rd_nat, less_eq, if_pos (show ((i + 1 : Nat) : Int) > 0 by omega), if_pos (show (0 : Int) ≤ ((i + 1 : Nat) : Int) by omega), if_pos (show ((i + 1 : Nat) : Int) < (l.length : Int) by omega), if_pos (show (0 : Int) ≤ (i : Int) by omega), if_pos (show (i : Int) < (l.length : Int) by omega), Option.bind_some, decide_eq_true (show (l.getD (i + 1) 0 < l.getD i 0) by omega), if_true]
        exact Ev.now _
      · constructor
        · intro H; cases H
        · intro H; exact absurd (H (i + 1) (by omega) (by omega)) c
theorem isSorted_ev (l : List Int) (hm : l.length ≤ 1099511627776) :
    ∃ b, Ev (fun k => slices_IsSorted_int_int.f k l) b ∧ (b = true ↔ ∀ j, 1 ≤ j → j < l.length → l.getD (j - 1) 0 ≤ l.getD j 0) := by
  unfold slices_IsSorted_int_int.f
  by_cases c : l.length = 0
  · refine ⟨true, ?_, by simp only [true_iff]; intro j h1 h2; omega⟩
    rw [c, wrap_id _ (by omega) (by omega)]
    refine Ev.step (fun k => by rw [slices_IsSorted_int_int.l0]) ?_
    simp only [if_neg (show ¬ (((0 : Nat) : Int) - 1 > 0) by omega)]
    exact Ev.now _
  · obtain ⟨b, hb, hj⟩ := isSorted_loop l hm (l.length - 1) (by omega)
    refine ⟨b, ?_, ?_⟩
    · rw [wrap_id _ (by omega) (by omega), show ((l.length : Int) - 1) = ((l.length - 1 : Nat) : Int) by omega]
      exact hb
    · rw [hj]
      exact ⟨fun H j h1 h2 => H j h1 (by omega), fun H j h1 h2 => H j h1 (by omega)⟩

theorem arePieces_ev (l : List Int) (hm : l.length ≤ 1099511627776) : ∃ b, Ev (fun k => impl_ArePieces.f k l) b ∧ (b = true ↔ Good l) := by
  unfold impl_ArePieces.f
  by_cases c : l.length ≤ 20
  · simp only [if_pos (show ((l.length : Int) ≤ 20) by omega)]
    obtain ⟨a, ha, ja⟩ := areWithin_eq l 1 10000 hm
    rw [ha]
    cases a with
    | true =>
      obtain ⟨b, hb, jb⟩ := isSorted_ev l hm
      refine ⟨b, ?_, ?_⟩
      · simp only [Option.bind_some, if_true]
        refine Ev.bind hb ?_
        exact Ev.now _
      · rw [jb]
        exact ⟨fun H => ⟨c, ja.1 rfl, H⟩, fun H => H.2.2⟩
    | false =>
      refine ⟨false, ?_, ?_⟩
      · simp only [Option.bind_some, Bool.false_eq_true, if_false]
        exact Ev.now _
      · exact ⟨fun H => (by cases H), fun H => ja.2 H.2.1⟩
  · refine ⟨false, ?_, ?_⟩
    · simp only [if_neg (show ¬ ((l.length : Int) ≤ 20) by omega)]
      exact Ev.now _
    · exact ⟨fun H => (by cases H), fun H => absurd H.1 c⟩
theorem good_same (l : List Int) (hm : l.length ≤ 1099511627776) : ∃ b, Ev (fun k => spec_piGood.f k l) b ∧ Ev (fun k => impl_ArePieces.f k l) b ∧ (b = true ↔ Good l) := by
  obtain ⟨b, hb, jb⟩ := piGood_ev l hm
  obtain ⟨c, hc, jc⟩ := arePieces_ev l hm
  have e := bool_same jb jc
  subst e
  exact ⟨b, hb, hc, jb⟩

theorem within_eq (x lo hi : Int) : impl_within.f x lo hi = some (decide (lo ≤ x ∧ x ≤ hi)) := by
  unfold impl_within.f
  by_cases c : lo ≤ x
  · rw [if_pos c]; congr 1; by_cases d : x ≤ hi
    · rw [decide_eq_true d, decide_eq_true ⟨c, d⟩]
    · rw [decide_eq_false d, decide_eq_false (fun h => d h.2)]
  · rw [if_neg c, decide_eq_false (fun h => c h.1)]

theorem own_eq (l : List Int) (h : l.length < 17592186044416) : spec_l1Own.f l = some l := by
  unfold spec_l1Own.f
  show (if (List.length ([] : List Int)) + l.length < 17592186044416 then some ([] ++ l) else none) = some l
  rw [if_pos (by rw [List.length_nil, Nat.zero_add]; exact h), List.nil_append]

theorem Good.rise {l : List Int} (g : Good l) (i : Nat) : ∀ d, i + d < l.length → l.getD i 0 ≤ l.getD (i + d) 0
  | 0, _ => Int.le_refl _
  | d + 1, h => Int.le_trans (g.rise i d (by omega)) (g.2.2 (i + (d + 1)) (by omega) h)
theorem getD_at (l : List Int) (i : Nat) (h : i < l.length) : l[i] = l.getD i 0 := by
  rw [List.getD_eq_getElem?_getD, List.getElem?_eq_getElem h]; rfl
theorem put_eq (l : List Int) (g : Good l) (n : Int) (p : Nat) (hp : p ≤ l.length) (ha : p = 0 ∨ l.getD (p - 1) 0 ≤ n) (hb : ∀ j, p ≤ j → j < l.length → n < l.getD j 0) :
    l.take p ++ [n] ++ l.drop p = (l ++ [n]).mergeSort (fun x y => decide (x ≤ y)) := by
  have pl : l.Pairwise (· ≤ ·) := List.pairwise_iff_getElem.mpr (fun i j hi hj hij => by
    rw [getD_at l i hi, getD_at l j hj]
    have := g.rise i (j - i) (by omega)
    rwa [show i + (j - i) = j by omega] at this)
  have mt : ∀ a ∈ l.take p, a ≤ n := fun a h => by
    obtain ⟨i, hi, e⟩ := List.mem_take_iff_getElem.mp h
    have hi2 : i < l.length := by omega
    have := g.rise i (p - 1 - i) (by omega)
    rw [show i + (p - 1 - i) = p - 1 by omega] at this
    rw [← e, getD_at l i hi2]
    rcases ha with ha | ha
    · omega
    · omega
  have md : ∀ b ∈ l.drop p, n ≤ b := fun b h => by
    obtain ⟨j, hj, e⟩ := List.mem_drop_iff_getElem.mp h
    rw [← e, getD_at l _ (by omega)]
    have := hb (p + j) (by omega) (by omega)
    omega
  have p1 : (l.take p ++ [n] ++ l.drop p).Pairwise (· ≤ ·) := by
    refine List.pairwise_append.mpr ⟨List.pairwise_append.mpr ⟨pl.sublist (List.take_sublist _ _), List.pairwise_singleton _ _, fun a h b hb' => by rw [List.mem_singleton.mp hb']; exact mt a h⟩, pl.sublist (List.drop_sublist _ _), fun a h b hb' => ?_⟩
    rcases List.mem_append.mp h with h | h
    · exact Int.le_trans (mt a h) (md b hb')
    · rw [List.mem_singleton.mp h]; exact md b hb'
  have p2 : ((l ++ [n]).mergeSort (fun x y => decide (x ≤ y))).Pairwise (· ≤ ·) :=
    (List.pairwise_mergeSort (le := fun x y : Int => decide (x ≤ y)) (fun a b c h1 h2 => decide_eq_true (Int.le_trans (of_decide_eq_true h1) (of_decide_eq_true h2))) (fun a b => by
      rcases Int.le_total a b with h | h
      · simp [h]
      · simp [h]) (l ++ [n])).imp (fun h => of_decide_eq_true h)
  have pm : (l.take p ++ [n] ++ l.drop p).Perm (l ++ [n]) := by
    have e : (l.take p ++ l.drop p) ++ [n] = l ++ [n] := by rw [List.take_append_drop]
    rw [← e, List.append_assoc, List.append_assoc]
    exact List.Perm.append_left _ List.perm_append_comm
  exact List.Perm.eq_of_pairwise (le := fun x y : Int => x ≤ y) (fun a b _ _ h1 h2 => Int.le_antisymm h1 h2) p1 p2 (pm.trans (List.mergeSort_perm _ _).symm)
theorem put_loop (l : List Int) (g : Good l) (n : Int) : ∀ p, p ≤ l.length → (∀ j, p ≤ j → j < l.length → n < l.getD j 0) →
    Ev (fun k => spec_piPut.l0 k l n (p : Int)) ((l ++ [n]).mergeSort (fun x y => decide (x ≤ y)))
  | 0, h, hb => by
    have hg := g.1
    refine Ev.step (fun k => by rw [spec_piPut.l0]) ?_
    simp only [if_neg (show ¬ (((0 : Nat) : Int) > 0) by omega), if_pos (show (0 : Int) ≤ ((0 : Nat) : Int) by omega), if_pos (show ((0 : Nat) : Int) ≤ (l.length : Int) by omega), Int.toNat_natCast]
    rw [own_eq _ (by rw [List.length_take]; omega), Option.bind_some, Option.bind_some, if_pos (by rw [List.length_take]; simp only [List.length_singleton]; omega), Option.bind_some,
      if_pos (by rw [List.length_append, List.length_take, List.length_drop]; simp only [List.length_singleton]; omega), put_eq l g n 0 h (.inl rfl) hb]
    exact Ev.now _
  | p + 1, h, hb => by
    have hg := g.1
    have w : wrap64 (((p + 1 : Nat) : Int) - 1) = (p : Int) := by rw [wrap_id _ (by omega) (by omega)]; omega
    refine Ev.step (fun k => by rw [spec_piPut.l0]) ?_
    rw [w]
    by_cases c : rd l (p : Int) > n
    · simp only [if_pos (show (((p + 1 : Nat) : Int) > 0) by omega), if_pos (show (0 : Int) ≤ (p : Int) by omega), if_pos (show (p : Int) < (l.length : Int) by omega), if_pos c]
      exact put_loop l g n p (by omega) (fun j h1 h2 => by
        by_cases e : j = p
        · subst e; exact c
        · exact hb j (by omega) h2)
    · simp only [if_pos (show (((p + 1 : Nat) : Int) > 0) by omega), if_pos (show (0 : Int) ≤ (p : Int) by omega), if_pos (show (p : Int) < (l.length : Int) by omega), if_neg c, if_pos (show (0 : Int) ≤ ((p + 1 : Nat) : Int) by omega), if_pos (show ((p + 1 : Nat) : Int) ≤ (l.length : Int) by omega), Int.toNat_natCast]
      have c' : l.getD p 0 ≤ n := by have e : rd l (p : Int) = l.getD p 0 := rfl; rw [e] at c; omega
      rw [own_eq _ (by rw [List.length_take]; omega), Option.bind_some, Option.bind_some, if_pos (by rw [List.length_take]; simp only [List.length_singleton]; omega), Option.bind_some,
        if_pos (by rw [List.length_append, List.length_take, List.length_drop]; simp only [List.length_singleton]; omega), put_eq l g n (p + 1) h (.inr (by simpa using c')) hb]
      exact Ev.now _
theorem PutPiece_same (l : List Int) (n : Int) (hm : l.length ≤ 1099511627776) : ∃ r : List Int × Bool, r.1.length ≤ 1099511627776 ∧ Ev (fun k => spec_PutPiece.f k l n) r ∧ Ev (fun k => impl_PutPiece.f k l n) r := by
  obtain ⟨b, hs, hi, jb⟩ := good_same l hm
  unfold spec_PutPiece.f impl_PutPiece.f
  have none1 : Ev (fun k => impl_PutPiece.j0 k l n true) (([] : List Int), false) := by
    refine Ev.step (fun k => by rw [impl_PutPiece.j0]) ?_
    simp only [if_true]
    exact Ev.now _
  cases b with
  | true =>
    have g := jb.1 rfl
    have hg := g.1
    by_cases d : 1 ≤ n ∧ n ≤ 10000
    · by_cases z : (l.length : Int) = 20
      · refine ⟨([], false), by simp, Ev.bind hs ?_, Ev.bind hi ?_⟩
        · simp only [if_true]
          refine Ev.bind (a := true) (by rw [l1In_eq, decide_eq_true d]; exact Ev.now _) ?_
          simp only [if_true, if_pos z]
          exact Ev.now _
        · simp only [if_true]
          refine Ev.bind (a := true) (by rw [within_eq, decide_eq_true d]; exact Ev.now _) ?_
          simp only [if_true]
          rw [show ((l.length : Int) == 20) = true from beq_iff_eq.mpr z]
          exact none1
      · refine ⟨((l ++ [n]).mergeSort (fun x y => decide (x ≤ y)), true), by simp only [List.length_mergeSort, List.length_append, List.length_singleton]; omega, Ev.bind hs ?_, Ev.bind hi ?_⟩
        · simp only [if_true]
          refine Ev.bind (a := true) (by rw [l1In_eq, decide_eq_true d]; exact Ev.now _) ?_
          simp only [if_true, if_neg z]
          refine Ev.bind (show Ev (fun k => spec_piPut.f k l n) _ from put_loop l g n l.length (Nat.le_refl _) (fun j h1 h2 => by omega)) ?_
          exact Ev.now _
        · simp only [if_true]
          refine Ev.bind (a := true) (by rw [within_eq, decide_eq_true d]; exact Ev.now _) ?_
          simp only [if_true]
          rw [show ((l.length : Int) == 20) = false from beq_eq_false_iff_ne.mpr z]
          refine Ev.step (fun k => by rw [impl_PutPiece.j0]) ?_
          simp only [Bool.false_eq_true, if_false]
          refine Ev.bind (a := l) (by unfold slices_Clone_int_int.f; rw [if_pos (by omega)]; exact Ev.now _) ?_
          simp only [if_pos (show l.length < 17592186044416 by omega)]
          refine Ev.bind (a := (l ++ [n]).mergeSort (fun x y => decide (x ≤ y))) (by unfold slices_Sort_int_int.f; rw [if_pos (by rw [List.length_append, List.length_singleton]; omega), if_pos (by rw [List.length_append, List.length_singleton]; omega)]; exact Ev.now _) ?_
          exact Ev.now _
    · refine ⟨([], false), by simp, Ev.bind hs ?_, Ev.bind hi ?_⟩
      · simp only [if_true]
        refine Ev.bind (a := false) (by rw [l1In_eq, decide_eq_false d]; exact Ev.now _) ?_
        simp only [Bool.false_eq_true, if_false]
        exact Ev.now _
      · simp only [if_true]
        refine Ev.bind (a := false) (by rw [within_eq, decide_eq_false d]; exact Ev.now _) ?_
        simp only [Bool.false_eq_true, if_false]
        exact none1
  | false =>
    refine ⟨([], false), by simp, Ev.bind hs ?_, Ev.bind hi ?_⟩
    · simp only [Bool.false_eq_true, if_false]
      exact Ev.now _
    · simp only [Bool.false_eq_true, if_false]
      exact none1
theorem FnExactPutPiece : laws_FnExactPutPiece.Pure := by
  intro l0 a1 h1 h2 h3 w_a1
  apply Ev.rounds
  unfold laws_FnExactPutPiece.f
  by_cases c : (l0.length : Int) > 1048576
  · simp only [if_pos c]; exact Ev.now _
  · simp only [if_neg c]
    have hm : l0.length ≤ 1099511627776 := by omega
    obtain ⟨⟨r1, r2⟩, hr, hs, hi⟩ := PutPiece_same l0 a1 hm
    replace hr : r1.length ≤ 1099511627776 := hr
    obtain ⟨m0, hm0, hm1⟩ := mark_ev l0 hm
    obtain ⟨m2, hm2, hm3⟩ := mark_ev r1 hr
    refine Ev.bind (toInt_ev l0 hm) ?_
    refine Ev.bind hs ?_
    refine Ev.bind (toInt_ev l0 hm) ?_
    refine Ev.bind hi ?_
    refine Ev.bind (eq_ev r1 hr) ?_
    simp only [if_true, bne_self_eq_false]
    refine Ev.step (fun k => by rw [laws_FnExactPutPiece.j0]) ?_
    simp only [Bool.false_eq_true, if_false]
    refine Ev.bind (toInt_ev l0 hm) ?_
    refine Ev.bind (eq_ev l0 hm) ?_
    simp only [if_true]
    refine Ev.bind hm0 ?_
    simp only [if_neg (show ¬ ((l0.length : Int) + 1 < 0) by omega)]
    refine Ev.bind (eq_ev r1 hr) ?_
    simp only [if_true, bne_self_eq_false]
    refine Ev.step (fun k => by rw [laws_FnExactPutPiece.j1]) ?_
    simp only [Bool.false_eq_true, if_false]
    refine Ev.bind hm2 ?_
    refine Ev.bind hm3 ?_
    simp only [if_neg (show ¬ ((r1.length : Int) + 1 < 0) by omega), if_true]
    refine Ev.bind (toInt_ev l0 hm) ?_
    refine Ev.bind hi ?_
    refine Ev.bind (eq_ev r1 hr) ?_
    simp only [if_true, bne_self_eq_false]
    refine Ev.step (fun k => by rw [laws_FnExactPutPiece.j2]) ?_
    simp only [Bool.false_eq_true, if_false]
    refine Ev.bind hm3 ?_
    simp only [if_neg (show ¬ ((r1.length : Int) + 1 < 0) by omega), if_true]
    exact Ev.now _

end Go.Proofs.Ytopjkoeapcecpaa.Pure
