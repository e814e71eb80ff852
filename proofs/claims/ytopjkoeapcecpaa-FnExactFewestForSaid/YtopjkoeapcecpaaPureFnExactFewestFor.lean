/- For every list of whole numbers and every number, the program's FewestFor tells what the reference's tells, and the list reads as before. No conditions. -/
import Derived.Test.YtopjkoeapcecpaaPFnExactFewestForx6
namespace Go.Proofs.Ytopjkoeapcecpaa.Pure
open Go.RowKit Go.Proofs.Ytopjkoeapcecpaa.PFnExactFewestFor Go.Proofs.YtopjkoeapcecpaaW.PrintWords Go.Proofs.YtopjkoeapcecpaaW.PrintLast
set_option linter.unusedVariables false
set_option linter.unusedSimpArgs false

theorem wrap_id (x : Int) (h0 : -9223372036854775808 ≤ x) (h1 : x ≤ 9223372036854775807) : wrap64 x = x := by
  unfold wrap64; omega
theorem wrap_succ (i : Nat) (h : i < 4611686018427387904) : wrap64 ((i : Int) + 1) = ((i + 1 : Nat) : Int) := by
  rw [wrap_id _ (by omega) (by omega)]; rfl
theorem rd_nat (l : List Int) (i : Nat) : rd l (i : Int) = l.getD i 0 := rfl
theorem getD_some (l : List Int) (i : Nat) (h : i < l.length) : l[i]? = some (l.getD i 0) := by
  rw [List.getD_eq_getElem?_getD, List.getElem?_eq_getElem h]; rfl
theorem bool_same {b c : Bool} {P : Prop} (hb : b = true ↔ P) (hc : c = true ↔ P) : b = c := by
  cases b <;> cases c <;> simp_all

theorem eq_loop (a : List Int) (hm : a.length ≤ 1099511627776) : ∀ (d i : Nat), i + d = a.length → Ev (fun k => laws_eqIntS.l0 k a a (i : Int)) true
  | 0, i, h => by
    refine Ev.step (fun k => by rw [laws_eqIntS.l0]) ?_
    simp only [if_neg (show ¬ ((i : Int) < (a.length : Int)) by omega)]
    exact Ev.now _
  | d + 1, i, h => by
    refine Ev.step (fun k => by rw [laws_eqIntS.l0]) ?_
    simp only [if_pos (show (i : Int) < (a.length : Int) by omega), if_pos (show (0 : Int) ≤ (i : Int) by omega), if_true]
    rw [wrap_succ i (by omega)]
    exact eq_loop a hm d (i + 1) (by omega)
theorem eq_ev (a : List Int) (hm : a.length ≤ 1099511627776) : Ev (fun k => laws_eqIntS.f k a a) true := by
  unfold laws_eqIntS.f
  simp only [if_true]
  exact eq_loop a hm a.length 0 (by omega)

theorem toInt_loop (l : List Int) (hm : l.length ≤ 1099511627776) : ∀ (d i : Nat) (cur : List Int), i + d = l.length → cur.length = l.length → (∀ j, j < i → cur[j]? = l[j]?) → Ev (fun k => laws_toIntS.l0 k l cur (i : Int)) l
  | 0, i, cur, h, hc, hj => by
    refine Ev.step (fun k => by rw [laws_toIntS.l0]) ?_
    simp only [if_neg (show ¬ ((i : Int) < (l.length : Int)) by omega)]
    have e : cur = l := by
      apply List.ext_getElem?
      intro j
      by_cases c : j < i
      · exact hj j c
      · rw [List.getElem?_eq_none (by omega), List.getElem?_eq_none (by omega)]
    rw [e]
    exact Ev.now _
  | d + 1, i, cur, h, hc, hj => by
    refine Ev.step (fun k => by rw [laws_toIntS.l0]) ?_
    simp only [if_pos (show (i : Int) < (l.length : Int) by omega), if_pos (show (0 : Int) ≤ (i : Int) by omega), if_pos (show (i : Int) < (cur.length : Int) by omega)]
    rw [wrap_succ i (by omega), Int.toNat_natCast, rd_nat]
    refine toInt_loop l hm d (i + 1) _ (by omega) (by rw [List.length_set]; exact hc) ?_
    intro j hlt
    rw [List.getElem?_set]
    by_cases c : i = j
    · subst c
      rw [if_pos rfl, if_pos (by omega), getD_some l i (by omega)]
    · rw [if_neg c]
      exact hj j (by omega)
theorem toInt_ev (l : List Int) (hm : l.length ≤ 1099511627776) : Ev (fun k => laws_toIntS.f k l) l := by
  unfold laws_toIntS.f
  simp only [if_pos (show (0 : Int) ≤ (l.length : Int) by omega), if_pos (show ((l.length : Int)).toNat ≤ 35184372088832 by omega)]
  exact toInt_loop l hm l.length 0 _ (by omega) (by simp) (fun j hj => by omega)

theorem l1In_eq (x lo hi : Int) : spec_l1In.f x lo hi = some (decide (lo ≤ x ∧ x ≤ hi)) := by
  unfold spec_l1In.f
  by_cases c : x ≥ lo
  · rw [if_pos c]; congr 1; by_cases d : x ≤ hi
    · rw [decide_eq_true d, decide_eq_true ⟨c, d⟩]
    · rw [decide_eq_false d, decide_eq_false (fun h => d h.2)]
  · rw [if_neg c, decide_eq_false (fun h => c h.1)]

theorem l1All_loop (lo hi : Int) (l : List Int) (hm : l.length ≤ 1099511627776) : ∀ (d i : Nat), i + d = l.length →
    ∃ b, Ev (fun k => spec_l1All.l0 k lo hi l (l.length : Int) (i : Int)) b ∧ (b = true ↔ ∀ j, i ≤ j → j < l.length → lo ≤ l.getD j 0 ∧ l.getD j 0 ≤ hi)
  | 0, i, h => by
    refine ⟨true, ?_, by simp only [true_iff]; intro j h1 h2; omega⟩
    refine Ev.step (fun k => by rw [spec_l1All.l0]) ?_
    simp only [if_neg (show ¬ ((i : Int) < (l.length : Int)) by omega)]
    exact Ev.now _
  | d + 1, i, h => by
    by_cases c : lo ≤ l.getD i 0 ∧ l.getD i 0 ≤ hi
    · obtain ⟨b, hb, hj⟩ := l1All_loop lo hi l hm d (i + 1) (by omega)
      refine ⟨b, ?_, ?_⟩
      · refine Ev.step (fun k => by rw [spec_l1All.l0]) ?_
        simp only [if_pos (show (i : Int) < (l.length : Int) by omega), if_pos (show (0 : Int) ≤ (i : Int) by omega), l1In_eq, rd_nat, decide_eq_true c, Option.bind_some, if_true]
        rw [wrap_succ i (by omega)]
        exact hb
      · rw [hj]
        constructor
        · intro H j h1 h2
          by_cases e : j = i
          · rw [e]; exact c
          · exact H j (by omega) h2
        · intro H j h1 h2
          exact H j (by omega) h2
    · refine ⟨false, ?_, ?_⟩
      · refine Ev.step (fun k => by rw [spec_l1All.l0]) ?_
        simp only [if_pos (show (i : Int) < (l.length : Int) by omega), if_pos (show (0 : Int) ≤ (i : Int) by omega), l1In_eq, rd_nat, decide_eq_false c, Option.bind_some, Bool.false_eq_true, if_false]
        exact Ev.now _
      · constructor
        · intro H; cases H
        · intro H; exact absurd (H i (by omega) (by omega)) c
theorem l1All_ev (lo hi : Int) (l : List Int) (hm : l.length ≤ 1099511627776) :
    ∃ b, Ev (fun k => spec_l1All.f k l lo hi) b ∧ (b = true ↔ ∀ j, j < l.length → lo ≤ l.getD j 0 ∧ l.getD j 0 ≤ hi) := by
  obtain ⟨b, hb, hj⟩ := l1All_loop lo hi l hm l.length 0 (by omega)
  exact ⟨b, hb, by rw [hj]; exact ⟨fun H j h => H j (by omega) h, fun H j _ h => H j h⟩⟩

/-- What pieces are. -/
def Good (l : List Int) : Prop := l.length ≤ 20 ∧ (∀ j, j < l.length → 1 ≤ l.getD j 0 ∧ l.getD j 0 ≤ 10000) ∧ (∀ j, 1 ≤ j → j < l.length → l.getD (j - 1) 0 ≤ l.getD j 0)

theorem piGood_loop (l : List Int) (hm : l.length ≤ 1099511627776) : ∀ (d i : Nat), 1 ≤ i → l.length ≤ i + d →
    ∃ b, Ev (fun k => spec_piGood.l0 k l (i : Int)) b ∧ (b = true ↔ ∀ j, i ≤ j → j < l.length → l.getD (j - 1) 0 ≤ l.getD j 0)
  | 0, i, h0, h => by
    refine ⟨true, ?_, by simp only [true_iff]; intro j h1 h2; omega⟩
    refine Ev.step (fun k => by rw [spec_piGood.l0]) ?_
    simp only [if_neg (show ¬ ((i : Int) < (l.length : Int)) by omega)]
    exact Ev.now _
  | d + 1, i, h0, h => by
    by_cases hlt : i < l.length
    · have w : wrap64 ((i : Int) - 1) = ((i - 1 : Nat) : Int) := by rw [wrap_id _ (by omega) (by omega)]; omega
      by_cases c : l.getD (i - 1) 0 ≤ l.getD i 0
      · obtain ⟨b, hb, hj⟩ := piGood_loop l hm d (i + 1) (by omega) (by omega)
        refine ⟨b, ?_, ?_⟩
        · refine Ev.step (fun k => by rw [spec_piGood.l0]) ?_
          simp only [w, rd_nat, if_pos (show (i : Int) < (l.length : Int) by omega), if_pos (show (0 : Int) ≤ (i : Int) by omega), if_pos (show (0 : Int) ≤ ((i - 1 : Nat) : Int) by omega), if_pos (show ((i - 1 : Nat) : Int) < (l.length : Int) by omega), if_neg (show ¬ (l.getD (i - 1) 0 > l.getD i 0) by omega)]
          rw [wrap_succ i (by omega)]
          exact hb
        · rw [hj]
          constructor
          · intro H j h1 h2
            by_cases e : j = i
            · rw [e]; exact c
            · exact H j (by omega) h2
          · intro H j h1 h2
            exact H j (by omega) h2
      · refine ⟨false, ?_, ?_⟩
        · refine Ev.step (fun k => by rw [spec_piGood.l0]) ?_
          simp only [w, rd_nat, if_pos (show (i : Int) < (l.length : Int) by omega), if_pos (show (0 : Int) ≤ (i : Int) by omega), if_pos (show (0 : Int) ≤ ((i - 1 : Nat) : Int) by omega), if_pos (show ((i - 1 : Nat) : Int) < (l.length : Int) by omega), if_pos (show (l.getD (i - 1) 0 > l.getD i 0) by omega)]
          exact Ev.now _
        · constructor
          · intro H; cases H
          · intro H; exact absurd (H i (by omega) hlt) c
    · exact piGood_loop l hm 0 i h0 (by omega)
theorem piGood_ev (l : List Int) (hm : l.length ≤ 1099511627776) : ∃ b, Ev (fun k => spec_piGood.f k l) b ∧ (b = true ↔ Good l) := by
  by_cases c : l.length ≤ 20
  · obtain ⟨a, ha, ja⟩ := l1All_ev 1 10000 l hm
    cases a with
    | true =>
      obtain ⟨b, hb, jb⟩ := piGood_loop l hm l.length 1 (by omega) (by omega)
      refine ⟨b, ?_, ?_⟩
      · unfold spec_piGood.f
        simp only [if_neg (show ¬ ((l.length : Int) > 20) by omega)]
        refine Ev.bind ha ?_
        refine Ev.step (fun k => by rw [spec_piGood.j0]) ?_
        simp only [Bool.not_true, Bool.false_eq_true, if_false]
        exact hb
      · rw [jb]
        exact ⟨fun H => ⟨c, ja.1 rfl, H⟩, fun H => H.2.2⟩
    | false =>
      refine ⟨false, ?_, ?_⟩
      · unfold spec_piGood.f
        simp only [if_neg (show ¬ ((l.length : Int) > 20) by omega)]
        refine Ev.bind ha ?_
        refine Ev.step (fun k => by rw [spec_piGood.j0]) ?_
        simp only [Bool.not_false, if_true]
        exact Ev.now _
      · exact ⟨fun H => (by cases H), fun H => ja.2 H.2.1⟩
  · refine ⟨false, ?_, ?_⟩
    · unfold spec_piGood.f
      simp only [if_pos (show ((l.length : Int) > 20) by omega)]
      refine Ev.step (fun k => by rw [spec_piGood.j0]) ?_
      simp only [if_true]
      exact Ev.now _
    · exact ⟨fun H => (by cases H), fun H => absurd H.1 c⟩

theorem areWithin_eq (l : List Int) (lo hi : Int) (hm : l.length ≤ 1099511627776) :
    ∃ b, impl_areWithin.f l lo hi = some b ∧ (b = true ↔ ∀ j, j < l.length → lo ≤ l.getD j 0 ∧ l.getD j 0 ≤ hi) := by
  refine ⟨_, by unfold impl_areWithin.f; rw [if_pos (by omega)], ?_⟩
  rw [Bool.not_eq_true', List.any_eq_false]
  constructor
  · intro H j hj
    have := H (l.getD j 0) (by rw [List.getD_eq_getElem?_getD, List.getElem?_eq_getElem hj]; exact List.getElem_mem hj)
    simpa using this
  · intro H x hx
    obtain ⟨j, hj, rfl⟩ := List.getElem_of_mem hx
    have := H j hj
    rw [List.getD_eq_getElem?_getD, List.getElem?_eq_getElem hj] at this
    simpa using this

theorem less_eq (a b : Int) : cmp_Less_int.f a b = some (decide (a < b)) := by
  unfold cmp_Less_int.f cmp_isNaN_int.f
  simp
theorem isSorted_loop (l : List Int) (hm : l.length ≤ 1099511627776) : ∀ (i : Nat), i < l.length →
    ∃ b, Ev (fun k => slices_IsSorted_int_int.l0 k l (i : Int)) b ∧ (b = true ↔ ∀ j, 1 ≤ j → j ≤ i → l.getD (j - 1) 0 ≤ l.getD j 0)
  | 0, h => by
    refine ⟨true, ?_, by simp only [true_iff]; intro j h1 h2; omega⟩
    refine Ev.step (fun k => by rw [slices_IsSorted_int_int.l0]) ?_
    simp only [if_neg (show ¬ (((0 : Nat) : Int) > 0) by omega)]
    exact Ev.now _
  | i + 1, h => by
    have w : wrap64 (((i + 1 : Nat) : Int) - 1) = (i : Int) := by rw [wrap_id _ (by omega) (by omega)]; omega
    by_cases c : l.getD i 0 ≤ l.getD (i + 1) 0
    · obtain ⟨b, hb, hj⟩ := isSorted_loop l hm i (by omega)
      refine ⟨b, ?_, ?_⟩
      · refine Ev.step (fun k => by rw [slices_IsSorted_int_int.l0]) ?_
        simp only [w, rd_nat, less_eq, if_pos (show ((i + 1 : Nat) : Int) > 0 by omega), if_pos (show (0 : Int) ≤ ((i + 1 : Nat) : Int) by omega), if_pos (show ((i + 1 : Nat) : Int) < (l.length : Int) by omega), if_pos (show (0 : Int) ≤ (i : Int) by omega), if_pos (show (i : Int) < (l.length : Int) by omega), Option.bind_some, decide_eq_false (show ¬ (l.getD (i + 1) 0 < l.getD i 0) by omega), Bool.false_eq_true, if_false]
        exact hb
      · rw [hj]
        constructor
        · intro H j h1 h2
          by_cases e : j = i + 1
          · subst e; exact c
          · exact H j h1 (by omega)
        · intro H j h1 h2
          exact H j h1 (by omega)
    · refine ⟨false, ?_, ?_⟩
      · refine Ev.step (fun k => by rw [slices_IsSorted_int_int.l0]) ?_
        simp only [w, rd_nat, less_eq, if_pos (show ((i + 1 : Nat) : Int) > 0 by omega), if_pos (show (0 : Int) ≤ ((i + 1 : Nat) : Int) by omega), if_pos (show ((i + 1 : Nat) : Int) < (l.length : Int) by omega), if_pos (show (0 : Int) ≤ (i : Int) by omega), if_pos (show (i : Int) < (l.length : Int) by omega), Option.bind_some, decide_eq_true (show (l.getD (i + 1) 0 < l.getD i 0) by omega), if_true]
        exact Ev.now _
      · constructor
        · intro H; cases H
        · intro H; exact absurd (H (i + 1) (by omega) (by omega)) c
theorem isSorted_ev (l : List Int) (hm : l.length ≤ 1099511627776) :
    ∃ b, Ev (fun k => slices_IsSorted_int_int.f k l) b ∧ (b = true ↔ ∀ j, 1 ≤ j → j < l.length → l.getD (j - 1) 0 ≤ l.getD j 0) := by
  unfold slices_IsSorted_int_int.f
  by_cases c : l.length = 0
  · refine ⟨true, ?_, by simp only [true_iff]; intro j h1 h2; omega⟩
    rw [c, wrap_id _ (by omega) (by omega)]
    refine Ev.step (fun k => by rw [slices_IsSorted_int_int.l0]) ?_
    simp only [if_neg (show ¬ (((0 : Nat) : Int) - 1 > 0) by omega)]
    exact Ev.now _
  · obtain ⟨b, hb, hj⟩ := isSorted_loop l hm (l.length - 1) (by omega)
    refine ⟨b, ?_, ?_⟩
    · rw [wrap_id _ (by omega) (by omega), show ((l.length : Int) - 1) = ((l.length - 1 : Nat) : Int) by omega]
      exact hb
    · rw [hj]
      exact ⟨fun H j h1 h2 => H j h1 (by omega), fun H j h1 h2 => H j h1 (by omega)⟩

theorem arePieces_ev (l : List Int) (hm : l.length ≤ 1099511627776) : ∃ b, Ev (fun k => impl_ArePieces.f k l) b ∧ (b = true ↔ Good l) := by
  unfold impl_ArePieces.f
  by_cases c : l.length ≤ 20
  · simp only [if_pos (show ((l.length : Int) ≤ 20) by omega)]
    obtain ⟨a, ha, ja⟩ := areWithin_eq l 1 10000 hm
    rw [ha]
    cases a with
    | true =>
      obtain ⟨b, hb, jb⟩ := isSorted_ev l hm
      refine ⟨b, ?_, ?_⟩
      · simp only [Option.bind_some, if_true]
        refine Ev.bind hb ?_
        exact Ev.now _
      · rw [jb]
        exact ⟨fun H => ⟨c, ja.1 rfl, H⟩, fun H => H.2.2⟩
    | false =>
      refine ⟨false, ?_, ?_⟩
      · simp only [Option.bind_some, Bool.false_eq_true, if_false]
        exact Ev.now _
      · exact ⟨fun H => (by cases H), fun H => ja.2 H.2.1⟩
  · refine ⟨false, ?_, ?_⟩
    · simp only [if_neg (show ¬ ((l.length : Int) ≤ 20) by omega)]
      exact Ev.now _
    · exact ⟨fun H => (by cases H), fun H => absurd H.1 c⟩
theorem good_same (l : List Int) (hm : l.length ≤ 1099511627776) : ∃ b, Ev (fun k => spec_piGood.f k l) b ∧ Ev (fun k => impl_ArePieces.f k l) b ∧ (b = true ↔ Good l) := by
  obtain ⟨b, hb, jb⟩ := piGood_ev l hm
  obtain ⟨c, hc, jc⟩ := arePieces_ev l hm
  have e := bool_same jb jc
  subst e
  exact ⟨b, hb, hc, jb⟩

theorem within_eq (x lo hi : Int) : impl_within.f x lo hi = some (decide (lo ≤ x ∧ x ≤ hi)) := by
  unfold impl_within.f
  by_cases c : lo ≤ x
  · rw [if_pos c]; congr 1; by_cases d : x ≤ hi
    · rw [decide_eq_true d, decide_eq_true ⟨c, d⟩]
    · rw [decide_eq_false d, decide_eq_false (fun h => d h.2)]
  · rw [if_neg c, decide_eq_false (fun h => c h.1)]

/-- Pieces, and a number that may be asked for. -/
theorem asked_same (l : List Int) (s : Int) (hm : l.length ≤ 1099511627776) : ∃ b, Ev (fun k => spec_piAsked.f k l s) b ∧ Ev (fun k => impl_isSum.f k l s) b ∧ (b = true ↔ Good l ∧ 0 ≤ s ∧ s ≤ 200000) := by
  obtain ⟨b, hs, hi, jb⟩ := good_same l hm
  unfold spec_piAsked.f impl_isSum.f
  cases b with
  | true =>
    refine ⟨decide (0 ≤ s ∧ s ≤ 200000), Ev.bind hs ?_, Ev.bind hi ?_, ?_⟩
    · simp only [if_true, l1In_eq, Option.bind_some]
      exact Ev.now _
    · simp only [if_true, within_eq, Option.bind_some]
      exact Ev.now _
    · rw [decide_eq_true_iff]
      exact ⟨fun H => ⟨jb.1 rfl, H⟩, fun H => H.2⟩
  | false =>
    refine ⟨false, Ev.bind hs ?_, Ev.bind hi ?_, ?_⟩
    · simp only [Bool.false_eq_true, if_false]
      exact Ev.now _
    · simp only [Bool.false_eq_true, if_false]
      exact Ev.now _
    · exact ⟨fun H => (by cases H), fun H => jb.2 H.1⟩

theorem sum_take_succ (l : List Int) (i : Nat) (h : i < l.length) : (l.take (i + 1)).sum = (l.take i).sum + l.getD i 0 := by
  rw [List.take_succ_eq_append_getElem h, List.sum_append, List.getD_eq_getElem?_getD, List.getElem?_eq_getElem h]; simp
theorem Good.at {l : List Int} (g : Good l) (j : Nat) (h : j < l.length) : 1 ≤ l.getD j 0 ∧ l.getD j 0 ≤ 10000 := g.2.1 j h
theorem Good.sums {l : List Int} (g : Good l) : ∀ i, i ≤ l.length → 0 ≤ (l.take i).sum ∧ (l.take i).sum ≤ 10000 * i
  | 0, _ => by simp
  | i + 1, h => by
    have ih := Good.sums g i (by omega)
    have a := g.at i (by omega)
    rw [sum_take_succ l i (by omega)]
    omega
theorem Good.sum {l : List Int} (g : Good l) : 0 ≤ l.sum ∧ l.sum ≤ 200000 := by
  have h := g.sums l.length (Nat.le_refl _)
  rw [List.take_length] at h
  have := g.1
  omega
theorem Good.mem {l : List Int} (g : Good l) (x : Int) (h : x ∈ l) : 1 ≤ x ∧ x ≤ 10000 := by
  obtain ⟨j, hj, rfl⟩ := List.getElem_of_mem h
  have := g.at j hj
  rw [List.getD_eq_getElem?_getD, List.getElem?_eq_getElem hj] at this
  simpa using this
theorem piSum_loop (l : List Int) (g : Good l) : ∀ (d i : Nat), i + d = l.length → Ev (fun k => spec_piSum.l0 k (l.take i).sum l (l.length : Int) (i : Int)) l.sum
  | 0, i, h => by
    refine Ev.step (fun k => by rw [spec_piSum.l0]) ?_
    simp only [if_neg (show ¬ ((i : Int) < (l.length : Int)) by omega)]
    rw [List.take_of_length_le (by omega)]
    exact Ev.now _
  | d + 1, i, h => by
    refine Ev.step (fun k => by rw [spec_piSum.l0]) ?_
    have gs := g.sums (i + 1) (by omega)
    have g1 := g.1
    simp only [if_pos (show (i : Int) < (l.length : Int) by omega), if_pos (show (0 : Int) ≤ (i : Int) by omega), rd_nat]
    rw [wrap_succ i (by omega), ← sum_take_succ l i (by omega), wrap_id _ (by omega) (by omega)]
    exact piSum_loop l g d (i + 1) (by omega)
theorem piSum_ev (l : List Int) (g : Good l) : Ev (fun k => spec_piSum.f k l) l.sum := piSum_loop l g l.length 0 (by omega)
theorem total_eq0 : ∀ k a b c d, impl_total.l0 k a b c d = spec_piSum.l0 k a b c d
  | 0, _, _, _, _ => rfl
  | k + 1, a, b, c, d => by rw [impl_total.l0, spec_piSum.l0]; simp only [total_eq0 k]
theorem total_eq (k : Nat) (l : List Int) : impl_total.f k l = spec_piSum.f k l := total_eq0 k _ _ _ _
theorem total_ev (l : List Int) (g : Good l) : Ev (fun k => impl_total.f k l) l.sum := Ev.congr (fun k => total_eq k l) (piSum_ev l g)

/-- In how many ways some of the numbers make a sum. -/
def cnt : List Int → Int → Int
  | [], s => if s = 0 then 1 else 0
  | n :: l, s => cnt l s + cnt l (s - n)

theorem cnt_snoc (l : List Int) (n : Int) : ∀ s, cnt (l ++ [n]) s = cnt l s + cnt l (s - n) := by
  induction l with
  | nil => intro s; rfl
  | cons m l ih =>
    intro s
    simp only [List.cons_append, cnt, ih]
    rw [show s - m - n = s - n - m by omega]
    omega

theorem cnt_nonneg (l : List Int) : ∀ s, 0 ≤ cnt l s := by
  induction l with
  | nil => intro s; unfold cnt; split <;> omega
  | cons m l ih => intro s; have a := ih s; have b := ih (s - m); unfold cnt; omega

theorem cnt_neg (l : List Int) (hl : ∀ x ∈ l, 0 ≤ x) : ∀ s, s < 0 → cnt l s = 0 := by
  induction l with
  | nil => intro s h; unfold cnt; rw [if_neg (by omega)]
  | cons m l ih =>
    intro s h
    have hm := hl m (by simp)
    have i := ih (fun x hx => hl x (by simp [hx]))
    unfold cnt
    rw [i s h, i (s - m) (by omega)]; rfl

theorem cnt_big (l : List Int) (hl : ∀ x ∈ l, 0 ≤ x) : ∀ s, l.sum < s → cnt l s = 0 := by
  induction l with
  | nil => intro s h; unfold cnt; rw [if_neg (by simp at h; omega)]
  | cons m l ih =>
    intro s h
    have hm := hl m (by simp)
    have i := ih (fun x hx => hl x (by simp [hx]))
    simp only [List.sum_cons] at h
    unfold cnt
    rw [i s (by omega), i (s - m) (by omega)]; rfl

theorem cnt_le (l : List Int) : ∀ s, cnt l s ≤ 2 ^ l.length := by
  induction l with
  | nil => intro s; unfold cnt; split <;> simp
  | cons m l ih =>
    intro s
    have a := ih s
    have b := ih (s - m)
    unfold cnt
    rw [List.length_cons, Int.pow_succ]
    omega

theorem cnt_small (l : List Int) (h : l.length ≤ 20) (s : Int) : cnt l s ≤ 1048576 := by
  have a := cnt_le l s
  have b : (2 : Int) ^ l.length ≤ 2 ^ 20 := by
    have := Nat.pow_le_pow_right (n := 2) (by omega) h
    exact_mod_cast this
  have c : (2 : Int) ^ 20 = 1048576 := by decide
  omega

/-- A table of a function's values. -/
def tabf (N : Nat) (f : Nat → Int) : List Int := (List.range N).map f
theorem tabf_length (N : Nat) (f : Nat → Int) : (tabf N f).length = N := by simp [tabf]
theorem tabf_get? (N : Nat) (f : Nat → Int) (j : Nat) : (tabf N f)[j]? = if j < N then some (f j) else none := by
  unfold tabf
  rw [List.getElem?_map]
  by_cases c : j < N
  · rw [if_pos c, List.getElem?_range c]; rfl
  · rw [if_neg c, List.getElem?_eq_none (by simpa using c)]; rfl
theorem tabf_getD (N : Nat) (f : Nat → Int) (j : Nat) (h : j < N) : (tabf N f).getD j 0 = f j := by
  rw [List.getD_eq_getElem?_getD, tabf_get?, if_pos h]; rfl
theorem tabf_ext (N : Nat) (f g : Nat → Int) (h : ∀ j, j < N → f j = g j) : tabf N f = tabf N g := by
  apply List.ext_getElem?
  intro j
  rw [tabf_get?, tabf_get?]
  by_cases c : j < N
  · rw [if_pos c, if_pos c, h j c]
  · rw [if_neg c, if_neg c]
theorem tabf_set (N : Nat) (f g : Nat → Int) (s : Nat) (v : Int) (hs : s < N) (hv : v = g s) (h : ∀ j, j < N → j ≠ s → f j = g j) : (tabf N f).set s v = tabf N g := by
  apply List.ext_getElem?
  intro j
  rw [List.getElem?_set, tabf_length, tabf_get?, tabf_get?]
  by_cases c : s = j
  · subst c
    rw [if_pos rfl, if_pos hs, if_pos hs, hv]
  · rw [if_neg c]
    by_cases d : j < N
    · rw [if_pos d, if_pos d, h j d (fun e => c e.symm)]
    · rw [if_neg d, if_neg d]
theorem replicate_tabf (N : Nat) (v : Int) : List.replicate N v = tabf N (fun _ => v) := by
  apply List.ext_getElem?
  intro j
  rw [tabf_get?, List.getElem?_replicate]

theorem take_snoc (l : List Int) (i : Nat) (h : i < l.length) : l.take (i + 1) = l.take i ++ [l.getD i 0] := by
  rw [List.take_succ_eq_append_getElem h, List.getD_eq_getElem?_getD, List.getElem?_eq_getElem h]; rfl
theorem ways_inner (p : List Int) (n : Int) (hn : 1 ≤ n) (hp : p.length ≤ 20) (hp0 : ∀ x ∈ p, 0 ≤ x) (N : Nat) (hN : N ≤ 1099511627776) (x13 : List Int) (x14 x15 : Int) (r : List Int)
    (K : Ev (fun k => spec_piWays.l0 k (tabf N (fun j => cnt (p ++ [n]) j)) x13 x14 (wrap64 (x15 + 1))) r) :
    ∀ s : Nat, s ≤ N → Ev (fun k => spec_piWays.l1 k (tabf N (fun j => if s ≤ j then cnt (p ++ [n]) j else cnt p j)) n ((s : Int) - 1) x13 x14 x15) r
  | 0, _ => by
    refine Ev.step (fun k => by rw [spec_piWays.l1]) ?_
    simp only [if_neg (show ¬ (((0 : Nat) : Int) - 1 ≥ n) by omega), Nat.zero_le, if_true]
    exact K
  | s + 1, hs => by
    have e0 : ((s + 1 : Nat) : Int) - 1 = (s : Int) := by omega
    refine Ev.step (fun k => by rw [spec_piWays.l1]) ?_
    rw [e0]
    by_cases c : (s : Int) ≥ n
    · have w : wrap64 ((s : Int) - n) = ((s - n.toNat : Nat) : Int) := by rw [wrap_id _ (by omega) (by omega)]; omega
      have e1 : ((s - n.toNat : Nat) : Int) = (s : Int) - n := by omega
      have a1 := cnt_nonneg p s
      have a2 := cnt_small p hp s
      have a3 := cnt_nonneg p ((s : Int) - n)
      have a4 := cnt_small p hp ((s : Int) - n)
      have v : wrap64 (cnt p s + cnt p ((s - n.toNat : Nat) : Int)) = cnt (p ++ [n]) s := by
        rw [cnt_snoc, e1, wrap_id _ (by omega) (by omega)]
      simp only [if_pos c, w, if_pos (show (0 : Int) ≤ (s : Int) by omega), tabf_length, if_pos (show (s : Int) < (N : Int) by omega), if_pos (show (0 : Int) ≤ ((s - n.toNat : Nat) : Int) by omega), if_pos (show ((s - n.toNat : Nat) : Int) < (N : Int) by omega), rd_nat]
      rw [tabf_getD N _ s (by omega), tabf_getD N _ (s - n.toNat) (by omega), if_neg (by omega), if_neg (by omega), v, wrap_id ((s : Int) - 1) (by omega) (by omega), Int.toNat_natCast,
        tabf_set N _ (fun j => if s ≤ j then cnt (p ++ [n]) j else cnt p j) s _ (by omega) (by rw [if_pos (Nat.le_refl _)]) (fun j hj hne => by
          by_cases d : s ≤ j
          · rw [if_pos (by omega), if_pos d]
          · rw [if_neg (by omega), if_neg d])]
      exact ways_inner p n hn hp hp0 N hN x13 x14 x15 r K s (by omega)
    · simp only [if_neg c]
      rw [tabf_ext N _ (fun j => cnt (p ++ [n]) j) (fun j hj => by
        by_cases d : s + 1 ≤ j
        · rw [if_pos d]
        · rw [if_neg d, cnt_snoc, cnt_neg p hp0 ((j : Int) - n) (by omega)]; omega)]
      exact K
theorem ways_outer (l : List Int) (g : Good l) (N : Nat) (hN : N ≤ 1099511627776) : ∀ (d i : Nat), i + d = l.length →
    Ev (fun k => spec_piWays.l0 k (tabf N (fun j => cnt (l.take i) j)) l (l.length : Int) (i : Int)) (tabf N (fun j => cnt l j))
  | 0, i, h => by
    refine Ev.step (fun k => by rw [spec_piWays.l0]) ?_
    simp only [if_neg (show ¬ ((i : Int) < (l.length : Int)) by omega)]
    rw [List.take_of_length_le (by omega)]
    exact Ev.now _
  | d + 1, i, h => by
    have g1 := g.1
    refine Ev.step (fun k => by rw [spec_piWays.l0]) ?_
    simp only [if_pos (show (i : Int) < (l.length : Int) by omega), if_pos (show (0 : Int) ≤ (i : Int) by omega), rd_nat, tabf_length]
    rw [wrap_id ((N : Int) - 1) (by omega) (by omega)]
    have hi := ways_inner (l.take i) (l.getD i 0) (g.at i (by omega)).1 (by rw [List.length_take]; omega) (fun x hx => by have := g.mem x (List.mem_of_mem_take hx); omega) N hN l (l.length : Int) (i : Int) (tabf N (fun j => cnt l j))
      (by rw [wrap_succ i (by omega), ← take_snoc l i (by omega)]; exact ways_outer l g N hN d (i + 1) (by omega)) N (Nat.le_refl _)
    rw [tabf_ext N (fun j => if N ≤ j then cnt (l.take i ++ [l.getD i 0]) j else cnt (l.take i) j) (fun j => cnt (l.take i) j) (fun j hj => if_neg (by omega))] at hi
    exact hi
theorem ways_ev (l : List Int) (g : Good l) : Ev (fun k => spec_piWays.f k l) (tabf (l.sum + 1).toNat (fun j => cnt l j)) := by
  unfold spec_piWays.f
  have gs := g.sum
  refine Ev.bind (piSum_ev l g) ?_
  rw [wrap_id _ (by omega) (by omega)]
  simp only [if_pos (show 0 ≤ l.sum + 1 by omega), if_pos (show (l.sum + 1).toNat ≤ 35184372088832 by omega), Option.bind_some, replicate_tabf, tabf_length, if_pos (show (0 : Int) < ((l.sum + 1).toNat : Int) by omega)]
  rw [show (0 : Int).toNat = 0 from rfl, tabf_set _ _ (fun j => cnt (l.take 0) j) 0 1 (by omega) (by simp [cnt]) (fun j _ hj => by simp only [List.take_zero, cnt]; rw [if_neg (by omega)])]
  exact ways_outer l g _ (by omega) l.length 0 (by omega)

theorem Good.nonneg {l : List Int} (g : Good l) : ∀ x ∈ l, 0 ≤ x := fun x hx => by have := g.mem x hx; omega
theorem piMake_ev (l : List Int) (g : Good l) (s : Int) (h0 : 0 ≤ s) : Ev (fun k => spec_piMake.f k l s) (cnt l s) := by
  have gs := g.sum
  unfold spec_piMake.f
  refine Ev.bind (ways_ev l g) ?_
  simp only [tabf_length]
  by_cases c : s ≥ ((l.sum + 1).toNat : Int)
  · simp only [if_pos c]
    rw [cnt_big l g.nonneg s (by omega)]
    exact Ev.now _
  · simp only [if_neg c, if_pos h0, if_pos (show s < ((l.sum + 1).toNat : Int) by omega)]
    have e : rd (tabf (l.sum + 1).toNat (fun j => cnt l j)) s = cnt l s := by
      show (tabf _ _).getD s.toNat 0 = _
      rw [tabf_getD _ _ _ (by omega)]
      rw [Int.toNat_of_nonneg h0]
    rw [e]
    exact Ev.now _

def fewBase (M : Int) (s : Nat) : Int := if s = 0 then 0 else M
def fewStep (F : Nat → Int) (p : Int) (s : Nat) : Int := if p ≤ (s : Int) then mn (F s) (F ((s : Int) - p).toNat + 1) else F s
def few (M : Int) (q : List Int) : Nat → Int := q.foldl fewStep (fewBase M)
theorem few_snoc (M : Int) (q : List Int) (p : Int) : few M (q ++ [p]) = fewStep (few M q) p := by
  unfold few
  rw [List.foldl_append]
  rfl
theorem least_eq (a b : Int) : spec_l1Least.f a b = some (mn a b) := by
  unfold spec_l1Least.f mn
  by_cases c : a < b
  · rw [if_pos c, if_neg (by omega)]
  · rw [if_neg c]
    by_cases d : b < a
    · rw [if_pos d]
    · rw [if_neg d]; congr 1; omega
theorem cnt_zero' (q : List Int) (h : ∀ x ∈ q, 0 ≤ x) : 0 < cnt q 0 := by
  induction q with
  | nil => simp [cnt]
  | cons x q ih =>
    have a := ih (fun y hy => h y (List.mem_cons_of_mem _ hy))
    have b := cnt_nonneg q (0 - x)
    simp only [cnt]
    omega
/-- What a table of the fewest tells: where a sum can be made, a number that doesn't hang on the word for none; else that word. -/
theorem few_tells (M M' : Int) (l : List Int) (g : Good l) (h : (l.length : Int) < M) (h' : (l.length : Int) < M') : ∀ n, n ≤ l.length → ∀ s : Nat,
    (cnt (l.take n) s > 0 ∧ few M (l.take n) s = few M' (l.take n) s ∧ 0 ≤ few M (l.take n) s ∧ few M (l.take n) s ≤ n) ∨ (cnt (l.take n) s = 0 ∧ few M (l.take n) s = M ∧ few M' (l.take n) s = M')
  | 0, _, s => by
    simp only [List.take_zero, few, List.foldl_nil, fewBase, cnt]
    by_cases c : s = 0
    · left; subst c; simp
    · right; rw [if_neg c, if_neg c, if_neg (by omega)]; exact ⟨rfl, rfl, rfl⟩
  | n + 1, hn, s => by
    have p0 := g.at n (by omega)
    rw [take_snoc l n (by omega), cnt_snoc, few_snoc, few_snoc]
    generalize hp : l.getD n 0 = p at p0 ⊢
    have a := few_tells M M' l g h h' n (by omega) s
    unfold fewStep
    by_cases c : p ≤ (s : Int)
    · rw [if_pos c, if_pos c]
      have e : ((((s : Int) - p).toNat : Nat) : Int) = (s : Int) - p := by omega
      have b := few_tells M M' l g h h' n (by omega) ((s : Int) - p).toNat
      rw [e] at b
      unfold mn
      rcases a with ⟨a1, a2, a3, a4⟩ | ⟨a1, a2, a3⟩ <;> rcases b with ⟨b1, b2, b3, b4⟩ | ⟨b1, b2, b3⟩
      · left; rw [← a2, ← b2]; refine ⟨by omega, rfl, ?_, ?_⟩ <;> split <;> omega
      · left; rw [b2, b3, ← a2, if_neg (by omega), if_neg (by omega)]; exact ⟨by omega, rfl, a3, by omega⟩
      · left; rw [a2, a3, ← b2, if_pos (by omega), if_pos (by omega)]; exact ⟨by omega, rfl, by omega, by omega⟩
      · right; rw [a2, a3, b2, b3, if_neg (by omega), if_neg (by omega)]; exact ⟨by omega, rfl, rfl⟩
    · rw [if_neg c, if_neg c, cnt_neg _ (fun x hx => g.nonneg x (List.mem_of_mem_take hx)) ((s : Int) - p) (by omega)]
      rcases a with ⟨a1, a2, a3, a4⟩ | ⟨a1, a2, a3⟩
      · left; exact ⟨by omega, a2, a3, by omega⟩
      · right; exact ⟨by omega, a2, a3⟩
theorem few_bound (M : Int) (l : List Int) (g : Good l) (h : (l.length : Int) < M) (n : Nat) (hn : n ≤ l.length) (s : Nat) : 0 ≤ few M (l.take n) s ∧ few M (l.take n) s ≤ M := by
  rcases few_tells M M l g h h n hn s with ⟨_, _, a, b⟩ | ⟨_, a, _⟩ <;> omega
theorem few_innerI (F : Nat → Int) (M : Int) (hM : M ≤ 1000000) (hF : ∀ s, 0 ≤ F s ∧ F s ≤ M) (n : Int) (hn : 1 ≤ n) (N : Nat) (hN : N ≤ 1099511627776) (x1 : Int) (x13 : List Int) (x14 x15 : Int) (r : Int × Bool)
    (K : Ev (fun k => impl_FewestFor.l1 k x1 (tabf N (fewStep F n)) x13 x14 (wrap64 (x15 + 1))) r) :
    ∀ s : Nat, s ≤ N → Ev (fun k => impl_FewestFor.l2 k x1 (tabf N (fun j => if s ≤ j then fewStep F n j else F j)) n ((s : Int) - 1) x13 x14 x15) r
  | 0, _ => by
    refine Ev.step (fun k => by rw [impl_FewestFor.l2]) ?_
    simp only [if_neg (show ¬ (((0 : Nat) : Int) - 1 ≥ n) by omega), Nat.zero_le, if_true]
    exact K
  | s + 1, hs => by
    have e0 : ((s + 1 : Nat) : Int) - 1 = (s : Int) := by omega
    refine Ev.step (fun k => by rw [impl_FewestFor.l2]) ?_
    rw [e0]
    by_cases c : (s : Int) ≥ n
    · have w : wrap64 ((s : Int) - n) = ((s - n.toNat : Nat) : Int) := by rw [wrap_id _ (by omega) (by omega)]; omega
      have a1 := hF (s - n.toNat)
      have v : mn (F s) (wrap64 (F (s - n.toNat) + 1)) = fewStep F n s := by
        unfold fewStep
        rw [if_pos (show n ≤ (s : Int) from c), show ((s : Int) - n).toNat = s - n.toNat by omega, wrap_id _ (by omega) (by omega)]
      simp only [if_pos c, w, if_pos (show (0 : Int) ≤ (s : Int) by omega), tabf_length, if_pos (show (s : Int) < (N : Int) by omega), if_pos (show (0 : Int) ≤ ((s - n.toNat : Nat) : Int) by omega), if_pos (show ((s - n.toNat : Nat) : Int) < (N : Int) by omega), rd_nat]
      rw [tabf_getD N _ s (by omega), tabf_getD N _ (s - n.toNat) (by omega), if_neg (by omega), if_neg (by omega), v, wrap_id ((s : Int) - 1) (by omega) (by omega), Int.toNat_natCast,
        tabf_set N _ (fun j => if s ≤ j then fewStep F n j else F j) s _ (by omega) (by rw [if_pos (Nat.le_refl _)]) (fun j hj hne => by
          by_cases d : s ≤ j
          · rw [if_pos (by omega), if_pos d]
          · rw [if_neg (by omega), if_neg d])]
      exact few_innerI F M hM hF n hn N hN x1 x13 x14 x15 r K s (by omega)
    · simp only [if_neg c]
      rw [tabf_ext N _ (fewStep F n) (fun j hj => by
        by_cases d : s + 1 ≤ j
        · rw [if_pos d]
        · rw [if_neg d]; unfold fewStep; rw [if_neg (by omega)])]
      exact K
theorem few_innerS (F : Nat → Int) (M : Int) (hM : M ≤ 1000000) (hF : ∀ s, 0 ≤ F s ∧ F s ≤ M) (n : Int) (hn : 1 ≤ n) (N : Nat) (hN : N ≤ 1099511627776) (x1 : Int) (x13 : List Int) (x14 x15 : Int) (r : Int × Bool)
    (K : Ev (fun k => spec_FewestFor.l1 k x1 (tabf N (fewStep F n)) x13 x14 (wrap64 (x15 + 1))) r) :
    ∀ s : Nat, s ≤ N → Ev (fun k => spec_FewestFor.l2 k x1 (tabf N (fun j => if s ≤ j then fewStep F n j else F j)) n ((s : Int) - 1) x13 x14 x15) r
  | 0, _ => by
    refine Ev.step (fun k => by rw [spec_FewestFor.l2]) ?_
    simp only [if_neg (show ¬ (((0 : Nat) : Int) - 1 ≥ n) by omega), Nat.zero_le, if_true]
    exact K
  | s + 1, hs => by
    have e0 : ((s + 1 : Nat) : Int) - 1 = (s : Int) := by omega
    refine Ev.step (fun k => by rw [spec_FewestFor.l2]) ?_
    rw [e0]
    by_cases c : (s : Int) ≥ n
    · have w : wrap64 ((s : Int) - n) = ((s - n.toNat : Nat) : Int) := by rw [wrap_id _ (by omega) (by omega)]; omega
      have a1 := hF (s - n.toNat)
      have v : mn (F s) (wrap64 (F (s - n.toNat) + 1)) = fewStep F n s := by
        unfold fewStep
        rw [if_pos (show n ≤ (s : Int) from c), show ((s : Int) - n).toNat = s - n.toNat by omega, wrap_id _ (by omega) (by omega)]
      simp only [if_pos c, w, if_pos (show (0 : Int) ≤ (s : Int) by omega), tabf_length, if_pos (show (s : Int) < (N : Int) by omega), if_pos (show (0 : Int) ≤ ((s - n.toNat : Nat) : Int) by omega), if_pos (show ((s - n.toNat : Nat) : Int) < (N : Int) by omega), rd_nat, least_eq, Option.bind_some]
      rw [tabf_getD N _ s (by omega), tabf_getD N _ (s - n.toNat) (by omega), if_neg (by omega), if_neg (by omega), v, wrap_id ((s : Int) - 1) (by omega) (by omega), Int.toNat_natCast,
        tabf_set N _ (fun j => if s ≤ j then fewStep F n j else F j) s _ (by omega) (by rw [if_pos (Nat.le_refl _)]) (fun j hj hne => by
          by_cases d : s ≤ j
          · rw [if_pos (by omega), if_pos d]
          · rw [if_neg (by omega), if_neg d])]
      exact few_innerS F M hM hF n hn N hN x1 x13 x14 x15 r K s (by omega)
    · simp only [if_neg c]
      rw [tabf_ext N _ (fewStep F n) (fun j hj => by
        by_cases d : s + 1 ≤ j
        · rw [if_pos d]
        · rw [if_neg d]; unfold fewStep; rw [if_neg (by omega)])]
      exact K
theorem few_outerI (l : List Int) (g : Good l) (M : Int) (hM : M ≤ 1000000) (hl : (l.length : Int) < M) (N : Nat) (hN : N ≤ 1099511627776) (x1 : Int) (hx : x1 = (N : Int) - 1) (r : Int × Bool)
    (K : Ev (fun k => impl_FewestFor.l1 k x1 (tabf N (few M l)) l (l.length : Int) (l.length : Int)) r) : ∀ (d i : Nat), i + d = l.length →
    Ev (fun k => impl_FewestFor.l1 k x1 (tabf N (few M (l.take i))) l (l.length : Int) (i : Int)) r
  | 0, i, h => by
    have e : i = l.length := by omega
    subst e
    rw [List.take_of_length_le (Nat.le_refl _)]
    exact K
  | d + 1, i, h => by
    have g1 := g.1
    refine Ev.step (fun k => by rw [impl_FewestFor.l1]) ?_
    simp only [if_pos (show (i : Int) < (l.length : Int) by omega), if_pos (show (0 : Int) ≤ (i : Int) by omega), rd_nat]
    have hi := few_innerI (few M (l.take i)) M hM (few_bound M l g hl i (by omega)) (l.getD i 0) (g.at i (by omega)).1 N hN x1 l (l.length : Int) (i : Int) r
      (by rw [wrap_succ i (by omega), ← few_snoc, ← take_snoc l i (by omega)]; exact few_outerI l g M hM hl N hN x1 hx r K d (i + 1) (by omega)) N (Nat.le_refl _)
    rw [tabf_ext N _ (few M (l.take i)) (fun j hj => if_neg (by omega)), ← hx] at hi
    exact hi
theorem few_outerS (l : List Int) (g : Good l) (M : Int) (hM : M ≤ 1000000) (hl : (l.length : Int) < M) (N : Nat) (hN : N ≤ 1099511627776) (x1 : Int) (r : Int × Bool)
    (K : Ev (fun k => spec_FewestFor.l1 k x1 (tabf N (few M l)) l (l.length : Int) (l.length : Int)) r) : ∀ (d i : Nat), i + d = l.length →
    Ev (fun k => spec_FewestFor.l1 k x1 (tabf N (few M (l.take i))) l (l.length : Int) (i : Int)) r
  | 0, i, h => by
    have e : i = l.length := by omega
    subst e
    rw [List.take_of_length_le (Nat.le_refl _)]
    exact K
  | d + 1, i, h => by
    have g1 := g.1
    refine Ev.step (fun k => by rw [spec_FewestFor.l1]) ?_
    simp only [if_pos (show (i : Int) < (l.length : Int) by omega), if_pos (show (0 : Int) ≤ (i : Int) by omega), rd_nat, tabf_length]
    rw [wrap_id ((N : Int) - 1) (by omega) (by omega)]
    have hi := few_innerS (few M (l.take i)) M hM (few_bound M l g hl i (by omega)) (l.getD i 0) (g.at i (by omega)).1 N hN x1 l (l.length : Int) (i : Int) r
      (by rw [wrap_succ i (by omega), ← few_snoc, ← take_snoc l i (by omega)]; exact few_outerS l g M hM hl N hN x1 r K d (i + 1) (by omega)) N (Nat.le_refl _)
    rw [tabf_ext N _ (few M (l.take i)) (fun j hj => if_neg (by omega))] at hi
    exact hi
/-- The table's start: every place is set to the word for none. -/
theorem few_fillI (l : List Int) (x1 : Int) (N : Nat) (hN : N ≤ 1099511627776) (h0 : 0 < N) (r : Int × Bool)
    (K : Ev (fun k => impl_FewestFor.l1 k x1 (tabf N (fewBase 21)) l (l.length : Int) 0) r) : ∀ (d s : Nat), s + d = N →
    Ev (fun k => impl_FewestFor.l0 k l x1 (tabf N (fun j => if j < s then 21 else 0)) (N : Int) (s : Int)) r
  | 0, s, h => by
    have e : s = N := by omega
    subst e
    refine Ev.step (fun k => by rw [impl_FewestFor.l0]) ?_
    simp only [if_neg (show ¬ (s : Int) < (s : Int) by omega), tabf_length, if_pos (show (0 : Int) < (s : Int) by omega)]
    rw [show (0 : Int).toNat = 0 from rfl, tabf_set s _ (fewBase 21) 0 0 h0 rfl (fun j hj hne => by unfold fewBase; rw [if_pos hj, if_neg hne])]
    exact K
  | d + 1, s, h => by
    refine Ev.step (fun k => by rw [impl_FewestFor.l0]) ?_
    simp only [if_pos (show (s : Int) < (N : Int) by omega), if_pos (show (0 : Int) ≤ (s : Int) by omega), tabf_length]
    rw [wrap_succ s (by omega), Int.toNat_natCast, tabf_set N _ (fun j => if j < s + 1 then 21 else 0) s 21 (by omega) (by rw [if_pos (by omega)]) (fun j hj hne => by
      by_cases d : j < s
      · rw [if_pos d, if_pos (by omega)]
      · rw [if_neg d, if_neg (by omega)])]
    exact few_fillI l x1 N hN h0 r K d (s + 1) (by omega)
theorem few_fillS (l : List Int) (hl : l.length ≤ 20) (x1 : Int) (N : Nat) (hN : N ≤ 1099511627776) (h0 : 0 < N) (r : Int × Bool)
    (K : Ev (fun k => spec_FewestFor.l1 k x1 (tabf N (fewBase ((l.length : Int) + 1))) l (l.length : Int) 0) r) : ∀ (d s : Nat), s + d = N →
    Ev (fun k => spec_FewestFor.l0 k l x1 (tabf N (fun j => if j < s then (l.length : Int) + 1 else 0)) (N : Int) (s : Int)) r
  | 0, s, h => by
    have e : s = N := by omega
    subst e
    refine Ev.step (fun k => by rw [spec_FewestFor.l0]) ?_
    simp only [if_neg (show ¬ (s : Int) < (s : Int) by omega), tabf_length, if_pos (show (0 : Int) < (s : Int) by omega)]
    rw [show (0 : Int).toNat = 0 from rfl, tabf_set s _ (fewBase ((l.length : Int) + 1)) 0 0 h0 rfl (fun j hj hne => by unfold fewBase; rw [if_pos hj, if_neg hne])]
    exact K
  | d + 1, s, h => by
    refine Ev.step (fun k => by rw [spec_FewestFor.l0]) ?_
    simp only [if_pos (show (s : Int) < (N : Int) by omega), if_pos (show (0 : Int) ≤ (s : Int) by omega), tabf_length]
    rw [wrap_succ s (by omega), wrap_id ((l.length : Int) + 1) (by omega) (by omega), Int.toNat_natCast, tabf_set N _ (fun j => if j < s + 1 then (l.length : Int) + 1 else 0) s ((l.length : Int) + 1) (by omega) (by rw [if_pos (by omega)]) (fun j hj hne => by
      by_cases d : j < s
      · rw [if_pos d, if_pos (by omega)]
      · rw [if_neg d, if_neg (by omega)])]
    exact few_fillS l hl x1 N hN h0 r K d (s + 1) (by omega)
theorem tabf_zero (N : Nat) (c : Int) : tabf N (fun _ => 0) = tabf N (fun j => if j < 0 then c else 0) := tabf_ext N _ _ (fun j _ => by rw [if_neg (by omega)])

theorem FewestFor_same (l : List Int) (s : Int) (hm : l.length ≤ 1099511627776) : ∃ r : Int × Bool, Ev (fun k => spec_FewestFor.f k l s) r ∧ Ev (fun k => impl_FewestFor.f k l s) r := by
  obtain ⟨b, hs, hi, jb⟩ := asked_same l s hm
  unfold spec_FewestFor.f impl_FewestFor.f
  have none0 : Ev (fun k => spec_FewestFor.j0 k l s true) (0, false) := by
    refine Ev.step (fun k => by rw [spec_FewestFor.j0]) ?_
    simp only [if_true]
    exact Ev.now _
  have none1 : Ev (fun k => impl_FewestFor.j0 k l s true) (0, false) := by
    refine Ev.step (fun k => by rw [impl_FewestFor.j0]) ?_
    simp only [if_true]
    exact Ev.now _
  cases b with
  | true =>
    obtain ⟨g, h0, h1⟩ := jb.1 rfl
    have hg := g.1
    have gs := g.sum
    have tell := few_tells 21 ((l.length : Int) + 1) l g (by omega) (by omega) l.length (Nat.le_refl _) s.toNat
    rw [List.take_of_length_le (Nat.le_refl _), Int.toNat_of_nonneg h0] at tell
    -- the program's table, read at its end
    have walk : ¬ s > l.sum → ∀ r, (Ev (fun _ => if few 21 l s.toNat ≥ 21 then some (0, false) else some (few 21 l s.toNat, true)) r) → Ev (fun k => impl_FewestFor.j0 k l s false) r := by
      intro c r H
      refine Ev.step (fun k => by rw [impl_FewestFor.j0]) ?_
      simp only [Bool.false_eq_true, if_false]
      rw [wrap_id (s + 1) (by omega) (by omega)]
      simp only [if_pos (show 0 ≤ s + 1 by omega), if_pos (show (s + 1).toNat ≤ 35184372088832 by omega)]
      refine Ev.bind (a := List.replicate (s + 1).toNat 0) (Ev.now _) ?_
      rw [replicate_tabf, tabf_length]
      have hN : ((s + 1).toNat : Int) = s + 1 := by omega
      generalize (s + 1).toNat = N at hN
      rw [tabf_zero N 21]
      refine few_fillI l s N (by omega) (by omega) r ?_ N 0 (by omega)
      refine few_outerI l g 21 (by omega) (by omega) N (by omega) s (by omega) r ?_ l.length 0 (by omega)
      refine Ev.step (fun k => by rw [impl_FewestFor.l1]) ?_
      simp only [if_neg (show ¬ (l.length : Int) < (l.length : Int) by omega), if_pos h0, tabf_length, if_pos (show s < (N : Int) by omega)]
      rw [show rd (tabf N (few 21 l)) s = few 21 l s.toNat from tabf_getD N _ s.toNat (by omega)]
      exact H
    by_cases z : cnt l s = 0
    · refine ⟨(0, false), Ev.bind hs ?_, Ev.bind hi ?_⟩
      · simp only [if_true]
        refine Ev.bind (piMake_ev l g s h0) ?_
        rw [z]
        exact none0
      · simp only [if_true]
        refine Ev.bind (total_ev l g) ?_
        by_cases c : s > l.sum
        · rw [show decide (s > l.sum) = true from decide_eq_true c]
          exact none1
        · rw [show decide (s > l.sum) = false from decide_eq_false c]
          refine walk c _ ?_
          rw [if_pos (by omega)]
          exact Ev.now _
    · have c : ¬ s > l.sum := fun c => z (cnt_big l g.nonneg s (by omega))
      have nn := cnt_nonneg l s
      refine ⟨(few 21 l s.toNat, true), Ev.bind hs ?_, Ev.bind hi ?_⟩
      · simp only [if_true]
        refine Ev.bind (piMake_ev l g s h0) ?_
        rw [show (cnt l s == 0) = false from beq_eq_false_iff_ne.mpr z]
        refine Ev.step (fun k => by rw [spec_FewestFor.j0]) ?_
        simp only [Bool.false_eq_true, if_false]
        refine Ev.bind (piSum_ev l g) ?_
        rw [wrap_id (l.sum + 1) (by omega) (by omega)]
        simp only [if_pos (show 0 ≤ l.sum + 1 by omega), if_pos (show (l.sum + 1).toNat ≤ 35184372088832 by omega)]
        refine Ev.bind (a := List.replicate (l.sum + 1).toNat 0) (Ev.now _) ?_
        rw [replicate_tabf, tabf_length]
        have hN : ((l.sum + 1).toNat : Int) = l.sum + 1 := by omega
        generalize (l.sum + 1).toNat = N at hN
        rw [tabf_zero N ((l.length : Int) + 1)]
        refine few_fillS l hg s N (by omega) (by omega) _ ?_ N 0 (by omega)
        refine few_outerS l g ((l.length : Int) + 1) (by omega) (by omega) N (by omega) s _ ?_ l.length 0 (by omega)
        refine Ev.step (fun k => by rw [spec_FewestFor.l1]) ?_
        simp only [if_neg (show ¬ (l.length : Int) < (l.length : Int) by omega), if_pos h0, tabf_length, if_pos (show s < (N : Int) by omega)]
        rw [show rd (tabf N (few ((l.length : Int) + 1) l)) s = few ((l.length : Int) + 1) l s.toNat from tabf_getD N _ s.toNat (by omega)]
        rcases tell with ⟨_, t2, _, _⟩ | ⟨t1, _, _⟩
        · rw [← t2]; exact Ev.now _
        · exact absurd t1 z
      · simp only [if_true]
        refine Ev.bind (total_ev l g) ?_
        rw [show decide (s > l.sum) = false from decide_eq_false c]
        refine walk c _ ?_
        rw [if_neg (by omega)]
        exact Ev.now _
  | false =>
    refine ⟨(0, false), Ev.bind hs ?_, Ev.bind hi ?_⟩
    · simp only [Bool.false_eq_true, if_false]
      exact none0
    · simp only [Bool.false_eq_true, if_false]
      exact none1
theorem FnExactFewestFor : laws_FnExactFewestFor.Pure := by
  intro l0 a1 h1 h2 h3 w_a1
  apply Ev.rounds
  unfold laws_FnExactFewestFor.f
  by_cases c : (l0.length : Int) > 1048576
  · simp only [if_pos c]; exact Ev.now _
  · simp only [if_neg c]
    have hm : l0.length ≤ 1099511627776 := by omega
    obtain ⟨⟨r1, r2⟩, hs, hi⟩ := FewestFor_same l0 a1 hm
    refine Ev.bind (toInt_ev l0 hm) ?_
    refine Ev.bind hs ?_
    refine Ev.bind (toInt_ev l0 hm) ?_
    refine Ev.bind hi ?_
    simp only [if_true, bne_self_eq_false, Bool.false_eq_true, if_false]
    refine Ev.step (fun k => by rw [laws_FnExactFewestFor.j0]) ?_
    simp only [Bool.false_eq_true, if_false]
    refine Ev.bind (toInt_ev l0 hm) ?_
    refine Ev.bind (eq_ev l0 hm) ?_
    exact Ev.now _

end Go.Proofs.Ytopjkoeapcecpaa.Pure
