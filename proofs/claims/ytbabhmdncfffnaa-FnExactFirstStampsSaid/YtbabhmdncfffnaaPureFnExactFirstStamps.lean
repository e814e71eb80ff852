/- For every list of whole numbers, every room and every value, the program's FirstStamps tells what the reference's tells, in new memory, and the list reads as before. No conditions. -/
import Derived.Test.YtbabhmdncfffnaaPFnExactFirstStampsx5
namespace Go.Proofs.Ytbabhmdncfffnaa.Pure
open Go.RowKit Go.Proofs.Ytbabhmdncfffnaa.PFnExactFirstStamps Go.Proofs.YtbabhmdncfffnaaW.PrintWords Go.Proofs.YtbabhmdncfffnaaW.PrintLast
set_option linter.unusedVariables false
set_option linter.unusedSimpArgs false

theorem wrap_id (x : Int) (h0 : -9223372036854775808 ≤ x) (h1 : x ≤ 9223372036854775807) : wrap64 x = x := by
  unfold wrap64; omega
theorem wrap_succ (i : Nat) (h : i < 4611686018427387904) : wrap64 ((i : Int) + 1) = ((i + 1 : Nat) : Int) := by
  rw [wrap_id _ (by omega) (by omega)]; rfl
theorem rd_nat (l : List Int) (i : Nat) : rd l (i : Int) = l.getD i 0 := rfl
theorem getD_some (l : List Int) (i : Nat) (h : i < l.length) : l[i]? = some (l.getD i 0) := by
  rw [List.getD_eq_getElem?_getD, List.getElem?_eq_getElem h]; rfl
theorem bool_same {b c : Bool} {P : Prop} (hb : b = true ↔ P) (hc : c = true ↔ P) : b = c := by
  cases b <;> cases c <;> simp_all

theorem eq_loop (a : List Int) (hm : a.length ≤ 1099511627776) : ∀ (d i : Nat), i + d = a.length → Ev (fun k => laws_eqIntS.l0 k a a (i : Int)) true
  | 0, i, h => by
    refine Ev.step (fun k => by rw [laws_eqIntS.l0]) ?_
    simp only [if_neg (show ¬ ((i : Int) < (a.length : Int)) by omega)]
    exact Ev.now _
  | d + 1, i, h => by
    refine Ev.step (fun k => by rw [laws_eqIntS.l0]) ?_
    simp only [if_pos (show (i : Int) < (a.length : Int) by omega), if_pos (show (0 : Int) ≤ (i : Int) by omega), if_true]
    rw [wrap_succ i (by omega)]
    exact eq_loop a hm d (i + 1) (by omega)
theorem eq_ev (a : List Int) (hm : a.length ≤ 1099511627776) : Ev (fun k => laws_eqIntS.f k a a) true := by
  unfold laws_eqIntS.f
  simp only [if_true]
  exact eq_loop a hm a.length 0 (by omega)

theorem toInt_loop (l : List Int) (hm : l.length ≤ 1099511627776) : ∀ (d i : Nat) (cur : List Int), i + d = l.length → cur.length = l.length → (∀ j, j < i → cur[j]? = l[j]?) → Ev (fun k => laws_toIntS.l0 k l cur (i : Int)) l
  | 0, i, cur, h, hc, hj => by
    refine Ev.step (fun k => by rw [laws_toIntS.l0]) ?_
    simp only [if_neg (show ¬ ((i : Int) < (l.length : Int)) by omega)]
    have e : cur = l := by
      apply List.ext_getElem?
      intro j
      by_cases c : j < i
      · exact hj j c
      · rw [List.getElem?_eq_none (by omega), List.getElem?_eq_none (by omega)]
    rw [e]
    exact Ev.now _
  | d + 1, i, cur, h, hc, hj => by
    refine Ev.step (fun k => by rw [laws_toIntS.l0]) ?_
    simp only [if_pos (show (i : Int) < (l.length : Int) by omega), if_pos (show (0 : Int) ≤ (i : Int) by omega), if_pos (show (i : Int) < (cur.length : Int) by omega)]
    rw [wrap_succ i (by omega), Int.toNat_natCast, rd_nat]
    refine toInt_loop l hm d (i + 1) _ (by omega) (by rw [List.length_set]; exact hc) ?_
    intro j hlt
    rw [List.getElem?_set]
    by_cases c : i = j
    · subst c
      rw [if_pos rfl, if_pos (by omega), getD_some l i (by omega)]
    · rw [if_neg c]
      exact hj j (by omega)
theorem toInt_ev (l : List Int) (hm : l.length ≤ 1099511627776) : Ev (fun k => laws_toIntS.f k l) l := by
  unfold laws_toIntS.f
  simp only [if_pos (show (0 : Int) ≤ (l.length : Int) by omega), if_pos (show ((l.length : Int)).toNat ≤ 35184372088832 by omega)]
  exact toInt_loop l hm l.length 0 _ (by omega) (by simp) (fun j hj => by omega)

theorem mark_loop : ∀ (d i : Nat) (cur : List Int), i + d = cur.length → cur.length ≤ 1099511627776 → (∀ j, j < i → cur[j]? = some ((j : Int) + 1)) →
    ∃ m : List Int, m.length = cur.length ∧ (∀ j, j < m.length → m[j]? = some ((j : Int) + 1)) ∧ Ev (fun k => laws_markIntS.l0 k cur ((i : Int) + 1) (i : Int)) ((cur.length : Int) + 1, m)
  | 0, i, cur, h, hm, hj => by
    refine ⟨cur, rfl, fun j hlt => hj j (by omega), ?_⟩
    refine Ev.step (fun k => by rw [laws_markIntS.l0]) ?_
    simp only [if_neg (show ¬ ((i : Int) < (cur.length : Int)) by omega)]
    rw [show ((cur.length : Int) + 1) = ((i : Int) + 1) by omega]
    exact Ev.now _
  | d + 1, i, cur, h, hm, hj => by
    obtain ⟨m, h1, h2, h3⟩ := mark_loop d (i + 1) (cur.set i ((i : Int) + 1)) (by simp; omega) (by simpa using hm) (fun j hlt => by
      rw [List.getElem?_set]
      by_cases c : i = j
      · subst c; rw [if_pos rfl, if_pos (by omega)]
      · rw [if_neg c]; exact hj j (by omega))
    rw [List.length_set] at h1 h3
    refine ⟨m, h1, h2, ?_⟩
    refine Ev.step (fun k => by rw [laws_markIntS.l0]) ?_
    simp only [if_pos (show (i : Int) < (cur.length : Int) by omega), if_pos (show (0 : Int) ≤ (i : Int) by omega)]
    rw [wrap_succ i (by omega), Int.toNat_natCast, show wrap64 ((i : Int) + 1 + 1) = ((i + 1 : Nat) : Int) + 1 by rw [wrap_id _ (by omega) (by omega)]; omega]
    exact h3
theorem held_loop (m : List Int) (hm : m.length ≤ 1099511627776) (hj : ∀ j, j < m.length → m[j]? = some ((j : Int) + 1)) : ∀ (d i : Nat), i + d = m.length →
    Ev (fun k => laws_heldIntS.l0 k m ((i : Int) + 1) (i : Int)) ((m.length : Int) + 1)
  | 0, i, h => by
    refine Ev.step (fun k => by rw [laws_heldIntS.l0]) ?_
    simp only [if_neg (show ¬ ((i : Int) < (m.length : Int)) by omega)]
    rw [show ((m.length : Int) + 1) = ((i : Int) + 1) by omega]
    exact Ev.now _
  | d + 1, i, h => by
    refine Ev.step (fun k => by rw [laws_heldIntS.l0]) ?_
    have e : rd m (i : Int) = (i : Int) + 1 := by
      rw [rd_nat, List.getD_eq_getElem?_getD, hj i (by omega)]; rfl
    simp only [if_pos (show (i : Int) < (m.length : Int) by omega), if_pos (show (0 : Int) ≤ (i : Int) by omega), e, if_true]
    rw [wrap_succ i (by omega), show wrap64 ((i : Int) + 1 + 1) = ((i + 1 : Nat) : Int) + 1 by rw [wrap_id _ (by omega) (by omega)]; omega]
    exact held_loop m hm hj d (i + 1) (by omega)
theorem mark_ev (l : List Int) (hm : l.length ≤ 1099511627776) : ∃ m : List Int, Ev (fun k => laws_markIntS.f k l 1) ((l.length : Int) + 1, m) ∧ Ev (fun k => laws_heldIntS.f k m 1) ((l.length : Int) + 1) := by
  obtain ⟨m, h1, h2, h3⟩ := mark_loop l.length 0 l (by omega) hm (fun j h => by omega)
  refine ⟨m, h3, ?_⟩
  rw [← h1]
  exact held_loop m (by omega) h2 m.length 0 (by omega)

theorem l1In_eq (x lo hi : Int) : spec_l1In.f x lo hi = some (decide (lo ≤ x ∧ x ≤ hi)) := by
  unfold spec_l1In.f
  by_cases c : x ≥ lo
  · rw [if_pos c]; congr 1; by_cases d : x ≤ hi
    · rw [decide_eq_true d, decide_eq_true ⟨c, d⟩]
    · rw [decide_eq_false d, decide_eq_false (fun h => d h.2)]
  · rw [if_neg c, decide_eq_false (fun h => c h.1)]

theorem l1Rising_loop (lo hi : Int) (l : List Int) (hm : l.length ≤ 1099511627776) : ∀ (d i : Nat), i + d = l.length →
    ∃ b, Ev (fun k => spec_l1Rising.l0 k l lo hi l (l.length : Int) (i : Int)) b ∧ (b = true ↔ ∀ j, i ≤ j → j < l.length → (lo ≤ l.getD j 0 ∧ l.getD j 0 ≤ hi) ∧ (0 < j → l.getD (j - 1) 0 < l.getD j 0))
  | 0, i, h => by
    refine ⟨true, ?_, by simp only [true_iff]; intro j h1 h2; omega⟩
    refine Ev.step (fun k => by rw [spec_l1Rising.l0]) ?_
    simp only [if_neg (show ¬ ((i : Int) < (l.length : Int)) by omega)]
    exact Ev.now _
  | d + 1, i, h => by
    have w : 0 < i → wrap64 ((i : Int) - 1) = ((i - 1 : Nat) : Int) := fun h => by rw [wrap_id _ (by omega) (by omega)]; omega
    by_cases c : (lo ≤ l.getD i 0 ∧ l.getD i 0 ≤ hi)
    · by_cases c2 : 0 < i → l.getD (i - 1) 0 < l.getD i 0
      · obtain ⟨b, hb, hj⟩ := l1Rising_loop lo hi l hm d (i + 1) (by omega)
        refine ⟨b, ?_, ?_⟩
        · refine Ev.step (fun k => by rw [spec_l1Rising.l0]) ?_
          simp only [if_pos (show (i : Int) < (l.length : Int) by omega), if_pos (show (0 : Int) ≤ (i : Int) by omega), l1In_eq, rd_nat, decide_eq_true c, Option.bind_some, if_true]
          rw [wrap_succ i (by omega)]
          by_cases p : 0 < i
          · have c3 := c2 p
            simp only [w p, rd_nat, if_pos (show (i : Int) > 0 by omega), if_pos (show (0 : Int) ≤ ((i - 1 : Nat) : Int) by omega), if_pos (show ((i - 1 : Nat) : Int) < (l.length : Int) by omega), if_neg (show ¬ (l.getD (i - 1) 0 ≥ l.getD i 0) by omega)]
            exact hb
          · simp only [if_neg (show ¬ ((i : Int) > 0) by omega)]
            exact hb
        · rw [hj]
          constructor
          · intro H j h1 h2
            by_cases e : j = i
            · rw [e]; exact ⟨c, c2⟩
            · exact H j (by omega) h2
          · intro H j h1 h2
            exact H j (by omega) h2
      · have p : 0 < i := by
          rcases Nat.eq_zero_or_pos i with z | z
          · exact absurd (fun hh => by omega) c2
          · exact z
        have c3 : ¬ l.getD (i - 1) 0 < l.getD i 0 := fun hh => c2 (fun _ => hh)
        refine ⟨false, ?_, ?_⟩
        · refine Ev.step (fun k => by rw [spec_l1Rising.l0]) ?_
          simp only [if_pos (show (i : Int) < (l.length : Int) by omega), if_pos (show (0 : Int) ≤ (i : Int) by omega), l1In_eq, rd_nat, decide_eq_true c, Option.bind_some, if_true]
          simp only [w p, rd_nat, if_pos (show (i : Int) > 0 by omega), if_pos (show (0 : Int) ≤ ((i - 1 : Nat) : Int) by omega), if_pos (show ((i - 1 : Nat) : Int) < (l.length : Int) by omega), if_pos (show (l.getD (i - 1) 0 ≥ l.getD i 0) by omega)]
          exact Ev.now _
        · exact ⟨fun H => (by cases H), fun H => absurd (H i (by omega) (by omega)).2 c2⟩
    · refine ⟨false, ?_, ?_⟩
      · refine Ev.step (fun k => by rw [spec_l1Rising.l0]) ?_
        simp only [if_pos (show (i : Int) < (l.length : Int) by omega), if_pos (show (0 : Int) ≤ (i : Int) by omega), l1In_eq, rd_nat, decide_eq_false c, Option.bind_some, Bool.false_eq_true, if_false]
        exact Ev.now _
      · exact ⟨fun H => (by cases H), fun H => absurd (H i (by omega) (by omega)).1 c⟩
theorem l1Rising_ev (lo hi : Int) (l : List Int) (hm : l.length ≤ 1099511627776) :
    ∃ b, Ev (fun k => spec_l1Rising.f k l lo hi) b ∧ (b = true ↔ ∀ j, j < l.length → (lo ≤ l.getD j 0 ∧ l.getD j 0 ≤ hi) ∧ (0 < j → l.getD (j - 1) 0 < l.getD j 0)) := by
  obtain ⟨b, hb, hj⟩ := l1Rising_loop lo hi l hm l.length 0 (by omega)
  exact ⟨b, hb, by rw [hj]; exact ⟨fun H j h => H j (by omega) h, fun H j _ h => H j h⟩⟩
theorem rises_loop (l : List Int) (hm : l.length ≤ 1099511627776) : ∀ (d i : Nat), 1 ≤ i → l.length ≤ i + d →
    ∃ b, Ev (fun k => impl_rises.l0 k l (i : Int)) b ∧ (b = true ↔ ∀ j, i ≤ j → j < l.length → l.getD (j - 1) 0 < l.getD j 0)
  | 0, i, h0, h => by
    refine ⟨true, ?_, by simp only [true_iff]; intro j h1 h2; omega⟩
    refine Ev.step (fun k => by rw [impl_rises.l0]) ?_
    simp only [if_neg (show ¬ ((i : Int) < (l.length : Int)) by omega)]
    exact Ev.now _
  | d + 1, i, h0, h => by
    by_cases hlt : i < l.length
    · have w : wrap64 ((i : Int) - 1) = ((i - 1 : Nat) : Int) := by rw [wrap_id _ (by omega) (by omega)]; omega
      by_cases c : l.getD (i - 1) 0 < l.getD i 0
      · obtain ⟨b, hb, hj⟩ := rises_loop l hm d (i + 1) (by omega) (by omega)
        refine ⟨b, ?_, ?_⟩
        · refine Ev.step (fun k => by rw [impl_rises.l0]) ?_
          simp only [w, rd_nat, if_pos (show (i : Int) < (l.length : Int) by omega), if_pos (show (0 : Int) ≤ (i : Int) by omega), if_pos (show (0 : Int) ≤ ((i - 1 : Nat) : Int) by omega), if_pos (show ((i - 1 : Nat) : Int) < (l.length : Int) by omega), if_neg (show ¬ (l.getD (i - 1) 0 ≥ l.getD i 0) by omega)]
          rw [wrap_succ i (by omega)]
          exact hb
        · rw [hj]
          constructor
          · intro H j h1 h2
            by_cases e : j = i
            · rw [e]; exact c
            · exact H j (by omega) h2
          · intro H j h1 h2
            exact H j (by omega) h2
      · refine ⟨false, ?_, ?_⟩
        · refine Ev.step (fun k => by rw [impl_rises.l0]) ?_
          simp only [w, rd_nat, if_pos (show (i : Int) < (l.length : Int) by omega), if_pos (show (0 : Int) ≤ (i : Int) by omega), if_pos (show (0 : Int) ≤ ((i - 1 : Nat) : Int) by omega), if_pos (show ((i - 1 : Nat) : Int) < (l.length : Int) by omega), if_pos (show (l.getD (i - 1) 0 ≥ l.getD i 0) by omega)]
          exact Ev.now _
        · exact ⟨fun H => (by cases H), fun H => absurd (H i (by omega) hlt) c⟩
    · exact rises_loop l hm 0 i h0 (by omega)
theorem rises_ev (l : List Int) (hm : l.length ≤ 1099511627776) :
    ∃ b, Ev (fun k => impl_rises.f k l) b ∧ (b = true ↔ ∀ j, 0 < j → j < l.length → l.getD (j - 1) 0 < l.getD j 0) :=
  rises_loop l hm l.length 1 (by omega) (by omega)

theorem up_to (l : List Int) (h : ∀ j, 0 < j → j < l.length → l.getD (j - 1) 0 < l.getD j 0) : ∀ (d i : Nat), i + d < l.length → l.getD i 0 ≤ l.getD (i + d) 0
  | 0, i, _ => by simp
  | d + 1, i, hd => by
    have a := up_to l h d i (by omega)
    have b := h (i + d + 1) (by omega) (by omega)
    rw [Nat.add_sub_cancel] at b
    rw [← Nat.add_assoc]
    omega

theorem areWithin_eq (l : List Int) (lo hi : Int) (hm : l.length ≤ 1099511627776) :
    ∃ b, impl_areWithin.f l lo hi = some b ∧ (b = true ↔ ∀ j, j < l.length → lo ≤ l.getD j 0 ∧ l.getD j 0 ≤ hi) := by
  refine ⟨_, by unfold impl_areWithin.f; rw [if_pos (by omega)], ?_⟩
  rw [Bool.not_eq_true', List.any_eq_false]
  constructor
  · intro H j hj
    have := H (l.getD j 0) (by rw [List.getD_eq_getElem?_getD, List.getElem?_eq_getElem hj]; exact List.getElem_mem hj)
    simpa using this
  · intro H x hx
    obtain ⟨j, hj, rfl⟩ := List.getElem_of_mem hx
    have := H j hj
    rw [List.getD_eq_getElem?_getD, List.getElem?_eq_getElem hj] at this
    simpa using this

theorem within_eq (x lo hi : Int) : impl_within.f x lo hi = some (decide (lo ≤ x ∧ x ≤ hi)) := by
  unfold impl_within.f
  by_cases c : lo ≤ x
  · rw [if_pos c]; congr 1; by_cases d : x ≤ hi
    · rw [decide_eq_true d, decide_eq_true ⟨c, d⟩]
    · rw [decide_eq_false d, decide_eq_false (fun h => d h.2)]
  · rw [if_neg c, decide_eq_false (fun h => c h.1)]

/-- What stamps are. -/
def Stamps (l : List Int) : Prop := (1 ≤ l.length ∧ l.length ≤ 6) ∧ (∀ j, j < l.length → 1 ≤ l.getD j 0 ∧ l.getD j 0 ≤ 500) ∧ ∀ j, 0 < j → j < l.length → l.getD (j - 1) 0 < l.getD j 0
theorem stGood_ev (l : List Int) (hm : l.length ≤ 1099511627776) : ∃ b, Ev (fun k => spec_stGood.f k l) b ∧ (b = true ↔ Stamps l) := by
  unfold spec_stGood.f
  simp only [l1In_eq, Option.bind_some]
  by_cases c : 1 ≤ (l.length : Int) ∧ (l.length : Int) ≤ 6
  · simp only [decide_eq_true c, if_true]
    obtain ⟨b, hb, jb⟩ := l1Rising_ev 1 500 l hm
    refine ⟨b, Ev.bind hb (Ev.now _), ?_⟩
    rw [jb]
    exact ⟨fun H => ⟨by omega, fun j h => (H j h).1, fun j h0 h => (H j h).2 h0⟩, fun H j h => ⟨H.2.1 j h, fun h0 => H.2.2 j h0 h⟩⟩
  · simp only [decide_eq_false c, Bool.false_eq_true, if_false]
    exact ⟨false, Ev.now _, fun H => (by cases H), fun H => absurd H.1 (by omega)⟩
theorem areStamps_ev (l : List Int) (hm : l.length ≤ 1099511627776) : ∃ b, Ev (fun k => impl_AreStamps.f k l) b ∧ (b = true ↔ Stamps l) := by
  unfold impl_AreStamps.f
  simp only [within_eq, Option.bind_some]
  by_cases c : 1 ≤ (l.length : Int) ∧ (l.length : Int) ≤ 6
  · simp only [decide_eq_true c, if_true]
    obtain ⟨a, ha, ja⟩ := areWithin_eq l 1 500 hm
    rw [ha]
    cases a with
    | true =>
      obtain ⟨b, hb, jb⟩ := rises_ev l hm
      refine ⟨b, ?_, ?_⟩
      · simp only [Option.bind_some, if_true]
        exact Ev.bind hb (Ev.now _)
      · rw [jb]
        exact ⟨fun H => ⟨by omega, ja.1 rfl, H⟩, fun H => H.2.2⟩
    | false =>
      refine ⟨false, ?_, fun H => (by cases H), fun H => ja.2 H.2.1⟩
      simp only [Option.bind_some, Bool.false_eq_true, if_false]
      exact Ev.now _
  · simp only [decide_eq_false c, Bool.false_eq_true, if_false]
    exact ⟨false, Ev.now _, fun H => (by cases H), fun H => absurd H.1 (by omega)⟩
theorem stamps_same (l : List Int) (hm : l.length ≤ 1099511627776) : ∃ b, Ev (fun k => spec_stGood.f k l) b ∧ Ev (fun k => impl_AreStamps.f k l) b ∧ (b = true ↔ Stamps l) := by
  obtain ⟨b, hb, jb⟩ := stGood_ev l hm
  obtain ⟨c, hc, jc⟩ := areStamps_ev l hm
  have e := bool_same jb jc
  subst e
  exact ⟨b, hb, hc, jb⟩
theorem Stamps.last {l : List Int} (g : Stamps l) (j : Nat) (h : j < l.length) : l.getD j 0 ≤ l.getD (l.length - 1) 0 := by
  have c := up_to l g.2.2 (l.length - 1 - j) j (by have := g.1; omega)
  rw [show j + (l.length - 1 - j) = l.length - 1 by omega] at c
  exact c

theorem areStamped_ev (l : List Int) (g : Stamps l) (hi : Ev (fun k => impl_AreStamps.f k l) true) (a1 a2 : Int) : Ev (fun k => impl_areStamped.f k l a1 a2) (decide (1 ≤ a1 ∧ a1 ≤ 8) && decide (0 ≤ a2 ∧ a2 ≤ 4000)) := by
  unfold impl_areStamped.f
  refine Ev.bind hi ?_
  simp only [if_true, within_eq, Option.bind_some]
  cases h : decide (1 ≤ a1 ∧ a1 ≤ 8) with
  | true =>
    simp only [if_true, Bool.true_and]
    exact Ev.now _
  | false =>
    simp only [Bool.false_eq_true, if_false, Bool.false_and]
    exact Ev.now _
theorem areStamped_no (l : List Int) (hi : Ev (fun k => impl_AreStamps.f k l) false) (a1 a2 : Int) : Ev (fun k => impl_areStamped.f k l a1 a2) false := by
  unfold impl_areStamped.f
  refine Ev.bind hi ?_
  simp only [Bool.false_eq_true, if_false]
  exact Ev.now _

theorem stRoom_ev (l : List Int) (b : Bool) (hs : Ev (fun k => spec_stGood.f k l) b) (a1 : Int) : Ev (fun k => spec_stRoom.f k l a1) (b && decide (1 ≤ a1 ∧ a1 ≤ 8)) := by
  unfold spec_stRoom.f
  refine Ev.bind hs ?_
  cases b with
  | true => simp only [if_true, l1In_eq, Option.bind_some, Bool.true_and]; exact Ev.now _
  | false => simp only [Bool.false_eq_true, if_false, Bool.false_and]; exact Ev.now _

theorem least_eq (a b : Int) : spec_l1Least.f a b = some (mn a b) := by
  unfold spec_l1Least.f mn
  by_cases c : a < b
  · rw [if_pos c, if_neg (by omega)]
  · rw [if_neg c]
    by_cases d : b < a
    · rw [if_pos d]
    · rw [if_neg d]; congr 1; omega
theorem set_getD (t : List Int) (v j : Nat) (x : Int) (h : v < t.length) : (t.set v x).getD j 0 = if v = j then x else t.getD j 0 := by
  rw [List.getD_eq_getElem?_getD, List.getElem?_set, List.getD_eq_getElem?_getD]
  by_cases c : v = j
  · subst c; rw [if_pos rfl, if_pos h, if_pos rfl]; rfl
  · rw [if_neg c, if_neg c]

/-- What so many stamps can be together. -/
inductive Sums (l : List Int) : Nat → Int → Prop
  | none : Sums l 0 0
  | one (s : Int) (n : Nat) (v : Int) : s ∈ l → Sums l n v → Sums l (n + 1) (v + s)
theorem sums_nil {n : Nat} {v : Int} (h : Sums [] n v) : n = 0 ∧ v = 0 := by
  cases h with
  | none => exact ⟨rfl, rfl⟩
  | one s n v hs _ => cases hs
theorem sums_mono {l l' : List Int} (hl : ∀ s, s ∈ l → s ∈ l') {n : Nat} {v : Int} (h : Sums l n v) : Sums l' n v := by
  induction h with
  | none => exact .none
  | one s n v hs _ ih => exact .one s n v (hl s hs) ih
theorem sums_more {l : List Int} (s : Int) (hs : s ∈ l) {m : Nat} {x : Int} (h : Sums l m x) : ∀ n : Nat, Sums l (m + n) (x + n * s)
  | 0 => by simpa using h
  | n + 1 => by
    have := Sums.one s (m + n) (x + n * s) hs (sums_more s hs h n)
    rw [show x + ((n + 1 : Nat) : Int) * s = x + n * s + s by rw [Int.natCast_succ, Int.add_mul]; omega]
    exact this
theorem sums_cons (s : Int) (rest : List Int) (m : Nat) (x : Int) : Sums (s :: rest) m x ↔ ∃ n : Nat, n ≤ m ∧ Sums rest (m - n) (x - n * s) := by
  constructor
  · intro h
    induction h with
    | none => exact ⟨0, Nat.le_refl _, by simpa using Sums.none⟩
    | one t m x ht _ ih =>
      obtain ⟨n, hn, hs⟩ := ih
      rcases List.mem_cons.1 ht with e | ht
      · subst e
        refine ⟨n + 1, by omega, ?_⟩
        rw [show m + 1 - (n + 1) = m - n by omega, show x + t - ((n + 1 : Nat) : Int) * t = x - n * t by rw [Int.natCast_succ, Int.add_mul]; omega]
        exact hs
      · refine ⟨n, by omega, ?_⟩
        have := Sums.one t _ _ ht hs
        rw [show m + 1 - n = m - n + 1 by omega, show x + t - (n : Int) * s = x - n * s + t by omega]
        exact this
  · rintro ⟨n, hn, hs⟩
    have h := sums_more s (List.mem_cons_self) (sums_mono (l' := s :: rest) (fun y hy => List.mem_cons_of_mem _ hy) hs) n
    rw [show m - n + n = m by omega, show x - (n : Int) * s + n * s = x by omega] at h
    exact h
theorem swE_mem : ∀ (l : List Int) (r v q : Int), 0 ≤ r → ((∃ w, (w, v, q) ∈ swE l r) ↔ 0 ≤ q ∧ q ≤ r ∧ Sums l (r - q).toNat v)
  | [], r, v, q, hr => by
    constructor
    · rintro ⟨w, hw⟩
      simp only [swE, List.mem_singleton, Prod.mk.injEq] at hw
      obtain ⟨_, rfl, rfl⟩ := hw
      exact ⟨hr, Int.le_refl _, by rw [Int.sub_self]; exact .none⟩
    · rintro ⟨h0, h1, hs⟩
      obtain ⟨e1, e2⟩ := sums_nil hs
      refine ⟨[], ?_⟩
      simp only [swE, List.mem_singleton, Prod.mk.injEq]
      exact ⟨trivial, e2, by omega⟩
  | s :: rest, r, v, q, hr => by
    rw [sums_cons]
    constructor
    · rintro ⟨w, hw⟩
      simp only [swE, List.mem_flatMap, List.mem_range, List.mem_map, Prod.mk.injEq] at hw
      obtain ⟨n, hn, ⟨w', v', q'⟩, hp, rfl, rfl, rfl⟩ := hw
      obtain ⟨h0, h1, h2⟩ := (swE_mem rest (r - n) v' q' (by omega)).1 ⟨w', hp⟩
      dsimp only at *
      refine ⟨h0, by omega, n, by omega, ?_⟩
      rw [show (r - q').toNat - n = (r - n - q').toNat by omega, show (n : Int) * s + v' - n * s = v' by omega]
      exact h2
    · rintro ⟨h0, h1, n, hn, hs⟩
      obtain ⟨w', hw⟩ := (swE_mem rest (r - n) (v - n * s) q (by omega)).2 ⟨h0, by omega, by rw [show (r - n - q).toNat = (r - q).toNat - n by omega]; exact hs⟩
      refine ⟨(n : Int) :: w', ?_⟩
      simp only [swE, List.mem_flatMap, List.mem_range, List.mem_map, Prod.mk.injEq]
      exact ⟨n, by omega, ⟨w', v - n * s, q⟩, hw, rfl, (by dsimp only; omega), rfl⟩
/-- In how many ways a value comes of so many stamps at most. -/
def swN (l : List Int) (r v : Int) : Nat := ((swE l r).filter fun p => decide (p.2.1 = v)).length
theorem swN_nil (r v : Int) : swN [] r v = if v = 0 then 1 else 0 := by
  unfold swN swE
  by_cases c : v = 0
  · subst c; simp
  · rw [if_neg c, List.filter_cons_of_neg (by simp; omega)]; rfl
theorem swN_pos (l : List Int) (r v : Int) (hr : 0 ≤ r) : 0 < swN l r v ↔ ∃ n : Nat, (n : Int) ≤ r ∧ Sums l n v := by
  unfold swN
  rw [List.length_pos_iff_exists_mem]
  constructor
  · rintro ⟨⟨w, v', q⟩, hp⟩
    obtain ⟨hm, he⟩ := List.mem_filter.1 hp
    have he' : v' = v := of_decide_eq_true he
    subst he'
    obtain ⟨h0, h1, h2⟩ := (swE_mem l r v' q hr).1 ⟨w, hm⟩
    exact ⟨_, by omega, h2⟩
  · rintro ⟨n, hn, hs⟩
    obtain ⟨w, hw⟩ := (swE_mem l r v (r - n) hr).2 ⟨by omega, by omega, by rw [show (r - (r - n)).toNat = n by omega]; exact hs⟩
    exact ⟨_, List.mem_filter.2 ⟨hw, by simp⟩⟩
theorem swN_cons (s : Int) (rest : List Int) (r v : Int) : swN (s :: rest) r v = ((List.range (r + 1).toNat).map fun n => swN rest (r - (n : Nat)) (v - (n : Int) * s)).sum := by
  unfold swN
  rw [swE, List.filter_flatMap, List.length_flatMap]
  congr 1
  apply List.map_congr_left
  intro n _
  rw [List.filter_map, List.length_map]
  congr 1
  apply List.filter_congr
  intro p _
  simp only [Function.comp]
  rw [decide_eq_decide]
  omega
theorem sums_nonneg {l : List Int} (hl : ∀ s, s ∈ l → 0 ≤ s) {n : Nat} {v : Int} (h : Sums l n v) : 0 ≤ v := by
  induction h with
  | none => exact Int.le_refl _
  | one s n v hs _ ih => have := hl s hs; omega
theorem swN_neg (l : List Int) (hl : ∀ s, s ∈ l → 0 ≤ s) (r v : Int) (hr : 0 ≤ r) (hv : v < 0) : swN l r v = 0 := by
  rcases Nat.eq_zero_or_pos (swN l r v) with h | h
  · exact h
  · obtain ⟨n, _, hs⟩ := (swN_pos l r v hr).1 h
    have := sums_nonneg hl hs
    omega
/-- The first way to a value. -/
def swF (l : List Int) (r v : Int) : Option (List Int) := ((swE l r).find? fun p => decide (p.2.1 = v)).map (·.1)
theorem swF_nil (r v : Int) : swF [] r v = if v = 0 then some [] else none := by
  unfold swF swE
  by_cases c : v = 0
  · subst c; simp
  · rw [if_neg c, List.find?_cons_of_neg (by simp; omega)]; rfl
theorem swF_cons (s : Int) (rest : List Int) (r v : Int) : swF (s :: rest) r v = (List.range (r + 1).toNat).findSome? fun n => (swF rest (r - (n : Nat)) (v - (n : Int) * s)).map ((n : Int) :: ·) := by
  unfold swF
  rw [swE, List.find?_flatMap, List.map_findSome?]
  congr 1
  funext n
  simp only [Function.comp, List.find?_map, Option.map_map]
  have e : (fun p : List Int × Int × Int => decide (p.2.1 = v)) ∘ (fun p : List Int × Int × Int => ((n : Int) :: p.1, (n : Int) * s + p.2.1, p.2.2)) = fun p => decide (p.2.1 = v - n * s) := by
    funext p
    simp only [Function.comp]
    rw [decide_eq_decide]
    omega
  rw [e]
  rfl
theorem swF_some (l : List Int) (r v : Int) : (swF l r v).isSome = decide (0 < swN l r v) := by
  unfold swF swN
  rw [Option.isSome_map]
  cases h : (swE l r).find? fun p => decide (p.2.1 = v) with
  | none =>
    have := List.find?_eq_none.1 h
    rw [List.filter_eq_nil_iff.2 this]; rfl
  | some p =>
    have h1 := List.find?_some h
    have h2 := List.mem_of_find?_eq_some h
    symm
    simp only [Option.isSome_some, decide_eq_true_eq]
    exact List.length_pos_of_mem (List.mem_filter.2 ⟨h2, h1⟩)
/-- The first number of a range at which something is there. -/
theorem findSome_first {α : Type} (f : Nat → Option α) : ∀ (n k : Nat) (x : α), k < n → (∀ j, j < k → f j = none) → f k = some x → (List.range n).findSome? f = some x
  | 0, k, x, hk, _, _ => by omega
  | n + 1, k, x, hk, hn, hx => by
    rw [List.range_succ, List.findSome?_append]
    by_cases c : k < n
    · rw [findSome_first f n k x c hn hx]; rfl
    · have e : k = n := by omega
      subst e
      have : (List.range k).findSome? f = none := by
        rw [List.findSome?_eq_none_iff]
        intro j hj
        exact hn j (List.mem_range.1 hj)
      rw [this]
      simp [hx]

theorem swE_len : ∀ (l : List Int) (r : Int), r ≤ 8 → (swE l r).length ≤ 9 ^ l.length
  | [], r, h => by simp [swE]
  | s :: rest, r, h => by
    rw [swE, List.length_flatMap]
    have hb : ∀ n, n < (r + 1).toNat → ((swE rest (r - (n : Int))).map fun p => ((n : Int) :: p.1, (n : Int) * s + p.2.1, p.2.2)).length ≤ 9 ^ rest.length := by
      intro n hn
      rw [List.length_map]
      exact swE_len rest (r - n) (by omega)
    have hs : ∀ (m : Nat), m ≤ (r + 1).toNat → ((List.range m).map fun n : Nat => ((swE rest (r - (n : Int))).map fun p => ((n : Int) :: p.1, (n : Int) * s + p.2.1, p.2.2)).length).sum ≤ m * 9 ^ rest.length := by
      intro m
      induction m with
      | zero => intro _; simp
      | succ m ih =>
        intro hm
        rw [List.range_succ, List.map_append, List.sum_append, Nat.succ_mul]
        have := hb m (by omega)
        have := ih (by omega)
        simp only [List.map_cons, List.map_nil, List.sum_cons, List.sum_nil, Nat.add_zero]
        omega
    have h1 := hs (r + 1).toNat (Nat.le_refl _)
    have h2 : (r + 1).toNat * 9 ^ rest.length ≤ 9 * 9 ^ rest.length := Nat.mul_le_mul_right _ (by omega)
    rw [List.length_cons, Nat.pow_succ, Nat.mul_comm (9 ^ rest.length) 9]
    exact Nat.le_trans h1 h2
theorem swE_small (l : List Int) (r : Int) (hl : l.length ≤ 6) (hr : r ≤ 8) : (swE l r).length ≤ 531441 := by
  have h := swE_len l r hr
  have : 9 ^ l.length ≤ 9 ^ 6 := Nat.pow_le_pow_right (by omega) hl
  omega
theorem swN_small (l : List Int) (r v : Int) (hl : l.length ≤ 6) (hr : r ≤ 8) : swN l r v ≤ 531441 := Nat.le_trans (List.length_filter_le _ _) (swE_small l r hl hr)
theorem psum_stop (F : Nat → Nat) (n : Nat) : ∀ d, (∀ j, n ≤ j → j < n + d → F j = 0) → ((List.range (n + d)).map F).sum = ((List.range n).map F).sum
  | 0, _ => rfl
  | d + 1, h => by
    rw [← Nat.add_assoc, List.range_succ, List.map_append, List.sum_append, psum_stop F n d (fun j h1 h2 => h j h1 (by omega))]
    simp [h (n + d) (by omega) (by omega)]
theorem psum_le (F : Nat → Nat) (n : Nat) : ∀ d, ((List.range n).map F).sum ≤ ((List.range (n + d)).map F).sum
  | 0 => Nat.le_refl _
  | d + 1 => by
    have := psum_le F n d
    rw [← Nat.add_assoc, List.range_succ, List.map_append, List.sum_append]
    omega
mutual
theorem stWays_ev : ∀ (l : List Int) (_ : ∀ s, s ∈ l → 1 ≤ s ∧ s ≤ 500) (_ : l.length ≤ 6) (r v : Int) (_ : 0 ≤ r) (_ : r ≤ 8) (_ : 0 ≤ v) (_ : v ≤ 4000), Ev (fun k => spec_stWays.f k l r v) (swN l r v : Int)
  | [], _, _, r, v, _, _, _, _ => by
    refine Ev.step (fun k => by rw [spec_stWays.f]) ?_
    simp only [List.length_nil, Int.natCast_zero, if_true]
    rw [swN_nil]
    by_cases c : v = 0
    · simp only [if_pos c]; exact Ev.now _
    · simp only [if_neg c]; exact Ev.now _
  | s :: rest, hl, hn, r, v, h0, h1, h2, h3 => by
    refine Ev.step (fun k => by rw [spec_stWays.f]) ?_
    simp only [if_neg (show ¬ ((s :: rest).length : Int) = 0 by simp only [List.length_cons]; omega)]
    exact stWays_loop s rest hl hn r v h0 h1 h2 h3 (r + 1).toNat 0 (by omega)
theorem stWays_loop : ∀ (s : Int) (rest : List Int) (_ : ∀ x, x ∈ s :: rest → 1 ≤ x ∧ x ≤ 500) (_ : (s :: rest).length ≤ 6) (r v : Int) (_ : 0 ≤ r) (_ : r ≤ 8) (_ : 0 ≤ v) (_ : v ≤ 4000) (d n : Nat) (_ : n + d = (r + 1).toNat),
    Ev (fun k => spec_stWays.l0 k (s :: rest) r v ((((List.range n).map fun j => swN rest (r - (j : Nat)) (v - (j : Int) * s)).sum : Nat) : Int) (n : Int)) (swN (s :: rest) r v : Int)
  | s, rest, hl, hn, r, v, h0, h1, h2, h3, 0, n, hd => by
    refine Ev.step (fun k => by rw [spec_stWays.l0]) ?_
    simp only [if_neg (show ¬ (n : Int) ≤ r by omega)]
    rw [swN_cons, show (r + 1).toNat = n by omega]
    exact Ev.now _
  | s, rest, hl, hn, r, v, h0, h1, h2, h3, d + 1, n, hd => by
    have hs := hl s List.mem_cons_self
    have p0 := Int.mul_nonneg (show 0 ≤ (n : Int) by omega) (show 0 ≤ s by omega)
    have p1 := Int.mul_le_mul_of_nonneg_left hs.2 (show 0 ≤ (n : Int) by omega)
    have hw : wrap64 ((n : Int) * s) = (n : Int) * s := wrap_id _ (by omega) (by omega)
    have e0 : rd (s :: rest) 0 = s := rfl
    refine Ev.step (fun k => by rw [spec_stWays.l0]) ?_
    simp only [if_pos (show (n : Int) ≤ r by omega), if_pos (show (0 : Int) < ((s :: rest).length : Int) by simp only [List.length_cons]; omega), if_pos (show (1 : Int) ≤ ((s :: rest).length : Int) by simp only [List.length_cons]; omega), e0, hw, List.drop_succ_cons, List.drop_zero]
    by_cases c : (n : Int) * s ≤ v
    · simp only [if_pos c]
      rw [wrap_id (r - n) (by omega) (by omega), wrap_id (v - (n : Int) * s) (by omega) (by omega)]
      refine Ev.bind (stWays_ev rest (fun x hx => hl x (List.mem_cons_of_mem _ hx)) (by simp at hn; omega) (r - n) (v - (n : Int) * s) (by omega) (by omega) (by omega) (by omega)) ?_
      have hb : ((List.range (n + 1)).map fun j => swN rest (r - (j : Nat)) (v - (j : Int) * s)).sum ≤ 531441 := by
        have q := psum_le (fun j => swN rest (r - (j : Nat)) (v - (j : Int) * s)) (n + 1) d
        have q2 := swN_small (s :: rest) r v hn h1
        rw [swN_cons, show (r + 1).toNat = n + 1 + d by omega] at q2
        omega
      rw [List.range_succ, List.map_append, List.sum_append] at hb
      simp only [List.map_cons, List.map_nil, List.sum_cons, List.sum_nil, Nat.add_zero] at hb
      have e1 : wrap64 (((((List.range n).map fun j => swN rest (r - (j : Nat)) (v - (j : Int) * s)).sum : Nat) : Int) + (swN rest (r - n) (v - (n : Int) * s) : Int)) = ((((List.range (n + 1)).map fun j => swN rest (r - (j : Nat)) (v - (j : Int) * s)).sum : Nat) : Int) := by
        rw [wrap_id _ (by omega) (by omega), List.range_succ, List.map_append, List.sum_append]
        simp
      simp only [e1]
      rw [wrap_succ n (by omega)]
      exact stWays_loop s rest hl hn r v h0 h1 h2 h3 d (n + 1) (by omega)
    · simp only [if_neg c]
      have e : swN (s :: rest) r v = ((List.range n).map fun j => swN rest (r - (j : Nat)) (v - (j : Int) * s)).sum := by
        rw [swN_cons, show (r + 1).toNat = n + (d + 1) by omega]
        refine psum_stop _ n (d + 1) (fun j j1 j2 => swN_neg rest (fun x hx => by have := hl x (List.mem_cons_of_mem _ hx); omega) _ _ (by omega) ?_)
        have := Int.mul_le_mul_of_nonneg_right (show (n : Int) ≤ (j : Int) by omega) (show 0 ≤ s by omega)
        omega
      rw [e]
      exact Ev.now _
end
theorem hwCnt_eq (v : Int) : ∀ (p : List (List Int × Int × Int)) (a : Int), 0 ≤ a → a + p.length ≤ 1000000 → p.foldl (fun a x => if x.2.1 = v then wrap64 (a + 1) else a) a = a + ((p.filter fun x => decide (x.2.1 = v)).length : Int)
  | [], a, _, _ => by simp
  | x :: p, a, h0, h1 => by
    rw [List.length_cons] at h1
    rw [List.foldl_cons]
    by_cases c : x.2.1 = v
    · rw [if_pos c, List.filter_cons_of_pos (by simp [c]), wrap_id _ (by omega) (by omega), hwCnt_eq v p (a + 1) (by omega) (by omega), List.length_cons]
      omega
    · rw [if_neg c, List.filter_cons_of_neg (by simp [c]), hwCnt_eq v p a h0 (by omega)]
theorem hwFit_in (l : List Int) (g : Stamps l) (r : Int) (h0 : 0 ≤ r) (h1 : r ≤ 8) : hwFit l r = true := by
  unfold hwFit
  simp only [Bool.and_eq_true, decide_eq_true_eq, List.all_eq_true]
  refine ⟨⟨g.1.2, fun s hs => ?_⟩, h0, h1⟩
  obtain ⟨i, hi, e⟩ := List.getElem_of_mem hs
  have := g.2.1 i hi
  rw [List.getD_eq_getElem?_getD, List.getElem?_eq_getElem hi] at this
  subst e
  simp only [Option.getD_some] at this
  omega
theorem stamps_mem {l : List Int} (g : Stamps l) : ∀ s, s ∈ l → 1 ≤ s ∧ s ≤ 500 := by
  intro s hs
  obtain ⟨i, hi, e⟩ := List.getElem_of_mem hs
  have := g.2.1 i hi
  rw [List.getD_eq_getElem?_getD, List.getElem?_eq_getElem hi] at this
  subst e
  simpa using this

/-- What the reference's table tells of one value: the least number of stamps. -/
def Lst (l : List Int) (v : Int) (b : Int) : Prop := (b = 1000000 ∨ (0 ≤ b ∧ Sums l b.toNat v)) ∧ 0 ≤ b ∧ b ≤ 1000000 ∧ ∀ n : Nat, Sums l n v → b ≤ n
theorem lst_inner (l : List Int) (g : Stamps l) (m : Int) (hm0 : 0 ≤ m) (hm : m ≤ 900000) (v : Nat) (hv1 : 1 ≤ v) (hv : (v : Int) ≤ m) : ∀ (d i : Nat) (u : List Int), i + d = l.length → (u.length : Int) = m + 1 → (∀ j : Nat, j < v → Lst l j (u.getD j 0)) →
    ((u.getD v 0 = 1000000 ∨ (0 ≤ u.getD v 0 ∧ Sums l (u.getD v 0).toNat v)) ∧ 0 ≤ u.getD v 0 ∧ u.getD v 0 ≤ 1000000 ∧ ∀ i', i' < i → ∀ n : Nat, l.getD i' 0 ≤ v → Sums l n ((v : Int) - l.getD i' 0) → u.getD v 0 ≤ (n : Int) + 1) →
    ∃ u' : List Int, (u'.length : Int) = m + 1 ∧ (∀ j : Nat, j ≤ v → Lst l j (u'.getD j 0)) ∧
      (∀ r, Ev (fun k => spec_stFew.l0 k l m u' (wrap64 ((v : Int) + 1))) r → Ev (fun k => spec_stFew.l1 k l m u v l (l.length : Int) (i : Int)) r)
  | 0, i, u, h, hu, hr, hp => by
    refine ⟨u, hu, fun j hj => ?_, fun r H => ?_⟩
    · by_cases e : j = v
      · subst e
        refine ⟨hp.1, hp.2.1, hp.2.2.1, fun n hn => ?_⟩
        cases hn' : n with
        | zero =>
          subst hn'
          generalize hx : ((j : Nat) : Int) = x at hn
          cases hn
          omega
        | succ n' =>
          subst hn'
          generalize hx : ((j : Nat) : Int) = x at hn
          cases hn with
          | one s _ y hs hS =>
            obtain ⟨i', hi', e'⟩ := List.getElem_of_mem hs
            have y0 := sums_nonneg (fun s hs => by have := stamps_mem g s hs; omega) hS
            have eg : l.getD i' 0 = s := by rw [List.getD_eq_getElem?_getD, List.getElem?_eq_getElem hi', e']; rfl
            have := hp.2.2.2 i' (by omega) n' (by rw [eg]; omega) (by rw [eg, show (j : Int) - s = y by omega]; exact hS)
            omega
      · exact hr j (by omega)
    · refine Ev.step (fun k => by rw [spec_stFew.l1]) ?_
      simp only [if_neg (show ¬ ((i : Int) < (l.length : Int)) by omega)]
      exact H
  | d + 1, i, u, h, hu, hr, hp => by
    have hs := g.2.1 i (by omega)
    have hmem : l.getD i 0 ∈ l := by rw [List.getD_eq_getElem?_getD, List.getElem?_eq_getElem (show i < l.length by omega)]; exact List.getElem_mem _
    have e0 : rd l (i : Int) = l.getD i 0 := rfl
    by_cases c : rd l (i : Int) ≤ (v : Int)
    · have w : wrap64 ((v : Int) - rd l (i : Int)) = ((((v : Int) - l.getD i 0).toNat : Nat) : Int) := by rw [e0, wrap_id _ (by omega) (by omega)]; omega
      have lt : ((v : Int) - l.getD i 0).toNat < v := by omega
      have hqi : ((((v : Int) - l.getD i 0).toNat : Nat) : Int) = (v : Int) - l.getD i 0 := by omega
      generalize ((v : Int) - l.getD i 0).toNat = q at w lt hqi
      have hq := hr q lt
      have b2 := hq.2.2.1
      have b1 := hq.2.1
      have hww : wrap64 (u.getD q 0 + 1) = u.getD q 0 + 1 := wrap_id _ (by omega) (by omega)
      have key : ∀ x, x = mn (u.getD v 0) (u.getD q 0 + 1) → (x = 1000000 ∨ (0 ≤ x ∧ Sums l x.toNat v)) ∧ 0 ≤ x ∧ x ≤ 1000000 ∧ ∀ i', i' < i + 1 → ∀ n : Nat, l.getD i' 0 ≤ v → Sums l n ((v : Int) - l.getD i' 0) → x ≤ (n : Int) + 1 := by
        intro x hx
        have hx1 : x ≤ u.getD v 0 ∧ x ≤ u.getD q 0 + 1 ∧ (x = u.getD v 0 ∨ (x = u.getD q 0 + 1 ∧ u.getD q 0 + 1 < u.getD v 0)) := by rw [hx]; unfold mn; split <;> omega
        refine ⟨?_, by omega, by omega, fun i' hi' n hn hS => ?_⟩
        · rcases hx1.2.2 with z | ⟨z, z2⟩
          · rw [z]; exact hp.1
          · right
            refine ⟨by omega, ?_⟩
            rcases hq.1 with y | ⟨y, y2⟩
            · omega
            · have := Sums.one (l.getD i 0) _ _ hmem y2
              rw [show x.toNat = (u.getD q 0).toNat + 1 by omega, show (v : Int) = (q : Int) + l.getD i 0 by omega]
              exact this
        · by_cases e : i' = i
          · subst e
            have := hq.2.2.2 n (by rw [hqi]; exact hS)
            omega
          · have := hp.2.2.2 i' (by omega) n hn hS
            omega
      have gv : (u.set v (mn (u.getD v 0) (wrap64 (u.getD q 0 + 1)))).getD v 0 = mn (u.getD v 0) (u.getD q 0 + 1) := by rw [set_getD u v v _ (by omega), if_pos rfl, hww]
      obtain ⟨u', h2, h3, h5⟩ := lst_inner l g m hm0 hm v hv1 hv d (i + 1) (u.set v (mn (u.getD v 0) (wrap64 (u.getD q 0 + 1)))) (by omega) (by simpa using hu) (fun j hj => by
        rw [set_getD u v j _ (by omega), if_neg (by omega)]
        exact hr j hj) (by rw [gv]; exact key _ rfl)
      refine ⟨u', h2, h3, fun r H => ?_⟩
      have H2 := h5 r H
      refine Ev.step (fun k => by rw [spec_stFew.l1]) ?_
      simp only [if_pos (show (i : Int) < (l.length : Int) by omega), if_pos (show (0 : Int) ≤ (i : Int) by omega), if_pos c, w, if_pos (show (0 : Int) ≤ (v : Int) by omega), if_pos (show (v : Int) < (u.length : Int) by omega), if_pos (show (0 : Int) ≤ (q : Int) by omega), if_pos (show (q : Int) < (u.length : Int) by omega), least_eq, Option.bind_some]
      rw [wrap_succ i (by have := g.1; omega)]
      exact H2
    · obtain ⟨u', h2, h3, h5⟩ := lst_inner l g m hm0 hm v hv1 hv d (i + 1) u (by omega) hu hr ⟨hp.1, hp.2.1, hp.2.2.1, fun i' hi' n hn hS => by
        by_cases e : i' = i
        · subst e; rw [e0] at c; omega
        · exact hp.2.2.2 i' (by omega) n hn hS⟩
      refine ⟨u', h2, h3, fun r H => ?_⟩
      have H2 := h5 r H
      refine Ev.step (fun k => by rw [spec_stFew.l1]) ?_
      simp only [if_pos (show (i : Int) < (l.length : Int) by omega), if_pos (show (0 : Int) ≤ (i : Int) by omega), if_neg c]
      rw [wrap_succ i (by have := g.1; omega)]
      exact H2
theorem lst_outer (l : List Int) (g : Stamps l) (m : Int) (hm0 : 0 ≤ m) (hm : m ≤ 900000) : ∀ (d v : Nat) (u : List Int), 1 ≤ v → (v : Int) + d = m + 1 → (u.length : Int) = m + 1 → (∀ j : Nat, j < v → Lst l j (u.getD j 0)) →
    ∃ s : List Int, (s.length : Int) = m + 1 ∧ (∀ j : Nat, (j : Int) ≤ m → Lst l j (s.getD j 0)) ∧ Ev (fun k => spec_stFew.l0 k l m u (v : Int)) s
  | 0, v, u, h0, h, hu, hr => by
    refine ⟨u, hu, fun j hj => hr j (by omega), ?_⟩
    refine Ev.step (fun k => by rw [spec_stFew.l0]) ?_
    simp only [if_neg (show ¬ ((v : Int) ≤ m) by omega)]
    exact Ev.now _
  | d + 1, v, u, h0, h, hu, hr => by
    have gv : (u.set v 1000000).getD v 0 = 1000000 := by rw [set_getD u v v _ (by omega), if_pos rfl]
    obtain ⟨u', h2, h3, h5⟩ := lst_inner l g m hm0 hm v h0 (by omega) l.length 0 (u.set v 1000000) (by omega) (by simpa using hu) (fun j hj => by
      rw [set_getD u v j _ (by omega), if_neg (by omega)]
      exact hr j hj) (by rw [gv]; exact ⟨.inl rfl, by omega, by omega, fun i' hi' => absurd hi' (by omega)⟩)
    obtain ⟨s, k2, k3, k5⟩ := lst_outer l g m hm0 hm d (v + 1) u' (by omega) (by omega) h2 (fun j hj => h3 j (by omega))
    refine ⟨s, k2, k3, ?_⟩
    have H2 := h5 s (by rw [wrap_succ v (by omega)]; exact k5)
    refine Ev.step (fun k => by rw [spec_stFew.l0]) ?_
    simp only [if_pos (show ((v : Int) ≤ m) by omega), if_pos (show (0 : Int) ≤ (v : Int) by omega), if_pos (show (v : Int) < (u.length : Int) by omega)]
    exact H2
/-- The reference's table tells the least number of stamps of each value. -/
theorem lst_ev (l : List Int) (g : Stamps l) (m : Int) (hm0 : 0 ≤ m) (hm : m ≤ 900000) :
    ∃ s : List Int, (s.length : Int) = m + 1 ∧ (∀ j : Nat, (j : Int) ≤ m → Lst l j (s.getD j 0)) ∧ Ev (fun k => spec_stFew.f k l m) s := by
  obtain ⟨s, h2, h3, h5⟩ := lst_outer l g m hm0 hm m.toNat 1 (List.replicate (m + 1).toNat 0) (by omega) (by omega) (by simp; omega) (fun j hj => by
    have : j = 0 := by omega
    subst this
    have e : (List.replicate (m + 1).toNat (0 : Int)).getD 0 0 = 0 := by
      rw [List.getD_eq_getElem?_getD, List.getElem?_replicate, if_pos (by omega)]; rfl
    rw [e]
    exact ⟨.inr ⟨Int.le_refl _, Sums.none⟩, by omega, by omega, fun n _ => by omega⟩)
  refine ⟨s, h2, h3, ?_⟩
  unfold spec_stFew.f
  rw [wrap_id _ (by omega) (by omega)]
  simp only [if_pos (show 0 ≤ m + 1 by omega), if_pos (show (m + 1).toNat ≤ 35184372088832 by omega)]
  exact h5
theorem lst_swN {l : List Int} {v b : Int} (h : Lst l v b) (r : Int) (h0 : 0 ≤ r) (h1 : r ≤ 8) : b ≤ r ↔ 0 < swN l r v := by
  rw [swN_pos l r v h0]
  constructor
  · intro hb
    rcases h.1 with z | ⟨z, z2⟩
    · omega
    · exact ⟨b.toNat, by omega, z2⟩
  · rintro ⟨n, hn, hS⟩
    have := h.2.2.2 n hS
    omega

theorem swE_way : ∀ (l : List Int) (r : Int) (p : List Int × Int × Int), p ∈ swE l r → p.1.length = l.length
  | [], r, p, h => by simp only [swE, List.mem_singleton] at h; subst h; rfl
  | s :: rest, r, p, h => by
    simp only [swE, List.mem_flatMap, List.mem_range, List.mem_map] at h
    obtain ⟨n, _, p', hp, rfl⟩ := h
    have := swE_way rest _ p' hp
    simp [this]
theorem swF_len {l : List Int} {r v : Int} {w : List Int} (h : swF l r v = some w) : w.length = l.length := by
  unfold swF at h
  obtain ⟨p, hp, rfl⟩ := Option.map_eq_some_iff.1 h
  exact swE_way l r p (List.mem_of_find?_eq_some hp)
theorem stWays_any (l : List Int) (hl : ∀ s, s ∈ l → 1 ≤ s ∧ s ≤ 500) (hn : l.length ≤ 6) (r v : Int) (h0 : 0 ≤ r) (h1 : r ≤ 8) (h3 : v ≤ 4000) : Ev (fun k => spec_stWays.f k l r v) (swN l r v : Int) := by
  by_cases c : 0 ≤ v
  · exact stWays_ev l hl hn r v h0 h1 c h3
  · rw [swN_neg l (fun s hs => by have := hl s hs; omega) r v h0 (by omega)]
    cases l with
    | nil =>
      refine Ev.step (fun k => by rw [spec_stWays.f]) ?_
      simp only [List.length_nil, Int.natCast_zero, if_true, if_neg (show ¬ v = 0 by omega)]
      exact Ev.now _
    | cons s rest =>
      refine Ev.step (fun k => by rw [spec_stWays.f]) ?_
      simp only [if_neg (show ¬ ((s :: rest).length : Int) = 0 by simp only [List.length_cons]; omega)]
      refine Ev.step (fun k => by rw [spec_stWays.l0]) ?_
      have hw : wrap64 (0 * rd (s :: rest) 0) = 0 := by rw [Int.zero_mul]; exact wrap_id _ (by omega) (by omega)
      simp only [if_pos h0, if_pos (show (0 : Int) < ((s :: rest).length : Int) by simp only [List.length_cons]; omega), hw, if_neg c]
      exact Ev.now _
theorem drop_mem {l : List Int} (h : ∀ s, s ∈ l → 1 ≤ s ∧ s ≤ 500) (i : Nat) : ∀ s, s ∈ l.drop i → 1 ≤ s ∧ s ≤ 500 := fun s hs => h s (List.mem_of_mem_drop hs)
theorem first_inner (l : List Int) (g : Stamps l) (d : Nat) (ih : ∀ (i : Nat) (room v : Int) (out : List Int) (w : List Int), i + d = l.length → 0 ≤ room → room ≤ 8 → v ≤ 4000 → out.length ≤ 6 → out.length + d ≤ 6 → swF (l.drop i) room v = some w →
    Ev (fun k => spec_FirstStamps.l0 k l room v out l (l.length : Int) (i : Int)) (out ++ w, true)) : ∀ (e i n : Nat) (room v : Int) (out : List Int) (w : List Int), i + (d + 1) = l.length → 0 ≤ room → room ≤ 8 → v ≤ 4000 → out.length ≤ 6 → out.length + (d + 1) ≤ 6 → n + e = (room + 1).toNat → swF (l.drop i) room v = some w →
    (∀ j, j < n → swF (l.drop (i + 1)) (room - (j : Nat)) (v - (j : Int) * l.getD i 0) = none) →
    Ev (fun k => spec_FirstStamps.l1 k l room v out (i : Int) (rd l (i : Int)) (n : Int) l (l.length : Int) (i : Int)) (out ++ w, true)
  | 0, i, n, room, v, out, w, h, h0, h1, h3, ho, ho2, hn, hw, hj => by
    exfalso
    rw [List.drop_eq_getElem_cons (by omega), swF_cons] at hw
    have : (List.range (room + 1).toNat).findSome? (fun n => (swF (l.drop (i + 1)) (room - (n : Nat)) (v - (n : Int) * l[i])).map ((n : Int) :: ·)) = none := by
      rw [List.findSome?_eq_none_iff]
      intro j hj'
      have := hj j (by have := List.mem_range.1 hj'; omega)
      rw [List.getD_eq_getElem?_getD, List.getElem?_eq_getElem (show i < l.length by omega)] at this
      simp only [Option.getD_some] at this
      rw [this]
      rfl
    rw [this] at hw
    exact absurd hw (by simp)
  | e + 1, i, n, room, v, out, w, h, h0, h1, h3, ho, ho2, hn, hw, hj => by
    have hs := stamps_mem g (l.getD i 0) (by rw [List.getD_eq_getElem?_getD, List.getElem?_eq_getElem (show i < l.length by omega)]; exact List.getElem_mem _)
    have e0 : rd l (i : Int) = l.getD i 0 := rfl
    have p0 := Int.mul_nonneg (show 0 ≤ (n : Int) by omega) (show 0 ≤ l.getD i 0 by omega)
    have p1 := Int.mul_le_mul_of_nonneg_left hs.2 (show 0 ≤ (n : Int) by omega)
    have hl6 := g.1.2
    have hv : wrap64 ((n : Int) * l.getD i 0) = (n : Int) * l.getD i 0 := wrap_id _ (by omega) (by omega)
    by_cases hvlow : v < -1000000
    · exfalso
      have h1 : 0 < swN (l.drop i) room v := by
        have := swF_some (l.drop i) room v
        rw [hw] at this
        simpa using this.symm
      rw [swN_neg (l.drop i) (fun s hs => by have := drop_mem (stamps_mem g) i s hs; omega) room v h0 (by omega)] at h1
      omega
    have hv2 : wrap64 (v - (n : Int) * l.getD i 0) = v - (n : Int) * l.getD i 0 := wrap_id _ (by omega) (by omega)
    have hr2 : wrap64 (room - (n : Int)) = room - (n : Int) := wrap_id _ (by omega) (by omega)
    refine Ev.step (fun k => by rw [spec_FirstStamps.l1]) ?_
    rw [wrap_succ i (by omega)]
    simp only [if_pos (show (n : Int) ≤ room by omega), if_pos (show (0 : Int) ≤ ((i + 1 : Nat) : Int) by omega), if_pos (show ((i + 1 : Nat) : Int) ≤ (l.length : Int) by omega), e0, hv, hv2, hr2, Int.toNat_natCast]
    refine Ev.bind (stWays_any (l.drop (i + 1)) (drop_mem (stamps_mem g) _) (by rw [List.length_drop]; omega) (room - n) (v - (n : Int) * l.getD i 0) (by omega) (by omega) (by omega)) ?_
    have hsw := swF_some (l.drop (i + 1)) (room - n) (v - (n : Int) * l.getD i 0)
    cases hF : swF (l.drop (i + 1)) (room - (n : Int)) (v - (n : Int) * l.getD i 0) with
    | some w' =>
      rw [hF] at hsw
      have hp : 0 < swN (l.drop (i + 1)) (room - n) (v - (n : Int) * l.getD i 0) := by simpa using hsw.symm
      simp only [if_pos (show ((swN (l.drop (i + 1)) (room - n) (v - (n : Int) * l.getD i 0) : Nat) : Int) > 0 by omega), if_pos (show out.length < 17592186044416 by omega)]
      have ew : w = (n : Int) :: w' := by
        rw [List.drop_eq_getElem_cons (by omega), swF_cons] at hw
        have eg : l.getD i 0 = l[i] := by rw [List.getD_eq_getElem?_getD, List.getElem?_eq_getElem (show i < l.length by omega)]; rfl
        rw [findSome_first _ (room + 1).toNat n ((n : Int) :: w') (by omega) (fun j hj' => by have := hj j hj'; rw [eg] at this; rw [this]; rfl) (by rw [← eg, hF]; rfl)] at hw
        exact (Option.some.inj hw).symm
      have := ih (i + 1) (room - n) (v - (n : Int) * l.getD i 0) (out ++ [(n : Int)]) w' (by omega) (by omega) (by omega) (by omega) (by rw [List.length_append]; simp; omega) (by rw [List.length_append]; simp; omega) hF
      rw [ew]
      rw [List.append_assoc] at this
      exact this
    | none =>
      rw [hF] at hsw
      have hp : ¬ 0 < swN (l.drop (i + 1)) (room - n) (v - (n : Int) * l.getD i 0) := by simpa using hsw.symm
      simp only [if_neg (show ¬ ((swN (l.drop (i + 1)) (room - n) (v - (n : Int) * l.getD i 0) : Nat) : Int) > 0 by omega)]
      rw [wrap_succ n (by omega)]
      rw [← e0] at hF hj ⊢
      exact first_inner l g d ih e i (n + 1) room v out w h h0 h1 h3 ho ho2 (by omega) hw (fun j hj' => by
        by_cases z : j = n
        · subst z; exact hF
        · exact hj j (by omega))
theorem first_loop (l : List Int) (g : Stamps l) : ∀ (d i : Nat) (room v : Int) (out : List Int) (w : List Int), i + d = l.length → 0 ≤ room → room ≤ 8 → v ≤ 4000 → out.length ≤ 6 → out.length + d ≤ 6 → swF (l.drop i) room v = some w →
    Ev (fun k => spec_FirstStamps.l0 k l room v out l (l.length : Int) (i : Int)) (out ++ w, true)
  | 0, i, room, v, out, w, h, h0, h1, h3, ho, ho2, hw => by
    refine Ev.step (fun k => by rw [spec_FirstStamps.l0]) ?_
    simp only [if_neg (show ¬ (i : Int) < (l.length : Int) by omega)]
    rw [List.drop_of_length_le (by omega), swF_nil] at hw
    have e : w = [] := by
      split at hw
      · exact (Option.some.inj hw).symm
      · exact absurd hw (by simp)
    rw [e, List.append_nil]
    exact Ev.now _
  | d + 1, i, room, v, out, w, h, h0, h1, h3, ho, ho2, hw => by
    refine Ev.step (fun k => by rw [spec_FirstStamps.l0]) ?_
    simp only [if_pos (show (i : Int) < (l.length : Int) by omega), if_pos (show (0 : Int) ≤ (i : Int) by omega)]
    exact first_inner l g d (first_loop l g d) (room + 1).toNat i 0 room v out w h h0 h1 h3 ho ho2 (by omega) hw (fun j hj => absurd hj (by omega))
theorem FirstStamps_same (l : List Int) (a v : Int) (hm : l.length ≤ 1099511627776) : ∃ r : List Int × Bool, r.1.length ≤ 1099511627776 ∧ Ev (fun k => spec_FirstStamps.f k l a v) r ∧ Ev (fun k => impl_FirstStamps.f k l a v) r := by
  obtain ⟨b, hs, hi, jb⟩ := stamps_same l hm
  have hr := stRoom_ev l b hs a
  have hno : Ev (fun k => spec_FirstStamps.j0 k l a v true) (([] : List Int), false) := by
    refine Ev.step (fun k => by rw [spec_FirstStamps.j0]) ?_
    simp only [if_true]
    exact Ev.now _
  unfold spec_FirstStamps.f impl_FirstStamps.f spec_stValue.f
  simp only [l1In_eq, Option.bind_some]
  cases b with
  | true =>
    have g := jb.1 rfl
    have hq := areStamped_ev l g hi a v
    rw [Bool.true_and] at hr
    by_cases c1 : 1 ≤ a ∧ a ≤ 8
    · rw [decide_eq_true c1] at hr hq
      rw [Bool.true_and] at hq
      by_cases c2 : 0 ≤ v ∧ v ≤ 4000
      · rw [decide_eq_true c2] at hq
        obtain ⟨s, s1, s2, s3⟩ := lst_ev l g v c2.1 (by omega)
        have s4 := s2 v.toNat (by omega)
        rw [show ((v.toNat : Nat) : Int) = v by omega] at s4
        have s5 := lst_swN s4 a (by omega) c1.2
        have e1 : rd s v = s.getD v.toNat 0 := rfl
        have hfst : hwFst v (swE l a) = swF l a v := rfl
        have hfs := swF_some l a v
        cases hF : swF l a v with
        | none =>
          rw [hF] at hfs
          have hp : ¬ 0 < swN l a v := by simpa using hfs.symm
          refine ⟨([], false), by simp, Ev.bind hr ?_, Ev.bind hq ?_⟩
          · simp only [if_true, decide_eq_true c2]
            refine Ev.bind s3 ?_
            simp only [if_pos c2.1, if_pos (show v < (s.length : Int) by omega), e1, decide_eq_true (show s.getD v.toNat 0 > a by omega)]
            exact hno
          · simp only [if_true, if_pos (⟨hwFit_in l g a (by omega) c1.2, g.1.1⟩ : hwFit l a = true ∧ 1 ≤ l.length), hfst, hF, hwFstOut]
            exact Ev.now _
        | some w =>
          rw [hF] at hfs
          have hp : 0 < swN l a v := by simpa using hfs.symm
          have hwl := swF_len hF
          have hl6 := g.1.2
          refine ⟨(w, true), by simp only; omega, Ev.bind hr ?_, Ev.bind hq ?_⟩
          · simp only [if_true, decide_eq_true c2]
            refine Ev.bind s3 ?_
            simp only [if_pos c2.1, if_pos (show v < (s.length : Int) by omega), e1, decide_eq_false (show ¬ s.getD v.toNat 0 > a by omega)]
            refine Ev.step (fun k => by rw [spec_FirstStamps.j0]) ?_
            simp only [Bool.false_eq_true, if_false]
            have := first_loop l g l.length 0 a v [] w (by omega) (by omega) c1.2 c2.2 (by simp) (by simpa using hl6) (by rw [List.drop_zero]; exact hF)
            exact this
          · simp only [if_true, if_pos (⟨hwFit_in l g a (by omega) c1.2, g.1.1⟩ : hwFit l a = true ∧ 1 ≤ l.length), hfst, hF, hwFstOut]
            exact Ev.now _
      · rw [decide_eq_false c2] at hq
        refine ⟨([], false), by simp, Ev.bind hr ?_, Ev.bind hq ?_⟩
        · simp only [if_true, decide_eq_false c2, Bool.false_eq_true, if_false]
          exact hno
        · simp only [Bool.false_eq_true, if_false]
          exact Ev.now _
    · rw [decide_eq_false c1] at hr hq
      refine ⟨([], false), by simp, Ev.bind hr ?_, Ev.bind hq ?_⟩
      · simp only [Bool.false_eq_true, if_false]
        exact hno
      · simp only [Bool.false_and, Bool.false_eq_true, if_false]
        exact Ev.now _
  | false =>
    refine ⟨([], false), by simp, Ev.bind hr ?_, Ev.bind (areStamped_no l hi a v) ?_⟩
    · simp only [Bool.false_and, Bool.false_eq_true, if_false]
      exact hno
    · simp only [Bool.false_eq_true, if_false]
      exact Ev.now _
theorem FnExactFirstStamps : laws_FnExactFirstStamps.Pure := by
  intro l0 a1 a2 h1 h2 h3 w_a1 w_a2
  apply Ev.rounds
  unfold laws_FnExactFirstStamps.f
  by_cases c : (l0.length : Int) > 1048576
  · simp only [if_pos c]; exact Ev.now _
  · simp only [if_neg c]
    have hm : l0.length ≤ 1099511627776 := by omega
    obtain ⟨⟨r1, r2⟩, hr, hs, hi⟩ := FirstStamps_same l0 a1 a2 hm
    replace hr : r1.length ≤ 1099511627776 := hr
    obtain ⟨m0, hm0, hm1⟩ := mark_ev l0 hm
    obtain ⟨m2, hm2, hm3⟩ := mark_ev r1 hr
    refine Ev.bind (toInt_ev l0 hm) ?_
    refine Ev.bind hs ?_
    refine Ev.bind (toInt_ev l0 hm) ?_
    refine Ev.bind hi ?_
    refine Ev.bind (eq_ev r1 hr) ?_
    simp only [if_true, bne_self_eq_false]
    refine Ev.step (fun k => by rw [laws_FnExactFirstStamps.j0]) ?_
    simp only [Bool.false_eq_true, if_false]
    refine Ev.bind (toInt_ev l0 hm) ?_
    refine Ev.bind (eq_ev l0 hm) ?_
    simp only [if_true]
    refine Ev.bind hm0 ?_
    simp only [if_neg (show ¬ ((l0.length : Int) + 1 < 0) by omega)]
    refine Ev.bind (eq_ev r1 hr) ?_
    simp only [if_true, bne_self_eq_false]
    refine Ev.step (fun k => by rw [laws_FnExactFirstStamps.j1]) ?_
    simp only [Bool.false_eq_true, if_false]
    refine Ev.bind hm2 ?_
    refine Ev.bind hm3 ?_
    simp only [if_neg (show ¬ ((r1.length : Int) + 1 < 0) by omega), if_true]
    refine Ev.bind (toInt_ev l0 hm) ?_
    refine Ev.bind hi ?_
    refine Ev.bind (eq_ev r1 hr) ?_
    simp only [if_true, bne_self_eq_false]
    refine Ev.step (fun k => by rw [laws_FnExactFirstStamps.j2]) ?_
    simp only [Bool.false_eq_true, if_false]
    refine Ev.bind hm3 ?_
    simp only [if_neg (show ¬ ((r1.length : Int) + 1 < 0) by omega), if_true]
    exact Ev.now _

end Go.Proofs.Ytbabhmdncfffnaa.Pure
