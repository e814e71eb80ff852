/- For every list of whole numbers and every count, the program's ValuesWith tells what the reference's tells, in new memory, and the list reads as before. No conditions. -/
import Derived.Test.YtbabhmdncfffnaaPFnExactValuesWithx4
import Derived.Lib.SlicesCompact
namespace Go.Proofs.Ytbabhmdncfffnaa.Pure
open Go.RowKit Go.Proofs.Ytbabhmdncfffnaa.PFnExactValuesWith Go.Proofs.YtbabhmdncfffnaaW.PrintWords Go.Proofs.YtbabhmdncfffnaaW.PrintLast
set_option linter.unusedVariables false
set_option linter.unusedSimpArgs false

theorem wrap_id (x : Int) (h0 : -9223372036854775808 ≤ x) (h1 : x ≤ 9223372036854775807) : wrap64 x = x := by
  unfold wrap64; omega
theorem wrap_succ (i : Nat) (h : i < 4611686018427387904) : wrap64 ((i : Int) + 1) = ((i + 1 : Nat) : Int) := by
  rw [wrap_id _ (by omega) (by omega)]; rfl
theorem rd_nat (l : List Int) (i : Nat) : rd l (i : Int) = l.getD i 0 := rfl
theorem getD_some (l : List Int) (i : Nat) (h : i < l.length) : l[i]? = some (l.getD i 0) := by
  rw [List.getD_eq_getElem?_getD, List.getElem?_eq_getElem h]; rfl
theorem bool_same {b c : Bool} {P : Prop} (hb : b = true ↔ P) (hc : c = true ↔ P) : b = c := by
  cases b <;> cases c <;> simp_all

theorem eq_loop (a : List Int) (hm : a.length ≤ 1099511627776) : ∀ (d i : Nat), i + d = a.length → Ev (fun k => laws_eqIntS.l0 k a a (i : Int)) true
  | 0, i, h => by
    refine Ev.step (fun k => by rw [laws_eqIntS.l0]) ?_
    simp only [if_neg (show ¬ ((i : Int) < (a.length : Int)) by omega)]
    exact Ev.now _
  | d + 1, i, h => by
    refine Ev.step (fun k => by rw [laws_eqIntS.l0]) ?_
    simp only [if_pos (show (i : Int) < (a.length : Int) by omega), if_pos (show (0 : Int) ≤ (i : Int) by omega), if_true]
    rw [wrap_succ i (by omega)]
    exact eq_loop a hm d (i + 1) (by omega)
theorem eq_ev (a : List Int) (hm : a.length ≤ 1099511627776) : Ev (fun k => laws_eqIntS.f k a a) true := by
  unfold laws_eqIntS.f
  simp only [if_true]
  exact eq_loop a hm a.length 0 (by omega)

theorem toInt_loop (l : List Int) (hm : l.length ≤ 1099511627776) : ∀ (d i : Nat) (cur : List Int), i + d = l.length → cur.length = l.length → (∀ j, j < i → cur[j]? = l[j]?) → Ev (fun k => laws_toIntS.l0 k l cur (i : Int)) l
  | 0, i, cur, h, hc, hj => by
    refine Ev.step (fun k => by rw [laws_toIntS.l0]) ?_
    simp only [if_neg (show ¬ ((i : Int) < (l.length : Int)) by omega)]
    have e : cur = l := by
      apply List.ext_getElem?
      intro j
      by_cases c : j < i
      · exact hj j c
      · rw [List.getElem?_eq_none (by omega), List.getElem?_eq_none (by omega)]
    rw [e]
    exact Ev.now _
  | d + 1, i, cur, h, hc, hj => by
    refine Ev.step (fun k => by rw [laws_toIntS.l0]) ?_
    simp only [if_pos (show (i : Int) < (l.length : Int) by omega), if_pos (show (0 : Int) ≤ (i : Int) by omega), if_pos (show (i : Int) < (cur.length : Int) by omega)]
    rw [wrap_succ i (by omega), Int.toNat_natCast, rd_nat]
    refine toInt_loop l hm d (i + 1) _ (by omega) (by rw [List.length_set]; exact hc) ?_
    intro j hlt
    rw [List.getElem?_set]
    by_cases c : i = j
    · subst c
      rw [if_pos rfl, if_pos (by omega), getD_some l i (by omega)]
    · rw [if_neg c]
      exact hj j (by omega)
theorem toInt_ev (l : List Int) (hm : l.length ≤ 1099511627776) : Ev (fun k => laws_toIntS.f k l) l := by
  unfold laws_toIntS.f
  simp only [if_pos (show (0 : Int) ≤ (l.length : Int) by omega), if_pos (show ((l.length : Int)).toNat ≤ 35184372088832 by omega)]
  exact toInt_loop l hm l.length 0 _ (by omega) (by simp) (fun j hj => by omega)

theorem mark_loop : ∀ (d i : Nat) (cur : List Int), i + d = cur.length → cur.length ≤ 1099511627776 → (∀ j, j < i → cur[j]? = some ((j : Int) + 1)) →
    ∃ m : List Int, m.length = cur.length ∧ (∀ j, j < m.length → m[j]? = some ((j : Int) + 1)) ∧ Ev (fun k => laws_markIntS.l0 k cur ((i : Int) + 1) (i : Int)) ((cur.length : Int) + 1, m)
  | 0, i, cur, h, hm, hj => by
    refine ⟨cur, rfl, fun j hlt => hj j (by omega), ?_⟩
    refine Ev.step (fun k => by rw [laws_markIntS.l0]) ?_
    simp only [if_neg (show ¬ ((i : Int) < (cur.length : Int)) by omega)]
    rw [show ((cur.length : Int) + 1) = ((i : Int) + 1) by omega]
    exact Ev.now _
  | d + 1, i, cur, h, hm, hj => by
    obtain ⟨m, h1, h2, h3⟩ := mark_loop d (i + 1) (cur.set i ((i : Int) + 1)) (by simp; omega) (by simpa using hm) (fun j hlt => by
      rw [List.getElem?_set]
      by_cases c : i = j
      · subst c; rw [if_pos rfl, if_pos (by omega)]
      · rw [if_neg c]; exact hj j (by omega))
    rw [List.length_set] at h1 h3
    refine ⟨m, h1, h2, ?_⟩
    refine Ev.step (fun k => by rw [laws_markIntS.l0]) ?_
    simp only [if_pos (show (i : Int) < (cur.length : Int) by omega), if_pos (show (0 : Int) ≤ (i : Int) by omega)]
    rw [wrap_succ i (by omega), Int.toNat_natCast, show wrap64 ((i : Int) + 1 + 1) = ((i + 1 : Nat) : Int) + 1 by rw [wrap_id _ (by omega) (by omega)]; omega]
    exact h3
theorem held_loop (m : List Int) (hm : m.length ≤ 1099511627776) (hj : ∀ j, j < m.length → m[j]? = some ((j : Int) + 1)) : ∀ (d i : Nat), i + d = m.length →
    Ev (fun k => laws_heldIntS.l0 k m ((i : Int) + 1) (i : Int)) ((m.length : Int) + 1)
  | 0, i, h => by
    refine Ev.step (fun k => by rw [laws_heldIntS.l0]) ?_
    simp only [if_neg (show ¬ ((i : Int) < (m.length : Int)) by omega)]
    rw [show ((m.length : Int) + 1) = ((i : Int) + 1) by omega]
    exact Ev.now _
  | d + 1, i, h => by
    refine Ev.step (fun k => by rw [laws_heldIntS.l0]) ?_
    have e : rd m (i : Int) = (i : Int) + 1 := by
      rw [rd_nat, List.getD_eq_getElem?_getD, hj i (by omega)]; rfl
    simp only [if_pos (show (i : Int) < (m.length : Int) by omega), if_pos (show (0 : Int) ≤ (i : Int) by omega), e, if_true]
    rw [wrap_succ i (by omega), show wrap64 ((i : Int) + 1 + 1) = ((i + 1 : Nat) : Int) + 1 by rw [wrap_id _ (by omega) (by omega)]; omega]
    exact held_loop m hm hj d (i + 1) (by omega)
theorem mark_ev (l : List Int) (hm : l.length ≤ 1099511627776) : ∃ m : List Int, Ev (fun k => laws_markIntS.f k l 1) ((l.length : Int) + 1, m) ∧ Ev (fun k => laws_heldIntS.f k m 1) ((l.length : Int) + 1) := by
  obtain ⟨m, h1, h2, h3⟩ := mark_loop l.length 0 l (by omega) hm (fun j h => by omega)
  refine ⟨m, h3, ?_⟩
  rw [← h1]
  exact held_loop m (by omega) h2 m.length 0 (by omega)

theorem l1In_eq (x lo hi : Int) : spec_l1In.f x lo hi = some (decide (lo ≤ x ∧ x ≤ hi)) := by
  unfold spec_l1In.f
  by_cases c : x ≥ lo
  · rw [if_pos c]; congr 1; by_cases d : x ≤ hi
    · rw [decide_eq_true d, decide_eq_true ⟨c, d⟩]
    · rw [decide_eq_false d, decide_eq_false (fun h => d h.2)]
  · rw [if_neg c, decide_eq_false (fun h => c h.1)]

theorem l1Rising_loop (lo hi : Int) (l : List Int) (hm : l.length ≤ 1099511627776) : ∀ (d i : Nat), i + d = l.length →
    ∃ b, Ev (fun k => spec_l1Rising.l0 k l lo hi l (l.length : Int) (i : Int)) b ∧ (b = true ↔ ∀ j, i ≤ j → j < l.length → (lo ≤ l.getD j 0 ∧ l.getD j 0 ≤ hi) ∧ (0 < j → l.getD (j - 1) 0 < l.getD j 0))
  | 0, i, h => by
    refine ⟨true, ?_, by simp only [true_iff]; intro j h1 h2; omega⟩
    refine Ev.step (fun k => by rw [spec_l1Rising.l0]) ?_
    simp only [if_neg (show ¬ ((i : Int) < (l.length : Int)) by omega)]
    exact Ev.now _
  | d + 1, i, h => by
    have w : 0 < i → wrap64 ((i : Int) - 1) = ((i - 1 : Nat) : Int) := fun h => by rw [wrap_id _ (by omega) (by omega)]; omega
    by_cases c : (lo ≤ l.getD i 0 ∧ l.getD i 0 ≤ hi)
    · by_cases c2 : 0 < i → l.getD (i - 1) 0 < l.getD i 0
      · obtain ⟨b, hb, hj⟩ := l1Rising_loop lo hi l hm d (i + 1) (by omega)
        refine ⟨b, ?_, ?_⟩
        · refine Ev.step (fun k => by rw [spec_l1Rising.l0]) ?_
          simp only [if_pos (show (i : Int) < (l.length : Int) by omega), if_pos (show (0 : Int) ≤ (i : Int) by omega), l1In_eq, rd_nat, decide_eq_true c, Option.bind_some, if_true]
          rw [wrap_succ i (by omega)]
          by_cases p : 0 < i
          · have c3 := c2 p
            simp only [w p, rd_nat, if_pos (show (i : Int) > 0 by omega), if_pos (show (0 : Int) ≤ ((i - 1 : Nat) : Int) by omega), if_pos (show ((i - 1 : Nat) : Int) < (l.length : Int) by omega), if_neg (show ¬ (l.getD (i - 1) 0 ≥ l.getD i 0) by omega)]
            exact hb
          · simp only [if_neg (show ¬ ((i : Int) > 0) by omega)]
            exact hb
        · rw [hj]
          constructor
          · intro H j h1 h2
            by_cases e : j = i
            · rw [e]; exact ⟨c, c2⟩
            · exact H j (by omega) h2
          · intro H j h1 h2
            exact H j (by omega) h2
      · have p : 0 < i := by
          rcases Nat.eq_zero_or_pos i with z | z
          · exact absurd (fun hh => by omega) c2
          · exact z
        have c3 : ¬ l.getD (i - 1) 0 < l.getD i 0 := fun hh => c2 (fun _ => hh)
        refine ⟨false, ?_, ?_⟩
        · refine Ev.step (fun k => by rw [spec_l1Rising.l0]) ?_
          simp only [if_pos (show (i : Int) < (l.length : Int) by omega), if_pos (show (0 : Int) ≤ (i : Int) by omega), l1In_eq, rd_nat, decide_eq_true c, Option.bind_some, if_true]
          simp only [w p, rd_nat, if_pos (show (i : Int) > 0 by omega), if_pos (show (0 : Int) ≤ ((i - 1 : Nat) : Int) by omega), if_pos (show ((i - 1 : Nat) : Int) < (l.length : Int) by omega), if_pos (show (l.getD (i - 1) 0 ≥ l.getD i 0) by omega)]
          exact Ev.now _
        · exact ⟨fun H => (by cases H), fun H => absurd (H i (by omega) (by omega)).2 c2⟩
    · refine ⟨false, ?_, ?_⟩
      · refine Ev.step (fun k => by rw [spec_l1Rising.l0]) ?_
        simp only [if_pos (show (i : Int) < (l.length : Int) by omega), if_pos (show (0 : Int) ≤ (i : Int) by omega), l1In_eq, rd_nat, decide_eq_false c, Option.bind_some, Bool.false_eq_true, if_false]
        exact Ev.now _
      · exact ⟨fun H => (by cases H), fun H => absurd (H i (by omega) (by omega)).1 c⟩
theorem l1Rising_ev (lo hi : Int) (l : List Int) (hm : l.length ≤ 1099511627776) :
    ∃ b, Ev (fun k => spec_l1Rising.f k l lo hi) b ∧ (b = true ↔ ∀ j, j < l.length → (lo ≤ l.getD j 0 ∧ l.getD j 0 ≤ hi) ∧ (0 < j → l.getD (j - 1) 0 < l.getD j 0)) := by
  obtain ⟨b, hb, hj⟩ := l1Rising_loop lo hi l hm l.length 0 (by omega)
  exact ⟨b, hb, by rw [hj]; exact ⟨fun H j h => H j (by omega) h, fun H j _ h => H j h⟩⟩
theorem rises_loop (l : List Int) (hm : l.length ≤ 1099511627776) : ∀ (d i : Nat), 1 ≤ i → l.length ≤ i + d →
    ∃ b, Ev (fun k => impl_rises.l0 k l (i : Int)) b ∧ (b = true ↔ ∀ j, i ≤ j → j < l.length → l.getD (j - 1) 0 < l.getD j 0)
  | 0, i, h0, h => by
    refine ⟨true, ?_, by simp only [true_iff]; intro j h1 h2; omega⟩
    refine Ev.step (fun k => by rw [impl_rises.l0]) ?_
    simp only [if_neg (show ¬ ((i : Int) < (l.length : Int)) by omega)]
    exact Ev.now _
  | d + 1, i, h0, h => by
    by_cases hlt : i < l.length
    · have w : wrap64 ((i : Int) - 1) = ((i - 1 : Nat) : Int) := by rw [wrap_id _ (by omega) (by omega)]; omega
      by_cases c : l.getD (i - 1) 0 < l.getD i 0
      · obtain ⟨b, hb, hj⟩ := rises_loop l hm d (i + 1) (by omega) (by omega)
        refine ⟨b, ?_, ?_⟩
        · refine Ev.step (fun k => by rw [impl_rises.l0]) ?_
          simp only [w, rd_nat, if_pos (show (i : Int) < (l.length : Int) by omega), if_pos (show (0 : Int) ≤ (i : Int) by omega), if_pos (show (0 : Int) ≤ ((i - 1 : Nat) : Int) by omega), if_pos (show ((i - 1 : Nat) : Int) < (l.length : Int) by omega), if_neg (show ¬ (l.getD (i - 1) 0 ≥ l.getD i 0) by omega)]
          rw [wrap_succ i (by omega)]
          exact hb
        · rw [hj]
          constructor
          · intro H j h1 h2
            by_cases e : j = i
            · rw [e]; exact c
            · exact H j (by omega) h2
          · intro H j h1 h2
            exact H j (by omega) h2
      · refine ⟨false, ?_, ?_⟩
        · refine Ev.step (fun k => by rw [impl_rises.l0]) ?_
          simp only [w, rd_nat, if_pos (show (i : Int) < (l.length : Int) by omega), if_pos (show (0 : Int) ≤ (i : Int) by omega), if_pos (show (0 : Int) ≤ ((i - 1 : Nat) : Int) by omega), if_pos (show ((i - 1 : Nat) : Int) < (l.length : Int) by omega), if_pos (show (l.getD (i - 1) 0 ≥ l.getD i 0) by omega)]
          exact Ev.now _
        · exact ⟨fun H => (by cases H), fun H => absurd (H i (by omega) hlt) c⟩
    · exact rises_loop l hm 0 i h0 (by omega)
theorem rises_ev (l : List Int) (hm : l.length ≤ 1099511627776) :
    ∃ b, Ev (fun k => impl_rises.f k l) b ∧ (b = true ↔ ∀ j, 0 < j → j < l.length → l.getD (j - 1) 0 < l.getD j 0) :=
  rises_loop l hm l.length 1 (by omega) (by omega)

theorem up_to (l : List Int) (h : ∀ j, 0 < j → j < l.length → l.getD (j - 1) 0 < l.getD j 0) : ∀ (d i : Nat), i + d < l.length → l.getD i 0 ≤ l.getD (i + d) 0
  | 0, i, _ => by simp
  | d + 1, i, hd => by
    have a := up_to l h d i (by omega)
    have b := h (i + d + 1) (by omega) (by omega)
    rw [Nat.add_sub_cancel] at b
    rw [← Nat.add_assoc]
    omega

theorem areWithin_eq (l : List Int) (lo hi : Int) (hm : l.length ≤ 1099511627776) :
    ∃ b, impl_areWithin.f l lo hi = some b ∧ (b = true ↔ ∀ j, j < l.length → lo ≤ l.getD j 0 ∧ l.getD j 0 ≤ hi) := by
  refine ⟨_, by unfold impl_areWithin.f; rw [if_pos (by omega)], ?_⟩
  rw [Bool.not_eq_true', List.any_eq_false]
  constructor
  · intro H j hj
    have := H (l.getD j 0) (by rw [List.getD_eq_getElem?_getD, List.getElem?_eq_getElem hj]; exact List.getElem_mem hj)
    simpa using this
  · intro H x hx
    obtain ⟨j, hj, rfl⟩ := List.getElem_of_mem hx
    have := H j hj
    rw [List.getD_eq_getElem?_getD, List.getElem?_eq_getElem hj] at this
    simpa using this

theorem within_eq (x lo hi : Int) : impl_within.f x lo hi = some (decide (lo ≤ x ∧ x ≤ hi)) := by
  unfold impl_within.f
  by_cases c : lo ≤ x
  · rw [if_pos c]; congr 1; by_cases d : x ≤ hi
    · rw [decide_eq_true d, decide_eq_true ⟨c, d⟩]
    · rw [decide_eq_false d, decide_eq_false (fun h => d h.2)]
  · rw [if_neg c, decide_eq_false (fun h => c h.1)]

/-- What stamps are. -/
def Stamps (l : List Int) : Prop := (1 ≤ l.length ∧ l.length ≤ 6) ∧ (∀ j, j < l.length → 1 ≤ l.getD j 0 ∧ l.getD j 0 ≤ 500) ∧ ∀ j, 0 < j → j < l.length → l.getD (j - 1) 0 < l.getD j 0
theorem stGood_ev (l : List Int) (hm : l.length ≤ 1099511627776) : ∃ b, Ev (fun k => spec_stGood.f k l) b ∧ (b = true ↔ Stamps l) := by
  unfold spec_stGood.f
  simp only [l1In_eq, Option.bind_some]
  by_cases c : 1 ≤ (l.length : Int) ∧ (l.length : Int) ≤ 6
  · simp only [decide_eq_true c, if_true]
    obtain ⟨b, hb, jb⟩ := l1Rising_ev 1 500 l hm
    refine ⟨b, Ev.bind hb (Ev.now _), ?_⟩
    rw [jb]
    exact ⟨fun H => ⟨by omega, fun j h => (H j h).1, fun j h0 h => (H j h).2 h0⟩, fun H j h => ⟨H.2.1 j h, fun h0 => H.2.2 j h0 h⟩⟩
  · simp only [decide_eq_false c, Bool.false_eq_true, if_false]
    exact ⟨false, Ev.now _, fun H => (by cases H), fun H => absurd H.1 (by omega)⟩
theorem areStamps_ev (l : List Int) (hm : l.length ≤ 1099511627776) : ∃ b, Ev (fun k => impl_AreStamps.f k l) b ∧ (b = true ↔ Stamps l) := by
  unfold impl_AreStamps.f
  simp only [within_eq, Option.bind_some]
  by_cases c : 1 ≤ (l.length : Int) ∧ (l.length : Int) ≤ 6
  · simp only [decide_eq_true c, if_true]
    obtain ⟨a, ha, ja⟩ := areWithin_eq l 1 500 hm
    rw [ha]
    cases a with
    | true =>
      obtain ⟨b, hb, jb⟩ := rises_ev l hm
      refine ⟨b, ?_, ?_⟩
      · simp only [Option.bind_some, if_true]
        exact Ev.bind hb (Ev.now _)
      · rw [jb]
        exact ⟨fun H => ⟨by omega, ja.1 rfl, H⟩, fun H => H.2.2⟩
    | false =>
      refine ⟨false, ?_, fun H => (by cases H), fun H => ja.2 H.2.1⟩
      simp only [Option.bind_some, Bool.false_eq_true, if_false]
      exact Ev.now _
  · simp only [decide_eq_false c, Bool.false_eq_true, if_false]
    exact ⟨false, Ev.now _, fun H => (by cases H), fun H => absurd H.1 (by omega)⟩
theorem stamps_same (l : List Int) (hm : l.length ≤ 1099511627776) : ∃ b, Ev (fun k => spec_stGood.f k l) b ∧ Ev (fun k => impl_AreStamps.f k l) b ∧ (b = true ↔ Stamps l) := by
  obtain ⟨b, hb, jb⟩ := stGood_ev l hm
  obtain ⟨c, hc, jc⟩ := areStamps_ev l hm
  have e := bool_same jb jc
  subst e
  exact ⟨b, hb, hc, jb⟩
theorem Stamps.last {l : List Int} (g : Stamps l) (j : Nat) (h : j < l.length) : l.getD j 0 ≤ l.getD (l.length - 1) 0 := by
  have c := up_to l g.2.2 (l.length - 1 - j) j (by have := g.1; omega)
  rw [show j + (l.length - 1 - j) = l.length - 1 by omega] at c
  exact c

theorem hwFit_in (l : List Int) (g : Stamps l) (r : Int) (h0 : 0 ≤ r) (h1 : r ≤ 8) : hwFit l r = true := by
  unfold hwFit
  simp only [Bool.and_eq_true, decide_eq_true_eq, List.all_eq_true]
  refine ⟨⟨g.1.2, fun s hs => ?_⟩, h0, h1⟩
  obtain ⟨i, hi, e⟩ := List.getElem_of_mem hs
  have := g.2.1 i hi
  rw [List.getD_eq_getElem?_getD, List.getElem?_eq_getElem hi] at this
  subst e
  simp only [Option.getD_some] at this
  omega
theorem stamps_mem {l : List Int} (g : Stamps l) : ∀ s, s ∈ l → 1 ≤ s ∧ s ≤ 500 := by
  intro s hs
  obtain ⟨i, hi, e⟩ := List.getElem_of_mem hs
  have := g.2.1 i hi
  rw [List.getD_eq_getElem?_getD, List.getElem?_eq_getElem hi] at this
  subst e
  simpa using this

/-- What so many stamps can be together. -/
inductive Sums (l : List Int) : Nat → Int → Prop
  | none : Sums l 0 0
  | one (s : Int) (n : Nat) (v : Int) : s ∈ l → Sums l n v → Sums l (n + 1) (v + s)
theorem sums_nil {n : Nat} {v : Int} (h : Sums [] n v) : n = 0 ∧ v = 0 := by
  cases h with
  | none => exact ⟨rfl, rfl⟩
  | one s n v hs _ => cases hs
theorem sums_mono {l l' : List Int} (hl : ∀ s, s ∈ l → s ∈ l') {n : Nat} {v : Int} (h : Sums l n v) : Sums l' n v := by
  induction h with
  | none => exact .none
  | one s n v hs _ ih => exact .one s n v (hl s hs) ih
theorem sums_more {l : List Int} (s : Int) (hs : s ∈ l) {m : Nat} {x : Int} (h : Sums l m x) : ∀ n : Nat, Sums l (m + n) (x + n * s)
  | 0 => by simpa using h
  | n + 1 => by
    have := Sums.one s (m + n) (x + n * s) hs (sums_more s hs h n)
    rw [show x + ((n + 1 : Nat) : Int) * s = x + n * s + s by rw [Int.natCast_succ, Int.add_mul]; omega]
    exact this
theorem sums_cons (s : Int) (rest : List Int) (m : Nat) (x : Int) : Sums (s :: rest) m x ↔ ∃ n : Nat, n ≤ m ∧ Sums rest (m - n) (x - n * s) := by
  constructor
  · intro h
    induction h with
    | none => exact ⟨0, Nat.le_refl _, by simpa using Sums.none⟩
    | one t m x ht _ ih =>
      obtain ⟨n, hn, hs⟩ := ih
      rcases List.mem_cons.1 ht with e | ht
      · subst e
        refine ⟨n + 1, by omega, ?_⟩
        rw [show m + 1 - (n + 1) = m - n by omega, show x + t - ((n + 1 : Nat) : Int) * t = x - n * t by rw [Int.natCast_succ, Int.add_mul]; omega]
        exact hs
      · refine ⟨n, by omega, ?_⟩
        have := Sums.one t _ _ ht hs
        rw [show m + 1 - n = m - n + 1 by omega, show x + t - (n : Int) * s = x - n * s + t by omega]
        exact this
  · rintro ⟨n, hn, hs⟩
    have h := sums_more s (List.mem_cons_self) (sums_mono (l' := s :: rest) (fun y hy => List.mem_cons_of_mem _ hy) hs) n
    rw [show m - n + n = m by omega, show x - (n : Int) * s + n * s = x by omega] at h
    exact h
theorem swE_mem : ∀ (l : List Int) (r v q : Int), 0 ≤ r → ((∃ w, (w, v, q) ∈ swE l r) ↔ 0 ≤ q ∧ q ≤ r ∧ Sums l (r - q).toNat v)
  | [], r, v, q, hr => by
    constructor
    · rintro ⟨w, hw⟩
      simp only [swE, List.mem_singleton, Prod.mk.injEq] at hw
      obtain ⟨_, rfl, rfl⟩ := hw
      exact ⟨hr, Int.le_refl _, by rw [Int.sub_self]; exact .none⟩
    · rintro ⟨h0, h1, hs⟩
      obtain ⟨e1, e2⟩ := sums_nil hs
      refine ⟨[], ?_⟩
      simp only [swE, List.mem_singleton, Prod.mk.injEq]
      exact ⟨trivial, e2, by omega⟩
  | s :: rest, r, v, q, hr => by
    rw [sums_cons]
    constructor
    · rintro ⟨w, hw⟩
      simp only [swE, List.mem_flatMap, List.mem_range, List.mem_map, Prod.mk.injEq] at hw
      obtain ⟨n, hn, ⟨w', v', q'⟩, hp, rfl, rfl, rfl⟩ := hw
      obtain ⟨h0, h1, h2⟩ := (swE_mem rest (r - n) v' q' (by omega)).1 ⟨w', hp⟩
      dsimp only at *
      refine ⟨h0, by omega, n, by omega, ?_⟩
      rw [show (r - q').toNat - n = (r - n - q').toNat by omega, show (n : Int) * s + v' - n * s = v' by omega]
      exact h2
    · rintro ⟨h0, h1, n, hn, hs⟩
      obtain ⟨w', hw⟩ := (swE_mem rest (r - n) (v - n * s) q (by omega)).2 ⟨h0, by omega, by rw [show (r - n - q).toNat = (r - q).toNat - n by omega]; exact hs⟩
      refine ⟨(n : Int) :: w', ?_⟩
      simp only [swE, List.mem_flatMap, List.mem_range, List.mem_map, Prod.mk.injEq]
      exact ⟨n, by omega, ⟨w', v - n * s, q⟩, hw, rfl, (by dsimp only; omega), rfl⟩
/-- In how many ways a value comes of so many stamps at most. -/
def swN (l : List Int) (r v : Int) : Nat := ((swE l r).filter fun p => decide (p.2.1 = v)).length
theorem swN_nil (r v : Int) : swN [] r v = if v = 0 then 1 else 0 := by
  unfold swN swE
  by_cases c : v = 0
  · subst c; simp
  · rw [if_neg c, List.filter_cons_of_neg (by simp; omega)]; rfl
theorem swN_pos (l : List Int) (r v : Int) (hr : 0 ≤ r) : 0 < swN l r v ↔ ∃ n : Nat, (n : Int) ≤ r ∧ Sums l n v := by
  unfold swN
  rw [List.length_pos_iff_exists_mem]
  constructor
  · rintro ⟨⟨w, v', q⟩, hp⟩
    obtain ⟨hm, he⟩ := List.mem_filter.1 hp
    have he' : v' = v := of_decide_eq_true he
    subst he'
    obtain ⟨h0, h1, h2⟩ := (swE_mem l r v' q hr).1 ⟨w, hm⟩
    exact ⟨_, by omega, h2⟩
  · rintro ⟨n, hn, hs⟩
    obtain ⟨w, hw⟩ := (swE_mem l r v (r - n) hr).2 ⟨by omega, by omega, by rw [show (r - (r - n)).toNat = n by omega]; exact hs⟩
    exact ⟨_, List.mem_filter.2 ⟨hw, by simp⟩⟩
theorem swN_cons (s : Int) (rest : List Int) (r v : Int) : swN (s :: rest) r v = ((List.range (r + 1).toNat).map fun n => swN rest (r - (n : Nat)) (v - (n : Int) * s)).sum := by
  unfold swN
  rw [swE, List.filter_flatMap, List.length_flatMap]
  congr 1
  apply List.map_congr_left
  intro n _
  rw [List.filter_map, List.length_map]
  congr 1
  apply List.filter_congr
  intro p _
  simp only [Function.comp]
  rw [decide_eq_decide]
  omega
theorem sums_nonneg {l : List Int} (hl : ∀ s, s ∈ l → 0 ≤ s) {n : Nat} {v : Int} (h : Sums l n v) : 0 ≤ v := by
  induction h with
  | none => exact Int.le_refl _
  | one s n v hs _ ih => have := hl s hs; omega
theorem swN_neg (l : List Int) (hl : ∀ s, s ∈ l → 0 ≤ s) (r v : Int) (hr : 0 ≤ r) (hv : v < 0) : swN l r v = 0 := by
  rcases Nat.eq_zero_or_pos (swN l r v) with h | h
  · exact h
  · obtain ⟨n, _, hs⟩ := (swN_pos l r v hr).1 h
    have := sums_nonneg hl hs
    omega
/-- The first way to a value. -/
def swF (l : List Int) (r v : Int) : Option (List Int) := ((swE l r).find? fun p => decide (p.2.1 = v)).map (·.1)
theorem swF_nil (r v : Int) : swF [] r v = if v = 0 then some [] else none := by
  unfold swF swE
  by_cases c : v = 0
  · subst c; simp
  · rw [if_neg c, List.find?_cons_of_neg (by simp; omega)]; rfl
theorem swF_cons (s : Int) (rest : List Int) (r v : Int) : swF (s :: rest) r v = (List.range (r + 1).toNat).findSome? fun n => (swF rest (r - (n : Nat)) (v - (n : Int) * s)).map ((n : Int) :: ·) := by
  unfold swF
  rw [swE, List.find?_flatMap, List.map_findSome?]
  congr 1
  funext n
  simp only [Function.comp, List.find?_map, Option.map_map]
  have e : (fun p : List Int × Int × Int => decide (p.2.1 = v)) ∘ (fun p : List Int × Int × Int => ((n : Int) :: p.1, (n : Int) * s + p.2.1, p.2.2)) = fun p => decide (p.2.1 = v - n * s) := by
    funext p
    simp only [Function.comp]
    rw [decide_eq_decide]
    omega
  rw [e]
  rfl
theorem swF_some (l : List Int) (r v : Int) : (swF l r v).isSome = decide (0 < swN l r v) := by
  unfold swF swN
  rw [Option.isSome_map]
  cases h : (swE l r).find? fun p => decide (p.2.1 = v) with
  | none =>
    have := List.find?_eq_none.1 h
    rw [List.filter_eq_nil_iff.2 this]; rfl
  | some p =>
    have h1 := List.find?_some h
    have h2 := List.mem_of_find?_eq_some h
    symm
    simp only [Option.isSome_some, decide_eq_true_eq]
    exact List.length_pos_of_mem (List.mem_filter.2 ⟨h2, h1⟩)
/-- The first number of a range at which something is there. -/
theorem findSome_first {α : Type} (f : Nat → Option α) : ∀ (n k : Nat) (x : α), k < n → (∀ j, j < k → f j = none) → f k = some x → (List.range n).findSome? f = some x
  | 0, k, x, hk, _, _ => by omega
  | n + 1, k, x, hk, hn, hx => by
    rw [List.range_succ, List.findSome?_append]
    by_cases c : k < n
    · rw [findSome_first f n k x c hn hx]; rfl
    · have e : k = n := by omega
      subst e
      have : (List.range k).findSome? f = none := by
        rw [List.findSome?_eq_none_iff]
        intro j hj
        exact hn j (List.mem_range.1 hj)
      rw [this]
      simp [hx]

/-- The numbers below a bound of which something holds, increasing. -/
def sel (p : Nat → Bool) : Nat → List Int
  | 0 => []
  | n + 1 => if p n then sel p n ++ [(n : Int)] else sel p n
theorem sel_length (p : Nat → Bool) : ∀ n, (sel p n).length ≤ n
  | 0 => by simp [sel]
  | n + 1 => by
    have := sel_length p n
    unfold sel
    split
    · simp; omega
    · omega
theorem sel_mono (p : Nat → Bool) : ∀ (d n : Nat), (sel p n).length ≤ (sel p (n + d)).length
  | 0, n => Nat.le_refl _
  | d + 1, n => by
    have := sel_mono p d n
    rw [← Nat.add_assoc]
    have e : (sel p (n + d)).length ≤ (sel p (n + d + 1)).length := by
      conv => rhs; unfold sel
      split
      · simp
      · exact Nat.le_refl _
    omega
theorem mem_sel (p : Nat → Bool) (x : Int) : ∀ n, x ∈ sel p n ↔ ∃ j : Nat, j < n ∧ p j = true ∧ x = j
  | 0 => by simp [sel]
  | n + 1 => by
    have ih := mem_sel p x n
    unfold sel
    by_cases c : p n = true
    · rw [if_pos c, List.mem_append, ih, List.mem_singleton]
      constructor
      · rintro (⟨j, h1, h2, h3⟩ | h)
        · exact ⟨j, by omega, h2, h3⟩
        · exact ⟨n, by omega, c, h⟩
      · rintro ⟨j, h1, h2, h3⟩
        by_cases e : j = n
        · subst e; exact .inr h3
        · exact .inl ⟨j, by omega, h2, h3⟩
    · rw [if_neg c, ih]
      constructor
      · rintro ⟨j, h1, h2, h3⟩
        exact ⟨j, by omega, h2, h3⟩
      · rintro ⟨j, h1, h2, h3⟩
        by_cases e : j = n
        · subst e; exact absurd h2 c
        · exact ⟨j, by omega, h2, h3⟩
theorem sel_at (p : Nat → Bool) (n : Nat) (h : p n = true) : sel p (n + 1) = sel p n ++ [(n : Int)] := by
  show (if p n then sel p n ++ [(n : Int)] else sel p n) = _
  rw [if_pos h]
theorem sel_skip (p : Nat → Bool) (n : Nat) (h : ¬ p n = true) : sel p (n + 1) = sel p n := by
  show (if p n then sel p n ++ [(n : Int)] else sel p n) = _
  rw [if_neg h]
theorem sel_congr (p q : Nat → Bool) : ∀ n, (∀ j, j < n → p j = q j) → sel p n = sel q n
  | 0, _ => rfl
  | n + 1, h => by
    have ih := sel_congr p q n (fun j hj => h j (by omega))
    show (if p n then sel p n ++ [(n : Int)] else sel p n) = (if q n then sel q n ++ [(n : Int)] else sel q n)
    rw [h n (by omega), ih]

open Go Go.Lib
/-- Two increasing lists with the same members are one. -/
theorem rising_ext : ∀ {a b : List Int}, a.Pairwise (· < ·) → b.Pairwise (· < ·) → (∀ x, x ∈ a ↔ x ∈ b) → a = b
  | [], [], _, _, _ => rfl
  | [], y :: b, _, _, h => by have := (h y).2 List.mem_cons_self; cases this
  | x :: a, [], _, _, h => by have := (h x).1 List.mem_cons_self; cases this
  | x :: a, y :: b, ha, hb, h => by
    obtain ⟨ha1, ha2⟩ := List.pairwise_cons.1 ha
    obtain ⟨hb1, hb2⟩ := List.pairwise_cons.1 hb
    have e : x = y := by
      rcases List.mem_cons.1 ((h x).1 List.mem_cons_self) with e | hx
      · exact e
      · rcases List.mem_cons.1 ((h y).2 List.mem_cons_self) with e | hy
        · exact e.symm
        · have := hb1 x hx; have := ha1 y hy; omega
    subst e
    rw [rising_ext ha2 hb2 (fun z => ?_)]
    constructor
    · intro hz
      rcases List.mem_cons.1 ((h z).1 (List.mem_cons_of_mem _ hz)) with e | hz2
      · have := ha1 z hz; omega
      · exact hz2
    · intro hz
      rcases List.mem_cons.1 ((h z).2 (List.mem_cons_of_mem _ hz)) with e | hz2
      · have := hb1 z hz; omega
      · exact hz2
theorem compact_upto (d : Array Int) (hs : ∀ i j, i < j → j < d.size → d[i]! ≤ d[j]!) : ∀ m, m ≤ d.size → (compactUpTo d m).Pairwise (· < ·) ∧ (∀ x, x ∈ compactUpTo d m ↔ ∃ j, j < m ∧ d[j]! = x)
  | 0, _ => ⟨by simp [compactUpTo], fun x => by simp [compactUpTo]⟩
  | m + 1, hm => by
    obtain ⟨h1, h2⟩ := compact_upto d hs m (by omega)
    rw [compactUpTo_succ]
    cases hk : keeps d m with
    | true =>
      simp only [if_true]
      refine ⟨?_, fun x => ?_⟩
      · rw [List.pairwise_append]
        refine ⟨h1, by simp, fun a ha b hb => ?_⟩
        obtain ⟨j, hj, rfl⟩ := (h2 a).1 ha
        have e : b = d[m]! := by simpa using hb
        subst e
        have hne : d[m]! ≠ d[m - 1]! := by
          rcases of_decide_eq_true hk with h | h
          · omega
          · exact h
        have h3 : d[m - 1]! ≤ d[m]! := hs (m - 1) m (by omega) (by omega)
        have h4 : d[j]! ≤ d[m - 1]! := by
          rcases Nat.lt_or_ge j (m - 1) with h | h
          · exact hs j (m - 1) h (by omega)
          · rw [show j = m - 1 by omega]; exact Int.le_refl _
        omega
      · rw [List.mem_append, h2, List.mem_singleton]
        constructor
        · rintro (⟨j, hj, e⟩ | e)
          · exact ⟨j, by omega, e⟩
          · exact ⟨m, by omega, e.symm⟩
        · rintro ⟨j, hj, e⟩
          by_cases c : j = m
          · subst c; exact .inr e.symm
          · exact .inl ⟨j, by omega, e⟩
    | false =>
      simp only [Bool.false_eq_true, if_false, List.append_nil]
      refine ⟨h1, fun x => ?_⟩
      rw [h2]
      constructor
      · rintro ⟨j, hj, e⟩; exact ⟨j, by omega, e⟩
      · rintro ⟨j, hj, e⟩
        by_cases c : j = m
        · subst c
          have h5 := of_decide_eq_false hk
          have hj0 : j ≠ 0 := fun h => h5 (.inl h)
          have h6 : d[j]! = d[j - 1]! := by
            by_cases q : d[j]! = d[j - 1]!
            · exact q
            · exact absurd (.inr q) h5
          exact ⟨j - 1, by omega, by rw [← h6]; exact e⟩
        · exact ⟨j, by omega, e⟩
theorem compact_sorted (zs : List Int) (h : zs.Pairwise (· ≤ ·)) : (compact zs).Pairwise (· < ·) ∧ ∀ x, x ∈ compact zs ↔ x ∈ zs := by
  have hg : ∀ i : Nat, i < zs.length → zs.toArray[i]! = zs.getD i 0 := by
    intro i hi
    simp [List.getD_eq_getElem?_getD, hi]
  have hs : ∀ i j, i < j → j < zs.toArray.size → zs.toArray[i]! ≤ zs.toArray[j]! := by
    intro i j hij hj
    have hj' : j < zs.length := by simpa using hj
    have hi' : i < zs.length := by omega
    rw [hg i hi', hg j hj', List.getD_eq_getElem?_getD, List.getD_eq_getElem?_getD, List.getElem?_eq_getElem hi', List.getElem?_eq_getElem hj']
    exact List.pairwise_iff_getElem.1 h i j hi' hj' hij
  obtain ⟨h1, h2⟩ := compact_upto zs.toArray hs zs.length (by simp)
  refine ⟨h1, fun x => (h2 x).trans ?_⟩
  constructor
  · rintro ⟨j, hj, rfl⟩
    rw [hg j hj, List.getD_eq_getElem?_getD, List.getElem?_eq_getElem hj]
    exact List.getElem_mem hj
  · intro hx
    obtain ⟨j, hj, rfl⟩ := List.mem_iff_getElem.1 hx
    exact ⟨j, hj, by rw [hg j hj, List.getD_eq_getElem?_getD, List.getElem?_eq_getElem hj]; rfl⟩

theorem sel_lt (p : Nat → Bool) (n : Nat) : ∀ x, x ∈ sel p n → x < (n : Int) := by
  intro x hx
  obtain ⟨j, h1, _, h3⟩ := (mem_sel p x n).1 hx
  omega
theorem sel_rising (p : Nat → Bool) : ∀ n, (sel p n).Pairwise (· < ·)
  | 0 => by simp [sel]
  | n + 1 => by
    unfold sel
    split
    · rw [List.pairwise_append]
      refine ⟨sel_rising p n, by simp, fun a ha b hb => ?_⟩
      have := sel_lt p n a ha
      have e : b = (n : Int) := by simpa using hb
      omega
    · exact sel_rising p n
theorem mem_hwVals (fits : Int → Bool) (p : List (List Int × Int × Int)) (x : Int) : x ∈ hwVals fits p ↔ ∃ w q, (w, x, q) ∈ p ∧ fits q = true := by
  unfold hwVals
  rw [List.mem_map]
  constructor
  · rintro ⟨⟨w, v, q⟩, hy, rfl⟩
    obtain ⟨h1, h2⟩ := List.mem_filter.1 hy
    exact ⟨w, q, h1, h2⟩
  · rintro ⟨w, q, h1, h2⟩
    exact ⟨(w, x, q), List.mem_filter.2 ⟨h1, h2⟩, rfl⟩
theorem vals_eq (fits : Int → Bool) (l : List Int) (r : Int) (p : Nat → Bool) (m : Nat) (h : ∀ x : Int, x ∈ hwVals fits (swE l r) ↔ ∃ j : Nat, j < m ∧ p j = true ∧ x = j) : Go.Lib.compact ((hwVals fits (swE l r)).mergeSort fun x y => decide (x ≤ y)) = sel p m := by
  have p2 : ((hwVals fits (swE l r)).mergeSort (fun x y => decide (x ≤ y))).Pairwise (· ≤ ·) :=
    (List.pairwise_mergeSort (le := fun x y : Int => decide (x ≤ y)) (fun a b c h1 h2 => decide_eq_true (Int.le_trans (of_decide_eq_true h1) (of_decide_eq_true h2))) (fun a b => by simp only [Bool.or_eq_true, decide_eq_true_eq]; omega) _).imp (fun h => of_decide_eq_true h)
  obtain ⟨h1, h2⟩ := compact_sorted _ p2
  refine rising_ext h1 (sel_rising p m) (fun x => ?_)
  rw [h2, List.mem_mergeSort, mem_sel]
  exact h x
theorem sums_le {l : List Int} {L : Int} (hl : ∀ s, s ∈ l → s ≤ L) {n : Nat} {v : Int} (h : Sums l n v) : v ≤ (n : Int) * L := by
  induction h with
  | none => simp
  | one s n v hs _ ih =>
    have := hl s hs
    rw [Int.natCast_succ, Int.add_mul]
    omega

theorem sums_succ {l : List Int} {n : Nat} {v : Int} : Sums l (n + 1) v ↔ ∃ s, s ∈ l ∧ Sums l n (v - s) := by
  constructor
  · intro h
    generalize hk : n + 1 = k at h
    cases h with
    | none => omega
    | one s n' v' hs hS =>
      have : n' = n := by omega
      subst this
      exact ⟨s, hs, by rw [show v' + s - s = v' by omega]; exact hS⟩
  · rintro ⟨s, hs, hS⟩
    have := Sums.one s n _ hs hS
    rw [show v - s + s = v by omega] at this
    exact this
theorem setT (x : List Bool) (a v : Nat) (h : a < x.length) : (x.set a true).getD v false = true ↔ v = a ∨ x.getD v false = true := by
  rw [List.getD_eq_getElem?_getD, List.getElem?_set, List.getD_eq_getElem?_getD]
  by_cases c : a = v
  · subst c
    rw [if_pos rfl, if_pos h]
    simp
  · rw [if_neg c]
    constructor
    · intro h; exact .inr h
    · rintro (e | e)
      · exact absurd e.symm c
      · exact e
/-- What the next table holds when the values below one are over, and some stamps at this one. -/
def Nxt (l : List Int) (can next : List Bool) (i n : Nat) : Prop := ∀ v : Nat, next.getD v false = true ↔ (∃ i', i' < i ∧ can.getD i' false = true ∧ ∃ s, s ∈ l ∧ (v : Int) = i' + s) ∨ ∃ i', i' < n ∧ i' < l.length ∧ (v : Int) = i + l.getD i' 0
theorem with_l2 (l : List Int) (g : Stamps l) (a1 : Int) (can : List Bool) (hc : can.length ≤ 100000) (i : Nat) (hi : i < can.length) (r : List Int × Bool) : ∀ (d n : Nat) (next : List Bool), n + d = l.length → (next.length : Int) = can.length + l.getD (l.length - 1) 0 → Nxt l can next i n →
    (∀ next' : List Bool, next'.length = next.length → Nxt l can next' i l.length → Ev (fun k => spec_ValuesWith.l1 k l a1 next' can (can.length : Int) ((i + 1 : Nat) : Int)) r) →
    Ev (fun k => spec_ValuesWith.l2 k l a1 next (i : Int) can (can.length : Int) (i : Int) l (l.length : Int) (n : Int)) r
  | 0, n, next, h, hl, hN, H => by
    refine Ev.step (fun k => by rw [spec_ValuesWith.l2]) ?_
    simp only [if_neg (show ¬ (n : Int) < (l.length : Int) by omega)]
    rw [wrap_succ i (by omega)]
    exact H next rfl (by rw [← show n = l.length by omega]; exact hN)
  | d + 1, n, next, h, hl, hN, H => by
    have hs := g.2.1 n (by omega)
    have hL := g.last n (by omega)
    have gL := g.2.1 (l.length - 1) (by omega)
    have hl6 := g.1
    have e0 : rd l (n : Int) = l.getD n 0 := rfl
    have hw : wrap64 ((i : Int) + l.getD n 0) = ((i + (l.getD n 0).toNat : Nat) : Int) := by rw [wrap_id _ (by omega) (by omega)]; omega
    have hv : ((l.getD n 0).toNat : Int) = l.getD n 0 := by omega
    refine Ev.step (fun k => by rw [spec_ValuesWith.l2]) ?_
    simp only [if_pos (show (n : Int) < (l.length : Int) by omega), if_pos (show (0 : Int) ≤ (n : Int) by omega), e0, hw, if_pos (show (0 : Int) ≤ ((i + (l.getD n 0).toNat : Nat) : Int) by omega), if_pos (show ((i + (l.getD n 0).toNat : Nat) : Int) < (next.length : Int) by omega), Int.toNat_natCast]
    rw [wrap_succ n (by omega)]
    refine with_l2 l g a1 can hc i hi r d (n + 1) _ (by omega) (by rw [List.length_set]; exact hl) (fun v => ?_) (fun next' h1 h2 => H next' (by rw [h1, List.length_set]) h2)
    rw [setT next _ v (by omega), hN v]
    constructor
    · rintro (e | e | ⟨i', h1, h2, h3⟩)
      · exact .inr ⟨n, by omega, by omega, by omega⟩
      · exact .inl e
      · exact .inr ⟨i', by omega, h2, h3⟩
    · rintro (e | ⟨i', h1, h2, h3⟩)
      · exact .inr (.inl e)
      · by_cases c : i' = n
        · subst c; exact .inl (by omega)
        · exact .inr (.inr ⟨i', by omega, h2, h3⟩)
theorem with_l1 (l : List Int) (g : Stamps l) (a1 : Int) (can : List Bool) (hc : can.length ≤ 100000) (r : List Int × Bool) : ∀ (d i : Nat) (next : List Bool), i + d = can.length → (next.length : Int) = can.length + l.getD (l.length - 1) 0 → Nxt l can next i 0 →
    (∀ next' : List Bool, next'.length = next.length → Nxt l can next' can.length 0 → Ev (fun k => spec_ValuesWith.l0 k l (wrap64 (a1 - 1)) next') r) →
    Ev (fun k => spec_ValuesWith.l1 k l a1 next can (can.length : Int) (i : Int)) r
  | 0, i, next, h, hl, hN, H => by
    refine Ev.step (fun k => by rw [spec_ValuesWith.l1]) ?_
    simp only [if_neg (show ¬ (i : Int) < (can.length : Int) by omega)]
    exact H next rfl (by rw [← show i = can.length by omega]; exact hN)
  | d + 1, i, next, h, hl, hN, H => by
    have e0 : rdOf false can (i : Int) = can.getD i false := rfl
    refine Ev.step (fun k => by rw [spec_ValuesWith.l1]) ?_
    simp only [if_pos (show (i : Int) < (can.length : Int) by omega), if_pos (show (0 : Int) ≤ (i : Int) by omega), e0]
    by_cases c : can.getD i false = true
    · simp only [if_pos c]
      refine with_l2 l g a1 can hc i (by omega) r l.length 0 next (by omega) hl hN (fun next' h1 h2 => ?_)
      refine with_l1 l g a1 can hc r d (i + 1) next' (by omega) (by rw [h1]; exact hl) (fun v => ?_) (fun next'' k1 k2 => H next'' (by rw [k1, h1]) k2)
      rw [h2 v]
      constructor
      · rintro (⟨i', z1, z2, z3⟩ | ⟨i', z1, z2, z3⟩)
        · exact .inl ⟨i', by omega, z2, z3⟩
        · refine .inl ⟨i, by omega, c, l.getD i' 0, ?_, z3⟩
          rw [List.getD_eq_getElem?_getD, List.getElem?_eq_getElem z2]
          exact List.getElem_mem _
      · rintro (⟨i', z1, z2, s, z3, z4⟩ | ⟨i', z1, _⟩)
        · by_cases e : i' = i
          · subst e
            obtain ⟨n, hn, e'⟩ := List.getElem_of_mem z3
            refine .inr ⟨n, hn, hn, ?_⟩
            rw [List.getD_eq_getElem?_getD, List.getElem?_eq_getElem hn, e']
            exact z4
          · exact .inl ⟨i', by omega, z2, s, z3, z4⟩
        · omega
    · simp only [if_neg c]
      rw [wrap_succ i (by omega)]
      refine with_l1 l g a1 can hc r d (i + 1) next (by omega) hl (fun v => ?_) H
      rw [hN v]
      constructor
      · rintro (⟨i', z1, z2⟩ | ⟨i', z1, _⟩)
        · exact .inl ⟨i', by omega, z2⟩
        · omega
      · rintro (⟨i', z1, z2, z3⟩ | ⟨i', z1, _⟩)
        · by_cases e : i' = i
          · subst e; exact absurd z2 c
          · exact .inl ⟨i', by omega, z2, z3⟩
        · omega
theorem with_l3 (can : List Bool) (hc : can.length ≤ 100000) : ∀ (d i : Nat), i + d = can.length → Ev (fun k => spec_ValuesWith.l3 k (sel (fun j => can.getD j false) i) can (can.length : Int) (i : Int)) (sel (fun j => can.getD j false) can.length, true)
  | 0, i, h => by
    refine Ev.step (fun k => by rw [spec_ValuesWith.l3]) ?_
    simp only [if_neg (show ¬ (i : Int) < (can.length : Int) by omega)]
    rw [show i = can.length by omega]
    exact Ev.now _
  | d + 1, i, h => by
    have ih := with_l3 can hc d (i + 1) (by omega)
    have hs := sel_length (fun j => can.getD j false) i
    have e0 : rdOf false can (i : Int) = can.getD i false := rfl
    refine Ev.step (fun k => by rw [spec_ValuesWith.l3]) ?_
    rw [wrap_succ i (by omega)]
    by_cases c : can.getD i false = true
    · rw [sel_at _ i c] at ih
      simp only [if_pos (show (i : Int) < (can.length : Int) by omega), if_pos (show (0 : Int) ≤ (i : Int) by omega), e0, if_pos c, if_pos (show (sel (fun j => can.getD j false) i).length < 17592186044416 by omega)]
      exact ih
    · rw [sel_skip _ i c] at ih
      simp only [if_pos (show (i : Int) < (can.length : Int) by omega), if_pos (show (0 : Int) ≤ (i : Int) by omega), e0, if_neg c]
      exact ih
/-- The table after t stamps. -/
def CanAt (l : List Int) (t : Nat) (can : List Bool) : Prop := (can.length : Int) = 1 + t * l.getD (l.length - 1) 0 ∧ ∀ v : Nat, can.getD v false = true ↔ Sums l t v
theorem with_l0 (l : List Int) (g : Stamps l) (hmax : ∀ s, s ∈ l → s ≤ l.getD (l.length - 1) 0) (T : Nat) (hT : T ≤ 8) (p : Nat → Bool) (hp : ∀ v : Nat, p v = true ↔ Sums l T v) : ∀ (d t : Nat) (can : List Bool), t + d = T → CanAt l t can → Ev (fun k => spec_ValuesWith.l0 k l (d : Int) can) (sel p (1 + (T : Int) * l.getD (l.length - 1) 0).toNat, true)
  | 0, t, can, h, hC => by
    have gL := g.2.1 (l.length - 1) (by have := g.1; omega)
    have hb : (t : Int) * l.getD (l.length - 1) 0 ≤ 8 * 500 := Int.mul_le_mul (by omega) gL.2 (by omega) (by omega)
    obtain rfl : t = T := by omega
    refine Ev.step (fun k => by rw [spec_ValuesWith.l0]) ?_
    simp only [if_neg (show ¬ ((0 : Nat) : Int) > 0 by omega)]
    have h3 := with_l3 can (by have := hC.1; omega) can.length 0 (by omega)
    rw [sel_congr (fun j => can.getD j false) p can.length (fun j _ => by
      have z1 := hC.2 j
      have z2 := hp j
      rw [Bool.eq_iff_iff]
      exact z1.trans z2.symm), show can.length = (1 + (t : Int) * l.getD (l.length - 1) 0).toNat by have := hC.1; omega] at h3
    rw [show (((1 + (t : Int) * l.getD (l.length - 1) 0).toNat : Nat) : Int) = (can.length : Int) by have := hC.1; omega] at h3
    exact h3
  | d + 1, t, can, h, hC => by
    have hl6 := g.1
    have gL := g.2.1 (l.length - 1) (by omega)
    have hb0 : 0 ≤ (t : Int) * l.getD (l.length - 1) 0 := Int.mul_nonneg (by omega) (by omega)
    have hb : (t : Int) * l.getD (l.length - 1) 0 ≤ 8 * 500 := Int.mul_le_mul (by omega) gL.2 (by omega) (by omega)
    have hcl := hC.1
    have w : wrap64 ((l.length : Int) - 1) = ((l.length - 1 : Nat) : Int) := by rw [wrap_id _ (by omega) (by omega)]; omega
    have e0 : rd l ((l.length - 1 : Nat) : Int) = l.getD (l.length - 1) 0 := rfl
    have hw : wrap64 ((can.length : Int) + l.getD (l.length - 1) 0) = (can.length : Int) + l.getD (l.length - 1) 0 := wrap_id _ (by omega) (by omega)
    have hrep : ∀ v : Nat, (List.replicate ((can.length : Int) + l.getD (l.length - 1) 0).toNat false).getD v false = false := by
      intro v
      rw [List.getD_eq_getElem?_getD, List.getElem?_replicate]
      split <;> rfl
    refine Ev.step (fun k => by rw [spec_ValuesWith.l0]) ?_
    rw [w]
    simp only [if_pos (show ((d + 1 : Nat) : Int) > 0 by omega), if_pos (show (0 : Int) ≤ ((l.length - 1 : Nat) : Int) by omega), if_pos (show ((l.length - 1 : Nat) : Int) < (l.length : Int) by omega), e0, hw, if_pos (show 0 ≤ (can.length : Int) + l.getD (l.length - 1) 0 by omega), if_pos (show ((can.length : Int) + l.getD (l.length - 1) 0).toNat ≤ 281474976710656 by omega)]
    refine with_l1 l g ((d + 1 : Nat) : Int) can (by omega) _ can.length 0 _ (by omega) (by rw [List.length_replicate]; omega) (fun v => ?_) (fun next' h1 h2 => ?_)
    · rw [hrep v]
      constructor
      · intro z; exact absurd z (by simp)
      · rintro (⟨i', z1, _⟩ | ⟨i', z1, _⟩) <;> omega
    · rw [List.length_replicate] at h1
      rw [wrap_id _ (by omega) (by omega), show ((d + 1 : Nat) : Int) - 1 = (d : Int) by omega]
      refine with_l0 l g hmax T hT p hp d (t + 1) next' (by omega) ⟨by rw [h1, Int.natCast_succ, Int.add_mul]; omega, fun v => ?_⟩
      rw [h2 v, sums_succ]
      constructor
      · rintro (⟨i', z1, z2, s, z3, z4⟩ | ⟨i', z1, _⟩)
        · exact ⟨s, z3, by rw [show (v : Int) - s = (i' : Int) by omega]; exact (hC.2 i').1 z2⟩
        · omega
      · rintro ⟨s, hs, hS⟩
        have v0 := sums_nonneg (fun s hs => by have := stamps_mem g s hs; omega) hS
        have v1 := sums_le hmax hS
        refine .inl ⟨((v : Int) - s).toNat, by omega, (hC.2 _).2 (by rw [show ((((v : Int) - s).toNat : Nat) : Int) = (v : Int) - s by omega]; exact hS), s, hs, by omega⟩
theorem ValuesWith_same (l : List Int) (a : Int) (hm : l.length ≤ 1099511627776) : ∃ r : List Int × Bool, r.1.length ≤ 1099511627776 ∧ Ev (fun k => spec_ValuesWith.f k l a) r ∧ Ev (fun k => impl_ValuesWith.f k l a) r := by
  obtain ⟨b, hs, hi, jb⟩ := stamps_same l hm
  have hno : Ev (fun k => spec_ValuesWith.j0 k l a true) (([] : List Int), false) := by
    refine Ev.step (fun k => by rw [spec_ValuesWith.j0]) ?_
    simp only [if_true]
    exact Ev.now _
  unfold spec_ValuesWith.f impl_ValuesWith.f
  simp only [l1In_eq, within_eq, Option.bind_some]
  cases b with
  | true =>
    have g := jb.1 rfl
    by_cases c1 : 0 ≤ a ∧ a ≤ 8
    · have gl := g.1
      have gL := g.2.1 (l.length - 1) (by omega)
      have hmax : ∀ s, s ∈ l → s ≤ l.getD (l.length - 1) 0 := by
        intro s hs
        obtain ⟨i, hi, e⟩ := List.getElem_of_mem hs
        have := g.last i hi
        rw [List.getD_eq_getElem?_getD, List.getElem?_eq_getElem hi, e] at this
        exact this
      obtain ⟨T, hT⟩ : ∃ T : Nat, (T : Int) = a := ⟨a.toNat, by omega⟩
      obtain ⟨p, hp⟩ : ∃ p : Nat → Bool, ∀ v : Nat, p v = true ↔ Sums l T v := ⟨fun v => @decide _ (Classical.propDecidable (Sums l T v)), fun v => by simp⟩
      have b0 : 0 ≤ (T : Int) * l.getD (l.length - 1) 0 := Int.mul_nonneg (by omega) (by omega)
      have b1 : (T : Int) * l.getD (l.length - 1) 0 ≤ 8 * 500 := Int.mul_le_mul (by omega) gL.2 (by omega) (by omega)
      have hx : ∀ x : Int, x ∈ hwVals (fun r => r == 0) (swE l a) ↔ Sums l T x := by
        intro x
        rw [mem_hwVals]
        constructor
        · rintro ⟨w', q, hq', hq0⟩
          obtain ⟨h0, h1, h2⟩ := (swE_mem l a x q (by omega)).1 ⟨w', hq'⟩
          have : q = 0 := beq_iff_eq.1 hq0
          rw [show (a - q).toNat = T by omega] at h2
          exact h2
        · intro hS
          obtain ⟨w', hw'⟩ := (swE_mem l a x 0 (by omega)).2 ⟨by omega, by omega, by rw [show (a - 0).toNat = T by omega]; exact hS⟩
          exact ⟨w', 0, hw', rfl⟩
      have hv := vals_eq (fun r => r == 0) l a p (1 + (T : Int) * l.getD (l.length - 1) 0).toNat (fun x => by
        rw [hx]
        constructor
        · intro hS
          have x0 := sums_nonneg (fun s hs => by have := stamps_mem g s hs; omega) hS
          have x1 := sums_le hmax hS
          exact ⟨x.toNat, by omega, (hp _).2 (by rw [show ((x.toNat : Nat) : Int) = x by omega]; exact hS), by omega⟩
        · rintro ⟨j, hj, hpj, rfl⟩
          exact (hp j).1 hpj)
      have hpos : 0 < (hwVals (fun r => r == 0) (swE l a)).length := by
        have hmem : l.getD 0 0 ∈ l := by rw [List.getD_eq_getElem?_getD, List.getElem?_eq_getElem (show 0 < l.length by omega)]; exact List.getElem_mem _
        have := sums_more (l.getD 0 0) hmem (Sums.none) T
        rw [Nat.zero_add] at this
        exact List.length_pos_of_mem ((hx _).2 this)
      refine ⟨(sel p (1 + (T : Int) * l.getD (l.length - 1) 0).toNat, true), by have := sel_length p (1 + (T : Int) * l.getD (l.length - 1) 0).toNat; simp only; omega, Ev.bind hs ?_, Ev.bind hi ?_⟩
      · simp only [if_true, decide_eq_true c1, Bool.not_true]
        refine Ev.step (fun k => by rw [spec_ValuesWith.j0]) ?_
        simp only [Bool.false_eq_true, if_false]
        rw [← hT]
        refine with_l0 l g hmax T (by omega) p hp T 0 [true] (by omega) ⟨by simp, fun v => ?_⟩
        cases v with
        | zero => exact ⟨fun _ => Sums.none, fun _ => rfl⟩
        | succ v =>
          constructor
          · intro z; exact absurd z (by simp)
          · intro z
            generalize hy : ((v + 1 : Nat) : Int) = y at z
            cases z
            omega
      · simp only [if_true, decide_eq_true c1, if_pos (⟨hwFit_in l g a c1.1 c1.2, hpos⟩ : hwFit l a = true ∧ 0 < (hwVals (fun r => r == 0) (swE l a)).length), hv]
        exact Ev.now _
    · refine ⟨([], false), by simp, Ev.bind hs ?_, Ev.bind hi ?_⟩
      · simp only [if_true, decide_eq_false c1, Bool.not_false]
        exact hno
      · simp only [if_true, decide_eq_false c1, Bool.false_eq_true, if_false]
        exact Ev.now _
  | false =>
    refine ⟨([], false), by simp, Ev.bind hs ?_, Ev.bind hi ?_⟩
    · simp only [Bool.false_eq_true, if_false]
      exact hno
    · simp only [Bool.false_eq_true, if_false]
      exact Ev.now _
theorem FnExactValuesWith : laws_FnExactValuesWith.Pure := by
  intro l0 a1 h1 h2 h3 w_a1
  apply Ev.rounds
  unfold laws_FnExactValuesWith.f
  by_cases c : (l0.length : Int) > 1048576
  · simp only [if_pos c]; exact Ev.now _
  · simp only [if_neg c]
    have hm : l0.length ≤ 1099511627776 := by omega
    obtain ⟨⟨r1, r2⟩, hr, hs, hi⟩ := ValuesWith_same l0 a1 hm
    replace hr : r1.length ≤ 1099511627776 := hr
    obtain ⟨m0, hm0, hm1⟩ := mark_ev l0 hm
    obtain ⟨m2, hm2, hm3⟩ := mark_ev r1 hr
    refine Ev.bind (toInt_ev l0 hm) ?_
    refine Ev.bind hs ?_
    refine Ev.bind (toInt_ev l0 hm) ?_
    refine Ev.bind hi ?_
    refine Ev.bind (eq_ev r1 hr) ?_
    simp only [if_true, bne_self_eq_false]
    refine Ev.step (fun k => by rw [laws_FnExactValuesWith.j0]) ?_
    simp only [Bool.false_eq_true, if_false]
    refine Ev.bind (toInt_ev l0 hm) ?_
    refine Ev.bind (eq_ev l0 hm) ?_
    simp only [if_true]
    refine Ev.bind hm0 ?_
    simp only [if_neg (show ¬ ((l0.length : Int) + 1 < 0) by omega)]
    refine Ev.bind (eq_ev r1 hr) ?_
    simp only [if_true, bne_self_eq_false]
    refine Ev.step (fun k => by rw [laws_FnExactValuesWith.j1]) ?_
    simp only [Bool.false_eq_true, if_false]
    refine Ev.bind hm2 ?_
    refine Ev.bind hm3 ?_
    simp only [if_neg (show ¬ ((r1.length : Int) + 1 < 0) by omega), if_true]
    refine Ev.bind (toInt_ev l0 hm) ?_
    refine Ev.bind hi ?_
    refine Ev.bind (eq_ev r1 hr) ?_
    simp only [if_true, bne_self_eq_false]
    refine Ev.step (fun k => by rw [laws_FnExactValuesWith.j2]) ?_
    simp only [Bool.false_eq_true, if_false]
    refine Ev.bind hm3 ?_
    simp only [if_neg (show ¬ ((r1.length : Int) + 1 < 0) by omega), if_true]
    exact Ev.now _

end Go.Proofs.Ytbabhmdncfffnaa.Pure
