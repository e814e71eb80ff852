/- For every list of whole numbers and every room, the program's NeedlessStamps tells what the reference's tells, in new memory, and the list reads as before. No conditions. -/
import Derived.Test.YtbabhmdncfffnaaPFnExactNeedlessStampsx6
namespace Go.Proofs.Ytbabhmdncfffnaa.Pure
open Go.RowKit Go.Proofs.Ytbabhmdncfffnaa.PFnExactNeedlessStamps Go.Proofs.YtbabhmdncfffnaaW.PrintWords Go.Proofs.YtbabhmdncfffnaaW.PrintLast
set_option linter.unusedVariables false
set_option linter.unusedSimpArgs false

theorem wrap_id (x : Int) (h0 : -9223372036854775808 ≤ x) (h1 : x ≤ 9223372036854775807) : wrap64 x = x := by
  unfold wrap64; omega
theorem wrap_succ (i : Nat) (h : i < 4611686018427387904) : wrap64 ((i : Int) + 1) = ((i + 1 : Nat) : Int) := by
  rw [wrap_id _ (by omega) (by omega)]; rfl
theorem rd_nat (l : List Int) (i : Nat) : rd l (i : Int) = l.getD i 0 := rfl
theorem getD_some (l : List Int) (i : Nat) (h : i < l.length) : l[i]? = some (l.getD i 0) := by
  rw [List.getD_eq_getElem?_getD, List.getElem?_eq_getElem h]; rfl
theorem bool_same {b c : Bool} {P : Prop} (hb : b = true ↔ P) (hc : c = true ↔ P) : b = c := by
  cases b <;> cases c <;> simp_all

theorem eq_loop (a : List Int) (hm : a.length ≤ 1099511627776) : ∀ (d i : Nat), i + d = a.length → Ev (fun k => laws_eqIntS.l0 k a a (i : Int)) true
  | 0, i, h => by
    refine Ev.step (fun k => by rw [laws_eqIntS.l0]) ?_
    simp only [if_neg (show ¬ ((i : Int) < (a.length : Int)) by omega)]
    exact Ev.now _
  | d + 1, i, h => by
    refine Ev.step (fun k => by rw [laws_eqIntS.l0]) ?_
    simp only [if_pos (show (i : Int) < (a.length : Int) by omega), if_pos (show (0 : Int) ≤ (i : Int) by omega), if_true]
    rw [wrap_succ i (by omega)]
    exact eq_loop a hm d (i + 1) (by omega)
theorem eq_ev (a : List Int) (hm : a.length ≤ 1099511627776) : Ev (fun k => laws_eqIntS.f k a a) true := by
  unfold laws_eqIntS.f
  simp only [if_true]
  exact eq_loop a hm a.length 0 (by omega)

theorem toInt_loop (l : List Int) (hm : l.length ≤ 1099511627776) : ∀ (d i : Nat) (cur : List Int), i + d = l.length → cur.length = l.length → (∀ j, j < i → cur[j]? = l[j]?) → Ev (fun k => laws_toIntS.l0 k l cur (i : Int)) l
  | 0, i, cur, h, hc, hj => by
    refine Ev.step (fun k => by rw [laws_toIntS.l0]) ?_
    simp only [if_neg (show ¬ ((i : Int) < (l.length : Int)) by omega)]
    have e : cur = l := by
      apply List.ext_getElem?
      intro j
      by_cases c : j < i
      · exact hj j c
      · rw [List.getElem?_eq_none (by omega), List.getElem?_eq_none (by omega)]
    rw [e]
    exact Ev.now _
  | d + 1, i, cur, h, hc, hj => by
    refine Ev.step (fun k => by rw [laws_toIntS.l0]) ?_
    simp only [if_pos (show (i : Int) < (l.length : Int) by omega), if_pos (show (0 : Int) ≤ (i : Int) by omega), if_pos (show (i : Int) < (cur.length : Int) by omega)]
    rw [wrap_succ i (by omega), Int.toNat_natCast, rd_nat]
    refine toInt_loop l hm d (i + 1) _ (by omega) (by rw [List.length_set]; exact hc) ?_
    intro j hlt
    rw [List.getElem?_set]
    by_cases c : i = j
    · subst c
      rw [if_pos rfl, if_pos (by omega), getD_some l i (by omega)]
    · rw [if_neg c]
      exact hj j (by omega)
theorem toInt_ev (l : List Int) (hm : l.length ≤ 1099511627776) : Ev (fun k => laws_toIntS.f k l) l := by
  unfold laws_toIntS.f
  simp only [if_pos (show (0 : Int) ≤ (l.length : Int) by omega), if_pos (show ((l.length : Int)).toNat ≤ 35184372088832 by omega)]
  exact toInt_loop l hm l.length 0 _ (by omega) (by simp) (fun j hj => by omega)

theorem mark_loop : ∀ (d i : Nat) (cur : List Int), i + d = cur.length → cur.length ≤ 1099511627776 → (∀ j, j < i → cur[j]? = some ((j : Int) + 1)) →
    ∃ m : List Int, m.length = cur.length ∧ (∀ j, j < m.length → m[j]? = some ((j : Int) + 1)) ∧ Ev (fun k => laws_markIntS.l0 k cur ((i : Int) + 1) (i : Int)) ((cur.length : Int) + 1, m)
  | 0, i, cur, h, hm, hj => by
    refine ⟨cur, rfl, fun j hlt => hj j (by omega), ?_⟩
    refine Ev.step (fun k => by rw [laws_markIntS.l0]) ?_
    simp only [if_neg (show ¬ ((i : Int) < (cur.length : Int)) by omega)]
    rw [show ((cur.length : Int) + 1) = ((i : Int) + 1) by omega]
    exact Ev.now _
  | d + 1, i, cur, h, hm, hj => by
    obtain ⟨m, h1, h2, h3⟩ := mark_loop d (i + 1) (cur.set i ((i : Int) + 1)) (by simp; omega) (by simpa using hm) (fun j hlt => by
      rw [List.getElem?_set]
      by_cases c : i = j
      · subst c; rw [if_pos rfl, if_pos (by omega)]
      · rw [if_neg c]; exact hj j (by omega))
    rw [List.length_set] at h1 h3
    refine ⟨m, h1, h2, ?_⟩
    refine Ev.step (fun k => by rw [laws_markIntS.l0]) ?_
    simp only [if_pos (show (i : Int) < (cur.length : Int) by omega), if_pos (show (0 : Int) ≤ (i : Int) by omega)]
    rw [wrap_succ i (by omega), Int.toNat_natCast, show wrap64 ((i : Int) + 1 + 1) = ((i + 1 : Nat) : Int) + 1 by rw [wrap_id _ (by omega) (by omega)]; omega]
    exact h3
theorem held_loop (m : List Int) (hm : m.length ≤ 1099511627776) (hj : ∀ j, j < m.length → m[j]? = some ((j : Int) + 1)) : ∀ (d i : Nat), i + d = m.length →
    Ev (fun k => laws_heldIntS.l0 k m ((i : Int) + 1) (i : Int)) ((m.length : Int) + 1)
  | 0, i, h => by
    refine Ev.step (fun k => by rw [laws_heldIntS.l0]) ?_
    simp only [if_neg (show ¬ ((i : Int) < (m.length : Int)) by omega)]
    rw [show ((m.length : Int) + 1) = ((i : Int) + 1) by omega]
    exact Ev.now _
  | d + 1, i, h => by
    refine Ev.step (fun k => by rw [laws_heldIntS.l0]) ?_
    have e : rd m (i : Int) = (i : Int) + 1 := by
      rw [rd_nat, List.getD_eq_getElem?_getD, hj i (by omega)]; rfl
    simp only [if_pos (show (i : Int) < (m.length : Int) by omega), if_pos (show (0 : Int) ≤ (i : Int) by omega), e, if_true]
    rw [wrap_succ i (by omega), show wrap64 ((i : Int) + 1 + 1) = ((i + 1 : Nat) : Int) + 1 by rw [wrap_id _ (by omega) (by omega)]; omega]
    exact held_loop m hm hj d (i + 1) (by omega)
theorem mark_ev (l : List Int) (hm : l.length ≤ 1099511627776) : ∃ m : List Int, Ev (fun k => laws_markIntS.f k l 1) ((l.length : Int) + 1, m) ∧ Ev (fun k => laws_heldIntS.f k m 1) ((l.length : Int) + 1) := by
  obtain ⟨m, h1, h2, h3⟩ := mark_loop l.length 0 l (by omega) hm (fun j h => by omega)
  refine ⟨m, h3, ?_⟩
  rw [← h1]
  exact held_loop m (by omega) h2 m.length 0 (by omega)

theorem l1In_eq (x lo hi : Int) : spec_l1In.f x lo hi = some (decide (lo ≤ x ∧ x ≤ hi)) := by
  unfold spec_l1In.f
  by_cases c : x ≥ lo
  · rw [if_pos c]; congr 1; by_cases d : x ≤ hi
    · rw [decide_eq_true d, decide_eq_true ⟨c, d⟩]
    · rw [decide_eq_false d, decide_eq_false (fun h => d h.2)]
  · rw [if_neg c, decide_eq_false (fun h => c h.1)]

theorem l1Rising_loop (lo hi : Int) (l : List Int) (hm : l.length ≤ 1099511627776) : ∀ (d i : Nat), i + d = l.length →
    ∃ b, Ev (fun k => spec_l1Rising.l0 k l lo hi l (l.length : Int) (i : Int)) b ∧ (b = true ↔ ∀ j, i ≤ j → j < l.length → (lo ≤ l.getD j 0 ∧ l.getD j 0 ≤ hi) ∧ (0 < j → l.getD (j - 1) 0 < l.getD j 0))
  | 0, i, h => by
    refine ⟨true, ?_, by simp only [true_iff]; intro j h1 h2; omega⟩
    refine Ev.step (fun k => by rw [spec_l1Rising.l0]) ?_
    simp only [if_neg (show ¬ ((i : Int) < (l.length : Int)) by omega)]
    exact Ev.now _
  | d + 1, i, h => by
    have w : 0 < i → wrap64 ((i : Int) - 1) = ((i - 1 : Nat) : Int) := fun h => by rw [wrap_id _ (by omega) (by omega)]; omega
    by_cases c : (lo ≤ l.getD i 0 ∧ l.getD i 0 ≤ hi)
    · by_cases c2 : 0 < i → l.getD (i - 1) 0 < l.getD i 0
      · obtain ⟨b, hb, hj⟩ := l1Rising_loop lo hi l hm d (i + 1) (by omega)
        refine ⟨b, ?_, ?_⟩
        · refine Ev.step (fun k => by rw [spec_l1Rising.l0]) ?_
          simp only [if_pos (show (i : Int) < (l.length : Int) by omega), if_pos (show (0 : Int) ≤ (i : Int) by omega), l1In_eq, rd_nat, decide_eq_true c, Option.bind_some, if_true]
          rw [wrap_succ i (by omega)]
          by_cases p : 0 < i
          · have c3 := c2 p
            simp only [w p, rd_nat, if_pos (show (i : Int) > 0 by omega), if_pos (show (0 : Int) ≤ ((i - 1 : Nat) : Int) by omega), if_pos (show ((i - 1 : Nat) : Int) < (l.length : Int) by omega), if_neg (show ¬ (l.getD (i - 1) 0 ≥ l.getD i 0) by omega)]
            exact hb
          · simp only [if_neg (show ¬ ((i : Int) > 0) by omega)]
            exact hb
        · rw [hj]
          constructor
          · intro H j h1 h2
            by_cases e : j = i
            · rw [e]; exact ⟨c, c2⟩
            · exact H j (by omega) h2
          · intro H j h1 h2
            exact H j (by omega) h2
      · have p : 0 < i := by
          rcases Nat.eq_zero_or_pos i with z | z
          · exact absurd (fun hh => by omega) c2
          · exact z
        have c3 : ¬ l.getD (i - 1) 0 < l.getD i 0 := fun hh => c2 (fun _ => hh)
        refine ⟨false, ?_, ?_⟩
        · refine Ev.step (fun k => by rw [spec_l1Rising.l0]) ?_
          simp only [if_pos (show (i : Int) < (l.length : Int) by omega), if_pos (show (0 : Int) ≤ (i : Int) by omega), l1In_eq, rd_nat, decide_eq_true c, Option.bind_some, if_true]
          simp only [w p, rd_nat, if_pos (show (i : Int) > 0 by omega), if_pos (show (0 : Int) ≤ ((i - 1 : Nat) : Int) by omega), if_pos (show ((i - 1 : Nat) : Int) < (l.length : Int) by omega), if_pos (show (l.getD (i - 1) 0 ≥ l.getD i 0) by omega)]
          exact Ev.now _
        · exact ⟨fun H => (by cases H), fun H => absurd (H i (by omega) (by omega)).2 c2⟩
    · refine ⟨false, ?_, ?_⟩
      · refine Ev.step (fun k => by rw [spec_l1Rising.l0]) ?_
        simp only [if_pos (show (i : Int) < (l.length : Int) by omega), if_pos (show (0 : Int) ≤ (i : Int) by omega), l1In_eq, rd_nat, decide_eq_false c, Option.bind_some, Bool.false_eq_true, if_false]
        exact Ev.now _
      · exact ⟨fun H => (by cases H), fun H => absurd (H i (by omega) (by omega)).1 c⟩
theorem l1Rising_ev (lo hi : Int) (l : List Int) (hm : l.length ≤ 1099511627776) :
    ∃ b, Ev (fun k => spec_l1Rising.f k l lo hi) b ∧ (b = true ↔ ∀ j, j < l.length → (lo ≤ l.getD j 0 ∧ l.getD j 0 ≤ hi) ∧ (0 < j → l.getD (j - 1) 0 < l.getD j 0)) := by
  obtain ⟨b, hb, hj⟩ := l1Rising_loop lo hi l hm l.length 0 (by omega)
  exact ⟨b, hb, by rw [hj]; exact ⟨fun H j h => H j (by omega) h, fun H j _ h => H j h⟩⟩
theorem rises_loop (l : List Int) (hm : l.length ≤ 1099511627776) : ∀ (d i : Nat), 1 ≤ i → l.length ≤ i + d →
    ∃ b, Ev (fun k => impl_rises.l0 k l (i : Int)) b ∧ (b = true ↔ ∀ j, i ≤ j → j < l.length → l.getD (j - 1) 0 < l.getD j 0)
  | 0, i, h0, h => by
    refine ⟨true, ?_, by simp only [true_iff]; intro j h1 h2; omega⟩
    refine Ev.step (fun k => by rw [impl_rises.l0]) ?_
    simp only [if_neg (show ¬ ((i : Int) < (l.length : Int)) by omega)]
    exact Ev.now _
  | d + 1, i, h0, h => by
    by_cases hlt : i < l.length
    · have w : wrap64 ((i : Int) - 1) = ((i - 1 : Nat) : Int) := by rw [wrap_id _ (by omega) (by omega)]; omega
      by_cases c : l.getD (i - 1) 0 < l.getD i 0
      · obtain ⟨b, hb, hj⟩ := rises_loop l hm d (i + 1) (by omega) (by omega)
        refine ⟨b, ?_, ?_⟩
        · refine Ev.step (fun k => by rw [impl_rises.l0]) ?_
          simp only [w, rd_nat, if_pos (show (i : Int) < (l.length : Int) by omega), if_pos (show (0 : Int) ≤ (i : Int) by omega), if_pos (show (0 : Int) ≤ ((i - 1 : Nat) : Int) by omega), if_pos (show ((i - 1 : Nat) : Int) < (l.length : Int) by omega), if_neg (show ¬ (l.getD (i - 1) 0 ≥ l.getD i 0) by omega)]
          rw [wrap_succ i (by omega)]
          exact hb
        · rw [hj]
          constructor
          · intro H j h1 h2
            by_cases e : j = i
            · rw [e]; exact c
            · exact H j (by omega) h2
          · intro H j h1 h2
            exact H j (by omega) h2
      · refine ⟨false, ?_, ?_⟩
        · refine Ev.step (fun k => by rw [impl_rises.l0]) ?_
          simp only [w, rd_nat, if_pos (show (i : Int) < (l.length : Int) by omega), if_pos (show (0 : Int) ≤ (i : Int) by omega), if_pos (show (0 : Int) ≤ ((i - 1 : Nat) : Int) by omega), if_pos (show ((i - 1 : Nat) : Int) < (l.length : Int) by omega), if_pos (show (l.getD (i - 1) 0 ≥ l.getD i 0) by omega)]
          exact Ev.now _
        · exact ⟨fun H => (by cases H), fun H => absurd (H i (by omega) hlt) c⟩
    · exact rises_loop l hm 0 i h0 (by omega)
theorem rises_ev (l : List Int) (hm : l.length ≤ 1099511627776) :
    ∃ b, Ev (fun k => impl_rises.f k l) b ∧ (b = true ↔ ∀ j, 0 < j → j < l.length → l.getD (j - 1) 0 < l.getD j 0) :=
  rises_loop l hm l.length 1 (by omega) (by omega)

theorem up_to (l : List Int) (h : ∀ j, 0 < j → j < l.length → l.getD (j - 1) 0 < l.getD j 0) : ∀ (d i : Nat), i + d < l.length → l.getD i 0 ≤ l.getD (i + d) 0
  | 0, i, _ => by simp
  | d + 1, i, hd => by
    have a := up_to l h d i (by omega)
    have b := h (i + d + 1) (by omega) (by omega)
    rw [Nat.add_sub_cancel] at b
    rw [← Nat.add_assoc]
    omega

theorem areWithin_eq (l : List Int) (lo hi : Int) (hm : l.length ≤ 1099511627776) :
    ∃ b, impl_areWithin.f l lo hi = some b ∧ (b = true ↔ ∀ j, j < l.length → lo ≤ l.getD j 0 ∧ l.getD j 0 ≤ hi) := by
  refine ⟨_, by unfold impl_areWithin.f; rw [if_pos (by omega)], ?_⟩
  rw [Bool.not_eq_true', List.any_eq_false]
  constructor
  · intro H j hj
    have := H (l.getD j 0) (by rw [List.getD_eq_getElem?_getD, List.getElem?_eq_getElem hj]; exact List.getElem_mem hj)
    simpa using this
  · intro H x hx
    obtain ⟨j, hj, rfl⟩ := List.getElem_of_mem hx
    have := H j hj
    rw [List.getD_eq_getElem?_getD, List.getElem?_eq_getElem hj] at this
    simpa using this

theorem within_eq (x lo hi : Int) : impl_within.f x lo hi = some (decide (lo ≤ x ∧ x ≤ hi)) := by
  unfold impl_within.f
  by_cases c : lo ≤ x
  · rw [if_pos c]; congr 1; by_cases d : x ≤ hi
    · rw [decide_eq_true d, decide_eq_true ⟨c, d⟩]
    · rw [decide_eq_false d, decide_eq_false (fun h => d h.2)]
  · rw [if_neg c, decide_eq_false (fun h => c h.1)]

/-- What stamps are. -/
def Stamps (l : List Int) : Prop := (1 ≤ l.length ∧ l.length ≤ 6) ∧ (∀ j, j < l.length → 1 ≤ l.getD j 0 ∧ l.getD j 0 ≤ 500) ∧ ∀ j, 0 < j → j < l.length → l.getD (j - 1) 0 < l.getD j 0
theorem stGood_ev (l : List Int) (hm : l.length ≤ 1099511627776) : ∃ b, Ev (fun k => spec_stGood.f k l) b ∧ (b = true ↔ Stamps l) := by
  unfold spec_stGood.f
  simp only [l1In_eq, Option.bind_some]
  by_cases c : 1 ≤ (l.length : Int) ∧ (l.length : Int) ≤ 6
  · simp only [decide_eq_true c, if_true]
    obtain ⟨b, hb, jb⟩ := l1Rising_ev 1 500 l hm
    refine ⟨b, Ev.bind hb (Ev.now _), ?_⟩
    rw [jb]
    exact ⟨fun H => ⟨by omega, fun j h => (H j h).1, fun j h0 h => (H j h).2 h0⟩, fun H j h => ⟨H.2.1 j h, fun h0 => H.2.2 j h0 h⟩⟩
  · simp only [decide_eq_false c, Bool.false_eq_true, if_false]
    exact ⟨false, Ev.now _, fun H => (by cases H), fun H => absurd H.1 (by omega)⟩
theorem areStamps_ev (l : List Int) (hm : l.length ≤ 1099511627776) : ∃ b, Ev (fun k => impl_AreStamps.f k l) b ∧ (b = true ↔ Stamps l) := by
  unfold impl_AreStamps.f
  simp only [within_eq, Option.bind_some]
  by_cases c : 1 ≤ (l.length : Int) ∧ (l.length : Int) ≤ 6
  · simp only [decide_eq_true c, if_true]
    obtain ⟨a, ha, ja⟩ := areWithin_eq l 1 500 hm
    rw [ha]
    cases a with
    | true =>
      obtain ⟨b, hb, jb⟩ := rises_ev l hm
      refine ⟨b, ?_, ?_⟩
      · simp only [Option.bind_some, if_true]
        exact Ev.bind hb (Ev.now _)
      · rw [jb]
        exact ⟨fun H => ⟨by omega, ja.1 rfl, H⟩, fun H => H.2.2⟩
    | false =>
      refine ⟨false, ?_, fun H => (by cases H), fun H => ja.2 H.2.1⟩
      simp only [Option.bind_some, Bool.false_eq_true, if_false]
      exact Ev.now _
  · simp only [decide_eq_false c, Bool.false_eq_true, if_false]
    exact ⟨false, Ev.now _, fun H => (by cases H), fun H => absurd H.1 (by omega)⟩
theorem stamps_same (l : List Int) (hm : l.length ≤ 1099511627776) : ∃ b, Ev (fun k => spec_stGood.f k l) b ∧ Ev (fun k => impl_AreStamps.f k l) b ∧ (b = true ↔ Stamps l) := by
  obtain ⟨b, hb, jb⟩ := stGood_ev l hm
  obtain ⟨c, hc, jc⟩ := areStamps_ev l hm
  have e := bool_same jb jc
  subst e
  exact ⟨b, hb, hc, jb⟩
theorem Stamps.last {l : List Int} (g : Stamps l) (j : Nat) (h : j < l.length) : l.getD j 0 ≤ l.getD (l.length - 1) 0 := by
  have c := up_to l g.2.2 (l.length - 1 - j) j (by have := g.1; omega)
  rw [show j + (l.length - 1 - j) = l.length - 1 by omega] at c
  exact c

theorem areStamped_ev (l : List Int) (g : Stamps l) (hi : Ev (fun k => impl_AreStamps.f k l) true) (a1 a2 : Int) : Ev (fun k => impl_areStamped.f k l a1 a2) (decide (1 ≤ a1 ∧ a1 ≤ 8) && decide (0 ≤ a2 ∧ a2 ≤ 4000)) := by
  unfold impl_areStamped.f
  refine Ev.bind hi ?_
  simp only [if_true, within_eq, Option.bind_some]
  cases h : decide (1 ≤ a1 ∧ a1 ≤ 8) with
  | true =>
    simp only [if_true, Bool.true_and]
    exact Ev.now _
  | false =>
    simp only [Bool.false_eq_true, if_false, Bool.false_and]
    exact Ev.now _
theorem areStamped_no (l : List Int) (hi : Ev (fun k => impl_AreStamps.f k l) false) (a1 a2 : Int) : Ev (fun k => impl_areStamped.f k l a1 a2) false := by
  unfold impl_areStamped.f
  refine Ev.bind hi ?_
  simp only [Bool.false_eq_true, if_false]
  exact Ev.now _

theorem stRoom_ev (l : List Int) (b : Bool) (hs : Ev (fun k => spec_stGood.f k l) b) (a1 : Int) : Ev (fun k => spec_stRoom.f k l a1) (b && decide (1 ≤ a1 ∧ a1 ≤ 8)) := by
  unfold spec_stRoom.f
  refine Ev.bind hs ?_
  cases b with
  | true => simp only [if_true, l1In_eq, Option.bind_some, Bool.true_and]; exact Ev.now _
  | false => simp only [Bool.false_eq_true, if_false, Bool.false_and]; exact Ev.now _

/-- What the two tables tell of one value: the same number, or each its word for none. -/
def Rel (m L : Int) (v : Nat) (a b : Int) : Prop := (a = b ∧ 0 ≤ a ∧ a ≤ v ∧ (v : Int) ≤ a * L) ∨ (0 < v ∧ a = m + 1 ∧ b = 1000000)
theorem least_eq (a b : Int) : spec_l1Least.f a b = some (mn a b) := by
  unfold spec_l1Least.f mn
  by_cases c : a < b
  · rw [if_pos c, if_neg (by omega)]
  · rw [if_neg c]
    by_cases d : b < a
    · rw [if_pos d]
    · rw [if_neg d]; congr 1; omega
theorem rel_step {m L : Int} {v : Nat} {a b a' b' : Int} (s : Int) (hs : 1 ≤ s) (hsL : s ≤ L) (hsv : s ≤ v) (hv : (v : Int) ≤ m) (hm : m ≤ 900000) (h : Rel m L v a b) (h' : Rel m L ((v : Int) - s).toNat a' b') :
    Rel m L v (mn a (wrap64 (a' + 1))) (mn b (wrap64 (b' + 1))) := by
  have e : ((((v : Int) - s).toNat : Nat) : Int) = (v : Int) - s := by omega
  unfold Rel at h h' ⊢
  rw [e] at h'
  have hL : (a' + 1) * L = a' * L + L := by rw [Int.add_mul, Int.one_mul]
  rcases h with ⟨h1, h2, h3, h4⟩ | ⟨h0, h1, h2⟩ <;> rcases h' with ⟨k1, k2, k3, k4⟩ | ⟨k0, k1, k2⟩
  · rw [wrap_id _ (by omega) (by omega), wrap_id _ (by omega) (by omega)]
    left
    unfold mn
    subst h1 k1
    refine ⟨rfl, ?_, ?_, ?_⟩
    · split <;> omega
    · split <;> omega
    · split
      · rw [hL]; omega
      · exact h4
  · rw [wrap_id _ (by omega) (by omega), wrap_id _ (by omega) (by omega)]
    left
    unfold mn
    rw [if_neg (by omega), if_neg (by omega)]
    exact ⟨h1, h2, h3, h4⟩
  · rw [wrap_id _ (by omega) (by omega), wrap_id _ (by omega) (by omega)]
    left
    unfold mn
    rw [if_pos (by omega), if_pos (by omega), hL]
    omega
  · rw [wrap_id _ (by omega) (by omega), wrap_id _ (by omega) (by omega)]
    right
    unfold mn
    rw [if_neg (by omega), if_neg (by omega)]
    exact ⟨h0, h1, h2⟩
theorem set_getD (t : List Int) (v j : Nat) (x : Int) (h : v < t.length) : (t.set v x).getD j 0 = if v = j then x else t.getD j 0 := by
  rw [List.getD_eq_getElem?_getD, List.getElem?_set, List.getD_eq_getElem?_getD]
  by_cases c : v = j
  · subst c; rw [if_pos rfl, if_pos h, if_pos rfl]; rfl
  · rw [if_neg c, if_neg c]
theorem few_inner (l : List Int) (g : Stamps l) (m : Int) (hm0 : 0 ≤ m) (hm : m ≤ 900000) (v : Nat) (hv1 : 1 ≤ v) (hv : (v : Int) ≤ m) : ∀ (d i : Nat) (t u : List Int), i + d = l.length → (t.length : Int) = m + 1 → (u.length : Int) = m + 1 →
    (∀ j, j ≤ v → Rel m (l.getD (l.length - 1) 0) j (t.getD j 0) (u.getD j 0)) →
    ∃ t' u' : List Int, (t'.length : Int) = m + 1 ∧ (u'.length : Int) = m + 1 ∧ (∀ j, j ≤ v → Rel m (l.getD (l.length - 1) 0) j (t'.getD j 0) (u'.getD j 0)) ∧
      (∀ r, Ev (fun k => impl_fewStamps.l0 k l m t' (wrap64 ((v : Int) + 1))) r → Ev (fun k => impl_fewStamps.l1 k l m t v l (l.length : Int) (i : Int)) r) ∧
      (∀ r, Ev (fun k => spec_stFew.l0 k l m u' (wrap64 ((v : Int) + 1))) r → Ev (fun k => spec_stFew.l1 k l m u v l (l.length : Int) (i : Int)) r)
  | 0, i, t, u, h, ht, hu, hr => by
    refine ⟨t, u, ht, hu, hr, fun r H => ?_, fun r H => ?_⟩
    · refine Ev.step (fun k => by rw [impl_fewStamps.l1]) ?_
      simp only [if_neg (show ¬ ((i : Int) < (l.length : Int)) by omega)]
      exact H
    · refine Ev.step (fun k => by rw [spec_stFew.l1]) ?_
      simp only [if_neg (show ¬ ((i : Int) < (l.length : Int)) by omega)]
      exact H
  | d + 1, i, t, u, h, ht, hu, hr => by
    have hs := g.2.1 i (by omega)
    have hL := g.last i (by omega)
    have e0 : rd l (i : Int) = l.getD i 0 := rfl
    by_cases c : rd l (i : Int) ≤ (v : Int)
    · have w : wrap64 ((v : Int) - rd l (i : Int)) = ((((v : Int) - l.getD i 0).toNat : Nat) : Int) := by rw [e0, wrap_id _ (by omega) (by omega)]; omega
      have lt : ((v : Int) - l.getD i 0).toNat < v := by omega
      generalize hq : ((v : Int) - l.getD i 0).toNat = q at w lt
      have st := rel_step (l.getD i 0) hs.1 hL (by omega) hv hm (hr v (Nat.le_refl _)) (by rw [hq]; exact hr q (by omega))
      obtain ⟨t', u', h1, h2, h3, h4, h5⟩ := few_inner l g m hm0 hm v hv1 hv d (i + 1) (t.set v (mn (t.getD v 0) (wrap64 (t.getD q 0 + 1)))) (u.set v (mn (u.getD v 0) (wrap64 (u.getD q 0 + 1)))) (by omega) (by simpa using ht) (by simpa using hu) (fun j hj => by
        rw [set_getD t v j _ (by omega), set_getD u v j _ (by omega)]
        by_cases e : v = j
        · subst e; rw [if_pos rfl, if_pos rfl]; exact st
        · rw [if_neg e, if_neg e]; exact hr j hj)
      refine ⟨t', u', h1, h2, h3, fun r H => ?_, fun r H => ?_⟩
      · have H2 := h4 r H
        refine Ev.step (fun k => by rw [impl_fewStamps.l1]) ?_
        simp only [if_pos (show (i : Int) < (l.length : Int) by omega), if_pos (show (0 : Int) ≤ (i : Int) by omega), if_pos c, w, if_pos (show (0 : Int) ≤ (v : Int) by omega), if_pos (show (v : Int) < (t.length : Int) by omega), if_pos (show (0 : Int) ≤ (q : Int) by omega), if_pos (show (q : Int) < (t.length : Int) by omega)]
        rw [wrap_succ i (by have := g.1; omega)]
        exact H2
      · have H2 := h5 r H
        refine Ev.step (fun k => by rw [spec_stFew.l1]) ?_
        simp only [if_pos (show (i : Int) < (l.length : Int) by omega), if_pos (show (0 : Int) ≤ (i : Int) by omega), if_pos c, w, if_pos (show (0 : Int) ≤ (v : Int) by omega), if_pos (show (v : Int) < (u.length : Int) by omega), if_pos (show (0 : Int) ≤ (q : Int) by omega), if_pos (show (q : Int) < (u.length : Int) by omega), least_eq, Option.bind_some]
        rw [wrap_succ i (by have := g.1; omega)]
        exact H2
    · obtain ⟨t', u', h1, h2, h3, h4, h5⟩ := few_inner l g m hm0 hm v hv1 hv d (i + 1) t u (by omega) ht hu hr
      refine ⟨t', u', h1, h2, h3, fun r H => ?_, fun r H => ?_⟩
      · have H2 := h4 r H
        refine Ev.step (fun k => by rw [impl_fewStamps.l1]) ?_
        simp only [if_pos (show (i : Int) < (l.length : Int) by omega), if_pos (show (0 : Int) ≤ (i : Int) by omega), if_neg c]
        rw [wrap_succ i (by have := g.1; omega)]
        exact H2
      · have H2 := h5 r H
        refine Ev.step (fun k => by rw [spec_stFew.l1]) ?_
        simp only [if_pos (show (i : Int) < (l.length : Int) by omega), if_pos (show (0 : Int) ≤ (i : Int) by omega), if_neg c]
        rw [wrap_succ i (by have := g.1; omega)]
        exact H2
theorem few_outer (l : List Int) (g : Stamps l) (m : Int) (hm0 : 0 ≤ m) (hm : m ≤ 900000) : ∀ (d v : Nat) (t u : List Int), 1 ≤ v → (v : Int) + d = m + 1 → (t.length : Int) = m + 1 → (u.length : Int) = m + 1 →
    (∀ j, j < v → Rel m (l.getD (l.length - 1) 0) j (t.getD j 0) (u.getD j 0)) →
    ∃ r s : List Int, (r.length : Int) = m + 1 ∧ (s.length : Int) = m + 1 ∧ (∀ j : Nat, (j : Int) ≤ m → Rel m (l.getD (l.length - 1) 0) j (r.getD j 0) (s.getD j 0)) ∧
      Ev (fun k => impl_fewStamps.l0 k l m t (v : Int)) r ∧ Ev (fun k => spec_stFew.l0 k l m u (v : Int)) s
  | 0, v, t, u, h0, h, ht, hu, hr => by
    refine ⟨t, u, ht, hu, fun j hj => hr j (by omega), ?_, ?_⟩
    · refine Ev.step (fun k => by rw [impl_fewStamps.l0]) ?_
      simp only [if_neg (show ¬ ((v : Int) ≤ m) by omega)]
      exact Ev.now _
    · refine Ev.step (fun k => by rw [spec_stFew.l0]) ?_
      simp only [if_neg (show ¬ ((v : Int) ≤ m) by omega)]
      exact Ev.now _
  | d + 1, v, t, u, h0, h, ht, hu, hr => by
    obtain ⟨t', u', h1, h2, h3, h4, h5⟩ := few_inner l g m hm0 hm v h0 (by omega) l.length 0 (t.set v (wrap64 (m + 1))) (u.set v 1000000) (by omega) (by simpa using ht) (by simpa using hu) (fun j hj => by
      rw [set_getD t v j _ (by omega), set_getD u v j _ (by omega)]
      by_cases e : v = j
      · subst e; rw [if_pos rfl, if_pos rfl]; exact .inr ⟨by omega, wrap_id _ (by omega) (by omega), rfl⟩
      · rw [if_neg e, if_neg e]; exact hr j (by omega))
    obtain ⟨r, s, k1, k2, k3, k4, k5⟩ := few_outer l g m hm0 hm d (v + 1) t' u' (by omega) (by omega) h1 h2 (fun j hj => h3 j (by omega))
    refine ⟨r, s, k1, k2, k3, ?_, ?_⟩
    · have H2 := h4 r (by rw [wrap_succ v (by omega)]; exact k4)
      refine Ev.step (fun k => by rw [impl_fewStamps.l0]) ?_
      simp only [if_pos (show ((v : Int) ≤ m) by omega), if_pos (show (0 : Int) ≤ (v : Int) by omega), if_pos (show (v : Int) < (t.length : Int) by omega)]
      exact H2
    · have H2 := h5 s (by rw [wrap_succ v (by omega)]; exact k5)
      refine Ev.step (fun k => by rw [spec_stFew.l0]) ?_
      simp only [if_pos (show ((v : Int) ≤ m) by omega), if_pos (show (0 : Int) ≤ (v : Int) by omega), if_pos (show (v : Int) < (u.length : Int) by omega)]
      exact H2
/-- The tables of the program and of the reference tell the same. -/
theorem few_ev (l : List Int) (g : Stamps l) (m : Int) (hm0 : 0 ≤ m) (hm : m ≤ 900000) :
    ∃ r s : List Int, (r.length : Int) = m + 1 ∧ (s.length : Int) = m + 1 ∧ (∀ j : Nat, (j : Int) ≤ m → Rel m (l.getD (l.length - 1) 0) j (r.getD j 0) (s.getD j 0)) ∧
      Ev (fun k => impl_fewStamps.f k l m) r ∧ Ev (fun k => spec_stFew.f k l m) s := by
  obtain ⟨r, s, h1, h2, h3, h4, h5⟩ := few_outer l g m hm0 hm m.toNat 1 (List.replicate (m + 1).toNat 0) (List.replicate (m + 1).toNat 0) (by omega) (by omega) (by simp; omega) (by simp; omega) (fun j hj => by
    have : j = 0 := by omega
    subst this
    have e : (List.replicate (m + 1).toNat (0 : Int)).getD 0 0 = 0 := by
      rw [List.getD_eq_getElem?_getD, List.getElem?_replicate, if_pos (by omega)]; rfl
    rw [e]
    exact .inl ⟨rfl, by simp⟩)
  refine ⟨r, s, h1, h2, h3, ?_, ?_⟩
  · unfold impl_fewStamps.f
    rw [wrap_id _ (by omega) (by omega)]
    simp only [if_pos (show 0 ≤ m + 1 by omega), if_pos (show (m + 1).toNat ≤ 35184372088832 by omega)]
    exact h4
  · unfold spec_stFew.f
    rw [wrap_id _ (by omega) (by omega)]
    simp only [if_pos (show 0 ≤ m + 1 by omega), if_pos (show (m + 1).toNat ≤ 35184372088832 by omega)]
    exact h5

theorem first_where (p : Nat → Prop) : ∀ n, (∃ i, i < n ∧ p i ∧ ∀ j, j < i → ¬ p j) ∨ ∀ j, j < n → ¬ p j
  | 0 => .inr (fun j h => by omega)
  | n + 1 => by
    rcases first_where p n with ⟨i, h1, h2, h3⟩ | h1
    · exact .inl ⟨i, by omega, h2, h3⟩
    · by_cases c : p n
      · exact .inl ⟨n, by omega, c, h1⟩
      · refine .inr (fun j hj => ?_)
        by_cases e : j = n
        · rw [e]; exact c
        · exact h1 j (by omega)
theorem stReach_loop (room : Int) (s : List Int) (j0 : Nat) (h0 : 1 ≤ j0) (hl : j0 < s.length) (hm : s.length ≤ 1099511627776) (hlt : ∀ j, j < j0 → s.getD j 0 ≤ room) (hj : ¬ s.getD j0 0 ≤ room) : ∀ (d p : Nat), p + d + 1 = j0 →
    Ev (fun k => spec_stReach.l0 k room s (p : Int)) ((j0 : Int) - 1)
  | 0, p, h => by
    refine Ev.step (fun k => by rw [spec_stReach.l0]) ?_
    rw [wrap_succ p (by omega)]
    have e : ¬ rd s ((p + 1 : Nat) : Int) ≤ room := by rw [show p + 1 = j0 by omega]; exact hj
    simp only [if_pos (show ((p + 1 : Nat) : Int) < (s.length : Int) by omega), if_pos (show (0 : Int) ≤ ((p + 1 : Nat) : Int) by omega), if_neg e]
    rw [show (j0 : Int) - 1 = (p : Int) by omega]
    exact Ev.now _
  | d + 1, p, h => by
    refine Ev.step (fun k => by rw [spec_stReach.l0]) ?_
    rw [wrap_succ p (by omega)]
    have e : rd s ((p + 1 : Nat) : Int) ≤ room := hlt (p + 1) (by omega)
    simp only [if_pos (show ((p + 1 : Nat) : Int) < (s.length : Int) by omega), if_pos (show (0 : Int) ≤ ((p + 1 : Nat) : Int) by omega), if_pos e]
    exact stReach_loop room s j0 h0 hl hm hlt hj d (p + 1) (by omega)
/-- The reach, as the program and as the reference tell it. -/
theorem reach_ev (l : List Int) (g : Stamps l) (room : Int) (h1 : 1 ≤ room) (h8 : room ≤ 8) :
    ∃ r, Ev (fun k => spec_stReach.f k l room) r ∧ Ev (fun k => impl_reach.f k l room) r ∧ 0 ≤ r ∧ r ≤ room * l.getD (l.length - 1) 0 := by
  have gl := g.1
  have gL := g.2.1 (l.length - 1) (by omega)
  have w : wrap64 ((l.length : Int) - 1) = ((l.length - 1 : Nat) : Int) := by rw [wrap_id _ (by omega) (by omega)]; omega
  have e0 : rd l ((l.length - 1 : Nat) : Int) = l.getD (l.length - 1) 0 := rfl
  obtain ⟨L, hL⟩ : ∃ L, l.getD (l.length - 1) 0 = L := ⟨_, rfl⟩
  rw [hL] at gL e0
  have b0 : 0 ≤ room * L := Int.mul_nonneg (by omega) (by omega)
  have b1 : room * L ≤ 8 * 500 := Int.mul_le_mul h8 gL.2 (by omega) (by omega)
  obtain ⟨r, s, k1, k2, k3, k4, k5⟩ := few_ev l g (room * L + 1) (by omega) (by omega)
  rw [hL] at k3
  have top : r.getD (room * L + 1).toNat 0 > room := by
    rcases k3 (room * L + 1).toNat (by omega) with ⟨q1, q2, q3, q4⟩ | ⟨q0, q1, q2⟩
    · rcases Int.lt_or_le room (r.getD (room * L + 1).toNat 0) with z | z
      · exact z
      · have := Int.mul_le_mul_of_nonneg_right z (show 0 ≤ L by omega)
        omega
    · have : room ≤ room * L := by have z := Int.mul_le_mul_of_nonneg_left (show (1 : Int) ≤ L by omega) (show 0 ≤ room by omega); rw [Int.mul_one] at z; exact z
      omega
  rcases first_where (fun j => r.getD j 0 > room) ((room * L + 1).toNat + 1) with ⟨j0, i1, i2, i3⟩ | no
  · have same : ∀ j : Nat, (j : Int) ≤ room * L + 1 → (s.getD j 0 ≤ room ↔ r.getD j 0 ≤ room) := by
      intro j hj
      have : room ≤ room * L := by have z := Int.mul_le_mul_of_nonneg_left (show (1 : Int) ≤ L by omega) (show 0 ≤ room by omega); rw [Int.mul_one] at z; exact z
      rcases k3 j hj with ⟨q1, q2, q3, q4⟩ | ⟨q0, q1, q2⟩ <;> omega
    have j1 : 1 ≤ j0 := by
      rcases Nat.eq_zero_or_pos j0 with z | z
      · subst z
        have h0 := k3 0 (by omega)
        have : room ≤ room * L := by have z := Int.mul_le_mul_of_nonneg_left (show (1 : Int) ≤ L by omega) (show 0 ≤ room by omega); rw [Int.mul_one] at z; exact z
        exfalso
        have ii : r.getD 0 0 > room := i2
        rcases h0 with ⟨q1, q2, q3, q4⟩ | ⟨q0, q1, q2⟩
        · omega
        · omega
      · exact z
    refine ⟨(j0 : Int) - 1, ?_, ?_, by omega, by rw [hL]; omega⟩
    · unfold spec_stReach.f
      rw [w]
      simp only [if_pos (show (0 : Int) ≤ ((l.length - 1 : Nat) : Int) by omega), if_pos (show ((l.length - 1 : Nat) : Int) < (l.length : Int) by omega), e0]
      rw [wrap_id (room * L) (by omega) (by omega), wrap_id (room * L + 1) (by omega) (by omega)]
      refine Ev.bind k5 ?_
      exact stReach_loop room s j0 j1 (by omega) (by omega) (fun j hj => (same j (by omega)).2 (by have : ¬ r.getD j 0 > room := i3 j hj; omega)) (fun h => by have := (same j0 (by omega)).1 h; have ii : r.getD j0 0 > room := i2; omega) (j0 - 1) 0 (by omega)
    · unfold impl_reach.f
      rw [w]
      simp only [if_pos (show (0 : Int) ≤ ((l.length - 1 : Nat) : Int) by omega), if_pos (show ((l.length - 1 : Nat) : Int) < (l.length : Int) by omega), e0]
      rw [wrap_id (room * L) (by omega) (by omega), wrap_id (room * L + 1) (by omega) (by omega)]
      refine Ev.bind k4 ?_
      have hx : hwIdx (fun x => decide (x > room)) r = (j0 : Int) := hwIdx_hit _ r j0 (by omega) (fun j hj => by have : ¬ r.getD j 0 > room := i3 j hj; exact decide_eq_false this) (decide_eq_true i2)
      simp only [if_pos (show r.length < 4611686018427387904 by omega), hx]
      rw [wrap_id _ (by omega) (by omega)]
      exact Ev.now _
  · exact absurd top (no _ (by omega))

theorem without_eq (l : List Int) (i : Nat) (hi : i < l.length) (hm : l.length ≤ 1099511627776) : impl_without.f l (i : Int) = some (l.eraseIdx i) := by
  unfold impl_without.f
  rw [if_pos (by omega), if_pos (by omega), if_pos (by omega), Int.toNat_natCast]

theorem own_eq (l : List Int) (h : l.length < 17592186044416) : spec_l1Own.f l = some l := by
  unfold spec_l1Own.f
  show (if (List.length ([] : List Int)) + l.length < 17592186044416 then some ([] ++ l) else none) = some l
  rw [if_pos (by rw [List.length_nil, Nat.zero_add]; exact h), List.nil_append]
theorem erase_getD (l : List Int) (i j : Nat) : (l.eraseIdx i).getD j 0 = if j < i then l.getD j 0 else l.getD (j + 1) 0 := by
  rw [List.getD_eq_getElem?_getD, List.getElem?_eraseIdx]
  split <;> rw [List.getD_eq_getElem?_getD]
theorem stamps_erase (l : List Int) (g : Stamps l) (h : 2 ≤ l.length) (i : Nat) (hi : i < l.length) : Stamps (l.eraseIdx i) := by
  have gl := g.1
  have len : (l.eraseIdx i).length = l.length - 1 := List.length_eraseIdx_of_lt hi
  refine ⟨by omega, ?_, ?_⟩
  · intro j hj
    rw [len] at hj
    rw [erase_getD]
    split
    · exact g.2.1 j (by omega)
    · exact g.2.1 (j + 1) (by omega)
  · intro j h0 hj
    rw [len] at hj
    rw [erase_getD, erase_getD]
    have a := g.2.2 j h0 (by omega)
    have b := g.2.2 (j + 1) (by omega) (by omega)
    rw [Nat.add_sub_cancel] at b
    by_cases c : j < i
    · rw [if_pos c, if_pos (by omega)]; exact a
    · rw [if_neg c]
      by_cases d : j - 1 < i
      · rw [if_pos d]; omega
      · rw [if_neg d, show j - 1 + 1 = j by omega]; exact b
theorem needless_loop (l : List Int) (g : Stamps l) (h2 : 2 ≤ l.length) (room : Int) (q1 : 1 ≤ room) (q8 : room ≤ 8) : ∀ (d i : Nat) (acc : List Int), i + d = l.length → acc.length ≤ i →
    ∃ r : List Int × Bool, r.1.length ≤ l.length ∧ Ev (fun k => spec_NeedlessStamps.l0 k l room acc l (l.length : Int) (i : Int)) r ∧ Ev (fun k => impl_NeedlessStamps.l0 k l room acc l (l.length : Int) (i : Int)) r
  | 0, i, acc, h, ha => by
    refine ⟨(acc, true), by simp only; omega, Ev.step (fun k => by rw [spec_NeedlessStamps.l0]) ?_, Ev.step (fun k => by rw [impl_NeedlessStamps.l0]) ?_⟩
    · simp only [if_neg (show ¬ (i : Int) < (l.length : Int) by omega)]
      exact Ev.now _
    · simp only [if_neg (show ¬ (i : Int) < (l.length : Int) by omega)]
      exact Ev.now _
  | d + 1, i, acc, h, ha => by
    have gl := g.1
    have hi : i < l.length := by omega
    obtain ⟨x, x1, x2, _⟩ := reach_ev l g room q1 q8
    obtain ⟨y, y1, y2, _⟩ := reach_ev (l.eraseIdx i) (stamps_erase l g h2 i hi) room q1 q8
    obtain ⟨r1, p1, s1, i1⟩ := needless_loop l g h2 room q1 q8 d (i + 1) acc (by omega) (by omega)
    obtain ⟨r2, p2, s2, i2⟩ := needless_loop l g h2 room q1 q8 d (i + 1) (acc ++ [rd l (i : Int)]) (by omega) (by simp; omega)
    have t2 : (l.take i).length + (l.drop (i + 1)).length < 17592186044416 := by rw [List.length_take, List.length_drop]; omega
    have hs : ∀ r, Ev (fun k => if y = x then (if acc.length < 17592186044416 then (spec_NeedlessStamps.l0 k l room (acc ++ [rd l (i : Int)]) l (l.length : Int) ((i + 1 : Nat) : Int)) else (none)) else (spec_NeedlessStamps.l0 k l room acc l (l.length : Int) ((i + 1 : Nat) : Int))) r →
        Ev (fun k => spec_NeedlessStamps.l0 k l room acc l (l.length : Int) (i : Int)) r := by
      intro r H
      refine Ev.step (fun k => by rw [spec_NeedlessStamps.l0]) ?_
      simp only [if_pos (show (i : Int) < (l.length : Int) by omega), if_pos (show (0 : Int) ≤ (i : Int) by omega), if_pos (show (i : Int) ≤ (l.length : Int) by omega)]
      rw [Int.toNat_natCast, wrap_succ i (by omega), Int.toNat_natCast]
      refine Ev.bind (a := l.take i) (by rw [own_eq _ (by rw [List.length_take]; omega)]; exact Ev.now _) ?_
      simp only [if_pos (show (0 : Int) ≤ ((i + 1 : Nat) : Int) by omega), if_pos (show ((i + 1 : Nat) : Int) ≤ (l.length : Int) by omega), if_pos t2]
      rw [← List.eraseIdx_eq_take_drop_succ]
      exact Ev.bind y1 (Ev.bind x1 H)
    have hii : ∀ r, Ev (fun k => if y = x then (if acc.length < 17592186044416 then (impl_NeedlessStamps.l0 k l room (acc ++ [rd l (i : Int)]) l (l.length : Int) ((i + 1 : Nat) : Int)) else (none)) else (impl_NeedlessStamps.l0 k l room acc l (l.length : Int) ((i + 1 : Nat) : Int))) r →
        Ev (fun k => impl_NeedlessStamps.l0 k l room acc l (l.length : Int) (i : Int)) r := by
      intro r H
      refine Ev.step (fun k => by rw [impl_NeedlessStamps.l0]) ?_
      simp only [if_pos (show (i : Int) < (l.length : Int) by omega), if_pos (show (0 : Int) ≤ (i : Int) by omega), without_eq l i hi (by omega), Option.bind_some]
      rw [wrap_succ i (by omega)]
      exact Ev.bind y2 (Ev.bind x2 H)
    by_cases c : y = x
    · refine ⟨r2, p2, hs _ ?_, hii _ ?_⟩
      · simp only [if_pos c, if_pos (show acc.length < 17592186044416 by omega)]; exact s2
      · simp only [if_pos c, if_pos (show acc.length < 17592186044416 by omega)]; exact i2
    · refine ⟨r1, p1, hs _ ?_, hii _ ?_⟩
      · simp only [if_neg c]; exact s1
      · simp only [if_neg c]; exact i1
theorem NeedlessStamps_same (l : List Int) (a : Int) (hm : l.length ≤ 1099511627776) : ∃ r : List Int × Bool, r.1.length ≤ 1099511627776 ∧ Ev (fun k => spec_NeedlessStamps.f k l a) r ∧ Ev (fun k => impl_NeedlessStamps.f k l a) r := by
  obtain ⟨b, hs, hi, jb⟩ := stamps_same l hm
  have hr := stRoom_ev l b hs a
  have no1 : ∀ k, spec_NeedlessStamps.j0 (k + 1) l a true = some ([], false) := fun k => by rw [spec_NeedlessStamps.j0]; rfl
  have no2 : ∀ k, impl_NeedlessStamps.j0 (k + 1) l a true = some ([], false) := fun k => by rw [impl_NeedlessStamps.j0]; rfl
  unfold spec_NeedlessStamps.f impl_NeedlessStamps.f
  cases b with
  | true =>
    have g := jb.1 rfl
    have gl := g.1
    have hq := areStamped_ev l g hi a 0
    rw [decide_eq_true (show (0 : Int) ≤ 0 ∧ (0 : Int) ≤ 4000 by omega), Bool.and_true] at hq
    rw [Bool.true_and] at hr
    by_cases c : 1 ≤ a ∧ a ≤ 8
    · rw [decide_eq_true c] at hr hq
      by_cases s : (l.length : Int) = 1
      · refine ⟨([], false), by simp, Ev.bind hr ?_, Ev.bind hq ?_⟩
        · simp only [if_true, s, beq_self_eq_true]
          exact Ev.step no1 (Ev.now _)
        · simp only [if_true, decide_eq_true (show (l.length : Int) < 2 by omega)]
          exact Ev.step no2 (Ev.now _)
      · obtain ⟨r, p, r1, r2⟩ := needless_loop l g (by omega) a c.1 c.2 l.length 0 [] (by omega) (by simp)
        refine ⟨r, by omega, Ev.bind hr ?_, Ev.bind hq ?_⟩
        · simp only [if_true, beq_eq_false_iff_ne.mpr s]
          refine Ev.step (fun k => by rw [spec_NeedlessStamps.j0]) ?_
          simp only [Bool.false_eq_true, if_false]
          exact r1
        · simp only [if_true, decide_eq_false (show ¬ (l.length : Int) < 2 by omega)]
          refine Ev.step (fun k => by rw [impl_NeedlessStamps.j0]) ?_
          simp only [Bool.false_eq_true, if_false]
          exact r2
    · rw [decide_eq_false c] at hr hq
      refine ⟨([], false), by simp, Ev.bind hr ?_, Ev.bind hq ?_⟩
      · simp only [Bool.false_eq_true, if_false]
        exact Ev.step no1 (Ev.now _)
      · simp only [Bool.false_eq_true, if_false]
        exact Ev.step no2 (Ev.now _)
  | false =>
    rw [Bool.false_and] at hr
    refine ⟨([], false), by simp, Ev.bind hr ?_, Ev.bind (areStamped_no l hi a 0) ?_⟩
    · simp only [Bool.false_eq_true, if_false]
      exact Ev.step no1 (Ev.now _)
    · simp only [Bool.false_eq_true, if_false]
      exact Ev.step no2 (Ev.now _)
theorem FnExactNeedlessStamps : laws_FnExactNeedlessStamps.Pure := by
  intro l0 a1 h1 h2 h3 w_a1
  apply Ev.rounds
  unfold laws_FnExactNeedlessStamps.f
  by_cases c : (l0.length : Int) > 1048576
  · simp only [if_pos c]; exact Ev.now _
  · simp only [if_neg c]
    have hm : l0.length ≤ 1099511627776 := by omega
    obtain ⟨⟨r1, r2⟩, hr, hs, hi⟩ := NeedlessStamps_same l0 a1 hm
    replace hr : r1.length ≤ 1099511627776 := hr
    obtain ⟨m0, hm0, hm1⟩ := mark_ev l0 hm
    obtain ⟨m2, hm2, hm3⟩ := mark_ev r1 hr
    refine Ev.bind (toInt_ev l0 hm) ?_
    refine Ev.bind hs ?_
    refine Ev.bind (toInt_ev l0 hm) ?_
    refine Ev.bind hi ?_
    refine Ev.bind (eq_ev r1 hr) ?_
    simp only [if_true, bne_self_eq_false]
    refine Ev.step (fun k => by rw [laws_FnExactNeedlessStamps.j0]) ?_
    simp only [Bool.false_eq_true, if_false]
    refine Ev.bind (toInt_ev l0 hm) ?_
    refine Ev.bind (eq_ev l0 hm) ?_
    simp only [if_true]
    refine Ev.bind hm0 ?_
    simp only [if_neg (show ¬ ((l0.length : Int) + 1 < 0) by omega)]
    refine Ev.bind (eq_ev r1 hr) ?_
    simp only [if_true, bne_self_eq_false]
    refine Ev.step (fun k => by rw [laws_FnExactNeedlessStamps.j1]) ?_
    simp only [Bool.false_eq_true, if_false]
    refine Ev.bind hm2 ?_
    refine Ev.bind hm3 ?_
    simp only [if_neg (show ¬ ((r1.length : Int) + 1 < 0) by omega), if_true]
    refine Ev.bind (toInt_ev l0 hm) ?_
    refine Ev.bind hi ?_
    refine Ev.bind (eq_ev r1 hr) ?_
    simp only [if_true, bne_self_eq_false]
    refine Ev.step (fun k => by rw [laws_FnExactNeedlessStamps.j2]) ?_
    simp only [Bool.false_eq_true, if_false]
    refine Ev.bind hm3 ?_
    simp only [if_neg (show ¬ ((r1.length : Int) + 1 < 0) by omega), if_true]
    exact Ev.now _

end Go.Proofs.Ytbabhmdncfffnaa.Pure
