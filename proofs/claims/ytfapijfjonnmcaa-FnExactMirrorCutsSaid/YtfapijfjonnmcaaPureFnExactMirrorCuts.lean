/- For every number and every list of whole numbers, the program's MirrorCuts tells what the reference's tells, in new memory, and the list reads as before. No conditions. -/
import Derived.Test.YtfapijfjonnmcaaPFnExactMirrorCutsx3
namespace Go.Proofs.Ytfapijfjonnmcaa.Pure
open Go.RowKit Go.Proofs.Ytfapijfjonnmcaa.PFnExactMirrorCuts Go.Proofs.YtfapijfjonnmcaaW.PrintWords Go.Proofs.YtfapijfjonnmcaaW.PrintLast
set_option linter.unusedVariables false
set_option linter.unusedSimpArgs false

theorem wrap_id (x : Int) (h0 : -9223372036854775808 ≤ x) (h1 : x ≤ 9223372036854775807) : wrap64 x = x := by
  unfold wrap64; omega
theorem wrap_succ (i : Nat) (h : i < 4611686018427387904) : wrap64 ((i : Int) + 1) = ((i + 1 : Nat) : Int) := by
  rw [wrap_id _ (by omega) (by omega)]; rfl
theorem rd_nat (l : List Int) (i : Nat) : rd l (i : Int) = l.getD i 0 := rfl
theorem getD_some (l : List Int) (i : Nat) (h : i < l.length) : l[i]? = some (l.getD i 0) := by
  rw [List.getD_eq_getElem?_getD, List.getElem?_eq_getElem h]; rfl
theorem bool_same {b c : Bool} {P : Prop} (hb : b = true ↔ P) (hc : c = true ↔ P) : b = c := by
  cases b <;> cases c <;> simp_all

theorem eq_loop (a : List Int) (hm : a.length ≤ 1099511627776) : ∀ (d i : Nat), i + d = a.length → Ev (fun k => laws_eqIntS.l0 k a a (i : Int)) true
  | 0, i, h => by
    refine Ev.step (fun k => by rw [laws_eqIntS.l0]) ?_
    simp only [if_neg (show ¬ ((i : Int) < (a.length : Int)) by omega)]
    exact Ev.now _
  | d + 1, i, h => by
    refine Ev.step (fun k => by rw [laws_eqIntS.l0]) ?_
    simp only [if_pos (show (i : Int) < (a.length : Int) by omega), if_pos (show (0 : Int) ≤ (i : Int) by omega), if_true]
    rw [wrap_succ i (by omega)]
    exact eq_loop a hm d (i + 1) (by omega)
theorem eq_ev (a : List Int) (hm : a.length ≤ 1099511627776) : Ev (fun k => laws_eqIntS.f k a a) true := by
  unfold laws_eqIntS.f
  simp only [if_true]
  exact eq_loop a hm a.length 0 (by omega)

theorem toInt_loop (l : List Int) (hm : l.length ≤ 1099511627776) : ∀ (d i : Nat) (cur : List Int), i + d = l.length → cur.length = l.length → (∀ j, j < i → cur[j]? = l[j]?) → Ev (fun k => laws_toIntS.l0 k l cur (i : Int)) l
  | 0, i, cur, h, hc, hj => by
    refine Ev.step (fun k => by rw [laws_toIntS.l0]) ?_
    simp only [if_neg (show ¬ ((i : Int) < (l.length : Int)) by omega)]
    have e : cur = l := by
      apply List.ext_getElem?
      intro j
      by_cases c : j < i
      · exact hj j c
      · rw [List.getElem?_eq_none (by omega), List.getElem?_eq_none (by omega)]
    rw [e]
    exact Ev.now _
  | d + 1, i, cur, h, hc, hj => by
    refine Ev.step (fun k => by rw [laws_toIntS.l0]) ?_
    simp only [if_pos (show (i : Int) < (l.length : Int) by omega), if_pos (show (0 : Int) ≤ (i : Int) by omega), if_pos (show (i : Int) < (cur.length : Int) by omega)]
    rw [wrap_succ i (by omega), Int.toNat_natCast, rd_nat]
    refine toInt_loop l hm d (i + 1) _ (by omega) (by rw [List.length_set]; exact hc) ?_
    intro j hlt
    rw [List.getElem?_set]
    by_cases c : i = j
    · subst c
      rw [if_pos rfl, if_pos (by omega), getD_some l i (by omega)]
    · rw [if_neg c]
      exact hj j (by omega)
theorem toInt_ev (l : List Int) (hm : l.length ≤ 1099511627776) : Ev (fun k => laws_toIntS.f k l) l := by
  unfold laws_toIntS.f
  simp only [if_pos (show (0 : Int) ≤ (l.length : Int) by omega), if_pos (show ((l.length : Int)).toNat ≤ 35184372088832 by omega)]
  exact toInt_loop l hm l.length 0 _ (by omega) (by simp) (fun j hj => by omega)

theorem mark_loop : ∀ (d i : Nat) (cur : List Int), i + d = cur.length → cur.length ≤ 1099511627776 → (∀ j, j < i → cur[j]? = some ((j : Int) + 1)) →
    ∃ m : List Int, m.length = cur.length ∧ (∀ j, j < m.length → m[j]? = some ((j : Int) + 1)) ∧ Ev (fun k => laws_markIntS.l0 k cur ((i : Int) + 1) (i : Int)) ((cur.length : Int) + 1, m)
  | 0, i, cur, h, hm, hj => by
    refine ⟨cur, rfl, fun j hlt => hj j (by omega), ?_⟩
    refine Ev.step (fun k => by rw [laws_markIntS.l0]) ?_
    simp only [if_neg (show ¬ ((i : Int) < (cur.length : Int)) by omega)]
    rw [show ((cur.length : Int) + 1) = ((i : Int) + 1) by omega]
    exact Ev.now _
  | d + 1, i, cur, h, hm, hj => by
    obtain ⟨m, h1, h2, h3⟩ := mark_loop d (i + 1) (cur.set i ((i : Int) + 1)) (by simp; omega) (by simpa using hm) (fun j hlt => by
      rw [List.getElem?_set]
      by_cases c : i = j
      · subst c; rw [if_pos rfl, if_pos (by omega)]
      · rw [if_neg c]; exact hj j (by omega))
    rw [List.length_set] at h1 h3
    refine ⟨m, h1, h2, ?_⟩
    refine Ev.step (fun k => by rw [laws_markIntS.l0]) ?_
    simp only [if_pos (show (i : Int) < (cur.length : Int) by omega), if_pos (show (0 : Int) ≤ (i : Int) by omega)]
    rw [wrap_succ i (by omega), Int.toNat_natCast, show wrap64 ((i : Int) + 1 + 1) = ((i + 1 : Nat) : Int) + 1 by rw [wrap_id _ (by omega) (by omega)]; omega]
    exact h3
theorem held_loop (m : List Int) (hm : m.length ≤ 1099511627776) (hj : ∀ j, j < m.length → m[j]? = some ((j : Int) + 1)) : ∀ (d i : Nat), i + d = m.length →
    Ev (fun k => laws_heldIntS.l0 k m ((i : Int) + 1) (i : Int)) ((m.length : Int) + 1)
  | 0, i, h => by
    refine Ev.step (fun k => by rw [laws_heldIntS.l0]) ?_
    simp only [if_neg (show ¬ ((i : Int) < (m.length : Int)) by omega)]
    rw [show ((m.length : Int) + 1) = ((i : Int) + 1) by omega]
    exact Ev.now _
  | d + 1, i, h => by
    refine Ev.step (fun k => by rw [laws_heldIntS.l0]) ?_
    have e : rd m (i : Int) = (i : Int) + 1 := by
      rw [rd_nat, List.getD_eq_getElem?_getD, hj i (by omega)]; rfl
    simp only [if_pos (show (i : Int) < (m.length : Int) by omega), if_pos (show (0 : Int) ≤ (i : Int) by omega), e, if_true]
    rw [wrap_succ i (by omega), show wrap64 ((i : Int) + 1 + 1) = ((i + 1 : Nat) : Int) + 1 by rw [wrap_id _ (by omega) (by omega)]; omega]
    exact held_loop m hm hj d (i + 1) (by omega)
theorem mark_ev (l : List Int) (hm : l.length ≤ 1099511627776) : ∃ m : List Int, Ev (fun k => laws_markIntS.f k l 1) ((l.length : Int) + 1, m) ∧ Ev (fun k => laws_heldIntS.f k m 1) ((l.length : Int) + 1) := by
  obtain ⟨m, h1, h2, h3⟩ := mark_loop l.length 0 l (by omega) hm (fun j h => by omega)
  refine ⟨m, h3, ?_⟩
  rw [← h1]
  exact held_loop m (by omega) h2 m.length 0 (by omega)

theorem l1In_eq (x lo hi : Int) : spec_l1In.f x lo hi = some (decide (lo ≤ x ∧ x ≤ hi)) := by
  unfold spec_l1In.f
  by_cases c : x ≥ lo
  · rw [if_pos c]; congr 1; by_cases d : x ≤ hi
    · rw [decide_eq_true d, decide_eq_true ⟨c, d⟩]
    · rw [decide_eq_false d, decide_eq_false (fun h => d h.2)]
  · rw [if_neg c, decide_eq_false (fun h => c h.1)]

theorem l1Rising_loop (lo hi : Int) (l : List Int) (hm : l.length ≤ 1099511627776) : ∀ (d i : Nat), i + d = l.length →
    ∃ b, Ev (fun k => spec_l1Rising.l0 k l lo hi l (l.length : Int) (i : Int)) b ∧ (b = true ↔ ∀ j, i ≤ j → j < l.length → (lo ≤ l.getD j 0 ∧ l.getD j 0 ≤ hi) ∧ (0 < j → l.getD (j - 1) 0 < l.getD j 0))
  | 0, i, h => by
    refine ⟨true, ?_, by simp only [true_iff]; intro j h1 h2; omega⟩
    refine Ev.step (fun k => by rw [spec_l1Rising.l0]) ?_
    simp only [if_neg (show ¬ ((i : Int) < (l.length : Int)) by omega)]
    exact Ev.now _
  | d + 1, i, h => by
    have w : 0 < i → wrap64 ((i : Int) - 1) = ((i - 1 : Nat) : Int) := fun h => by rw [wrap_id _ (by omega) (by omega)]; omega
    by_cases c : (lo ≤ l.getD i 0 ∧ l.getD i 0 ≤ hi)
    · by_cases c2 : 0 < i → l.getD (i - 1) 0 < l.getD i 0
      · obtain ⟨b, hb, hj⟩ := l1Rising_loop lo hi l hm d (i + 1) (by omega)
        refine ⟨b, ?_, ?_⟩
        · refine Ev.step (fun k => by rw [spec_l1Rising.l0]) ?_
          simp only [if_pos (show (i : Int) < (l.length : Int) by omega), if_pos (show (0 : Int) ≤ (i : Int) by omega), l1In_eq, rd_nat, decide_eq_true c, Option.bind_some, if_true]
          rw [wrap_succ i (by omega)]
          by_cases p : 0 < i
          · have c3 := c2 p
            simp only [w p, rd_nat, if_pos (show (i : Int) > 0 by omega), if_pos (show (0 : Int) ≤ ((i - 1 : Nat) : Int) by omega), if_pos (show ((i - 1 : Nat) : Int) < (l.length : Int) by omega), if_neg (show ¬ (l.getD (i - 1) 0 ≥ l.getD i 0) by omega)]
            exact hb
          · simp only [if_neg (show ¬ ((i : Int) > 0) by omega)]
            exact hb
        · rw [hj]
          constructor
          · intro H j h1 h2
            by_cases e : j = i
            · rw [e]; exact ⟨c, c2⟩
            · exact H j (by omega) h2
          · intro H j h1 h2
            exact H j (by omega) h2
      · have p : 0 < i := by
          rcases Nat.eq_zero_or_pos i with z | z
          · exact absurd (fun hh => by omega) c2
          · exact z
        have c3 : ¬ l.getD (i - 1) 0 < l.getD i 0 := fun hh => c2 (fun _ => hh)
        refine ⟨false, ?_, ?_⟩
        · refine Ev.step (fun k => by rw [spec_l1Rising.l0]) ?_
          simp only [if_pos (show (i : Int) < (l.length : Int) by omega), if_pos (show (0 : Int) ≤ (i : Int) by omega), l1In_eq, rd_nat, decide_eq_true c, Option.bind_some, if_true]
          simp only [w p, rd_nat, if_pos (show (i : Int) > 0 by omega), if_pos (show (0 : Int) ≤ ((i - 1 : Nat) : Int) by omega), if_pos (show ((i - 1 : Nat) : Int) < (l.length : Int) by omega), if_pos (show (l.getD (i - 1) 0 ≥ l.getD i 0) by omega)]
          exact Ev.now _
        · exact ⟨fun H => (by cases H), fun H => absurd (H i (by omega) (by omega)).2 c2⟩
    · refine ⟨false, ?_, ?_⟩
      · refine Ev.step (fun k => by rw [spec_l1Rising.l0]) ?_
        simp only [if_pos (show (i : Int) < (l.length : Int) by omega), if_pos (show (0 : Int) ≤ (i : Int) by omega), l1In_eq, rd_nat, decide_eq_false c, Option.bind_some, Bool.false_eq_true, if_false]
        exact Ev.now _
      · exact ⟨fun H => (by cases H), fun H => absurd (H i (by omega) (by omega)).1 c⟩
theorem l1Rising_ev (lo hi : Int) (l : List Int) (hm : l.length ≤ 1099511627776) :
    ∃ b, Ev (fun k => spec_l1Rising.f k l lo hi) b ∧ (b = true ↔ ∀ j, j < l.length → (lo ≤ l.getD j 0 ∧ l.getD j 0 ≤ hi) ∧ (0 < j → l.getD (j - 1) 0 < l.getD j 0)) := by
  obtain ⟨b, hb, hj⟩ := l1Rising_loop lo hi l hm l.length 0 (by omega)
  exact ⟨b, hb, by rw [hj]; exact ⟨fun H j h => H j (by omega) h, fun H j _ h => H j h⟩⟩
theorem rises_loop (l : List Int) (hm : l.length ≤ 1099511627776) : ∀ (d i : Nat), 1 ≤ i → l.length ≤ i + d →
    ∃ b, Ev (fun k => impl_rises.l0 k l (i : Int)) b ∧ (b = true ↔ ∀ j, i ≤ j → j < l.length → l.getD (j - 1) 0 < l.getD j 0)
  | 0, i, h0, h => by
    refine ⟨true, ?_, by simp only [true_iff]; intro j h1 h2; omega⟩
    refine Ev.step (fun k => by rw [impl_rises.l0]) ?_
    simp only [if_neg (show ¬ ((i : Int) < (l.length : Int)) by omega)]
    exact Ev.now _
  | d + 1, i, h0, h => by
    by_cases hlt : i < l.length
    · have w : wrap64 ((i : Int) - 1) = ((i - 1 : Nat) : Int) := by rw [wrap_id _ (by omega) (by omega)]; omega
      by_cases c : l.getD (i - 1) 0 < l.getD i 0
      · obtain ⟨b, hb, hj⟩ := rises_loop l hm d (i + 1) (by omega) (by omega)
        refine ⟨b, ?_, ?_⟩
        · refine Ev.step (fun k => by rw [impl_rises.l0]) ?_
          simp only [w, rd_nat, if_pos (show (i : Int) < (l.length : Int) by omega), if_pos (show (0 : Int) ≤ (i : Int) by omega), if_pos (show (0 : Int) ≤ ((i - 1 : Nat) : Int) by omega), if_pos (show ((i - 1 : Nat) : Int) < (l.length : Int) by omega), if_neg (show ¬ (l.getD (i - 1) 0 ≥ l.getD i 0) by omega)]
          rw [wrap_succ i (by omega)]
          exact hb
        · rw [hj]
          constructor
          · intro H j h1 h2
            by_cases e : j = i
            · rw [e]; exact c
            · exact H j (by omega) h2
          · intro H j h1 h2
            exact H j (by omega) h2
      · refine ⟨false, ?_, ?_⟩
        · refine Ev.step (fun k => by rw [impl_rises.l0]) ?_
          simp only [w, rd_nat, if_pos (show (i : Int) < (l.length : Int) by omega), if_pos (show (0 : Int) ≤ (i : Int) by omega), if_pos (show (0 : Int) ≤ ((i - 1 : Nat) : Int) by omega), if_pos (show ((i - 1 : Nat) : Int) < (l.length : Int) by omega), if_pos (show (l.getD (i - 1) 0 ≥ l.getD i 0) by omega)]
          exact Ev.now _
        · exact ⟨fun H => (by cases H), fun H => absurd (H i (by omega) hlt) c⟩
    · exact rises_loop l hm 0 i h0 (by omega)
theorem rises_ev (l : List Int) (hm : l.length ≤ 1099511627776) :
    ∃ b, Ev (fun k => impl_rises.f k l) b ∧ (b = true ↔ ∀ j, 0 < j → j < l.length → l.getD (j - 1) 0 < l.getD j 0) :=
  rises_loop l hm l.length 1 (by omega) (by omega)

theorem within_eq (x lo hi : Int) : impl_within.f x lo hi = some (decide (lo ≤ x ∧ x ≤ hi)) := by
  unfold impl_within.f
  by_cases c : lo ≤ x
  · rw [if_pos c]; congr 1; by_cases d : x ≤ hi
    · rw [decide_eq_true d, decide_eq_true ⟨c, d⟩]
    · rw [decide_eq_false d, decide_eq_false (fun h => d h.2)]
  · rw [if_neg c, decide_eq_false (fun h => c h.1)]

theorem areWithin_eq (l : List Int) (lo hi : Int) (hm : l.length ≤ 1099511627776) :
    ∃ b, impl_areWithin.f l lo hi = some b ∧ (b = true ↔ ∀ j, j < l.length → lo ≤ l.getD j 0 ∧ l.getD j 0 ≤ hi) := by
  refine ⟨_, by unfold impl_areWithin.f; rw [if_pos (by omega)], ?_⟩
  rw [Bool.not_eq_true', List.any_eq_false]
  constructor
  · intro H j hj
    have := H (l.getD j 0) (by rw [List.getD_eq_getElem?_getD, List.getElem?_eq_getElem hj]; exact List.getElem_mem hj)
    simpa using this
  · intro H x hx
    obtain ⟨j, hj, rfl⟩ := List.getElem_of_mem hx
    have := H j hj
    rw [List.getD_eq_getElem?_getD, List.getElem?_eq_getElem hj] at this
    simpa using this

/-- What cuts of a chain are. -/
def Cuts (n : Int) (l : List Int) : Prop := (1 ≤ n ∧ n ≤ 1000) ∧ l.length ≤ 9 ∧ (∀ j, j < l.length → 0 ≤ l.getD j 0 ∧ l.getD j 0 ≤ n - 1) ∧ ∀ j, 0 < j → j < l.length → l.getD (j - 1) 0 < l.getD j 0
theorem chCuts_ev (n : Int) (l : List Int) (hm : l.length ≤ 1099511627776) : ∃ b, Ev (fun k => spec_chCuts.f k n l) b ∧ (b = true ↔ Cuts n l) := by
  unfold spec_chCuts.f spec_chLinks.f
  simp only [l1In_eq, Option.bind_some]
  by_cases c : 1 ≤ n ∧ n ≤ 1000
  · simp only [decide_eq_true c, if_true]
    by_cases c1 : l.length ≤ 9
    · simp only [if_pos (show (l.length : Int) ≤ 9 by omega)]
      obtain ⟨b, hb, jb⟩ := l1Rising_ev 0 (n - 1) l hm
      refine ⟨b, ?_, ?_⟩
      · rw [wrap_id _ (by omega) (by omega)]
        exact Ev.bind hb (Ev.now _)
      · rw [jb]
        exact ⟨fun H => ⟨c, c1, fun j h => (H j h).1, fun j h0 h => (H j h).2 h0⟩, fun H j h => ⟨H.2.2.1 j h, fun h0 => H.2.2.2 j h0 h⟩⟩
    · simp only [if_neg (show ¬ (l.length : Int) ≤ 9 by omega)]
      exact ⟨false, Ev.now _, fun H => (by cases H), fun H => absurd H.2.1 c1⟩
  · simp only [decide_eq_false c, Bool.false_eq_true, if_false]
    exact ⟨false, Ev.now _, fun H => (by cases H), fun H => absurd H.1 c⟩
theorem areCuts_ev (n : Int) (l : List Int) (hm : l.length ≤ 1099511627776) : ∃ b, Ev (fun k => impl_AreCuts.f k n l) b ∧ (b = true ↔ Cuts n l) := by
  unfold impl_AreCuts.f impl_isChain.f
  simp only [within_eq, Option.bind_some]
  by_cases c : 1 ≤ n ∧ n ≤ 1000
  · simp only [decide_eq_true c, if_true]
    by_cases c1 : l.length ≤ 9
    · simp only [if_pos (show (l.length : Int) ≤ 9 by omega)]
      rw [wrap_id _ (by omega) (by omega)]
      obtain ⟨a, ha, ja⟩ := areWithin_eq l 0 (n - 1) hm
      rw [ha]
      cases a with
      | true =>
        obtain ⟨b, hb, jb⟩ := rises_ev l hm
        refine ⟨b, ?_, ?_⟩
        · simp only [Option.bind_some, if_true]
          exact Ev.bind hb (Ev.now _)
        · rw [jb]
          exact ⟨fun H => ⟨c, c1, ja.1 rfl, H⟩, fun H => H.2.2.2⟩
      | false =>
        refine ⟨false, ?_, fun H => (by cases H), fun H => ja.2 H.2.2.1⟩
        simp only [Option.bind_some, Bool.false_eq_true, if_false]
        exact Ev.now _
    · simp only [if_neg (show ¬ (l.length : Int) ≤ 9 by omega)]
      exact ⟨false, Ev.now _, fun H => (by cases H), fun H => absurd H.2.1 c1⟩
  · simp only [decide_eq_false c, Bool.false_eq_true, if_false]
    exact ⟨false, Ev.now _, fun H => (by cases H), fun H => absurd H.1 c⟩
theorem cuts_same (n : Int) (l : List Int) (hm : l.length ≤ 1099511627776) : ∃ b, Ev (fun k => spec_chCuts.f k n l) b ∧ Ev (fun k => impl_AreCuts.f k n l) b ∧ (b = true ↔ Cuts n l) := by
  obtain ⟨b, hb, jb⟩ := chCuts_ev n l hm
  obtain ⟨c, hc, jc⟩ := areCuts_ev n l hm
  have e := bool_same jb jc
  subst e
  exact ⟨b, hb, hc, jb⟩

theorem mirror_loop (a0 : Int) (l : List Int) (hm : l.length ≤ 1048576) : ∀ (d j : Nat), j + d = l.length →
    Ev (fun k => spec_MirrorCuts.l0 k a0 l (hwMirror a0 (hwUpto (hwBack l.length l) j)) ((l.length : Int) - 1 - (j : Int))) (hwMirror a0 (hwUpto (hwBack l.length l) l.length), true)
  | 0, j, h => by
    refine Ev.step (fun k => by rw [spec_MirrorCuts.l0]) ?_
    simp only [if_neg (show ¬ ((l.length : Int) - 1 - (j : Int) ≥ 0) by omega)]
    rw [show j = l.length by omega]
    exact Ev.now _
  | d + 1, j, h => by
    have hl : (hwMirror a0 (hwUpto (hwBack l.length l) j)).length = j := by simp [hwMirror, hwUpto]
    refine Ev.step (fun k => by rw [spec_MirrorCuts.l0]) ?_
    simp only [if_pos (show ((l.length : Int) - 1 - (j : Int) ≥ 0) by omega), if_pos (show 0 ≤ ((l.length : Int) - 1 - (j : Int)) by omega), if_pos (show ((l.length : Int) - 1 - (j : Int)) < (l.length : Int) by omega), if_pos (show (hwMirror a0 (hwUpto (hwBack l.length l) j)).length < 17592186044416 by omega)]
    rw [wrap_id ((l.length : Int) - 1 - (j : Int) - 1) (by omega) (by omega), show (l.length : Int) - 1 - (j : Int) - 1 = (l.length : Int) - 1 - ((j + 1 : Nat) : Int) by omega]
    have e : hwMirror a0 (hwUpto (hwBack l.length l) j) ++ [wrap64 ((wrap64 (a0 - 1)) - (rd l ((l.length : Int) - 1 - (j : Int))))] = hwMirror a0 (hwUpto (hwBack l.length l) (j + 1)) := by
      rw [hwUpto_succ, hwMirror_snoc]
      unfold hwBack rd
      rw [show ((l.length : Int) - 1 - (j : Int)).toNat = l.length - 1 - j by omega, List.getD_eq_getElem?_getD]
    rw [e]
    exact mirror_loop a0 l hm d (j + 1) (by omega)
theorem MirrorCuts_same (n : Int) (l : List Int) (hm : l.length ≤ 1099511627776) : ∃ r : List Int × Bool, r.1.length ≤ 1099511627776 ∧ Ev (fun k => spec_MirrorCuts.f k n l) r ∧ Ev (fun k => impl_MirrorCuts.f k n l) r := by
  obtain ⟨b, hs, hi, jb⟩ := cuts_same n l hm
  unfold spec_MirrorCuts.f impl_MirrorCuts.f
  cases b with
  | true =>
    have h9 := (jb.1 rfl).2.1
    refine ⟨(hwMirror n (hwUpto (hwBack l.length l) l.length), true), ?_, Ev.bind hs ?_, Ev.bind hi ?_⟩
    · simp [hwMirror, hwUpto]; omega
    · simp only [if_true]
      rw [wrap_id _ (by omega) (by omega)]
      have := mirror_loop n l (by omega) l.length 0 (by omega)
      simpa [hwMirror, hwUpto] using this
    · simp only [if_true, if_pos (show l.length * 8 ≤ 140737488351232 by omega)]
      exact Ev.now _
  | false => exact ⟨([], false), by simp, Ev.bind hs (by simp only [Bool.false_eq_true, if_false]; exact Ev.now _), Ev.bind hi (by simp only [Bool.false_eq_true, if_false]; exact Ev.now _)⟩
theorem FnExactMirrorCuts : laws_FnExactMirrorCuts.Pure := by
  intro a0 l0 w_a0 h1 h2 h3
  apply Ev.rounds
  unfold laws_FnExactMirrorCuts.f
  by_cases c : (l0.length : Int) > 1048576
  · simp only [if_pos c]; exact Ev.now _
  · simp only [if_neg c]
    have hm : l0.length ≤ 1099511627776 := by omega
    obtain ⟨⟨r1, r2⟩, hr, hs, hi⟩ := MirrorCuts_same a0 l0 hm
    replace hr : r1.length ≤ 1099511627776 := hr
    obtain ⟨m0, hm0, hm1⟩ := mark_ev l0 hm
    obtain ⟨m2, hm2, hm3⟩ := mark_ev r1 hr
    refine Ev.bind (toInt_ev l0 hm) ?_
    refine Ev.bind hs ?_
    refine Ev.bind (toInt_ev l0 hm) ?_
    refine Ev.bind hi ?_
    refine Ev.bind (eq_ev r1 hr) ?_
    simp only [if_true, bne_self_eq_false]
    refine Ev.step (fun k => by rw [laws_FnExactMirrorCuts.j0]) ?_
    simp only [Bool.false_eq_true, if_false]
    refine Ev.bind (toInt_ev l0 hm) ?_
    refine Ev.bind (eq_ev l0 hm) ?_
    simp only [if_true]
    refine Ev.bind hm0 ?_
    simp only [if_neg (show ¬ ((l0.length : Int) + 1 < 0) by omega)]
    refine Ev.bind (eq_ev r1 hr) ?_
    simp only [if_true, bne_self_eq_false]
    refine Ev.step (fun k => by rw [laws_FnExactMirrorCuts.j1]) ?_
    simp only [Bool.false_eq_true, if_false]
    refine Ev.bind hm2 ?_
    refine Ev.bind hm3 ?_
    simp only [if_neg (show ¬ ((r1.length : Int) + 1 < 0) by omega), if_true]
    refine Ev.bind (toInt_ev l0 hm) ?_
    refine Ev.bind hi ?_
    refine Ev.bind (eq_ev r1 hr) ?_
    simp only [if_true, bne_self_eq_false]
    refine Ev.step (fun k => by rw [laws_FnExactMirrorCuts.j2]) ?_
    simp only [Bool.false_eq_true, if_false]
    refine Ev.bind hm3 ?_
    simp only [if_neg (show ¬ ((r1.length : Int) + 1 < 0) by omega), if_true]
    exact Ev.now _

end Go.Proofs.Ytfapijfjonnmcaa.Pure
