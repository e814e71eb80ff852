/- For every list of whole numbers, every list of lists and every day, the program's GivenAt tells what the reference's tells, in memory of its own, and the lists read as before. No conditions. -/
import Derived.Test.YtfldgimmdeijjaaPFnExactGivenAtx6
namespace Go.Proofs.Ytfldgimmdeijjaa.Pure
open Go.RowKit Go.Proofs.Ytfldgimmdeijjaa.PFnExactGivenAt Go.Proofs.YtfldgimmdeijjaaW.PrintWords Go.Proofs.YtfldgimmdeijjaaW.PrintLast
set_option linter.unusedVariables false
set_option linter.unusedSimpArgs false

theorem wrap_id (x : Int) (h0 : -9223372036854775808 ≤ x) (h1 : x ≤ 9223372036854775807) : wrap64 x = x := by
  unfold wrap64; omega
theorem wrap_succ (i : Nat) (h : i < 4611686018427387904) : wrap64 ((i : Int) + 1) = ((i + 1 : Nat) : Int) := by
  rw [wrap_id _ (by omega) (by omega)]; rfl
theorem rd_nat (l : List Int) (i : Nat) : rd l (i : Int) = l.getD i 0 := rfl
theorem getD_some (l : List Int) (i : Nat) (h : i < l.length) : l[i]? = some (l.getD i 0) := by
  rw [List.getD_eq_getElem?_getD, List.getElem?_eq_getElem h]; rfl
theorem bool_same {b c : Bool} {P : Prop} (hb : b = true ↔ P) (hc : c = true ↔ P) : b = c := by
  cases b <;> cases c <;> simp_all

theorem eq_loop (a : List Int) (hm : a.length ≤ 1099511627776) : ∀ (d i : Nat), i + d = a.length → Ev (fun k => laws_eqIntS.l0 k a a (i : Int)) true
  | 0, i, h => by
    refine Ev.step (fun k => by rw [laws_eqIntS.l0]) ?_
    simp only [if_neg (show ¬ ((i : Int) < (a.length : Int)) by omega)]
    exact Ev.now _
  | d + 1, i, h => by
    refine Ev.step (fun k => by rw [laws_eqIntS.l0]) ?_
    simp only [if_pos (show (i : Int) < (a.length : Int) by omega), if_pos (show (0 : Int) ≤ (i : Int) by omega), if_true]
    rw [wrap_succ i (by omega)]
    exact eq_loop a hm d (i + 1) (by omega)
theorem eq_ev (a : List Int) (hm : a.length ≤ 1099511627776) : Ev (fun k => laws_eqIntS.f k a a) true := by
  unfold laws_eqIntS.f
  simp only [if_true]
  exact eq_loop a hm a.length 0 (by omega)

theorem toInt_loop (l : List Int) (hm : l.length ≤ 1099511627776) : ∀ (d i : Nat) (cur : List Int), i + d = l.length → cur.length = l.length → (∀ j, j < i → cur[j]? = l[j]?) → Ev (fun k => laws_toIntS.l0 k l cur (i : Int)) l
  | 0, i, cur, h, hc, hj => by
    refine Ev.step (fun k => by rw [laws_toIntS.l0]) ?_
    simp only [if_neg (show ¬ ((i : Int) < (l.length : Int)) by omega)]
    have e : cur = l := by
      apply List.ext_getElem?
      intro j
      by_cases c : j < i
      · exact hj j c
      · rw [List.getElem?_eq_none (by omega), List.getElem?_eq_none (by omega)]
    rw [e]
    exact Ev.now _
  | d + 1, i, cur, h, hc, hj => by
    refine Ev.step (fun k => by rw [laws_toIntS.l0]) ?_
    simp only [if_pos (show (i : Int) < (l.length : Int) by omega), if_pos (show (0 : Int) ≤ (i : Int) by omega), if_pos (show (i : Int) < (cur.length : Int) by omega)]
    rw [wrap_succ i (by omega), Int.toNat_natCast, rd_nat]
    refine toInt_loop l hm d (i + 1) _ (by omega) (by rw [List.length_set]; exact hc) ?_
    intro j hlt
    rw [List.getElem?_set]
    by_cases c : i = j
    · subst c
      rw [if_pos rfl, if_pos (by omega), getD_some l i (by omega)]
    · rw [if_neg c]
      exact hj j (by omega)
theorem toInt_ev (l : List Int) (hm : l.length ≤ 1099511627776) : Ev (fun k => laws_toIntS.f k l) l := by
  unfold laws_toIntS.f
  simp only [if_pos (show (0 : Int) ≤ (l.length : Int) by omega), if_pos (show ((l.length : Int)).toNat ≤ 35184372088832 by omega)]
  exact toInt_loop l hm l.length 0 _ (by omega) (by simp) (fun j hj => by omega)

/-- A list of lists of a size that the law speaks of. -/
def Small (l : List (List Int)) : Prop := l.length ≤ 1048576 ∧ ∀ j, j < l.length → (l.getD j []).length ≤ 1048576
theorem rdL_nat (l : List (List Int)) (i : Nat) : rd_L1 l (i : Int) = l.getD i [] := rfl
theorem szS_eq (x : List Int) (a : Int) (h0 : 0 ≤ a) (h1 : a ≤ 1048576) (hx : x.length ≤ 9223372036854775807) : laws_szIntS.f x a = some (if a - (x.length : Int) < 0 then -1 else a - (x.length : Int)) := by
  unfold laws_szIntS.f
  rw [wrap_id _ (by omega) (by omega)]
  split <;> rfl
theorem szSS_loop (l : List (List Int)) (hx : ∀ j, j < l.length → (l.getD j []).length ≤ 9223372036854775807) (hm : l.length ≤ 1048576) : ∀ (d i : Nat) (a : Int), i + d = l.length → 0 ≤ a → a ≤ 1048576 →
    ∃ r, Ev (fun k => laws_szIntSS.l0 k l a (i : Int)) r ∧ (r < 0 ∨ (0 ≤ r ∧ ∀ j, i ≤ j → j < l.length → (l.getD j []).length ≤ 1048576))
  | 0, i, a, h, h0, h1 => by
    refine ⟨a, ?_, .inr ⟨h0, fun j h1 h2 => by omega⟩⟩
    refine Ev.step (fun k => by rw [laws_szIntSS.l0]) ?_
    simp only [if_neg (show ¬ ((i : Int) < (l.length : Int)) by omega)]
    exact Ev.now _
  | d + 1, i, a, h, h0, h1 => by
    have hxi := hx i (by omega)
    by_cases c : a - ((l.getD i []).length : Int) < 0
    · refine ⟨-1, ?_, .inl (by omega)⟩
      refine Ev.step (fun k => by rw [laws_szIntSS.l0]) ?_
      simp only [if_pos (show (i : Int) < (l.length : Int) by omega), if_pos (show (0 : Int) ≤ (i : Int) by omega), rdL_nat, szS_eq _ _ h0 h1 hxi, if_pos c, Option.bind_some, if_pos (show (-1 : Int) < 0 by omega)]
      exact Ev.now _
    · obtain ⟨r, hr, hj⟩ := szSS_loop l hx hm d (i + 1) (a - ((l.getD i []).length : Int)) (by omega) (by omega) (by omega)
      refine ⟨r, ?_, hj.imp id (fun H => ⟨H.1, fun j h1 h2 => ?_⟩)⟩
      · refine Ev.step (fun k => by rw [laws_szIntSS.l0]) ?_
        simp only [if_pos (show (i : Int) < (l.length : Int) by omega), if_pos (show (0 : Int) ≤ (i : Int) by omega), rdL_nat, szS_eq _ _ h0 h1 hxi, if_neg c, Option.bind_some]
        rw [wrap_succ i (by omega)]
        exact hr
      · by_cases e : j = i
        · subst e; omega
        · exact H.2 j (by omega) h2
theorem szSS_ev (l : List (List Int)) (hl : l.length ≤ 9223372036854775807) (hx : ∀ j, j < l.length → (l.getD j []).length ≤ 9223372036854775807) : ∃ r, Ev (fun k => laws_szIntSS.f k l 1048576) r ∧ (r < 0 ∨ (0 ≤ r ∧ Small l)) := by
  unfold laws_szIntSS.f
  rw [wrap_id _ (by omega) (by omega)]
  by_cases c : 1048576 - (l.length : Int) < 0
  · simp only [if_pos c]
    exact ⟨-1, Ev.now _, .inl (by omega)⟩
  · simp only [if_neg c]
    obtain ⟨r, hr, hj⟩ := szSS_loop l hx (by omega) l.length 0 (1048576 - (l.length : Int)) (by omega) (by omega) (by omega)
    exact ⟨r, hr, hj.imp id (fun H => ⟨H.1, by omega, fun j h => H.2 j (by omega) h⟩)⟩
theorem toSS_loop (l : List (List Int)) (sm : Small l) : ∀ (d i : Nat) (cur : List (List Int)), i + d = l.length → cur.length = l.length → (∀ j, j < i → cur[j]? = l[j]?) → Ev (fun k => laws_toIntSS.l0 k l cur (i : Int)) l
  | 0, i, cur, h, hc, hj => by
    refine Ev.step (fun k => by rw [laws_toIntSS.l0]) ?_
    simp only [if_neg (show ¬ ((i : Int) < (l.length : Int)) by omega)]
    have e : cur = l := by
      apply List.ext_getElem?
      intro j
      by_cases c : j < i
      · exact hj j c
      · rw [List.getElem?_eq_none (by omega), List.getElem?_eq_none (by omega)]
    rw [e]
    exact Ev.now _
  | d + 1, i, cur, h, hc, hj => by
    have hxi := sm.2 i (by omega)
    have hl := sm.1
    refine Ev.step (fun k => by rw [laws_toIntSS.l0]) ?_
    simp only [if_pos (show (i : Int) < (l.length : Int) by omega), if_pos (show (0 : Int) ≤ (i : Int) by omega), if_pos (show (i : Int) < (cur.length : Int) by omega), rdL_nat]
    refine Ev.bind (toInt_ev (l.getD i []) (by omega)) ?_
    rw [wrap_succ i (by omega), Int.toNat_natCast]
    refine toSS_loop l sm d (i + 1) _ (by omega) (by rw [List.length_set]; exact hc) ?_
    intro j hlt
    rw [List.getElem?_set]
    by_cases c : i = j
    · subst c
      rw [if_pos rfl, if_pos (by omega), List.getD_eq_getElem?_getD, List.getElem?_eq_getElem (by omega)]; rfl
    · rw [if_neg c]
      exact hj j (by omega)
theorem toSS_ev (l : List (List Int)) (sm : Small l) : Ev (fun k => laws_toIntSS.f k l) l := by
  have hl := sm.1
  unfold laws_toIntSS.f
  simp only [if_pos (show (0 : Int) ≤ (l.length : Int) by omega), if_pos (show ((l.length : Int)).toNat ≤ 11728124029610 by omega)]
  exact toSS_loop l sm l.length 0 _ (by omega) (by simp) (fun j hj => by omega)
theorem eqSS_loop (a : List (List Int)) (sm : Small a) : ∀ (d i : Nat), i + d = a.length → Ev (fun k => laws_eqIntSS.l0 k a a (i : Int)) true
  | 0, i, h => by
    refine Ev.step (fun k => by rw [laws_eqIntSS.l0]) ?_
    simp only [if_neg (show ¬ ((i : Int) < (a.length : Int)) by omega)]
    exact Ev.now _
  | d + 1, i, h => by
    have hxi := sm.2 i (by omega)
    have hl := sm.1
    refine Ev.step (fun k => by rw [laws_eqIntSS.l0]) ?_
    simp only [if_pos (show (i : Int) < (a.length : Int) by omega), if_pos (show (0 : Int) ≤ (i : Int) by omega), rdL_nat]
    refine Ev.bind (eq_ev (a.getD i []) (by omega)) ?_
    simp only [if_true]
    rw [wrap_succ i (by omega)]
    exact eqSS_loop a sm d (i + 1) (by omega)
theorem eqSS_ev (a : List (List Int)) (sm : Small a) : Ev (fun k => laws_eqIntSS.f k a a) true := by
  unfold laws_eqIntSS.f
  simp only [if_true]
  exact eqSS_loop a sm a.length 0 (by omega)
theorem rows_getD (l : List (List Int)) {p : List Int → Prop} (h : ∀ x ∈ l, p x) (j : Nat) (hj : j < l.length) : p (l.getD j []) := by
  rw [List.getD_eq_getElem?_getD, List.getElem?_eq_getElem hj]
  exact h _ (List.getElem_mem hj)

theorem l1In_eq (x lo hi : Int) : spec_l1In.f x lo hi = some (decide (lo ≤ x ∧ x ≤ hi)) := by
  unfold spec_l1In.f
  by_cases c : x ≥ lo
  · rw [if_pos c]; congr 1; by_cases d : x ≤ hi
    · rw [decide_eq_true d, decide_eq_true ⟨c, d⟩]
    · rw [decide_eq_false d, decide_eq_false (fun h => d h.2)]
  · rw [if_neg c, decide_eq_false (fun h => c h.1)]

theorem l1Rising_loop (lo hi : Int) (l : List Int) (hm : l.length ≤ 1099511627776) : ∀ (d i : Nat), i + d = l.length →
    ∃ b, Ev (fun k => spec_l1Rising.l0 k l lo hi l (l.length : Int) (i : Int)) b ∧ (b = true ↔ ∀ j, i ≤ j → j < l.length → (lo ≤ l.getD j 0 ∧ l.getD j 0 ≤ hi) ∧ (0 < j → l.getD (j - 1) 0 < l.getD j 0))
  | 0, i, h => by
    refine ⟨true, ?_, by simp only [true_iff]; intro j h1 h2; omega⟩
    refine Ev.step (fun k => by rw [spec_l1Rising.l0]) ?_
    simp only [if_neg (show ¬ ((i : Int) < (l.length : Int)) by omega)]
    exact Ev.now _
  | d + 1, i, h => by
    have w : 0 < i → wrap64 ((i : Int) - 1) = ((i - 1 : Nat) : Int) := fun h => by rw [wrap_id _ (by omega) (by omega)]; omega
    by_cases c : (lo ≤ l.getD i 0 ∧ l.getD i 0 ≤ hi)
    · by_cases c2 : 0 < i → l.getD (i - 1) 0 < l.getD i 0
      · obtain ⟨b, hb, hj⟩ := l1Rising_loop lo hi l hm d (i + 1) (by omega)
        refine ⟨b, ?_, ?_⟩
        · refine Ev.step (fun k => by rw [spec_l1Rising.l0]) ?_
          simp only [if_pos (show (i : Int) < (l.length : Int) by omega), if_pos (show (0 : Int) ≤ (i : Int) by omega), l1In_eq, rd_nat, decide_eq_true c, Option.bind_some, if_true]
          rw [wrap_succ i (by omega)]
          by_cases p : 0 < i
          · have c3 := c2 p
            simp only [w p, rd_nat, if_pos (show (i : Int) > 0 by omega), if_pos (show (0 : Int) ≤ ((i - 1 : Nat) : Int) by omega), if_pos (show ((i - 1 : Nat) : Int) < (l.length : Int) by omega), if_neg (show ¬ (l.getD (i - 1) 0 ≥ l.getD i 0) by omega)]
            exact hb
          · simp only [if_neg (show ¬ ((i : Int) > 0) by omega)]
            exact hb
        · rw [hj]
          constructor
          · intro H j h1 h2
            by_cases e : j = i
            · rw [e]; exact ⟨c, c2⟩
            · exact H j (by omega) h2
          · intro H j h1 h2
            exact H j (by omega) h2
      · have p : 0 < i := by
          rcases Nat.eq_zero_or_pos i with z | z
          · exact absurd (fun hh => by omega) c2
          · exact z
        have c3 : ¬ l.getD (i - 1) 0 < l.getD i 0 := fun hh => c2 (fun _ => hh)
        refine ⟨false, ?_, ?_⟩
        · refine Ev.step (fun k => by rw [spec_l1Rising.l0]) ?_
          simp only [if_pos (show (i : Int) < (l.length : Int) by omega), if_pos (show (0 : Int) ≤ (i : Int) by omega), l1In_eq, rd_nat, decide_eq_true c, Option.bind_some, if_true]
          simp only [w p, rd_nat, if_pos (show (i : Int) > 0 by omega), if_pos (show (0 : Int) ≤ ((i - 1 : Nat) : Int) by omega), if_pos (show ((i - 1 : Nat) : Int) < (l.length : Int) by omega), if_pos (show (l.getD (i - 1) 0 ≥ l.getD i 0) by omega)]
          exact Ev.now _
        · exact ⟨fun H => (by cases H), fun H => absurd (H i (by omega) (by omega)).2 c2⟩
    · refine ⟨false, ?_, ?_⟩
      · refine Ev.step (fun k => by rw [spec_l1Rising.l0]) ?_
        simp only [if_pos (show (i : Int) < (l.length : Int) by omega), if_pos (show (0 : Int) ≤ (i : Int) by omega), l1In_eq, rd_nat, decide_eq_false c, Option.bind_some, Bool.false_eq_true, if_false]
        exact Ev.now _
      · exact ⟨fun H => (by cases H), fun H => absurd (H i (by omega) (by omega)).1 c⟩
theorem l1Rising_ev (lo hi : Int) (l : List Int) (hm : l.length ≤ 1099511627776) :
    ∃ b, Ev (fun k => spec_l1Rising.f k l lo hi) b ∧ (b = true ↔ ∀ j, j < l.length → (lo ≤ l.getD j 0 ∧ l.getD j 0 ≤ hi) ∧ (0 < j → l.getD (j - 1) 0 < l.getD j 0)) := by
  obtain ⟨b, hb, hj⟩ := l1Rising_loop lo hi l hm l.length 0 (by omega)
  exact ⟨b, hb, by rw [hj]; exact ⟨fun H j h => H j (by omega) h, fun H j _ h => H j h⟩⟩
theorem rises_loop (l : List Int) (hm : l.length ≤ 1099511627776) : ∀ (d i : Nat), 1 ≤ i → l.length ≤ i + d →
    ∃ b, Ev (fun k => impl_rises.l0 k l (i : Int)) b ∧ (b = true ↔ ∀ j, i ≤ j → j < l.length → l.getD (j - 1) 0 < l.getD j 0)
  | 0, i, h0, h => by
    refine ⟨true, ?_, by simp only [true_iff]; intro j h1 h2; omega⟩
    refine Ev.step (fun k => by rw [impl_rises.l0]) ?_
    simp only [if_neg (show ¬ ((i : Int) < (l.length : Int)) by omega)]
    exact Ev.now _
  | d + 1, i, h0, h => by
    by_cases hlt : i < l.length
    · have w : wrap64 ((i : Int) - 1) = ((i - 1 : Nat) : Int) := by rw [wrap_id _ (by omega) (by omega)]; omega
      by_cases c : l.getD (i - 1) 0 < l.getD i 0
      · obtain ⟨b, hb, hj⟩ := rises_loop l hm d (i + 1) (by omega) (by omega)
        refine ⟨b, ?_, ?_⟩
        · refine Ev.step (fun k => by rw [impl_rises.l0]) ?_
          simp only [w, rd_nat, if_pos (show (i : Int) < (l.length : Int) by omega), if_pos (show (0 : Int) ≤ (i : Int) by omega), if_pos (show (0 : Int) ≤ ((i - 1 : Nat) : Int) by omega), if_pos (show ((i - 1 : Nat) : Int) < (l.length : Int) by omega), if_neg (show ¬ (l.getD (i - 1) 0 ≥ l.getD i 0) by omega)]
          rw [wrap_succ i (by omega)]
          exact hb
        · rw [hj]
          constructor
          · intro H j h1 h2
            by_cases e : j = i
            · rw [e]; exact c
            · exact H j (by omega) h2
          · intro H j h1 h2
            exact H j (by omega) h2
      · refine ⟨false, ?_, ?_⟩
        · refine Ev.step (fun k => by rw [impl_rises.l0]) ?_
          simp only [w, rd_nat, if_pos (show (i : Int) < (l.length : Int) by omega), if_pos (show (0 : Int) ≤ (i : Int) by omega), if_pos (show (0 : Int) ≤ ((i - 1 : Nat) : Int) by omega), if_pos (show ((i - 1 : Nat) : Int) < (l.length : Int) by omega), if_pos (show (l.getD (i - 1) 0 ≥ l.getD i 0) by omega)]
          exact Ev.now _
        · exact ⟨fun H => (by cases H), fun H => absurd (H i (by omega) hlt) c⟩
    · exact rises_loop l hm 0 i h0 (by omega)
theorem rises_ev (l : List Int) (hm : l.length ≤ 1099511627776) :
    ∃ b, Ev (fun k => impl_rises.f k l) b ∧ (b = true ↔ ∀ j, 0 < j → j < l.length → l.getD (j - 1) 0 < l.getD j 0) :=
  rises_loop l hm l.length 1 (by omega) (by omega)

theorem areWithin_eq (l : List Int) (lo hi : Int) (hm : l.length ≤ 1099511627776) :
    ∃ b, impl_areWithin.f l lo hi = some b ∧ (b = true ↔ ∀ j, j < l.length → lo ≤ l.getD j 0 ∧ l.getD j 0 ≤ hi) := by
  refine ⟨_, by unfold impl_areWithin.f; rw [if_pos (by omega)], ?_⟩
  rw [Bool.not_eq_true', List.any_eq_false]
  constructor
  · intro H j hj
    have := H (l.getD j 0) (by rw [List.getD_eq_getElem?_getD, List.getElem?_eq_getElem hj]; exact List.getElem_mem hj)
    simpa using this
  · intro H x hx
    obtain ⟨j, hj, rfl⟩ := List.getElem_of_mem hx
    have := H j hj
    rw [List.getD_eq_getElem?_getD, List.getElem?_eq_getElem hj] at this
    simpa using this

theorem l1All_loop (lo hi : Int) (l : List Int) (hm : l.length ≤ 1099511627776) : ∀ (d i : Nat), i + d = l.length →
    ∃ b, Ev (fun k => spec_l1All.l0 k lo hi l (l.length : Int) (i : Int)) b ∧ (b = true ↔ ∀ j, i ≤ j → j < l.length → lo ≤ l.getD j 0 ∧ l.getD j 0 ≤ hi)
  | 0, i, h => by
    refine ⟨true, ?_, by simp only [true_iff]; intro j h1 h2; omega⟩
    refine Ev.step (fun k => by rw [spec_l1All.l0]) ?_
    simp only [if_neg (show ¬ ((i : Int) < (l.length : Int)) by omega)]
    exact Ev.now _
  | d + 1, i, h => by
    by_cases c : lo ≤ l.getD i 0 ∧ l.getD i 0 ≤ hi
    · obtain ⟨b, hb, hj⟩ := l1All_loop lo hi l hm d (i + 1) (by omega)
      refine ⟨b, ?_, ?_⟩
      · refine Ev.step (fun k => by rw [spec_l1All.l0]) ?_
        simp only [if_pos (show (i : Int) < (l.length : Int) by omega), if_pos (show (0 : Int) ≤ (i : Int) by omega), l1In_eq, rd_nat, decide_eq_true c, Option.bind_some, if_true]
        rw [wrap_succ i (by omega)]
        exact hb
      · rw [hj]
        constructor
        · intro H j h1 h2
          by_cases e : j = i
          · rw [e]; exact c
          · exact H j (by omega) h2
        · intro H j h1 h2
          exact H j (by omega) h2
    · refine ⟨false, ?_, ?_⟩
      · refine Ev.step (fun k => by rw [spec_l1All.l0]) ?_
        simp only [if_pos (show (i : Int) < (l.length : Int) by omega), if_pos (show (0 : Int) ≤ (i : Int) by omega), l1In_eq, rd_nat, decide_eq_false c, Option.bind_some, Bool.false_eq_true, if_false]
        exact Ev.now _
      · constructor
        · intro H; cases H
        · intro H; exact absurd (H i (by omega) (by omega)) c
theorem l1All_ev (lo hi : Int) (l : List Int) (hm : l.length ≤ 1099511627776) :
    ∃ b, Ev (fun k => spec_l1All.f k l lo hi) b ∧ (b = true ↔ ∀ j, j < l.length → lo ≤ l.getD j 0 ∧ l.getD j 0 ≤ hi) := by
  obtain ⟨b, hb, hj⟩ := l1All_loop lo hi l hm l.length 0 (by omega)
  exact ⟨b, hb, by rw [hj]; exact ⟨fun H j h => H j (by omega) h, fun H j _ h => H j h⟩⟩

/-- What pieces are. -/
def Good (l : List Int) : Prop := l.length ≤ 20 ∧ (∀ j, j < l.length → 1 ≤ l.getD j 0 ∧ l.getD j 0 ≤ 10000) ∧ (∀ j, 1 ≤ j → j < l.length → l.getD (j - 1) 0 ≤ l.getD j 0)

theorem piGood_loop (l : List Int) (hm : l.length ≤ 1099511627776) : ∀ (d i : Nat), 1 ≤ i → l.length ≤ i + d →
    ∃ b, Ev (fun k => spec_piGood.l0 k l (i : Int)) b ∧ (b = true ↔ ∀ j, i ≤ j → j < l.length → l.getD (j - 1) 0 ≤ l.getD j 0)
  | 0, i, h0, h => by
    refine ⟨true, ?_, by simp only [true_iff]; intro j h1 h2; omega⟩
    refine Ev.step (fun k => by rw [spec_piGood.l0]) ?_
    simp only [if_neg (show ¬ ((i : Int) < (l.length : Int)) by omega)]
    exact Ev.now _
  | d + 1, i, h0, h => by
    by_cases hlt : i < l.length
    · have w : wrap64 ((i : Int) - 1) = ((i - 1 : Nat) : Int) := by rw [wrap_id _ (by omega) (by omega)]; omega
      by_cases c : l.getD (i - 1) 0 ≤ l.getD i 0
      · obtain ⟨b, hb, hj⟩ := piGood_loop l hm d (i + 1) (by omega) (by omega)
        refine ⟨b, ?_, ?_⟩
        · refine Ev.step (fun k => by rw [spec_piGood.l0]) ?_
          simp only [w, rd_nat, if_pos (show (i : Int) < (l.length : Int) by omega), if_pos (show (0 : Int) ≤ (i : Int) by omega), if_pos (show (0 : Int) ≤ ((i - 1 : Nat) : Int) by omega), if_pos (show ((i - 1 : Nat) : Int) < (l.length : Int) by omega), if_neg (show ¬ (l.getD (i - 1) 0 > l.getD i 0) by omega)]
          rw [wrap_succ i (by omega)]
          exact hb
        · rw [hj]
          constructor
          · intro H j h1 h2
            by_cases e : j = i
            · rw [e]; exact c
            · exact H j (by omega) h2
          · intro H j h1 h2
            exact H j (by omega) h2
      · refine ⟨false, ?_, ?_⟩
        · refine Ev.step (fun k => by rw [spec_piGood.l0]) ?_
          simp only [w, rd_nat, if_pos (show (i : Int) < (l.length : Int) by omega), if_pos (show (0 : Int) ≤ (i : Int) by omega), if_pos (show (0 : Int) ≤ ((i - 1 : Nat) : Int) by omega), if_pos (show ((i - 1 : Nat) : Int) < (l.length : Int) by omega), if_pos (show (l.getD (i - 1) 0 > l.getD i 0) by omega)]
          exact Ev.now _
        · constructor
          · intro H; cases H
          · intro H; exact absurd (H i (by omega) hlt) c
    · exact piGood_loop l hm 0 i h0 (by omega)
theorem piGood_ev (l : List Int) (hm : l.length ≤ 1099511627776) : ∃ b, Ev (fun k => spec_piGood.f k l) b ∧ (b = true ↔ Good l) := by
  by_cases c : l.length ≤ 20
  · obtain ⟨a, ha, ja⟩ := l1All_ev 1 10000 l hm
    cases a with
    | true =>
      obtain ⟨b, hb, jb⟩ := piGood_loop l hm l.length 1 (by omega) (by omega)
      refine ⟨b, ?_, ?_⟩
      · unfold spec_piGood.f
        simp only [if_neg (show ¬ ((l.length : Int) > 20) by omega)]
        refine Ev.bind ha ?_
        refine Ev.step (fun k => by rw [spec_piGood.j0]) ?_
        simp only [Bool.not_true, Bool.false_eq_true, if_false]
        exact hb
      · rw [jb]
        exact ⟨fun H => ⟨c, ja.1 rfl, H⟩, fun H => H.2.2⟩
    | false =>
      refine ⟨false, ?_, ?_⟩
      · unfold spec_piGood.f
        simp only [if_neg (show ¬ ((l.length : Int) > 20) by omega)]
        refine Ev.bind ha ?_
        refine Ev.step (fun k => by rw [spec_piGood.j0]) ?_
        simp only [Bool.not_false, if_true]
        exact Ev.now _
      · exact ⟨fun H => (by cases H), fun H => ja.2 H.2.1⟩
  · refine ⟨false, ?_, ?_⟩
    · unfold spec_piGood.f
      simp only [if_pos (show ((l.length : Int) > 20) by omega)]
      refine Ev.step (fun k => by rw [spec_piGood.j0]) ?_
      simp only [if_true]
      exact Ev.now _
    · exact ⟨fun H => (by cases H), fun H => absurd H.1 c⟩

theorem less_eq (a b : Int) : cmp_Less_int.f a b = some (decide (a < b)) := by
  unfold cmp_Less_int.f cmp_isNaN_int.f
  simp
theorem isSorted_loop (l : List Int) (hm : l.length ≤ 1099511627776) : ∀ (i : Nat), i < l.length →
    ∃ b, Ev (fun k => slices_IsSorted_int_int.l0 k l (i : Int)) b ∧ (b = true ↔ ∀ j, 1 ≤ j → j ≤ i → l.getD (j - 1) 0 ≤ l.getD j 0)
  | 0, h => by
    refine ⟨true, ?_, by simp only [true_iff]; intro j h1 h2; omega⟩
    refine Ev.step (fun k => by rw [slices_IsSorted_int_int.l0]) ?_
    simp only [if_neg (show ¬ (((0 : Nat) : Int) > 0) by omega)]
    exact Ev.now _
  | i + 1, h => by
    have w : wrap64 (((i + 1 : Nat) : Int) - 1) = (i : Int) := by rw [wrap_id _ (by omega) (by omega)]; omega
    by_cases c : l.getD i 0 ≤ l.getD (i + 1) 0
    · obtain ⟨b, hb, hj⟩ := isSorted_loop l hm i (by omega)
      refine ⟨b, ?_, ?_⟩
      · refine Ev.step (fun k => by rw [slices_IsSorted_int_int.l0]) ?_
        simp only [w, rd_nat, less_eq, if_pos (show ((i + 1 : Nat) : Int) > 0 by omega), if_pos (show (0 : Int) ≤ ((i + 1 : Nat) : Int) by omega), if_pos (show ((i + 1 : Nat) : Int) < (l.length : Int) by omega), if_pos (show (0 : Int) ≤ (i : Int) by omega), if_pos (show (i : Int) < (l.length : Int) by omega), Option.bind_some, decide_eq_false (show ¬ (l.getD (i + 1) 0 < l.getD i 0) by omega), Bool.false_eq_true, if_false]
        exact hb
      · rw [hj]
        constructor
        · intro H j h1 h2
          by_cases e : j = i + 1
          · subst e; exact c
          · exact H j h1 (by omega)
        · intro H j h1 h2
          exact H j h1 (by omega)
    · refine ⟨false, ?_, ?_⟩
      · refine Ev.step (fun k => by rw [slices_IsSorted_int_int.l0]) ?_
        simp only [w, rd_nat, less_eq, if_pos (show ((i + 1 : Nat) : Int) > 0 by omega), if_pos (show (0 : Int) ≤ ((i + 1 : Nat) : Int) by omega), if_pos (show ((i + 1 : Nat) : Int) < (l.length : Int) by omega), if_pos (show (0 : Int) ≤ (i : Int) by omega), if_pos (show (i : Int) < (l.length : Int) by omega), Option.bind_some, decide_eq_true (show (l.getD (i + 1) 0 < l.getD i 0) by omega), if_true]
        exact Ev.now _
      · constructor
        · intro H; cases H
        · intro H; exact absurd (H (i + 1) (by omega) (by omega)) c
theorem isSorted_ev (l : List Int) (hm : l.length ≤ 1099511627776) :
    ∃ b, Ev (fun k => slices_IsSorted_int_int.f k l) b ∧ (b = true ↔ ∀ j, 1 ≤ j → j < l.length → l.getD (j - 1) 0 ≤ l.getD j 0) := by
  unfold slices_IsSorted_int_int.f
  by_cases c : l.length = 0
  · refine ⟨true, ?_, by simp only [true_iff]; intro j h1 h2; omega⟩
    rw [c, wrap_id _ (by omega) (by omega)]
    refine Ev.step (fun k => by rw [slices_IsSorted_int_int.l0]) ?_
    simp only [if_neg (show ¬ (((0 : Nat) : Int) - 1 > 0) by omega)]
    exact Ev.now _
  · obtain ⟨b, hb, hj⟩ := isSorted_loop l hm (l.length - 1) (by omega)
    refine ⟨b, ?_, ?_⟩
    · rw [wrap_id _ (by omega) (by omega), show ((l.length : Int) - 1) = ((l.length - 1 : Nat) : Int) by omega]
      exact hb
    · rw [hj]
      exact ⟨fun H j h1 h2 => H j h1 (by omega), fun H j h1 h2 => H j h1 (by omega)⟩

theorem arePieces_ev (l : List Int) (hm : l.length ≤ 1099511627776) : ∃ b, Ev (fun k => impl_ArePieces.f k l) b ∧ (b = true ↔ Good l) := by
  unfold impl_ArePieces.f
  by_cases c : l.length ≤ 20
  · simp only [if_pos (show ((l.length : Int) ≤ 20) by omega)]
    obtain ⟨a, ha, ja⟩ := areWithin_eq l 1 10000 hm
    rw [ha]
    cases a with
    | true =>
      obtain ⟨b, hb, jb⟩ := isSorted_ev l hm
      refine ⟨b, ?_, ?_⟩
      · simp only [Option.bind_some, if_true]
        refine Ev.bind hb ?_
        exact Ev.now _
      · rw [jb]
        exact ⟨fun H => ⟨c, ja.1 rfl, H⟩, fun H => H.2.2⟩
    | false =>
      refine ⟨false, ?_, ?_⟩
      · simp only [Option.bind_some, Bool.false_eq_true, if_false]
        exact Ev.now _
      · exact ⟨fun H => (by cases H), fun H => ja.2 H.2.1⟩
  · refine ⟨false, ?_, ?_⟩
    · simp only [if_neg (show ¬ ((l.length : Int) ≤ 20) by omega)]
      exact Ev.now _
    · exact ⟨fun H => (by cases H), fun H => absurd H.1 c⟩
theorem good_same (l : List Int) (hm : l.length ≤ 1099511627776) : ∃ b, Ev (fun k => spec_piGood.f k l) b ∧ Ev (fun k => impl_ArePieces.f k l) b ∧ (b = true ↔ Good l) := by
  obtain ⟨b, hb, jb⟩ := piGood_ev l hm
  obtain ⟨c, hc, jc⟩ := arePieces_ev l hm
  have e := bool_same jb jc
  subst e
  exact ⟨b, hb, hc, jb⟩

theorem few_same (l : List Int) (hm : l.length ≤ 1099511627776) : ∃ b, Ev (fun k => spec_paFew.f k l) b ∧ Ev (fun k => impl_arePaid.f k l) b ∧ (b = true ↔ Good l ∧ l.length ≤ 8) := by
  obtain ⟨b, hs, hi, jb⟩ := good_same l hm
  unfold spec_paFew.f impl_arePaid.f
  cases b with
  | true =>
    refine ⟨decide ((l.length : Int) ≤ 8), Ev.bind hs ?_, Ev.bind hi ?_, ?_⟩
    · simp only [if_true]; exact Ev.now _
    · simp only [if_true]; exact Ev.now _
    · rw [decide_eq_true_eq]
      exact ⟨fun h => ⟨jb.1 rfl, by omega⟩, fun h => by omega⟩
  | false =>
    refine ⟨false, Ev.bind hs ?_, Ev.bind hi ?_, ?_⟩
    · simp only [Bool.false_eq_true, if_false]; exact Ev.now _
    · simp only [Bool.false_eq_true, if_false]; exact Ev.now _
    · exact ⟨fun h => (by cases h), fun h => jb.2 h.1⟩
/-- What may be held: places of a list of so many, in their order. -/
def Held (n : Nat) (x : List Int) : Prop := ∀ j, j < x.length → (0 ≤ x.getD j 0 ∧ x.getD j 0 ≤ (n : Int) - 1) ∧ (0 < j → x.getD (j - 1) 0 < x.getD j 0)
/-- What a plan is. -/
def Plan (n : Nat) (l : List (List Int)) : Prop := l.length ≤ 60 ∧ ∀ i, i < l.length → Held n (l.getD i [])
theorem paPlan_loop (l : List Int) (hm : l.length ≤ 1048576) (p : List (List Int)) (sm : Small p) : ∀ (d i : Nat), i + d = p.length →
    ∃ b, Ev (fun k => spec_paPlan.l0 k l p (p.length : Int) (i : Int)) b ∧ (b = true ↔ ∀ j, i ≤ j → j < p.length → Held l.length (p.getD j []))
  | 0, i, h => by
    refine ⟨true, ?_, by simp only [true_iff]; intro j h1 h2; omega⟩
    refine Ev.step (fun k => by rw [spec_paPlan.l0]) ?_
    simp only [if_neg (show ¬ ((i : Int) < (p.length : Int)) by omega)]
    exact Ev.now _
  | d + 1, i, h => by
    have hxi := sm.2 i (by omega)
    have hl := sm.1
    obtain ⟨a, ha, ja⟩ := l1Rising_ev 0 ((l.length : Int) - 1) (p.getD i []) (by omega)
    have w : wrap64 ((l.length : Int) - 1) = (l.length : Int) - 1 := wrap_id _ (by omega) (by omega)
    cases a with
    | true =>
      obtain ⟨b, hb, jb⟩ := paPlan_loop l hm p sm d (i + 1) (by omega)
      refine ⟨b, ?_, ?_⟩
      · refine Ev.step (fun k => by rw [spec_paPlan.l0]) ?_
        simp only [if_pos (show (i : Int) < (p.length : Int) by omega), if_pos (show (0 : Int) ≤ (i : Int) by omega), rdL_nat, w]
        refine Ev.bind ha ?_
        simp only [if_true]
        rw [wrap_succ i (by omega)]
        exact hb
      · rw [jb]
        constructor
        · intro H j h1 h2
          by_cases e : j = i
          · rw [e]; exact ja.1 rfl
          · exact H j (by omega) h2
        · intro H j h1 h2
          exact H j (by omega) h2
    | false =>
      refine ⟨false, ?_, ?_⟩
      · refine Ev.step (fun k => by rw [spec_paPlan.l0]) ?_
        simp only [if_pos (show (i : Int) < (p.length : Int) by omega), if_pos (show (0 : Int) ≤ (i : Int) by omega), rdL_nat, w]
        refine Ev.bind ha ?_
        simp only [Bool.false_eq_true, if_false]
        exact Ev.now _
      · exact ⟨fun h => (by cases h), fun H => ja.2 (H i (by omega) (by omega))⟩
theorem paPlan_ev (l : List Int) (hm : l.length ≤ 1048576) (p : List (List Int)) (sm : Small p) : ∃ b, Ev (fun k => spec_paPlan.f k l p) b ∧ (b = true ↔ Plan l.length p) := by
  unfold spec_paPlan.f
  by_cases c : (p.length : Int) > 60
  · simp only [if_pos c]
    exact ⟨false, Ev.now _, fun h => (by cases h), fun h => absurd h.1 (by omega)⟩
  · simp only [if_neg c]
    obtain ⟨b, hb, jb⟩ := paPlan_loop l hm p sm p.length 0 (by omega)
    exact ⟨b, hb, by rw [jb]; exact ⟨fun H => ⟨by omega, fun i h => H i (by omega) h⟩, fun H j _ h => H.2 j h⟩⟩
theorem planQ_ev (l : List Int) (hm : l.length ≤ 1048576) (x : List Int) (hx : x.length ≤ 1048576) : ∃ b, Ev (fun k => impl_IsPlan.q k l x) b ∧ (b = true ↔ ¬ Held l.length x) := by
  have w : wrap64 ((l.length : Int) - 1) = (l.length : Int) - 1 := wrap_id _ (by omega) (by omega)
  unfold impl_IsPlan.q
  rw [w]
  obtain ⟨a, ha, ja⟩ := areWithin_eq x 0 ((l.length : Int) - 1) (by omega)
  rw [ha]
  simp only [Option.bind_some]
  cases a with
  | true =>
    obtain ⟨b, hb, jb⟩ := rises_ev x (by omega)
    simp only [if_true]
    refine ⟨!b, Ev.bind hb (Ev.now _), ?_⟩
    have e : b = true ↔ Held l.length x := by
      rw [jb]
      exact ⟨fun H j h => ⟨ja.1 rfl j h, fun h0 => H j h0 h⟩, fun H j h0 h => (H j h).2 h0⟩
    rw [← e]
    cases b <;> simp
  | false =>
    simp only [Bool.false_eq_true, if_false]
    refine ⟨true, Ev.now _, by simp only [true_iff]; intro H; have := ja.2 (fun j h => (H j h).1); cases this⟩
theorem find_ev (q : Nat → List Int → Option Bool) (P : List Int → Prop) : ∀ (l : List (List Int)), (∀ x ∈ l, ∃ b, Ev (fun k => q k x) b ∧ (b = true ↔ P x)) → ∃ r, Ev (fun k => hwFind (q k) l) r ∧ -1 ≤ r ∧ (0 ≤ r ↔ ∃ i, i < l.length ∧ P (l.getD i [])) ∧ (0 ≤ r → r.toNat < l.length ∧ P (l.getD r.toNat []) ∧ ∀ j, j < r.toNat → ¬ P (l.getD j []))
  | [], _ => ⟨-1, by simp only [hwFind]; exact Ev.now _, by omega, by simp, fun h => by omega⟩
  | x :: l, h => by
    obtain ⟨b, hb, jb⟩ := h x List.mem_cons_self
    simp only [hwFind]
    cases b with
    | true =>
      refine ⟨0, Ev.bind hb (by simp only [if_true]; exact Ev.now _), by omega, ?_, fun _ => ?_⟩
      · simp only [Int.le_refl, true_iff]
        exact ⟨0, by simp, jb.1 rfl⟩
      · exact ⟨by simp, jb.1 rfl, fun j hj => by simp at hj⟩
    | false =>
      obtain ⟨r, hr, h0, hp, hq⟩ := find_ev q P l (fun y hy => h y (List.mem_cons_of_mem _ hy))
      have nx : ¬ P x := fun hh => by have := jb.2 hh; cases this
      refine ⟨if r < 0 then -1 else r + 1, Ev.bind hb (by simp only [Bool.false_eq_true, if_false]; exact Ev.bind hr (Ev.now _)), by split <;> omega, ?_, ?_⟩
      · constructor
        · intro H
          have : 0 ≤ r := by split at H <;> omega
          obtain ⟨i, hi, hP⟩ := hp.1 this
          exact ⟨i + 1, by simp; omega, by simpa using hP⟩
        · rintro ⟨i, hi, hP⟩
          cases i with
          | zero => exact absurd hP nx
          | succ i =>
            have := hp.2 ⟨i, by simpa using hi, by simpa using hP⟩
            split <;> omega
      · intro H
        have h1 : 0 ≤ r := by split at H <;> omega
        obtain ⟨q1, q2, q3⟩ := hq h1
        rw [if_neg (by omega)]
        have e : (r + 1).toNat = r.toNat + 1 := by omega
        rw [e]
        refine ⟨by simp; omega, by simpa using q2, fun j hj => ?_⟩
        cases j with
        | zero => exact nx
        | succ j => simpa using q3 j (by omega)
theorem implPlan_ev (l : List Int) (hm : l.length ≤ 1048576) (p : List (List Int)) (sm : Small p) (b : Bool) (hi : Ev (fun k => impl_arePaid.f k l) b) (c : Bool) (hc : c = true ↔ Plan l.length p) :
    Ev (fun k => impl_IsPlan.f k l p) (if b = true then (c, true) else (false, false)) := by
  unfold impl_IsPlan.f
  refine Ev.bind hi ?_
  cases b with
  | false => simp only [Bool.false_eq_true, if_false]; exact Ev.now _
  | true =>
    simp only [if_true]
    by_cases h60 : p.length ≤ 60
    · simp only [if_pos h60]
      obtain ⟨r, hr, h0, hp, _⟩ := find_ev (fun k => impl_IsPlan.q k l) (fun x => ¬ Held l.length x) p (fun x hx => planQ_ev l hm x (by
        obtain ⟨j, hj, rfl⟩ := List.getElem_of_mem hx
        have := sm.2 j hj
        rw [List.getD_eq_getElem?_getD, List.getElem?_eq_getElem hj] at this
        exact this))
      have e : c = !decide (0 ≤ r) := by
        refine bool_same hc ?_
        rw [Bool.not_eq_true', decide_eq_false_iff_not, hp]
        constructor
        · intro H
          refine ⟨h60, fun i h => ?_⟩
          by_cases z : Held l.length (p.getD i [])
          · exact z
          · exact absurd ⟨i, h, z⟩ H
        · rintro H ⟨i, h, z⟩
          exact z (H.2 i h)
      rw [e]
      exact Ev.bind hr (Ev.now _)
    · simp only [if_neg h60]
      have e : c = false := by
        cases c with
        | false => rfl
        | true => exact absurd (hc.1 rfl).1 h60
      rw [e]
      exact Ev.now _

theorem isPlan_ev (l : List Int) (hm : l.length ≤ 1048576) (p : List (List Int)) (sm : Small p) (b : Bool) (hi : Ev (fun k => impl_arePaid.f k l) b) (c : Bool) (hc : c = true ↔ Plan l.length p) : Ev (fun k => impl_isPlan.f k l p) (b && c) := by
  unfold impl_isPlan.f
  refine Ev.bind (implPlan_ev l hm p sm b hi c hc) ?_
  cases b <;> simp only [Bool.false_eq_true, if_false, if_true, Bool.true_and, Bool.false_and] <;> exact Ev.now _
theorem plan_same (l : List Int) (hm : l.length ≤ 1048576) (p : List (List Int)) (sm : Small p) : ∃ b c, Ev (fun k => spec_paFew.f k l) b ∧ Ev (fun k => spec_paPlan.f k l p) c ∧ Ev (fun k => impl_isPlan.f k l p) (b && c) ∧ ((b && c) = true → Plan l.length p ∧ Good l ∧ l.length ≤ 8) := by
  obtain ⟨b, hs, hi, jb⟩ := few_same l (by omega)
  obtain ⟨c, hc, jc⟩ := paPlan_ev l hm p sm
  refine ⟨b, c, hs, hc, isPlan_ev l hm p sm b hi c jc, fun h => ?_⟩
  rw [Bool.and_eq_true] at h
  exact ⟨jc.1 h.2, jb.1 h.1⟩
/-- What is held before a day. -/
def befL (p : List (List Int)) (i : Nat) : List Int := if i = 0 then [] else p.getD (i - 1) []
theorem before_eq (p : List (List Int)) (i : Nat) (hi : i < p.length) (hm : p.length ≤ 1048576) : spec_paBefore.f p (i : Int) = some (befL p i) ∧ impl_before.f p (i : Int) = some (befL p i) := by
  unfold spec_paBefore.f impl_before.f befL
  by_cases c : i = 0
  · subst c
    exact ⟨rfl, rfl⟩
  · have w : wrap64 ((i : Int) - 1) = ((i - 1 : Nat) : Int) := by rw [wrap_id _ (by omega) (by omega)]; omega
    simp only [w, if_neg (show ¬ ((i : Int) = 0) by omega), if_pos (show (0 : Int) ≤ ((i - 1 : Nat) : Int) by omega), if_pos (show ((i - 1 : Nat) : Int) < (p.length : Int) by omega), if_neg c, rdL_nat]
    exact ⟨trivial, trivial⟩
theorem bef_len (p : List (List Int)) (sm : Small p) (i : Nat) (hi : i < p.length) : (befL p i).length ≤ 1048576 := by
  unfold befL
  split
  · simp
  · exact sm.2 _ (by omega)

theorem drop_getD (l : List Int) (i : Nat) (hi : i < l.length) : l.drop i = l.getD i 0 :: l.drop (i + 1) := by
  rw [List.drop_eq_getElem_cons hi, List.getD_eq_getElem?_getD, List.getElem?_eq_getElem hi]; rfl
theorem l1Has_loop (x : Int) (l : List Int) (hm : l.length ≤ 1099511627776) : ∀ (d i : Nat), i + d = l.length → Ev (fun k => spec_l1Has.l0 k x l (l.length : Int) (i : Int)) (decide (x ∈ l.drop i))
  | 0, i, h => by
    refine Ev.step (fun k => by rw [spec_l1Has.l0]) ?_
    simp only [if_neg (show ¬ ((i : Int) < (l.length : Int)) by omega)]
    rw [List.drop_of_length_le (by omega)]
    exact Ev.now _
  | d + 1, i, h => by
    have hi : i < l.length := by omega
    refine Ev.step (fun k => by rw [spec_l1Has.l0]) ?_
    simp only [if_pos (show (i : Int) < (l.length : Int) by omega), if_pos (show (0 : Int) ≤ (i : Int) by omega)]
    rw [drop_getD l i hi]
    by_cases c : l.getD i 0 = x
    · simp only [if_pos (show rd l (i : Int) = x from c)]
      rw [decide_eq_true (by rw [c]; exact List.mem_cons_self)]
      exact Ev.now _
    · simp only [if_neg (show ¬ rd l (i : Int) = x from c)]
      rw [wrap_succ i (by omega)]
      have := l1Has_loop x l hm d (i + 1) (by omega)
      rw [show decide (x ∈ l.getD i 0 :: l.drop (i + 1)) = decide (x ∈ l.drop (i + 1)) by rw [decide_eq_decide, List.mem_cons]; exact ⟨fun h => h.resolve_left (fun h => c h.symm), .inr⟩]
      exact this
theorem l1Has_ev (l : List Int) (x : Int) (hm : l.length ≤ 1099511627776) : Ev (fun k => spec_l1Has.f k l x) (decide (x ∈ l)) := by
  have := l1Has_loop x l hm l.length 0 (by omega)
  rw [List.drop_zero] at this
  exact this
theorem index_loop (x : Int) (l : List Int) (hm : l.length ≤ 1099511627776) : ∀ (d i : Nat), i + d = l.length → ∃ r, Ev (fun k => slices_Index_int_int.l0 k l x (l.length : Int) (i : Int)) r ∧ decide (r ≥ 0) = decide (x ∈ l.drop i)
  | 0, i, h => by
    refine ⟨-1, ?_, by rw [List.drop_of_length_le (by omega)]; simp⟩
    refine Ev.step (fun k => by rw [slices_Index_int_int.l0]) ?_
    simp only [if_neg (show ¬ ((i : Int) < (l.length : Int)) by omega)]
    exact Ev.now _
  | d + 1, i, h => by
    have hi : i < l.length := by omega
    by_cases c : x = l.getD i 0
    · refine ⟨(i : Int), ?_, by rw [drop_getD l i hi, ← c, decide_eq_true (List.mem_cons_self), decide_eq_true (by omega)]⟩
      refine Ev.step (fun k => by rw [slices_Index_int_int.l0]) ?_
      simp only [if_pos (show (i : Int) < (l.length : Int) by omega), if_pos (show (0 : Int) ≤ (i : Int) by omega), if_pos (show x = rd l (i : Int) from c)]
      exact Ev.now _
    · obtain ⟨r, hr, hj⟩ := index_loop x l hm d (i + 1) (by omega)
      refine ⟨r, ?_, ?_⟩
      · refine Ev.step (fun k => by rw [slices_Index_int_int.l0]) ?_
        simp only [if_pos (show (i : Int) < (l.length : Int) by omega), if_pos (show (0 : Int) ≤ (i : Int) by omega), if_neg (show ¬ x = rd l (i : Int) from c)]
        rw [wrap_succ i (by omega)]
        exact hr
      · rw [hj, drop_getD l i hi, decide_eq_decide, List.mem_cons]
        exact ⟨.inr, fun h => h.resolve_left c⟩
theorem contains_ev (l : List Int) (x : Int) (hm : l.length ≤ 1099511627776) : Ev (fun k => slices_Contains_int_int.f k l x) (decide (x ∈ l)) := by
  obtain ⟨r, hr, hj⟩ := index_loop x l hm l.length 0 (by omega)
  rw [List.drop_zero] at hj
  unfold slices_Contains_int_int.f slices_Index_int_int.f
  refine Ev.bind hr ?_
  rw [hj]
  exact Ev.now _
/-- What is in one list and not in another one. -/
def onlyL (a b : List Int) : List Int := a.filter fun x => !decide (x ∈ b)
theorem onlyL_len (a b : List Int) : (onlyL a b).length ≤ a.length := List.length_filter_le _ _
theorem only_step (a b : List Int) (i : Nat) (hi : i < a.length) (acc : List Int) : acc ++ onlyL (a.drop i) b = (if a.getD i 0 ∈ b then acc else acc ++ [a.getD i 0]) ++ onlyL (a.drop (i + 1)) b := by
  conv => lhs; rw [drop_getD a i hi]
  unfold onlyL
  rw [List.filter_cons]
  by_cases c : a.getD i 0 ∈ b
  · rw [if_pos c, decide_eq_true c]; rfl
  · rw [if_neg c, decide_eq_false c, List.append_assoc]; rfl
theorem only_loop (a b : List Int) (ha : a.length ≤ 1048576) (hb : b.length ≤ 1048576) : ∀ (d i : Nat) (acc : List Int), i + d = a.length → acc.length ≤ i →
    Ev (fun k => spec_paOnly.l0 k b acc a (a.length : Int) (i : Int)) (acc ++ onlyL (a.drop i) b) ∧ Ev (fun k => impl_only.l0 k b acc a (a.length : Int) (i : Int)) (acc ++ onlyL (a.drop i) b)
  | 0, i, acc, h, hl => by
    have e : acc ++ onlyL (a.drop i) b = acc := by rw [List.drop_of_length_le (by omega)]; simp [onlyL]
    rw [e]
    refine ⟨Ev.step (fun k => by rw [spec_paOnly.l0]) ?_, Ev.step (fun k => by rw [impl_only.l0]) ?_⟩ <;>
    · simp only [if_neg (show ¬ ((i : Int) < (a.length : Int)) by omega)]
      exact Ev.now _
  | d + 1, i, acc, h, hl => by
    rw [only_step a b i (by omega)]
    have IH := only_loop a b ha hb d (i + 1) (if a.getD i 0 ∈ b then acc else acc ++ [a.getD i 0]) (by omega) (by split; omega; rw [List.length_append]; simp; omega)
    refine ⟨Ev.step (fun k => by rw [spec_paOnly.l0]) ?_, Ev.step (fun k => by rw [impl_only.l0]) ?_⟩
    · simp only [if_pos (show (i : Int) < (a.length : Int) by omega), if_pos (show (0 : Int) ≤ (i : Int) by omega), rd_nat]
      refine Ev.bind (l1Has_ev b (a.getD i 0) (by omega)) ?_
      simp only [wrap_succ i (show i < 4611686018427387904 by omega), decide_eq_true_eq]
      by_cases c : a.getD i 0 ∈ b
      · simp only [if_pos c] at IH ⊢
        exact IH.1
      · simp only [if_neg c, if_pos (show acc.length < 17592186044416 by omega)] at IH ⊢
        exact IH.1
    · simp only [if_pos (show (i : Int) < (a.length : Int) by omega), if_pos (show (0 : Int) ≤ (i : Int) by omega), rd_nat]
      refine Ev.bind (contains_ev b (a.getD i 0) (by omega)) ?_
      simp only [wrap_succ i (show i < 4611686018427387904 by omega), decide_eq_true_eq]
      by_cases c : a.getD i 0 ∈ b
      · simp only [if_pos c] at IH ⊢
        exact IH.2
      · simp only [if_neg c, if_pos (show acc.length < 17592186044416 by omega)] at IH ⊢
        exact IH.2
theorem only_ev (a b : List Int) (ha : a.length ≤ 1048576) (hb : b.length ≤ 1048576) : Ev (fun k => spec_paOnly.f k a b) (onlyL a b) ∧ Ev (fun k => impl_only.f k a b) (onlyL a b) := by
  have := only_loop a b ha hb a.length 0 [] (by omega) (by simp)
  rw [List.drop_zero, List.nil_append] at this
  exact this

theorem given_ev (p : List (List Int)) (sm : Small p) (i : Nat) (hi : i < p.length) : Ev (fun k => impl_given.f k p (i : Int)) (onlyL (p.getD i []) (befL p i), onlyL (befL p i) (p.getD i [])) := by
  have hl := sm.1
  unfold impl_given.f
  rw [(before_eq p i hi sm.1).2]
  simp only [Option.bind_some, if_pos (show (0 : Int) ≤ (i : Int) by omega), if_pos (show (i : Int) < (p.length : Int) by omega), rdL_nat]
  refine Ev.bind (only_ev _ _ (sm.2 i hi) (bef_len p sm i hi)).2 ?_
  refine Ev.bind (only_ev _ _ (bef_len p sm i hi) (sm.2 i hi)).2 ?_
  exact Ev.now _

theorem within_eq (x lo hi : Int) : impl_within.f x lo hi = some (decide (lo ≤ x ∧ x ≤ hi)) := by
  unfold impl_within.f
  by_cases c : lo ≤ x
  · rw [if_pos c]; congr 1; by_cases d : x ≤ hi
    · rw [decide_eq_true d, decide_eq_true ⟨c, d⟩]
    · rw [decide_eq_false d, decide_eq_false (fun h => d h.2)]
  · rw [if_neg c, decide_eq_false (fun h => c h.1)]

theorem day_same (l : List Int) (p : List (List Int)) (a : Int) (hm : l.length ≤ 1048576) (sm : Small p) : ∃ b, Ev (fun k => spec_paDay.f k l p a) b ∧ Ev (fun k => impl_isPlanDay.f k l p a) b ∧ (b = true → (0 ≤ a ∧ a < (p.length : Int)) ∧ Plan l.length p ∧ Good l ∧ l.length ≤ 8) := by
  obtain ⟨b, c, hs, hc, hi, hg⟩ := plan_same l hm p sm
  have hl := sm.1
  unfold spec_paDay.f impl_isPlanDay.f
  refine ⟨(b && c) && decide (0 ≤ a ∧ a ≤ (p.length : Int) - 1), Ev.bind hs ?_, Ev.bind hi ?_, fun h => ?_⟩
  · cases b with
    | false => simp only [Bool.false_eq_true, if_false, Bool.false_and]; exact Ev.now _
    | true =>
      simp only [if_true, Bool.true_and]
      refine Ev.bind hc ?_
      cases c with
      | false => simp only [Bool.false_eq_true, if_false, Bool.false_and]; exact Ev.now _
      | true =>
        simp only [if_true, Bool.true_and, l1In_eq, Option.bind_some]
        rw [wrap_id _ (by omega) (by omega)]
        exact Ev.now _
  · cases hbc : b && c with
    | false => simp only [Bool.false_eq_true, if_false, Bool.false_and]; exact Ev.now _
    | true =>
      simp only [if_true, Bool.true_and, within_eq, Option.bind_some]
      rw [wrap_id _ (by omega) (by omega)]
      exact Ev.now _
  · rw [Bool.and_eq_true, decide_eq_true_eq] at h
    exact ⟨by omega, hg h.1⟩

theorem markG_loop (a : Int) (h0 : 0 ≤ a) (h1 : a ≤ 1152921504606846976) : ∀ (d i : Nat) (cur : List Int), i + d = cur.length → cur.length ≤ 1099511627776 → (∀ j, j < i → cur[j]? = some (a + (j : Int))) →
    ∃ m : List Int, m.length = cur.length ∧ (∀ j, j < m.length → m[j]? = some (a + (j : Int))) ∧ Ev (fun k => laws_markIntS.l0 k cur (a + (i : Int)) (i : Int)) (a + (cur.length : Int), m)
  | 0, i, cur, h, hm, hj => by
    refine ⟨cur, rfl, fun j hlt => hj j (by omega), ?_⟩
    refine Ev.step (fun k => by rw [laws_markIntS.l0]) ?_
    simp only [if_neg (show ¬ ((i : Int) < (cur.length : Int)) by omega)]
    rw [show (a + (cur.length : Int)) = (a + (i : Int)) by omega]
    exact Ev.now _
  | d + 1, i, cur, h, hm, hj => by
    obtain ⟨m, h2, h3, h4⟩ := markG_loop a h0 h1 d (i + 1) (cur.set i (a + (i : Int))) (by simp; omega) (by simpa using hm) (fun j hlt => by
      rw [List.getElem?_set]
      by_cases c : i = j
      · subst c; rw [if_pos rfl, if_pos (by omega)]
      · rw [if_neg c]; exact hj j (by omega))
    rw [List.length_set] at h2 h4
    refine ⟨m, h2, h3, ?_⟩
    refine Ev.step (fun k => by rw [laws_markIntS.l0]) ?_
    simp only [if_pos (show (i : Int) < (cur.length : Int) by omega), if_pos (show (0 : Int) ≤ (i : Int) by omega)]
    rw [wrap_succ i (by omega), Int.toNat_natCast, show wrap64 (a + (i : Int) + 1) = a + ((i + 1 : Nat) : Int) by rw [wrap_id _ (by omega) (by omega)]; omega]
    exact h4
theorem heldG_loop (a : Int) (h0 : 0 ≤ a) (h1 : a ≤ 1152921504606846976) (m : List Int) (hm : m.length ≤ 1099511627776) (hj : ∀ j, j < m.length → m[j]? = some (a + (j : Int))) : ∀ (d i : Nat), i + d = m.length →
    Ev (fun k => laws_heldIntS.l0 k m (a + (i : Int)) (i : Int)) (a + (m.length : Int))
  | 0, i, h => by
    refine Ev.step (fun k => by rw [laws_heldIntS.l0]) ?_
    simp only [if_neg (show ¬ ((i : Int) < (m.length : Int)) by omega)]
    rw [show (a + (m.length : Int)) = (a + (i : Int)) by omega]
    exact Ev.now _
  | d + 1, i, h => by
    refine Ev.step (fun k => by rw [laws_heldIntS.l0]) ?_
    have e : rd m (i : Int) = a + (i : Int) := by
      rw [rd_nat, List.getD_eq_getElem?_getD, hj i (by omega)]; rfl
    simp only [if_pos (show (i : Int) < (m.length : Int) by omega), if_pos (show (0 : Int) ≤ (i : Int) by omega), e, if_true]
    rw [wrap_succ i (by omega), show wrap64 (a + (i : Int) + 1) = a + ((i + 1 : Nat) : Int) by rw [wrap_id _ (by omega) (by omega)]; omega]
    exact heldG_loop a h0 h1 m hm hj d (i + 1) (by omega)
theorem markG_ev (a : Int) (h0 : 0 ≤ a) (h1 : a ≤ 1152921504606846976) (l : List Int) (hm : l.length ≤ 1099511627776) :
    ∃ m : List Int, m.length = l.length ∧ Ev (fun k => laws_markIntS.f k l a) (a + (l.length : Int), m) ∧ Ev (fun k => laws_heldIntS.f k m a) (a + (l.length : Int)) := by
  obtain ⟨m, h2, h3, h4⟩ := markG_loop a h0 h1 l.length 0 l (by omega) hm (fun j h => by omega)
  refine ⟨m, h2, ?_, ?_⟩
  · unfold laws_markIntS.f; simpa using h4
  · have := heldG_loop a h0 h1 m (by omega) h3 m.length 0 (by omega)
    unfold laws_heldIntS.f
    rw [h2] at this
    simpa using this

theorem markSS_ev : ∀ (l : List (List Int)) (a : Int), (∀ x ∈ l, x.length ≤ 1048576) → 0 ≤ a → a + (l.length : Int) * 1048576 ≤ 1152921504606846976 →
    ∃ (r : Int) (l' : List (List Int)), l'.length = l.length ∧ (∀ x ∈ l', x.length ≤ 1048576) ∧ 0 ≤ r ∧ a ≤ r ∧ r ≤ a + (l.length : Int) * 1048576 ∧ Ev (fun k => hwMark (laws_markIntS.f k) l a) (r, l')
  | [], a, _, h0, _ => ⟨a, [], rfl, (fun _ h => by cases h), h0, Int.le_refl _, by simp, by simp only [hwMark]; exact Ev.now _⟩
  | x :: l, a, hx, h0, h1 => by
    have hxl := hx x List.mem_cons_self
    rw [List.length_cons] at h1
    obtain ⟨m, hm, e1, _⟩ := markG_ev a h0 (by omega) x (by omega)
    obtain ⟨r, l', h2, h3, h4, h5, h6, e2⟩ := markSS_ev l (a + (x.length : Int)) (fun y hy => hx y (List.mem_cons_of_mem _ hy)) (by omega) (by omega)
    refine ⟨r, m :: l', by simp [h2], (fun y hy => ?_), h4, by omega, by rw [List.length_cons]; omega, ?_⟩
    · rcases List.mem_cons.1 hy with e | hy
      · rw [e, hm]; exact hxl
      · exact h3 y hy
    · simp only [hwMark]
      refine Ev.bind e1 ?_
      refine Ev.bind e2 ?_
      exact Ev.now _
theorem small_mem {l : List (List Int)} (sm : Small l) : ∀ x ∈ l, x.length ≤ 1048576 := fun x hx => by
  obtain ⟨j, hj, rfl⟩ := List.getElem_of_mem hx
  have := sm.2 j hj
  rw [List.getD_eq_getElem?_getD, List.getElem?_eq_getElem hj] at this
  exact this

theorem GivenAt_same (l : List Int) (p : List (List Int)) (a : Int) (hm : l.length ≤ 1048576) (sm : Small p) : ∃ r : List Int × Bool, r.1.length ≤ 1099511627776 ∧ Ev (fun k => spec_GivenAt.f k l p a) r ∧ Ev (fun k => impl_GivenAt.f k l p a) r := by
  obtain ⟨b, hs, hi, hg⟩ := day_same l p a hm sm
  have hl := sm.1
  unfold spec_GivenAt.f impl_GivenAt.f
  cases b with
  | false => exact ⟨([], false), by simp, Ev.bind hs (by simp only [Bool.false_eq_true, if_false]; exact Ev.now _), Ev.bind hi (by simp only [Bool.false_eq_true, if_false]; exact Ev.now _)⟩
  | true =>
    obtain ⟨⟨h0, h1⟩, hp, _, h8⟩ := hg rfl
    obtain ⟨i, rfl⟩ := Int.eq_ofNat_of_zero_le h0
    have hip : i < p.length := by omega
    have hlen : (onlyL (p.getD i []) (befL p i)).length ≤ 1048576 := Nat.le_trans (onlyL_len _ _) (sm.2 i hip)
    refine ⟨(onlyL (p.getD i []) (befL p i), true), by dsimp only; omega, Ev.bind hs ?_, Ev.bind hi ?_⟩
    · simp only [if_true, (before_eq p i hip sm.1).1, Option.bind_some, if_pos h0, if_pos h1, rdL_nat]
      exact Ev.bind (only_ev _ _ (sm.2 i hip) (bef_len p sm i hip)).1 (Ev.now _)
    · simp only [if_true]
      exact Ev.bind (given_ev p sm i hip) (Ev.now _)
theorem FnExactGivenAt : laws_FnExactGivenAt.Pure := by
  intro l0 l1 a2 h1 h2 h3 h4 h5 h6 w_a2
  by_cases c : (l0.length : Int) > 1048576
  · exact .inl c
  obtain ⟨s, hs0, hs1⟩ := szSS_ev l1 (by unfold maxLen at h4; omega) (fun j hj => (rows_getD l1 h6 j hj).1)
  by_cases c2 : s < 0
  · obtain ⟨K, hK⟩ := hs0
    exact .inr (.inl ⟨K, s, hK K (Nat.le_refl _), c2⟩)
  have sm : Small l1 := by rcases hs1 with z | z; exact absurd z c2; exact z.2
  have hl1 := sm.1
  obtain ⟨⟨g, b⟩, hg, e3, e4⟩ := GivenAt_same l0 l1 a2 (by omega) sm
  replace hg : g.length ≤ 1099511627776 := hg
  obtain ⟨x', hx', e8, _⟩ := markG_ev 1 (by omega) (by omega) l0 (by omega)
  obtain ⟨ky, y', _, _, hky, _, _, e9⟩ := markSS_ev l1 (1 + (l0.length : Int)) (small_mem sm) (by omega) (by omega)
  obtain ⟨g', hg', e11, e12⟩ := markG_ev 1 (by omega) (by omega) g hg
  obtain ⟨K0, q0⟩ := hs0
  obtain ⟨K1, q1⟩ := toInt_ev l0 (by omega)
  obtain ⟨K2, q2⟩ := toSS_ev l1 sm
  obtain ⟨K3, q3⟩ := e3
  obtain ⟨K4, q4⟩ := e4
  obtain ⟨K5, q5⟩ := eq_ev g hg
  obtain ⟨K6, q6⟩ := eq_ev l0 (by omega)
  obtain ⟨K7, q7⟩ := eqSS_ev l1 sm
  obtain ⟨K8, q8⟩ := e8
  obtain ⟨K9, q9⟩ := e9
  obtain ⟨K11, q11⟩ := e11
  obtain ⟨K12, q12⟩ := e12
  refine .inr (.inr ⟨K0 + K1 + K2 + K3 + K4 + K5 + K6 + K7 + K8 + K9 + K11 + K12, g, b, 1 + (l0.length : Int), ky, 1 + (g.length : Int), x', y', g', ⟨s, q0 _ (by omega), c2⟩, q1 _ (by omega), q2 _ (by omega), q3 _ (by omega), q4 _ (by omega), q5 _ (by omega), q6 _ (by omega), q7 _ (by omega), q8 _ (by omega), q9 _ (by omega), by omega, q11 _ (by omega), q12 _ (by omega), by omega⟩)

end Go.Proofs.Ytfldgimmdeijjaa.Pure
