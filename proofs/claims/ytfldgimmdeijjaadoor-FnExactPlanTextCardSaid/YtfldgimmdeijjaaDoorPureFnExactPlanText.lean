/- For every list of whole numbers and every list of lists, the program's PlanText tells what the reference's tells, and the lists read as before. No conditions beside the tied tables of Go's library, which the card ties to the (pruned) program's text. -/
import Derived.Test.YtfldgimmdeijjaaDoorPFnExactPlanTextx7
namespace Go.Proofs.YtfldgimmdeijjaaDoor.Pure
open Go.RowKit Go.Proofs.YtfldgimmdeijjaaDoor.PFnExactPlanText Go.Proofs.YtfldgimmdeijjaaDoorW.PrintWords Go.Proofs.YtfldgimmdeijjaaDoorW.PrintLast
set_option linter.unusedVariables false
set_option linter.unusedSimpArgs false

theorem wrap_id (x : Int) (h0 : -9223372036854775808 ≤ x) (h1 : x ≤ 9223372036854775807) : wrap64 x = x := by
  unfold wrap64; omega
theorem wrap_succ (i : Nat) (h : i < 4611686018427387904) : wrap64 ((i : Int) + 1) = ((i + 1 : Nat) : Int) := by
  rw [wrap_id _ (by omega) (by omega)]; rfl
theorem rd_nat (l : List Int) (i : Nat) : rd l (i : Int) = l.getD i 0 := rfl
theorem getD_some (l : List Int) (i : Nat) (h : i < l.length) : l[i]? = some (l.getD i 0) := by
  rw [List.getD_eq_getElem?_getD, List.getElem?_eq_getElem h]; rfl
theorem bool_same {b c : Bool} {P : Prop} (hb : b = true ↔ P) (hc : c = true ↔ P) : b = c := by
  cases b <;> cases c <;> simp_all

theorem eq_loop (a : List Int) (hm : a.length ≤ 1099511627776) : ∀ (d i : Nat), i + d = a.length → Ev (fun k => laws_eqIntS.l0 k a a (i : Int)) true
  | 0, i, h => by
    refine Ev.step (fun k => by rw [laws_eqIntS.l0]) ?_
    simp only [if_neg (show ¬ ((i : Int) < (a.length : Int)) by omega)]
    exact Ev.now _
  | d + 1, i, h => by
    refine Ev.step (fun k => by rw [laws_eqIntS.l0]) ?_
    simp only [if_pos (show (i : Int) < (a.length : Int) by omega), if_pos (show (0 : Int) ≤ (i : Int) by omega), if_true]
    rw [wrap_succ i (by omega)]
    exact eq_loop a hm d (i + 1) (by omega)
theorem eq_ev (a : List Int) (hm : a.length ≤ 1099511627776) : Ev (fun k => laws_eqIntS.f k a a) true := by
  unfold laws_eqIntS.f
  simp only [if_true]
  exact eq_loop a hm a.length 0 (by omega)

theorem toInt_loop (l : List Int) (hm : l.length ≤ 1099511627776) : ∀ (d i : Nat) (cur : List Int), i + d = l.length → cur.length = l.length → (∀ j, j < i → cur[j]? = l[j]?) → Ev (fun k => laws_toIntS.l0 k l cur (i : Int)) l
  | 0, i, cur, h, hc, hj => by
    refine Ev.step (fun k => by rw [laws_toIntS.l0]) ?_
    simp only [if_neg (show ¬ ((i : Int) < (l.length : Int)) by omega)]
    have e : cur = l := by
      apply List.ext_getElem?
      intro j
      by_cases c : j < i
      · exact hj j c
      · rw [List.getElem?_eq_none (by omega), List.getElem?_eq_none (by omega)]
    rw [e]
    exact Ev.now _
  | d + 1, i, cur, h, hc, hj => by
    refine Ev.step (fun k => by rw [laws_toIntS.l0]) ?_
    simp only [if_pos (show (i : Int) < (l.length : Int) by omega), if_pos (show (0 : Int) ≤ (i : Int) by omega), if_pos (show (i : Int) < (cur.length : Int) by omega)]
    rw [wrap_succ i (by omega), Int.toNat_natCast, rd_nat]
    refine toInt_loop l hm d (i + 1) _ (by omega) (by rw [List.length_set]; exact hc) ?_
    intro j hlt
    rw [List.getElem?_set]
    by_cases c : i = j
    · subst c
      rw [if_pos rfl, if_pos (by omega), getD_some l i (by omega)]
    · rw [if_neg c]
      exact hj j (by omega)
theorem toInt_ev (l : List Int) (hm : l.length ≤ 1099511627776) : Ev (fun k => laws_toIntS.f k l) l := by
  unfold laws_toIntS.f
  simp only [if_pos (show (0 : Int) ≤ (l.length : Int) by omega), if_pos (show ((l.length : Int)).toNat ≤ 35184372088832 by omega)]
  exact toInt_loop l hm l.length 0 _ (by omega) (by simp) (fun j hj => by omega)

/-- A list of lists of a size that the law speaks of. -/
def Small (l : List (List Int)) : Prop := l.length ≤ 1048576 ∧ ∀ j, j < l.length → (l.getD j []).length ≤ 1048576
theorem rdL_nat (l : List (List Int)) (i : Nat) : rd_L1 l (i : Int) = l.getD i [] := rfl
theorem rows_getD (l : List (List Int)) {p : List Int → Prop} (h : ∀ x ∈ l, p x) (j : Nat) (hj : j < l.length) : p (l.getD j []) := by
  rw [List.getD_eq_getElem?_getD, List.getElem?_eq_getElem hj]
  exact h _ (List.getElem_mem hj)

theorem eqSS_loop (a : List (List Int)) (sm : Small a) : ∀ (d i : Nat), i + d = a.length → Ev (fun k => laws_eqIntSS.l0 k a a (i : Int)) true
  | 0, i, h => by
    refine Ev.step (fun k => by rw [laws_eqIntSS.l0]) ?_
    simp only [if_neg (show ¬ ((i : Int) < (a.length : Int)) by omega)]
    exact Ev.now _
  | d + 1, i, h => by
    have hxi := sm.2 i (by omega)
    have hl := sm.1
    refine Ev.step (fun k => by rw [laws_eqIntSS.l0]) ?_
    simp only [if_pos (show (i : Int) < (a.length : Int) by omega), if_pos (show (0 : Int) ≤ (i : Int) by omega), rdL_nat]
    refine Ev.bind (eq_ev (a.getD i []) (by omega)) ?_
    simp only [if_true]
    rw [wrap_succ i (by omega)]
    exact eqSS_loop a sm d (i + 1) (by omega)
theorem eqSS_ev (a : List (List Int)) (sm : Small a) : Ev (fun k => laws_eqIntSS.f k a a) true := by
  unfold laws_eqIntSS.f
  simp only [if_true]
  exact eqSS_loop a sm a.length 0 (by omega)

theorem szS_eq (x : List Int) (a : Int) (h0 : 0 ≤ a) (h1 : a ≤ 1048576) (hx : x.length ≤ 9223372036854775807) : laws_szIntS.f x a = some (if a - (x.length : Int) < 0 then -1 else a - (x.length : Int)) := by
  unfold laws_szIntS.f
  rw [wrap_id _ (by omega) (by omega)]
  split <;> rfl
theorem szSS_loop (l : List (List Int)) (hx : ∀ j, j < l.length → (l.getD j []).length ≤ 9223372036854775807) (hm : l.length ≤ 1048576) : ∀ (d i : Nat) (a : Int), i + d = l.length → 0 ≤ a → a ≤ 1048576 →
    ∃ r, Ev (fun k => laws_szIntSS.l0 k l a (i : Int)) r ∧ (r < 0 ∨ (0 ≤ r ∧ ∀ j, i ≤ j → j < l.length → (l.getD j []).length ≤ 1048576))
  | 0, i, a, h, h0, h1 => by
    refine ⟨a, ?_, .inr ⟨h0, fun j h1 h2 => by omega⟩⟩
    refine Ev.step (fun k => by rw [laws_szIntSS.l0]) ?_
    simp only [if_neg (show ¬ ((i : Int) < (l.length : Int)) by omega)]
    exact Ev.now _
  | d + 1, i, a, h, h0, h1 => by
    have hxi := hx i (by omega)
    by_cases c : a - ((l.getD i []).length : Int) < 0
    · refine ⟨-1, ?_, .inl (by omega)⟩
      refine Ev.step (fun k => by rw [laws_szIntSS.l0]) ?_
      simp only [if_pos (show (i : Int) < (l.length : Int) by omega), if_pos (show (0 : Int) ≤ (i : Int) by omega), rdL_nat, szS_eq _ _ h0 h1 hxi, if_pos c, Option.bind_some, if_pos (show (-1 : Int) < 0 by omega)]
      exact Ev.now _
    · obtain ⟨r, hr, hj⟩ := szSS_loop l hx hm d (i + 1) (a - ((l.getD i []).length : Int)) (by omega) (by omega) (by omega)
      refine ⟨r, ?_, hj.imp id (fun H => ⟨H.1, fun j h1 h2 => ?_⟩)⟩
      · refine Ev.step (fun k => by rw [laws_szIntSS.l0]) ?_
        simp only [if_pos (show (i : Int) < (l.length : Int) by omega), if_pos (show (0 : Int) ≤ (i : Int) by omega), rdL_nat, szS_eq _ _ h0 h1 hxi, if_neg c, Option.bind_some]
        rw [wrap_succ i (by omega)]
        exact hr
      · by_cases e : j = i
        · subst e; omega
        · exact H.2 j (by omega) h2
theorem szSS_ev (l : List (List Int)) (hl : l.length ≤ 9223372036854775807) (hx : ∀ j, j < l.length → (l.getD j []).length ≤ 9223372036854775807) : ∃ r, Ev (fun k => laws_szIntSS.f k l 1048576) r ∧ (r < 0 ∨ (0 ≤ r ∧ Small l)) := by
  unfold laws_szIntSS.f
  rw [wrap_id _ (by omega) (by omega)]
  by_cases c : 1048576 - (l.length : Int) < 0
  · simp only [if_pos c]
    exact ⟨-1, Ev.now _, .inl (by omega)⟩
  · simp only [if_neg c]
    obtain ⟨r, hr, hj⟩ := szSS_loop l hx (by omega) l.length 0 (1048576 - (l.length : Int)) (by omega) (by omega) (by omega)
    exact ⟨r, hr, hj.imp id (fun H => ⟨H.1, by omega, fun j h => H.2 j (by omega) h⟩)⟩
theorem toSS_loop (l : List (List Int)) (sm : Small l) : ∀ (d i : Nat) (cur : List (List Int)), i + d = l.length → cur.length = l.length → (∀ j, j < i → cur[j]? = l[j]?) → Ev (fun k => laws_toIntSS.l0 k l cur (i : Int)) l
  | 0, i, cur, h, hc, hj => by
    refine Ev.step (fun k => by rw [laws_toIntSS.l0]) ?_
    simp only [if_neg (show ¬ ((i : Int) < (l.length : Int)) by omega)]
    have e : cur = l := by
      apply List.ext_getElem?
      intro j
      by_cases c : j < i
      · exact hj j c
      · rw [List.getElem?_eq_none (by omega), List.getElem?_eq_none (by omega)]
    rw [e]
    exact Ev.now _
  | d + 1, i, cur, h, hc, hj => by
    have hxi := sm.2 i (by omega)
    have hl := sm.1
    refine Ev.step (fun k => by rw [laws_toIntSS.l0]) ?_
    simp only [if_pos (show (i : Int) < (l.length : Int) by omega), if_pos (show (0 : Int) ≤ (i : Int) by omega), if_pos (show (i : Int) < (cur.length : Int) by omega), rdL_nat]
    refine Ev.bind (toInt_ev (l.getD i []) (by omega)) ?_
    rw [wrap_succ i (by omega), Int.toNat_natCast]
    refine toSS_loop l sm d (i + 1) _ (by omega) (by rw [List.length_set]; exact hc) ?_
    intro j hlt
    rw [List.getElem?_set]
    by_cases c : i = j
    · subst c
      rw [if_pos rfl, if_pos (by omega), List.getD_eq_getElem?_getD, List.getElem?_eq_getElem (by omega)]; rfl
    · rw [if_neg c]
      exact hj j (by omega)
theorem toSS_ev (l : List (List Int)) (sm : Small l) : Ev (fun k => laws_toIntSS.f k l) l := by
  have hl := sm.1
  unfold laws_toIntSS.f
  simp only [if_pos (show (0 : Int) ≤ (l.length : Int) by omega), if_pos (show ((l.length : Int)).toNat ≤ 11728124029610 by omega)]
  exact toSS_loop l sm l.length 0 _ (by omega) (by simp) (fun j hj => by omega)

theorem l1In_eq (x lo hi : Int) : spec_l1In.f x lo hi = some (decide (lo ≤ x ∧ x ≤ hi)) := by
  unfold spec_l1In.f
  by_cases c : x ≥ lo
  · rw [if_pos c]; congr 1; by_cases d : x ≤ hi
    · rw [decide_eq_true d, decide_eq_true ⟨c, d⟩]
    · rw [decide_eq_false d, decide_eq_false (fun h => d h.2)]
  · rw [if_neg c, decide_eq_false (fun h => c h.1)]

theorem l1Rising_loop (lo hi : Int) (l : List Int) (hm : l.length ≤ 1099511627776) : ∀ (d i : Nat), i + d = l.length →
    ∃ b, Ev (fun k => spec_l1Rising.l0 k l lo hi l (l.length : Int) (i : Int)) b ∧ (b = true ↔ ∀ j, i ≤ j → j < l.length → (lo ≤ l.getD j 0 ∧ l.getD j 0 ≤ hi) ∧ (0 < j → l.getD (j - 1) 0 < l.getD j 0))
  | 0, i, h => by
    refine ⟨true, ?_, by simp only [true_iff]; intro j h1 h2; omega⟩
    refine Ev.step (fun k => by rw [spec_l1Rising.l0]) ?_
    simp only [if_neg (show ¬ ((i : Int) < (l.length : Int)) by omega)]
    exact Ev.now _
  | d + 1, i, h => by
    have w : 0 < i → wrap64 ((i : Int) - 1) = ((i - 1 : Nat) : Int) := fun h => by rw [wrap_id _ (by omega) (by omega)]; omega
    by_cases c : (lo ≤ l.getD i 0 ∧ l.getD i 0 ≤ hi)
    · by_cases c2 : 0 < i → l.getD (i - 1) 0 < l.getD i 0
      · obtain ⟨b, hb, hj⟩ := l1Rising_loop lo hi l hm d (i + 1) (by omega)
        refine ⟨b, ?_, ?_⟩
        · refine Ev.step (fun k => by rw [spec_l1Rising.l0]) ?_
          simp only [if_pos (show (i : Int) < (l.length : Int) by omega), if_pos (show (0 : Int) ≤ (i : Int) by omega), l1In_eq, rd_nat, decide_eq_true c, Option.bind_some, if_true]
          rw [wrap_succ i (by omega)]
          by_cases p : 0 < i
          · have c3 := c2 p
            simp only [w p, rd_nat, if_pos (show (i : Int) > 0 by omega), if_pos (show (0 : Int) ≤ ((i - 1 : Nat) : Int) by omega), if_pos (show ((i - 1 : Nat) : Int) < (l.length : Int) by omega), if_neg (show ¬ (l.getD (i - 1) 0 ≥ l.getD i 0) by omega)]
            exact hb
          · simp only [if_neg (show ¬ ((i : Int) > 0) by omega)]
            exact hb
        · rw [hj]
          constructor
          · intro H j h1 h2
            by_cases e : j = i
            · rw [e]; exact ⟨c, c2⟩
            · exact H j (by omega) h2
          · intro H j h1 h2
            exact H j (by omega) h2
      · have p : 0 < i := by
          rcases Nat.eq_zero_or_pos i with z | z
          · exact absurd (fun hh => by omega) c2
          · exact z
        have c3 : ¬ l.getD (i - 1) 0 < l.getD i 0 := fun hh => c2 (fun _ => hh)
        refine ⟨false, ?_, ?_⟩
        · refine Ev.step (fun k => by rw [spec_l1Rising.l0]) ?_
          simp only [if_pos (show (i : Int) < (l.length : Int) by omega), if_pos (show (0 : Int) ≤ (i : Int) by omega), l1In_eq, rd_nat, decide_eq_true c, Option.bind_some, if_true]
          simp only [w p, rd_nat, if_pos (show (i : Int) > 0 by omega), if_pos (show (0 : Int) ≤ ((i - 1 : Nat) : Int) by omega), if_pos (show ((i - 1 : Nat) : Int) < (l.length : Int) by omega), if_pos (show (l.getD (i - 1) 0 ≥ l.getD i 0) by omega)]
          exact Ev.now _
        · exact ⟨fun H => (by cases H), fun H => absurd (H i (by omega) (by omega)).2 c2⟩
    · refine ⟨false, ?_, ?_⟩
      · refine Ev.step (fun k => by rw [spec_l1Rising.l0]) ?_
        simp only [if_pos (show (i : Int) < (l.length : Int) by omega), if_pos (show (0 : Int) ≤ (i : Int) by omega), l1In_eq, rd_nat, decide_eq_false c, Option.bind_some, Bool.false_eq_true, if_false]
        exact Ev.now _
      · exact ⟨fun H => (by cases H), fun H => absurd (H i (by omega) (by omega)).1 c⟩
theorem l1Rising_ev (lo hi : Int) (l : List Int) (hm : l.length ≤ 1099511627776) :
    ∃ b, Ev (fun k => spec_l1Rising.f k l lo hi) b ∧ (b = true ↔ ∀ j, j < l.length → (lo ≤ l.getD j 0 ∧ l.getD j 0 ≤ hi) ∧ (0 < j → l.getD (j - 1) 0 < l.getD j 0)) := by
  obtain ⟨b, hb, hj⟩ := l1Rising_loop lo hi l hm l.length 0 (by omega)
  exact ⟨b, hb, by rw [hj]; exact ⟨fun H j h => H j (by omega) h, fun H j _ h => H j h⟩⟩
theorem rises_loop (l : List Int) (hm : l.length ≤ 1099511627776) : ∀ (d i : Nat), 1 ≤ i → l.length ≤ i + d →
    ∃ b, Ev (fun k => impl_rises.l0 k l (i : Int)) b ∧ (b = true ↔ ∀ j, i ≤ j → j < l.length → l.getD (j - 1) 0 < l.getD j 0)
  | 0, i, h0, h => by
    refine ⟨true, ?_, by simp only [true_iff]; intro j h1 h2; omega⟩
    refine Ev.step (fun k => by rw [impl_rises.l0]) ?_
    simp only [if_neg (show ¬ ((i : Int) < (l.length : Int)) by omega)]
    exact Ev.now _
  | d + 1, i, h0, h => by
    by_cases hlt : i < l.length
    · have w : wrap64 ((i : Int) - 1) = ((i - 1 : Nat) : Int) := by rw [wrap_id _ (by omega) (by omega)]; omega
      by_cases c : l.getD (i - 1) 0 < l.getD i 0
      · obtain ⟨b, hb, hj⟩ := rises_loop l hm d (i + 1) (by omega) (by omega)
        refine ⟨b, ?_, ?_⟩
        · refine Ev.step (fun k => by rw [impl_rises.l0]) ?_
          simp only [w, rd_nat, if_pos (show (i : Int) < (l.length : Int) by omega), if_pos (show (0 : Int) ≤ (i : Int) by omega), if_pos (show (0 : Int) ≤ ((i - 1 : Nat) : Int) by omega), if_pos (show ((i - 1 : Nat) : Int) < (l.length : Int) by omega), if_neg (show ¬ (l.getD (i - 1) 0 ≥ l.getD i 0) by omega)]
          rw [wrap_succ i (by omega)]
          exact hb
        · rw [hj]
          constructor
          · intro H j h1 h2
            by_cases e : j = i
            · rw [e]; exact c
            · exact H j (by omega) h2
          · intro H j h1 h2
            exact H j (by omega) h2
      · refine ⟨false, ?_, ?_⟩
        · refine Ev.step (fun k => by rw [impl_rises.l0]) ?_
          simp only [w, rd_nat, if_pos (show (i : Int) < (l.length : Int) by omega), if_pos (show (0 : Int) ≤ (i : Int) by omega), if_pos (show (0 : Int) ≤ ((i - 1 : Nat) : Int) by omega), if_pos (show ((i - 1 : Nat) : Int) < (l.length : Int) by omega), if_pos (show (l.getD (i - 1) 0 ≥ l.getD i 0) by omega)]
          exact Ev.now _
        · exact ⟨fun H => (by cases H), fun H => absurd (H i (by omega) hlt) c⟩
    · exact rises_loop l hm 0 i h0 (by omega)
theorem rises_ev (l : List Int) (hm : l.length ≤ 1099511627776) :
    ∃ b, Ev (fun k => impl_rises.f k l) b ∧ (b = true ↔ ∀ j, 0 < j → j < l.length → l.getD (j - 1) 0 < l.getD j 0) :=
  rises_loop l hm l.length 1 (by omega) (by omega)

theorem areWithin_eq (l : List Int) (lo hi : Int) (hm : l.length ≤ 1099511627776) :
    ∃ b, impl_areWithin.f l lo hi = some b ∧ (b = true ↔ ∀ j, j < l.length → lo ≤ l.getD j 0 ∧ l.getD j 0 ≤ hi) := by
  refine ⟨_, by unfold impl_areWithin.f; rw [if_pos (by omega)], ?_⟩
  rw [Bool.not_eq_true', List.any_eq_false]
  constructor
  · intro H j hj
    have := H (l.getD j 0) (by rw [List.getD_eq_getElem?_getD, List.getElem?_eq_getElem hj]; exact List.getElem_mem hj)
    simpa using this
  · intro H x hx
    obtain ⟨j, hj, rfl⟩ := List.getElem_of_mem hx
    have := H j hj
    rw [List.getD_eq_getElem?_getD, List.getElem?_eq_getElem hj] at this
    simpa using this

theorem l1All_loop (lo hi : Int) (l : List Int) (hm : l.length ≤ 1099511627776) : ∀ (d i : Nat), i + d = l.length →
    ∃ b, Ev (fun k => spec_l1All.l0 k lo hi l (l.length : Int) (i : Int)) b ∧ (b = true ↔ ∀ j, i ≤ j → j < l.length → lo ≤ l.getD j 0 ∧ l.getD j 0 ≤ hi)
  | 0, i, h => by
    refine ⟨true, ?_, by simp only [true_iff]; intro j h1 h2; omega⟩
    refine Ev.step (fun k => by rw [spec_l1All.l0]) ?_
    simp only [if_neg (show ¬ ((i : Int) < (l.length : Int)) by omega)]
    exact Ev.now _
  | d + 1, i, h => by
    by_cases c : lo ≤ l.getD i 0 ∧ l.getD i 0 ≤ hi
    · obtain ⟨b, hb, hj⟩ := l1All_loop lo hi l hm d (i + 1) (by omega)
      refine ⟨b, ?_, ?_⟩
      · refine Ev.step (fun k => by rw [spec_l1All.l0]) ?_
        simp only [if_pos (show (i : Int) < (l.length : Int) by omega), if_pos (show (0 : Int) ≤ (i : Int) by omega), l1In_eq, rd_nat, decide_eq_true c, Option.bind_some, if_true]
        rw [wrap_succ i (by omega)]
        exact hb
      · rw [hj]
        constructor
        · intro H j h1 h2
          by_cases e : j = i
          · rw [e]; exact c
          · exact H j (by omega) h2
        · intro H j h1 h2
          exact H j (by omega) h2
    · refine ⟨false, ?_, ?_⟩
      · refine Ev.step (fun k => by rw [spec_l1All.l0]) ?_
        simp only [if_pos (show (i : Int) < (l.length : Int) by omega), if_pos (show (0 : Int) ≤ (i : Int) by omega), l1In_eq, rd_nat, decide_eq_false c, Option.bind_some, Bool.false_eq_true, if_false]
        exact Ev.now _
      · constructor
        · intro H; cases H
        · intro H; exact absurd (H i (by omega) (by omega)) c
theorem l1All_ev (lo hi : Int) (l : List Int) (hm : l.length ≤ 1099511627776) :
    ∃ b, Ev (fun k => spec_l1All.f k l lo hi) b ∧ (b = true ↔ ∀ j, j < l.length → lo ≤ l.getD j 0 ∧ l.getD j 0 ≤ hi) := by
  obtain ⟨b, hb, hj⟩ := l1All_loop lo hi l hm l.length 0 (by omega)
  exact ⟨b, hb, by rw [hj]; exact ⟨fun H j h => H j (by omega) h, fun H j _ h => H j h⟩⟩

/-- What pieces are. -/
def Good (l : List Int) : Prop := l.length ≤ 20 ∧ (∀ j, j < l.length → 1 ≤ l.getD j 0 ∧ l.getD j 0 ≤ 10000) ∧ (∀ j, 1 ≤ j → j < l.length → l.getD (j - 1) 0 ≤ l.getD j 0)

theorem piGood_loop (l : List Int) (hm : l.length ≤ 1099511627776) : ∀ (d i : Nat), 1 ≤ i → l.length ≤ i + d →
    ∃ b, Ev (fun k => spec_piGood.l0 k l (i : Int)) b ∧ (b = true ↔ ∀ j, i ≤ j → j < l.length → l.getD (j - 1) 0 ≤ l.getD j 0)
  | 0, i, h0, h => by
    refine ⟨true, ?_, by simp only [true_iff]; intro j h1 h2; omega⟩
    refine Ev.step (fun k => by rw [spec_piGood.l0]) ?_
    simp only [if_neg (show ¬ ((i : Int) < (l.length : Int)) by omega)]
    exact Ev.now _
  | d + 1, i, h0, h => by
    by_cases hlt : i < l.length
    · have w : wrap64 ((i : Int) - 1) = ((i - 1 : Nat) : Int) := by rw [wrap_id _ (by omega) (by omega)]; omega
      by_cases c : l.getD (i - 1) 0 ≤ l.getD i 0
      · obtain ⟨b, hb, hj⟩ := piGood_loop l hm d (i + 1) (by omega) (by omega)
        refine ⟨b, ?_, ?_⟩
        · refine Ev.step (fun k => by rw [spec_piGood.l0]) ?_
          simp only [w, rd_nat, if_pos (show (i : Int) < (l.length : Int) by omega), if_pos (show (0 : Int) ≤ (i : Int) by omega), if_pos (show (0 : Int) ≤ ((i - 1 : Nat) : Int) by omega), if_pos (show ((i - 1 : Nat) : Int) < (l.length : Int) by omega), if_neg (show ¬ (l.getD (i - 1) 0 > l.getD i 0) by omega)]
          rw [wrap_succ i (by omega)]
          exact hb
        · rw [hj]
          constructor
          · intro H j h1 h2
            by_cases e : j = i
            · rw [e]; exact c
            · exact H j (by omega) h2
          · intro H j h1 h2
            exact H j (by omega) h2
      · refine ⟨false, ?_, ?_⟩
        · refine Ev.step (fun k => by rw [spec_piGood.l0]) ?_
          simp only [w, rd_nat, if_pos (show (i : Int) < (l.length : Int) by omega), if_pos (show (0 : Int) ≤ (i : Int) by omega), if_pos (show (0 : Int) ≤ ((i - 1 : Nat) : Int) by omega), if_pos (show ((i - 1 : Nat) : Int) < (l.length : Int) by omega), if_pos (show (l.getD (i - 1) 0 > l.getD i 0) by omega)]
          exact Ev.now _
        · constructor
          · intro H; cases H
          · intro H; exact absurd (H i (by omega) hlt) c
    · exact piGood_loop l hm 0 i h0 (by omega)
theorem piGood_ev (l : List Int) (hm : l.length ≤ 1099511627776) : ∃ b, Ev (fun k => spec_piGood.f k l) b ∧ (b = true ↔ Good l) := by
  by_cases c : l.length ≤ 20
  · obtain ⟨a, ha, ja⟩ := l1All_ev 1 10000 l hm
    cases a with
    | true =>
      obtain ⟨b, hb, jb⟩ := piGood_loop l hm l.length 1 (by omega) (by omega)
      refine ⟨b, ?_, ?_⟩
      · unfold spec_piGood.f
        simp only [if_neg (show ¬ ((l.length : Int) > 20) by omega)]
        refine Ev.bind ha ?_
        refine Ev.step (fun k => by rw [spec_piGood.j0]) ?_
        simp only [Bool.not_true, Bool.false_eq_true, if_false]
        exact hb
      · rw [jb]
        exact ⟨fun H => ⟨c, ja.1 rfl, H⟩, fun H => H.2.2⟩
    | false =>
      refine ⟨false, ?_, ?_⟩
      · unfold spec_piGood.f
        simp only [if_neg (show ¬ ((l.length : Int) > 20) by omega)]
        refine Ev.bind ha ?_
        refine Ev.step (fun k => by rw [spec_piGood.j0]) ?_
        simp only [Bool.not_false, if_true]
        exact Ev.now _
      · exact ⟨fun H => (by cases H), fun H => ja.2 H.2.1⟩
  · refine ⟨false, ?_, ?_⟩
    · unfold spec_piGood.f
      simp only [if_pos (show ((l.length : Int) > 20) by omega)]
      refine Ev.step (fun k => by rw [spec_piGood.j0]) ?_
      simp only [if_true]
      exact Ev.now _
    · exact ⟨fun H => (by cases H), fun H => absurd H.1 c⟩

theorem less_eq (a b : Int) : cmp_Less_int.f a b = some (decide (a < b)) := by
  unfold cmp_Less_int.f cmp_isNaN_int.f
  simp
theorem isSorted_loop (l : List Int) (hm : l.length ≤ 1099511627776) : ∀ (i : Nat), i < l.length →
    ∃ b, Ev (fun k => slices_IsSorted_int_int.l0 k l (i : Int)) b ∧ (b = true ↔ ∀ j, 1 ≤ j → j ≤ i → l.getD (j - 1) 0 ≤ l.getD j 0)
  | 0, h => by
    refine ⟨true, ?_, by simp only [true_iff]; intro j h1 h2; omega⟩
    refine Ev.step (fun k => by rw [slices_IsSorted_int_int.l0]) ?_
    simp only [if_neg (show ¬ (((0 : Nat) : Int) > 0) by omega)]
    exact Ev.now _
  | i + 1, h => by
    have w : wrap64 (((i + 1 : Nat) : Int) - 1) = (i : Int) := by rw [wrap_id _ (by omega) (by omega)]; omega
    by_cases c : l.getD i 0 ≤ l.getD (i + 1) 0
    · obtain ⟨b, hb, hj⟩ := isSorted_loop l hm i (by omega)
      refine ⟨b, ?_, ?_⟩
      · refine Ev.step (fun k => by rw [slices_IsSorted_int_int.l0]) ?_
        simp only [w, rd_nat, less_eq, if_pos (show ((i + 1 : Nat) : Int) > 0 by omega), if_pos (show (0 : Int) ≤ ((i + 1 : Nat) : Int) by omega), if_pos (show ((i + 1 : Nat) : Int) < (l.length : Int) by omega), if_pos (show (0 : Int) ≤ (i : Int) by omega), if_pos (show (i : Int) < (l.length : Int) by omega), Option.bind_some, decide_eq_false (show ¬ (l.getD (i + 1) 0 < l.getD i 0) by omega), Bool.false_eq_true, if_false]
        exact hb
      · rw [hj]
        constructor
        · intro H j h1 h2
          by_cases e : j = i + 1
          · subst e; exact c
          · exact H j h1 (by omega)
        · intro H j h1 h2
          exact H j h1 (by omega)
    · refine ⟨false, ?_, ?_⟩
      · refine Ev.step (fun k => by rw [slices_IsSorted_int_int.l0]) ?_
        simp only [w, rd_nat, less_eq, if_pos (show ((i + 1 : Nat) : Int) > 0 by omega), if_pos (show (0 : Int) ≤ ((i + 1 : Nat) : Int) by omega), if_pos (show ((i + 1 : Nat) : Int) < (l.length : Int) by omega), if_pos (show (0 : Int) ≤ (i : Int) by omega), if_pos (show (i : Int) < (l.length : Int) by omega), Option.bind_some, decide_eq_true (show (l.getD (i + 1) 0 < l.getD i 0) by omega), if_true]
        exact Ev.now _
      · constructor
        · intro H; cases H
        · intro H; exact absurd (H (i + 1) (by omega) (by omega)) c
theorem isSorted_ev (l : List Int) (hm : l.length ≤ 1099511627776) :
    ∃ b, Ev (fun k => slices_IsSorted_int_int.f k l) b ∧ (b = true ↔ ∀ j, 1 ≤ j → j < l.length → l.getD (j - 1) 0 ≤ l.getD j 0) := by
  unfold slices_IsSorted_int_int.f
  by_cases c : l.length = 0
  · refine ⟨true, ?_, by simp only [true_iff]; intro j h1 h2; omega⟩
    rw [c, wrap_id _ (by omega) (by omega)]
    refine Ev.step (fun k => by rw [slices_IsSorted_int_int.l0]) ?_
    simp only [if_neg (show ¬ (((0 : Nat) : Int) - 1 > 0) by omega)]
    exact Ev.now _
  · obtain ⟨b, hb, hj⟩ := isSorted_loop l hm (l.length - 1) (by omega)
    refine ⟨b, ?_, ?_⟩
    · rw [wrap_id _ (by omega) (by omega), show ((l.length : Int) - 1) = ((l.length - 1 : Nat) : Int) by omega]
      exact hb
    · rw [hj]
      exact ⟨fun H j h1 h2 => H j h1 (by omega), fun H j h1 h2 => H j h1 (by omega)⟩

theorem arePieces_ev (l : List Int) (hm : l.length ≤ 1099511627776) : ∃ b, Ev (fun k => impl_ArePieces.f k l) b ∧ (b = true ↔ Good l) := by
  unfold impl_ArePieces.f
  by_cases c : l.length ≤ 20
  · simp only [if_pos (show ((l.length : Int) ≤ 20) by omega)]
    obtain ⟨a, ha, ja⟩ := areWithin_eq l 1 10000 hm
    rw [ha]
    cases a with
    | true =>
      obtain ⟨b, hb, jb⟩ := isSorted_ev l hm
      refine ⟨b, ?_, ?_⟩
      · simp only [Option.bind_some, if_true]
        refine Ev.bind hb ?_
        exact Ev.now _
      · rw [jb]
        exact ⟨fun H => ⟨c, ja.1 rfl, H⟩, fun H => H.2.2⟩
    | false =>
      refine ⟨false, ?_, ?_⟩
      · simp only [Option.bind_some, Bool.false_eq_true, if_false]
        exact Ev.now _
      · exact ⟨fun H => (by cases H), fun H => ja.2 H.2.1⟩
  · refine ⟨false, ?_, ?_⟩
    · simp only [if_neg (show ¬ ((l.length : Int) ≤ 20) by omega)]
      exact Ev.now _
    · exact ⟨fun H => (by cases H), fun H => absurd H.1 c⟩
theorem good_same (l : List Int) (hm : l.length ≤ 1099511627776) : ∃ b, Ev (fun k => spec_piGood.f k l) b ∧ Ev (fun k => impl_ArePieces.f k l) b ∧ (b = true ↔ Good l) := by
  obtain ⟨b, hb, jb⟩ := piGood_ev l hm
  obtain ⟨c, hc, jc⟩ := arePieces_ev l hm
  have e := bool_same jb jc
  subst e
  exact ⟨b, hb, hc, jb⟩

theorem few_same (l : List Int) (hm : l.length ≤ 1099511627776) : ∃ b, Ev (fun k => spec_paFew.f k l) b ∧ Ev (fun k => impl_arePaid.f k l) b ∧ (b = true ↔ Good l ∧ l.length ≤ 8) := by
  obtain ⟨b, hs, hi, jb⟩ := good_same l hm
  unfold spec_paFew.f impl_arePaid.f
  cases b with
  | true =>
    refine ⟨decide ((l.length : Int) ≤ 8), Ev.bind hs ?_, Ev.bind hi ?_, ?_⟩
    · simp only [if_true]; exact Ev.now _
    · simp only [if_true]; exact Ev.now _
    · rw [decide_eq_true_eq]
      exact ⟨fun h => ⟨jb.1 rfl, by omega⟩, fun h => by omega⟩
  | false =>
    refine ⟨false, Ev.bind hs ?_, Ev.bind hi ?_, ?_⟩
    · simp only [Bool.false_eq_true, if_false]; exact Ev.now _
    · simp only [Bool.false_eq_true, if_false]; exact Ev.now _
    · exact ⟨fun h => (by cases h), fun h => jb.2 h.1⟩
/-- What may be held: places of a list of so many, in their order. -/
def Held (n : Nat) (x : List Int) : Prop := ∀ j, j < x.length → (0 ≤ x.getD j 0 ∧ x.getD j 0 ≤ (n : Int) - 1) ∧ (0 < j → x.getD (j - 1) 0 < x.getD j 0)
/-- What a plan is. -/
def Plan (n : Nat) (l : List (List Int)) : Prop := l.length ≤ 60 ∧ ∀ i, i < l.length → Held n (l.getD i [])
theorem paPlan_loop (l : List Int) (hm : l.length ≤ 1048576) (p : List (List Int)) (sm : Small p) : ∀ (d i : Nat), i + d = p.length →
    ∃ b, Ev (fun k => spec_paPlan.l0 k l p (p.length : Int) (i : Int)) b ∧ (b = true ↔ ∀ j, i ≤ j → j < p.length → Held l.length (p.getD j []))
  | 0, i, h => by
    refine ⟨true, ?_, by simp only [true_iff]; intro j h1 h2; omega⟩
    refine Ev.step (fun k => by rw [spec_paPlan.l0]) ?_
    simp only [if_neg (show ¬ ((i : Int) < (p.length : Int)) by omega)]
    exact Ev.now _
  | d + 1, i, h => by
    have hxi := sm.2 i (by omega)
    have hl := sm.1
    obtain ⟨a, ha, ja⟩ := l1Rising_ev 0 ((l.length : Int) - 1) (p.getD i []) (by omega)
    have w : wrap64 ((l.length : Int) - 1) = (l.length : Int) - 1 := wrap_id _ (by omega) (by omega)
    cases a with
    | true =>
      obtain ⟨b, hb, jb⟩ := paPlan_loop l hm p sm d (i + 1) (by omega)
      refine ⟨b, ?_, ?_⟩
      · refine Ev.step (fun k => by rw [spec_paPlan.l0]) ?_
        simp only [if_pos (show (i : Int) < (p.length : Int) by omega), if_pos (show (0 : Int) ≤ (i : Int) by omega), rdL_nat, w]
        refine Ev.bind ha ?_
        simp only [if_true]
        rw [wrap_succ i (by omega)]
        exact hb
      · rw [jb]
        constructor
        · intro H j h1 h2
          by_cases e : j = i
          · rw [e]; exact ja.1 rfl
          · exact H j (by omega) h2
        · intro H j h1 h2
          exact H j (by omega) h2
    | false =>
      refine ⟨false, ?_, ?_⟩
      · refine Ev.step (fun k => by rw [spec_paPlan.l0]) ?_
        simp only [if_pos (show (i : Int) < (p.length : Int) by omega), if_pos (show (0 : Int) ≤ (i : Int) by omega), rdL_nat, w]
        refine Ev.bind ha ?_
        simp only [Bool.false_eq_true, if_false]
        exact Ev.now _
      · exact ⟨fun h => (by cases h), fun H => ja.2 (H i (by omega) (by omega))⟩
theorem paPlan_ev (l : List Int) (hm : l.length ≤ 1048576) (p : List (List Int)) (sm : Small p) : ∃ b, Ev (fun k => spec_paPlan.f k l p) b ∧ (b = true ↔ Plan l.length p) := by
  unfold spec_paPlan.f
  by_cases c : (p.length : Int) > 60
  · simp only [if_pos c]
    exact ⟨false, Ev.now _, fun h => (by cases h), fun h => absurd h.1 (by omega)⟩
  · simp only [if_neg c]
    obtain ⟨b, hb, jb⟩ := paPlan_loop l hm p sm p.length 0 (by omega)
    exact ⟨b, hb, by rw [jb]; exact ⟨fun H => ⟨by omega, fun i h => H i (by omega) h⟩, fun H j _ h => H.2 j h⟩⟩
theorem planQ_ev (l : List Int) (hm : l.length ≤ 1048576) (x : List Int) (hx : x.length ≤ 1048576) : ∃ b, Ev (fun k => impl_IsPlan.q k l x) b ∧ (b = true ↔ ¬ Held l.length x) := by
  have w : wrap64 ((l.length : Int) - 1) = (l.length : Int) - 1 := wrap_id _ (by omega) (by omega)
  unfold impl_IsPlan.q
  rw [w]
  obtain ⟨a, ha, ja⟩ := areWithin_eq x 0 ((l.length : Int) - 1) (by omega)
  rw [ha]
  simp only [Option.bind_some]
  cases a with
  | true =>
    obtain ⟨b, hb, jb⟩ := rises_ev x (by omega)
    simp only [if_true]
    refine ⟨!b, Ev.bind hb (Ev.now _), ?_⟩
    have e : b = true ↔ Held l.length x := by
      rw [jb]
      exact ⟨fun H j h => ⟨ja.1 rfl j h, fun h0 => H j h0 h⟩, fun H j h0 h => (H j h).2 h0⟩
    rw [← e]
    cases b <;> simp
  | false =>
    simp only [Bool.false_eq_true, if_false]
    refine ⟨true, Ev.now _, by simp only [true_iff]; intro H; have := ja.2 (fun j h => (H j h).1); cases this⟩
theorem find_ev (q : Nat → List Int → Option Bool) (P : List Int → Prop) : ∀ (l : List (List Int)), (∀ x ∈ l, ∃ b, Ev (fun k => q k x) b ∧ (b = true ↔ P x)) → ∃ r, Ev (fun k => hwFind (q k) l) r ∧ -1 ≤ r ∧ (0 ≤ r ↔ ∃ i, i < l.length ∧ P (l.getD i [])) ∧ (0 ≤ r → r.toNat < l.length ∧ P (l.getD r.toNat []) ∧ ∀ j, j < r.toNat → ¬ P (l.getD j []))
  | [], _ => ⟨-1, by simp only [hwFind]; exact Ev.now _, by omega, by simp, fun h => by omega⟩
  | x :: l, h => by
    obtain ⟨b, hb, jb⟩ := h x List.mem_cons_self
    simp only [hwFind]
    cases b with
    | true =>
      refine ⟨0, Ev.bind hb (by simp only [if_true]; exact Ev.now _), by omega, ?_, fun _ => ?_⟩
      · simp only [Int.le_refl, true_iff]
        exact ⟨0, by simp, jb.1 rfl⟩
      · exact ⟨by simp, jb.1 rfl, fun j hj => by simp at hj⟩
    | false =>
      obtain ⟨r, hr, h0, hp, hq⟩ := find_ev q P l (fun y hy => h y (List.mem_cons_of_mem _ hy))
      have nx : ¬ P x := fun hh => by have := jb.2 hh; cases this
      refine ⟨if r < 0 then -1 else r + 1, Ev.bind hb (by simp only [Bool.false_eq_true, if_false]; exact Ev.bind hr (Ev.now _)), by split <;> omega, ?_, ?_⟩
      · constructor
        · intro H
          have : 0 ≤ r := by split at H <;> omega
          obtain ⟨i, hi, hP⟩ := hp.1 this
          exact ⟨i + 1, by simp; omega, by simpa using hP⟩
        · rintro ⟨i, hi, hP⟩
          cases i with
          | zero => exact absurd hP nx
          | succ i =>
            have := hp.2 ⟨i, by simpa using hi, by simpa using hP⟩
            split <;> omega
      · intro H
        have h1 : 0 ≤ r := by split at H <;> omega
        obtain ⟨q1, q2, q3⟩ := hq h1
        rw [if_neg (by omega)]
        have e : (r + 1).toNat = r.toNat + 1 := by omega
        rw [e]
        refine ⟨by simp; omega, by simpa using q2, fun j hj => ?_⟩
        cases j with
        | zero => exact nx
        | succ j => simpa using q3 j (by omega)
theorem implPlan_ev (l : List Int) (hm : l.length ≤ 1048576) (p : List (List Int)) (sm : Small p) (b : Bool) (hi : Ev (fun k => impl_arePaid.f k l) b) (c : Bool) (hc : c = true ↔ Plan l.length p) :
    Ev (fun k => impl_IsPlan.f k l p) (if b = true then (c, true) else (false, false)) := by
  unfold impl_IsPlan.f
  refine Ev.bind hi ?_
  cases b with
  | false => simp only [Bool.false_eq_true, if_false]; exact Ev.now _
  | true =>
    simp only [if_true]
    by_cases h60 : p.length ≤ 60
    · simp only [if_pos h60]
      obtain ⟨r, hr, h0, hp, _⟩ := find_ev (fun k => impl_IsPlan.q k l) (fun x => ¬ Held l.length x) p (fun x hx => planQ_ev l hm x (by
        obtain ⟨j, hj, rfl⟩ := List.getElem_of_mem hx
        have := sm.2 j hj
        rw [List.getD_eq_getElem?_getD, List.getElem?_eq_getElem hj] at this
        exact this))
      have e : c = !decide (0 ≤ r) := by
        refine bool_same hc ?_
        rw [Bool.not_eq_true', decide_eq_false_iff_not, hp]
        constructor
        · intro H
          refine ⟨h60, fun i h => ?_⟩
          by_cases z : Held l.length (p.getD i [])
          · exact z
          · exact absurd ⟨i, h, z⟩ H
        · rintro H ⟨i, h, z⟩
          exact z (H.2 i h)
      rw [e]
      exact Ev.bind hr (Ev.now _)
    · simp only [if_neg h60]
      have e : c = false := by
        cases c with
        | false => rfl
        | true => exact absurd (hc.1 rfl).1 h60
      rw [e]
      exact Ev.now _

theorem isPlan_ev (l : List Int) (hm : l.length ≤ 1048576) (p : List (List Int)) (sm : Small p) (b : Bool) (hi : Ev (fun k => impl_arePaid.f k l) b) (c : Bool) (hc : c = true ↔ Plan l.length p) : Ev (fun k => impl_isPlan.f k l p) (b && c) := by
  unfold impl_isPlan.f
  refine Ev.bind (implPlan_ev l hm p sm b hi c hc) ?_
  cases b <;> simp only [Bool.false_eq_true, if_false, if_true, Bool.true_and, Bool.false_and] <;> exact Ev.now _
theorem plan_same (l : List Int) (hm : l.length ≤ 1048576) (p : List (List Int)) (sm : Small p) : ∃ b c, Ev (fun k => spec_paFew.f k l) b ∧ Ev (fun k => spec_paPlan.f k l p) c ∧ Ev (fun k => impl_isPlan.f k l p) (b && c) ∧ ((b && c) = true → Plan l.length p ∧ Good l ∧ l.length ≤ 8) := by
  obtain ⟨b, hs, hi, jb⟩ := few_same l (by omega)
  obtain ⟨c, hc, jc⟩ := paPlan_ev l hm p sm
  refine ⟨b, c, hs, hc, isPlan_ev l hm p sm b hi c jc, fun h => ?_⟩
  rw [Bool.and_eq_true] at h
  exact ⟨jc.1 h.2, jb.1 h.1⟩
/-- What is held before a day. -/
def befL (p : List (List Int)) (i : Nat) : List Int := if i = 0 then [] else p.getD (i - 1) []
theorem before_eq (p : List (List Int)) (i : Nat) (hi : i < p.length) (hm : p.length ≤ 1048576) : spec_paBefore.f p (i : Int) = some (befL p i) ∧ impl_before.f p (i : Int) = some (befL p i) := by
  unfold spec_paBefore.f impl_before.f befL
  by_cases c : i = 0
  · subst c
    exact ⟨rfl, rfl⟩
  · have w : wrap64 ((i : Int) - 1) = ((i - 1 : Nat) : Int) := by rw [wrap_id _ (by omega) (by omega)]; omega
    simp only [w, if_neg (show ¬ ((i : Int) = 0) by omega), if_pos (show (0 : Int) ≤ ((i - 1 : Nat) : Int) by omega), if_pos (show ((i - 1 : Nat) : Int) < (p.length : Int) by omega), if_neg c, rdL_nat]
    exact ⟨trivial, trivial⟩
theorem bef_len (p : List (List Int)) (sm : Small p) (i : Nat) (hi : i < p.length) : (befL p i).length ≤ 1048576 := by
  unfold befL
  split
  · simp
  · exact sm.2 _ (by omega)

theorem drop_getD (l : List Int) (i : Nat) (hi : i < l.length) : l.drop i = l.getD i 0 :: l.drop (i + 1) := by
  rw [List.drop_eq_getElem_cons hi, List.getD_eq_getElem?_getD, List.getElem?_eq_getElem hi]; rfl
theorem l1Has_loop (x : Int) (l : List Int) (hm : l.length ≤ 1099511627776) : ∀ (d i : Nat), i + d = l.length → Ev (fun k => spec_l1Has.l0 k x l (l.length : Int) (i : Int)) (decide (x ∈ l.drop i))
  | 0, i, h => by
    refine Ev.step (fun k => by rw [spec_l1Has.l0]) ?_
    simp only [if_neg (show ¬ ((i : Int) < (l.length : Int)) by omega)]
    rw [List.drop_of_length_le (by omega)]
    exact Ev.now _
  | d + 1, i, h => by
    have hi : i < l.length := by omega
    refine Ev.step (fun k => by rw [spec_l1Has.l0]) ?_
    simp only [if_pos (show (i : Int) < (l.length : Int) by omega), if_pos (show (0 : Int) ≤ (i : Int) by omega)]
    rw [drop_getD l i hi]
    by_cases c : l.getD i 0 = x
    · simp only [if_pos (show rd l (i : Int) = x from c)]
      rw [decide_eq_true (by rw [c]; exact List.mem_cons_self)]
      exact Ev.now _
    · simp only [if_neg (show ¬ rd l (i : Int) = x from c)]
      rw [wrap_succ i (by omega)]
      have := l1Has_loop x l hm d (i + 1) (by omega)
      rw [show decide (x ∈ l.getD i 0 :: l.drop (i + 1)) = decide (x ∈ l.drop (i + 1)) by rw [decide_eq_decide, List.mem_cons]; exact ⟨fun h => h.resolve_left (fun h => c h.symm), .inr⟩]
      exact this
theorem l1Has_ev (l : List Int) (x : Int) (hm : l.length ≤ 1099511627776) : Ev (fun k => spec_l1Has.f k l x) (decide (x ∈ l)) := by
  have := l1Has_loop x l hm l.length 0 (by omega)
  rw [List.drop_zero] at this
  exact this
theorem index_loop (x : Int) (l : List Int) (hm : l.length ≤ 1099511627776) : ∀ (d i : Nat), i + d = l.length → ∃ r, Ev (fun k => slices_Index_int_int.l0 k l x (l.length : Int) (i : Int)) r ∧ decide (r ≥ 0) = decide (x ∈ l.drop i)
  | 0, i, h => by
    refine ⟨-1, ?_, by rw [List.drop_of_length_le (by omega)]; simp⟩
    refine Ev.step (fun k => by rw [slices_Index_int_int.l0]) ?_
    simp only [if_neg (show ¬ ((i : Int) < (l.length : Int)) by omega)]
    exact Ev.now _
  | d + 1, i, h => by
    have hi : i < l.length := by omega
    by_cases c : x = l.getD i 0
    · refine ⟨(i : Int), ?_, by rw [drop_getD l i hi, ← c, decide_eq_true (List.mem_cons_self), decide_eq_true (by omega)]⟩
      refine Ev.step (fun k => by rw [slices_Index_int_int.l0]) ?_
      simp only [if_pos (show (i : Int) < (l.length : Int) by omega), if_pos (show (0 : Int) ≤ (i : Int) by omega), if_pos (show x = rd l (i : Int) from c)]
      exact Ev.now _
    · obtain ⟨r, hr, hj⟩ := index_loop x l hm d (i + 1) (by omega)
      refine ⟨r, ?_, ?_⟩
      · refine Ev.step (fun k => by rw [slices_Index_int_int.l0]) ?_
        simp only [if_pos (show (i : Int) < (l.length : Int) by omega), if_pos (show (0 : Int) ≤ (i : Int) by omega), if_neg (show ¬ x = rd l (i : Int) from c)]
        rw [wrap_succ i (by omega)]
        exact hr
      · rw [hj, drop_getD l i hi, decide_eq_decide, List.mem_cons]
        exact ⟨.inr, fun h => h.resolve_left c⟩
theorem contains_ev (l : List Int) (x : Int) (hm : l.length ≤ 1099511627776) : Ev (fun k => slices_Contains_int_int.f k l x) (decide (x ∈ l)) := by
  obtain ⟨r, hr, hj⟩ := index_loop x l hm l.length 0 (by omega)
  rw [List.drop_zero] at hj
  unfold slices_Contains_int_int.f slices_Index_int_int.f
  refine Ev.bind hr ?_
  rw [hj]
  exact Ev.now _
/-- What is in one list and not in another one. -/
def onlyL (a b : List Int) : List Int := a.filter fun x => !decide (x ∈ b)
theorem onlyL_len (a b : List Int) : (onlyL a b).length ≤ a.length := List.length_filter_le _ _
theorem only_step (a b : List Int) (i : Nat) (hi : i < a.length) (acc : List Int) : acc ++ onlyL (a.drop i) b = (if a.getD i 0 ∈ b then acc else acc ++ [a.getD i 0]) ++ onlyL (a.drop (i + 1)) b := by
  conv => lhs; rw [drop_getD a i hi]
  unfold onlyL
  rw [List.filter_cons]
  by_cases c : a.getD i 0 ∈ b
  · rw [if_pos c, decide_eq_true c]; rfl
  · rw [if_neg c, decide_eq_false c, List.append_assoc]; rfl
theorem only_loop (a b : List Int) (ha : a.length ≤ 1048576) (hb : b.length ≤ 1048576) : ∀ (d i : Nat) (acc : List Int), i + d = a.length → acc.length ≤ i →
    Ev (fun k => spec_paOnly.l0 k b acc a (a.length : Int) (i : Int)) (acc ++ onlyL (a.drop i) b) ∧ Ev (fun k => impl_only.l0 k b acc a (a.length : Int) (i : Int)) (acc ++ onlyL (a.drop i) b)
  | 0, i, acc, h, hl => by
    have e : acc ++ onlyL (a.drop i) b = acc := by rw [List.drop_of_length_le (by omega)]; simp [onlyL]
    rw [e]
    refine ⟨Ev.step (fun k => by rw [spec_paOnly.l0]) ?_, Ev.step (fun k => by rw [impl_only.l0]) ?_⟩ <;>
    · simp only [if_neg (show ¬ ((i : Int) < (a.length : Int)) by omega)]
      exact Ev.now _
  | d + 1, i, acc, h, hl => by
    rw [only_step a b i (by omega)]
    have IH := only_loop a b ha hb d (i + 1) (if a.getD i 0 ∈ b then acc else acc ++ [a.getD i 0]) (by omega) (by split; omega; rw [List.length_append]; simp; omega)
    refine ⟨Ev.step (fun k => by rw [spec_paOnly.l0]) ?_, Ev.step (fun k => by rw [impl_only.l0]) ?_⟩
    · simp only [if_pos (show (i : Int) < (a.length : Int) by omega), if_pos (show (0 : Int) ≤ (i : Int) by omega), rd_nat]
      refine Ev.bind (l1Has_ev b (a.getD i 0) (by omega)) ?_
      simp only [wrap_succ i (show i < 4611686018427387904 by omega), decide_eq_true_eq]
      by_cases c : a.getD i 0 ∈ b
      · simp only [if_pos c] at IH ⊢
        exact IH.1
      · simp only [if_neg c, if_pos (show acc.length < 17592186044416 by omega)] at IH ⊢
        exact IH.1
    · simp only [if_pos (show (i : Int) < (a.length : Int) by omega), if_pos (show (0 : Int) ≤ (i : Int) by omega), rd_nat]
      refine Ev.bind (contains_ev b (a.getD i 0) (by omega)) ?_
      simp only [wrap_succ i (show i < 4611686018427387904 by omega), decide_eq_true_eq]
      by_cases c : a.getD i 0 ∈ b
      · simp only [if_pos c] at IH ⊢
        exact IH.2
      · simp only [if_neg c, if_pos (show acc.length < 17592186044416 by omega)] at IH ⊢
        exact IH.2
theorem only_ev (a b : List Int) (ha : a.length ≤ 1048576) (hb : b.length ≤ 1048576) : Ev (fun k => spec_paOnly.f k a b) (onlyL a b) ∧ Ev (fun k => impl_only.f k a b) (onlyL a b) := by
  have := only_loop a b ha hb a.length 0 [] (by omega) (by simp)
  rw [List.drop_zero, List.nil_append] at this
  exact this

theorem given_ev (p : List (List Int)) (sm : Small p) (i : Nat) (hi : i < p.length) : Ev (fun k => impl_given.f k p (i : Int)) (onlyL (p.getD i []) (befL p i), onlyL (befL p i) (p.getD i [])) := by
  have hl := sm.1
  unfold impl_given.f
  rw [(before_eq p i hi sm.1).2]
  simp only [Option.bind_some, if_pos (show (0 : Int) ≤ (i : Int) by omega), if_pos (show (i : Int) < (p.length : Int) by omega), rdL_nat]
  refine Ev.bind (only_ev _ _ (sm.2 i hi) (bef_len p sm i hi)).2 ?_
  refine Ev.bind (only_ev _ _ (bef_len p sm i hi) (sm.2 i hi)).2 ?_
  exact Ev.now _

/-- Bytes, as a text. -/
def mkT (l : List UInt8) : ByteArray := ⟨l.toArray⟩
theorem mkT_append (a b : List UInt8) : mkT a ++ mkT b = mkT (a ++ b) := by
  ext1
  simp [mkT]
theorem mkT_size (a : List UInt8) : (mkT a).size = a.length := by
  simp [mkT, ByteArray.size]
theorem mkT_data (a : List UInt8) : (mkT a).data.toList = a := by simp [mkT]
theorem mkT_eta (x : ByteArray) : mkT x.data.toList = x := by
  ext1
  simp [mkT]
theorem digits_len (u : Nat) : (Lib.decDigits u).length ≤ u + 1 := by
  induction u using Nat.strongRecOn with
  | _ u ih =>
    rw [Lib.decDigits]
    split
    · simp
    · rename_i h
      have := ih (u / 10) (by omega)
      rw [List.length_append, List.length_singleton]
      omega
theorem strNums_one (n : Nat) (h : n < 256) : strOfNums [(n : Int)] = mkT [UInt8.ofNat n] := by
  unfold strOfNums mkT
  simp
/-- A number's decimal text, digit by digit. -/
theorem l1Num_ev (u : Nat) (hu : u ≤ 1000000) : Ev (fun k => spec_l1Num.f k (u : Int)) (mkT (Lib.decDigits u)) := by
  induction u using Nat.strongRecOn with
  | _ u ih =>
    refine Ev.step (fun k => by rw [spec_l1Num.f]) ?_
    rw [Lib.decDigits]
    by_cases c : u < 10
    · simp only [if_pos (show (u : Int) < 10 by omega), dif_pos c]
      rw [show wrap64 (48 + (u : Int)) % 256 = ((48 + u : Nat) : Int) by rw [wrap_id _ (by omega) (by omega)]; omega, strNums_one _ (by omega)]
      exact Ev.now _
    · simp only [if_neg (show ¬ (u : Int) < 10 by omega), dif_neg c]
      have e1 : wrap64 (Int.tdiv (u : Int) 10) = ((u / 10 : Nat) : Int) := by
        rw [Int.tdiv_eq_ediv_of_nonneg (by omega), wrap_id _ (by omega) (by omega)]
        omega
      have e2 : wrap64 (48 + Int.tmod (u : Int) 10) % 256 = ((48 + u % 10 : Nat) : Int) := by
        rw [Int.tmod_eq_emod_of_nonneg (by omega), wrap_id _ (by omega) (by omega)]
        omega
      have hl := digits_len (u / 10)
      rw [e1]
      refine Ev.bind (ih (u / 10) (by omega) (by omega)) ?_
      simp only [Option.bind_some, e2]
      rw [strNums_one _ (by omega)]
      simp only [mkT_size, List.length_singleton, if_pos (show (Lib.decDigits (u / 10)).length + 1 ≤ 9223372036854775807 by omega), mkT_append]
      exact Ev.now _
theorem itoa_nat (u : Nat) : Lib.itoa (u : Int) = Lib.decDigits u := by
  unfold Lib.itoa
  rw [if_neg (by omega)]
  rfl
theorem num_ev (x : Int) (h0 : 0 ≤ x) (h1 : x ≤ 1000000) : Ev (fun k => spec_l1Num.f k x) (mkT (Lib.itoa x)) ∧ strconv_Itoa.f x = some (mkT (Lib.itoa x)) ∧ (Lib.itoa x).length ≤ 1000001 := by
  obtain ⟨u, rfl⟩ : ∃ u : Nat, x = (u : Int) := ⟨x.toNat, by omega⟩
  have hl := digits_len u
  refine ⟨?_, ?_, ?_⟩
  · rw [itoa_nat]
    exact l1Num_ev u (by omega)
  · unfold strconv_Itoa.f
    rw [if_pos (by omega), if_pos (by omega)]
    rfl
  · rw [itoa_nat]
    omega
/-- Texts joined, one more at the end. -/
theorem join_snoc (ts : List (List UInt8)) (t sep : List UInt8) : Lib.join (ts ++ [t]) sep = if ts = [] then t else Lib.join ts sep ++ sep ++ t := by
  cases ts with
  | nil => rw [if_pos rfl]; exact Lib.join_one t sep
  | cons x r =>
    rw [if_neg (by simp), List.cons_append, Lib.join_cons, Lib.join_cons]
    unfold Lib.joinTail
    simp [List.append_assoc]
theorem join_len (n : Nat) (sep : List UInt8) (hs : sep.length = 1) : ∀ (ts : List (List UInt8)), (∀ t ∈ ts, t.length ≤ n) → (Lib.join ts sep).length ≤ ts.length * (n + 1)
  | [], _ => by rw [Lib.join_nil]; simp
  | x :: r, h => by
    rw [Lib.join_cons, List.length_append, Lib.joinTail_length, hs, List.length_cons]
    have h1 := h x List.mem_cons_self
    have h2 : ∀ (r : List (List UInt8)), (∀ t ∈ r, t.length ≤ n) → Lib.lens r ≤ r.length * n := by
      intro r
      induction r with
      | nil => intro _; simp [Lib.lens]
      | cons y r ih =>
        intro h
        have := ih (fun t ht => h t (List.mem_cons_of_mem _ ht))
        have := h y List.mem_cons_self
        simp only [Lib.lens, List.map_cons, List.sum_cons, List.length_cons] at *
        rw [Nat.add_mul]
        omega
    have h3 := h2 r (fun t ht => h t (List.mem_cons_of_mem _ ht))
    rw [Nat.add_mul, Nat.mul_add]
    omega

/-- Some pieces' lengths, with a sign before each. -/
def signL (l : List Int) (sg : UInt8) (held : List Int) : List UInt8 := (held.map fun i => sg :: Lib.itoa (l.getD i.toNat 0)).flatten
theorem signL_snoc (l : List Int) (sg : UInt8) (a : List Int) (x : Int) : signL l sg (a ++ [x]) = signL l sg a ++ (sg :: Lib.itoa (l.getD x.toNat 0)) := by
  unfold signL
  rw [List.map_append, List.flatten_append]
  simp
theorem take_rd (xs : List Int) (i : Nat) (h : i < xs.length) : xs.take (i + 1) = xs.take i ++ [rd xs (i : Int)] := by
  rw [List.take_succ_eq_append_getElem h]
  show _ = _ ++ [xs.getD i 0]
  rw [List.getD_eq_getElem?_getD, List.getElem?_eq_getElem h]
  rfl
theorem rd_mem (xs : List Int) (i : Nat) (h : i < xs.length) : rd xs (i : Int) ∈ xs := by
  show xs.getD i 0 ∈ xs
  rw [List.getD_eq_getElem?_getD, List.getElem?_eq_getElem h]
  exact List.getElem_mem h
/-- Places of pieces. -/
def Places (l : List Int) (held : List Int) : Prop := held.length ≤ 8 ∧ ∀ i ∈ held, 0 ≤ i ∧ i < (l.length : Int)
theorem signL_len (l : List Int) (hv : ∀ j, j < l.length → 1 ≤ l.getD j 0 ∧ l.getD j 0 ≤ 10000) (sg : UInt8) : ∀ (held : List Int), (∀ i ∈ held, 0 ≤ i ∧ i < (l.length : Int)) → (signL l sg held).length ≤ held.length * 1000002
  | [], _ => by simp [signL]
  | x :: r, h => by
    have h1 := h x List.mem_cons_self
    have h2 := hv x.toNat (by omega)
    have h3 := (num_ev (l.getD x.toNat 0) (by omega) (by omega)).2.2
    have h4 := signL_len l hv sg r (fun i hi => h i (List.mem_cons_of_mem _ hi))
    unfold signL at *
    rw [List.map_cons, List.flatten_cons, List.length_append, List.length_cons, List.length_cons, Nat.add_mul]
    omega
theorem take_places {l : List Int} {held : List Int} (h : Places l held) (j : Nat) : ∀ i ∈ held.take j, 0 ≤ i ∧ i < (l.length : Int) := fun i hi => h.2 i (List.mem_of_mem_take hi)
theorem pl_l1 (l : List Int) (hv : ∀ j, j < l.length → 1 ≤ l.getD j 0 ∧ l.getD j 0 ≤ 10000) (p : List (List Int)) (sm : Small p) (d : Nat) (hd : d < p.length) (out : ByteArray) (held : List Int) (hp : Places l held) (R : ByteArray × Bool)
    (K : Ev (fun k => spec_PlanText.l2 k l p out (mkT (signL l 43 held)) (p.length : Int) (d : Int) (onlyL (befL p d) (p.getD d [])) ((onlyL (befL p d) (p.getD d [])).length : Int) 0) R) : ∀ (c j : Nat), j + c = held.length →
    Ev (fun k => spec_PlanText.l1 k l p out (d : Int) (mkT (signL l 43 (held.take j))) (p.length : Int) (d : Int) held (held.length : Int) (j : Int)) R
  | 0, j, h => by
    obtain rfl : j = held.length := by omega
    refine Ev.step (fun k => by rw [spec_PlanText.l1]) ?_
    simp only [if_neg (show ¬ ((held.length : Int) < (held.length : Int)) by omega), (before_eq p d hd sm.1).1, Option.bind_some, if_pos (show (0 : Int) ≤ (d : Int) by omega), if_pos (show (d : Int) < (p.length : Int) by omega), List.take_length, rdL_nat]
    refine Ev.bind (only_ev _ _ (bef_len p sm d hd) (sm.2 d hd)).1 ?_
    exact K
  | c + 1, j, h => by
    have h8 := hp.1
    have hj : j < held.length := by omega
    have hx := hp.2 _ (rd_mem held j hj)
    have hw := hv (rd held (j : Int)).toNat (by omega)
    obtain ⟨n1, n2, n3⟩ := num_ev (l.getD (rd held (j : Int)).toNat 0) (by omega) (by omega)
    have hl := signL_len l hv 43 (held.take j) (take_places hp j)
    rw [List.length_take] at hl
    have IH := pl_l1 l hv p sm d hd out held hp R K c (j + 1) (by omega)
    rw [take_rd held j hj, signL_snoc] at IH
    have e0 : rd l (rd held (j : Int)) = l.getD (rd held (j : Int)).toNat 0 := rfl
    have e1 : (⟨#[43]⟩ : ByteArray) = mkT [43] := rfl
    refine Ev.step (fun k => by rw [spec_PlanText.l1]) ?_
    rw [wrap_succ j (by omega)]
    simp only [if_pos (show (j : Int) < (held.length : Int) by omega), if_pos (show (0 : Int) ≤ (j : Int) by omega), if_pos hx.1, if_pos hx.2, e0]
    refine Ev.bind n1 ?_
    have s1 : 1 + (Lib.itoa (l.getD (rd held (j : Int)).toNat 0)).length ≤ 9223372036854775807 := by omega
    have s2 : (signL l 43 (held.take j)).length + ([43] ++ Lib.itoa (l.getD (rd held (j : Int)).toNat 0)).length ≤ 9223372036854775807 := by rw [List.length_append, List.length_singleton]; omega
    simp only [e1, mkT_append, mkT_size, if_pos s1, if_pos s2]
    exact IH
/-- What a day's moves read. -/
def movesL (l : List Int) (p : List (List Int)) (d : Nat) : List UInt8 := signL l 43 (onlyL (p.getD d []) (befL p d)) ++ signL l 45 (onlyL (befL p d) (p.getD d []))
/-- A day's text. -/
def dayL (l : List Int) (p : List (List Int)) (d : Nat) : List UInt8 := if (mkT (movesL l p d)).toList = [] then [61] else movesL l p d
theorem pl_l2 (l : List Int) (hv : ∀ j, j < l.length → 1 ≤ l.getD j 0 ∧ l.getD j 0 ≤ 10000) (p : List (List Int)) (d : Nat) (hd : d < 1000) (o a : List UInt8) (ho : o.length ≤ 10000000000) (ha : a.length ≤ 10000000000) (held : List Int) (hp : Places l held) (R : ByteArray × Bool)
    (K : Ev (fun k => spec_PlanText.l0 k l p (mkT (o ++ (if (mkT (a ++ signL l 45 held)).toList = [] then [61] else a ++ signL l 45 held))) (p.length : Int) ((d + 1 : Nat) : Int)) R) : ∀ (c j : Nat), j + c = held.length →
    Ev (fun k => spec_PlanText.l2 k l p (mkT o) (mkT (a ++ signL l 45 (held.take j))) (p.length : Int) (d : Int) held (held.length : Int) (j : Int)) R
  | 0, j, h => by
    obtain rfl : j = held.length := by omega
    have h8 := hp.1
    have hl := signL_len l hv 45 held hp.2
    refine Ev.step (fun k => by rw [spec_PlanText.l2]) ?_
    rw [wrap_succ d (by omega), List.take_length]
    simp only [if_neg (show ¬ ((held.length : Int) < (held.length : Int)) by omega)]
    have e1 : (⟨#[61]⟩ : ByteArray) = mkT [61] := rfl
    by_cases q : (mkT (a ++ signL l 45 held)).toList = []
    · rw [if_pos q] at K
      have s1 : o.length + 1 ≤ 9223372036854775807 := by omega
      simp only [if_pos q, e1, mkT_append, mkT_size, if_pos s1]
      exact K
    · rw [if_neg q] at K
      have s1 : o.length + (a ++ signL l 45 held).length ≤ 9223372036854775807 := by rw [List.length_append]; omega
      simp only [if_neg q, mkT_append, mkT_size, if_pos s1]
      exact K
  | c + 1, j, h => by
    have h8 := hp.1
    have hj : j < held.length := by omega
    have hx := hp.2 _ (rd_mem held j hj)
    have hw := hv (rd held (j : Int)).toNat (by omega)
    obtain ⟨n1, n2, n3⟩ := num_ev (l.getD (rd held (j : Int)).toNat 0) (by omega) (by omega)
    have hl := signL_len l hv 45 (held.take j) (take_places hp j)
    rw [List.length_take] at hl
    have IH := pl_l2 l hv p d hd o a ho ha held hp R K c (j + 1) (by omega)
    rw [take_rd held j hj, signL_snoc, ← List.append_assoc] at IH
    have e0 : rd l (rd held (j : Int)) = l.getD (rd held (j : Int)).toNat 0 := rfl
    have e1 : (⟨#[45]⟩ : ByteArray) = mkT [45] := rfl
    refine Ev.step (fun k => by rw [spec_PlanText.l2]) ?_
    rw [wrap_succ j (by omega)]
    simp only [if_pos (show (j : Int) < (held.length : Int) by omega), if_pos (show (0 : Int) ≤ (j : Int) by omega), if_pos hx.1, if_pos hx.2, e0]
    refine Ev.bind n1 ?_
    have s1 : 1 + (Lib.itoa (l.getD (rd held (j : Int)).toNat 0)).length ≤ 9223372036854775807 := by omega
    have s2 : (a ++ signL l 45 (held.take j)).length + ([45] ++ Lib.itoa (l.getD (rd held (j : Int)).toNat 0)).length ≤ 9223372036854775807 := by rw [List.length_append, List.length_append, List.length_singleton]; omega
    simp only [e1, mkT_append, mkT_size, if_pos s1, if_pos s2]
    exact IH
theorem signed_loop (l : List Int) (hv : ∀ j, j < l.length → 1 ≤ l.getD j 0 ∧ l.getD j 0 ≤ 10000) (sg : UInt8) (held : List Int) (hp : Places l held) : ∀ (c j : Nat), j + c = held.length →
    Ev (fun k => impl_signed.l0 k l (mkT [sg]) (mkT (signL l sg (held.take j))) held (held.length : Int) (j : Int)) (mkT (signL l sg held))
  | 0, j, h => by
    obtain rfl : j = held.length := by omega
    refine Ev.step (fun k => by rw [impl_signed.l0]) ?_
    simp only [if_neg (show ¬ ((held.length : Int) < (held.length : Int)) by omega), List.take_length]
    exact Ev.now _
  | c + 1, j, h => by
    have h8 := hp.1
    have hj : j < held.length := by omega
    have hx := hp.2 _ (rd_mem held j hj)
    have hw := hv (rd held (j : Int)).toNat (by omega)
    obtain ⟨n1, n2, n3⟩ := num_ev (l.getD (rd held (j : Int)).toNat 0) (by omega) (by omega)
    have hl := signL_len l hv sg (held.take j) (take_places hp j)
    rw [List.length_take] at hl
    have IH := signed_loop l hv sg held hp c (j + 1) (by omega)
    rw [take_rd held j hj, signL_snoc] at IH
    have e0 : rd l (rd held (j : Int)) = l.getD (rd held (j : Int)).toNat 0 := rfl
    refine Ev.step (fun k => by rw [impl_signed.l0]) ?_
    rw [wrap_succ j (by omega)]
    simp only [if_pos (show (j : Int) < (held.length : Int) by omega), if_pos (show (0 : Int) ≤ (j : Int) by omega), if_pos hx.1, if_pos hx.2, e0, n2, Option.bind_some]
    have s1 : ([sg] : List UInt8).length + (Lib.itoa (l.getD (rd held (j : Int)).toNat 0)).length ≤ 9223372036854775807 := by rw [List.length_singleton]; omega
    have s2 : (signL l sg (held.take j)).length + ([sg] ++ Lib.itoa (l.getD (rd held (j : Int)).toNat 0)).length ≤ 9223372036854775807 := by rw [List.length_append, List.length_singleton]; omega
    simp only [mkT_append, mkT_size, if_pos s1, if_pos s2]
    exact IH
theorem signed_ev (l : List Int) (hv : ∀ j, j < l.length → 1 ≤ l.getD j 0 ∧ l.getD j 0 ≤ 10000) (sg : UInt8) (held : List Int) (hp : Places l held) : Ev (fun k => impl_signed.f k l held (mkT [sg])) (mkT (signL l sg held)) :=
  signed_loop l hv sg held hp held.length 0 (by omega)
/-- The days' texts, so many. -/
def daysL (l : List Int) (p : List (List Int)) (d : Nat) : List (List UInt8) := (List.range d).map (dayL l p)
theorem daysL_len (l : List Int) (p : List (List Int)) (d : Nat) : (daysL l p d).length = d := by simp [daysL]
theorem daysL_snoc (l : List Int) (p : List (List Int)) (d : Nat) : daysL l p (d + 1) = daysL l p d ++ [dayL l p d] := by
  unfold daysL
  rw [List.range_succ, List.map_append]
  rfl
/-- What holds of a plan's days. -/
structure PlanOk (l : List Int) (p : List (List Int)) : Prop where
  val : ∀ j, j < l.length → 1 ≤ l.getD j 0 ∧ l.getD j 0 ≤ 10000
  sm : Small p
  days : p.length ≤ 60
  new : ∀ d, d < p.length → Places l (onlyL (p.getD d []) (befL p d))
  old : ∀ d, d < p.length → Places l (onlyL (befL p d) (p.getD d []))
theorem dayL_len {l : List Int} {p : List (List Int)} (ok : PlanOk l p) (d : Nat) (hd : d < p.length) : (dayL l p d).length ≤ 16000032 := by
  have h1 := signL_len l ok.val 43 _ (ok.new d hd).2
  have h2 := signL_len l ok.val 45 _ (ok.old d hd).2
  have h3 := (ok.new d hd).1
  have h4 := (ok.old d hd).1
  unfold dayL movesL
  split
  · simp
  · rw [List.length_append]
    omega
theorem days_len {l : List Int} {p : List (List Int)} (ok : PlanOk l p) (d : Nat) (hd : d ≤ p.length) : (Lib.join (daysL l p d) [47]).length ≤ 1000000000 := by
  have h60 := ok.days
  have h := join_len 16000032 [47] rfl (daysL l p d) (fun t ht => by
    unfold daysL at ht
    obtain ⟨i, hi, rfl⟩ := List.mem_map.mp ht
    exact dayL_len ok i (by have := List.mem_range.mp hi; omega))
  rw [daysL_len] at h
  omega
theorem spec_days {l : List Int} {p : List (List Int)} (ok : PlanOk l p) : ∀ (c d : Nat), d + c = p.length → Ev (fun k => spec_PlanText.l0 k l p (mkT (Lib.join (daysL l p d) [47])) (p.length : Int) (d : Int)) (mkT (Lib.join (daysL l p p.length) [47]), true)
  | 0, d, h => by
    obtain rfl : d = p.length := by omega
    refine Ev.step (fun k => by rw [spec_PlanText.l0]) ?_
    simp only [if_neg (show ¬ ((p.length : Int) < (p.length : Int)) by omega)]
    exact Ev.now _
  | c + 1, d, h => by
    have hd : d < p.length := by omega
    have h60 := ok.days
    have hlen := days_len ok d (by omega)
    have hnew := ok.new d hd
    have hold := ok.old d hd
    have l1 := signL_len l ok.val 43 _ hnew.2
    have n1 := hnew.1
    have e47 : (⟨#[47]⟩ : ByteArray) = mkT [47] := rfl
    have IH := spec_days ok c (d + 1) (by omega)
    rw [daysL_snoc, join_snoc] at IH
    have day : ∀ o : List UInt8, o.length ≤ 10000000000 → Ev (fun k => spec_PlanText.l0 k l p (mkT (o ++ dayL l p d)) (p.length : Int) ((d + 1 : Nat) : Int)) (mkT (Lib.join (daysL l p p.length) [47]), true) → Ev (fun k => spec_PlanText.j2 k l p (mkT o) (d : Int) (p.length : Int) (d : Int)) (mkT (Lib.join (daysL l p p.length) [47]), true) := by
      intro o ho K
      refine Ev.step (fun k => by rw [spec_PlanText.j2]) ?_
      simp only [if_pos (show (0 : Int) ≤ (d : Int) by omega), if_pos (show (d : Int) < (p.length : Int) by omega), (before_eq p d hd ok.sm.1).1, Option.bind_some, rdL_nat]
      refine Ev.bind (only_ev _ _ (ok.sm.2 d hd) (bef_len p ok.sm d hd)).1 ?_
      refine pl_l1 l ok.val p ok.sm d hd (mkT o) (onlyL (p.getD d []) (befL p d)) hnew _ ?_ _ 0 (Nat.zero_add _)
      have := pl_l2 l ok.val p d (by omega) o (signL l 43 (onlyL (p.getD d []) (befL p d))) ho (by omega) (onlyL (befL p d) (p.getD d [])) hold _ K _ 0 (Nat.zero_add _)
      rw [List.take_zero, show signL l 45 [] = [] from rfl, List.append_nil] at this
      exact this
    refine Ev.step (fun k => by rw [spec_PlanText.l0]) ?_
    simp only [if_pos (show (d : Int) < (p.length : Int) by omega)]
    by_cases z : d = 0
    · subst z
      simp only [if_neg (show ¬ ((0 : Nat) : Int) > 0 by omega)]
      rw [if_pos (show daysL l p 0 = [] from rfl)] at IH
      exact day [] (by simp) IH
    · have s1 : (Lib.join (daysL l p d) [47]).length + 1 ≤ 9223372036854775807 := by omega
      simp only [if_pos (show (d : Int) > 0 by omega), e47, mkT_append, mkT_size, if_pos s1]
      rw [if_neg (show ¬ daysL l p d = [] from fun h => by have := congrArg List.length h; rw [daysL_len] at this; exact z this)] at IH
      exact day _ (by rw [List.length_append, List.length_singleton]; omega) IH
theorem impl_days {l : List Int} {p : List (List Int)} (ok : PlanOk l p) : ∀ (c d : Nat), d + c = p.length → Ev (fun k => impl_PlanText.l0 k l p ((daysL l p d).map mkT) (p.length : Int) (d : Int)) (mkT (Lib.join (daysL l p p.length) [47]), true)
  | 0, d, h => by
    obtain rfl : d = p.length := by omega
    have h60 := ok.days
    have hlen := days_len ok p.length (Nat.le_refl _)
    have e47 : (⟨#[47]⟩ : ByteArray) = mkT [47] := rfl
    have em : ((daysL l p p.length).map mkT).map (·.data.toList) = daysL l p p.length := by
      rw [List.map_map]
      conv => rhs; rw [← List.map_id (daysL l p p.length)]
      exact List.map_congr_left (fun x _ => mkT_data x)
    refine Ev.step (fun k => by rw [impl_PlanText.l0]) ?_
    simp only [if_neg (show ¬ ((p.length : Int) < (p.length : Int)) by omega)]
    have ej : strings_Join.f ((daysL l p p.length).map mkT) (⟨#[47]⟩ : ByteArray) = some (mkT (Lib.join (daysL l p p.length) [47])) := by
      unfold strings_Join.f
      rw [em, e47, mkT_data, if_pos (by rw [List.length_map, daysL_len]; omega), if_pos (by omega)]
      rfl
    rw [ej]
    exact Ev.now _
  | c + 1, d, h => by
    have hd : d < p.length := by omega
    have h60 := ok.days
    have hnew := ok.new d hd
    have hold := ok.old d hd
    have l1 := signL_len l ok.val 43 _ hnew.2
    have l2 := signL_len l ok.val 45 _ hold.2
    have n1 := hnew.1
    have n2 := hold.1
    have e43 : (⟨#[43]⟩ : ByteArray) = mkT [43] := rfl
    have e45 : (⟨#[45]⟩ : ByteArray) = mkT [45] := rfl
    have e61 : (⟨#[61]⟩ : ByteArray) = mkT [61] := rfl
    have IH := impl_days ok c (d + 1) (by omega)
    rw [daysL_snoc, List.map_append, List.map_singleton] at IH
    refine Ev.step (fun k => by rw [impl_PlanText.l0]) ?_
    rw [wrap_succ d (by omega)]
    simp only [if_pos (show (d : Int) < (p.length : Int) by omega), e43, e45, e61]
    refine Ev.bind (given_ev p ok.sm d hd) ?_
    refine Ev.bind (signed_ev l ok.val 43 _ hnew) ?_
    refine Ev.bind (signed_ev l ok.val 45 _ hold) ?_
    have s1 : (signL l 43 (onlyL (p.getD d []) (befL p d))).length + (signL l 45 (onlyL (befL p d) (p.getD d []))).length ≤ 9223372036854775807 := by omega
    simp only [mkT_append, mkT_size, if_pos s1]
    have hL : ((daysL l p d).map mkT).length < 8796093022208 := by rw [List.length_map, daysL_len]; omega
    by_cases q : (mkT (signL l 43 (onlyL (p.getD d []) (befL p d)) ++ signL l 45 (onlyL (befL p d) (p.getD d [])))).toList = []
    · simp only [if_pos q, if_pos hL]
      have e : dayL l p d = [61] := if_pos q
      rw [e] at IH
      exact IH
    · simp only [if_neg q, if_pos hL]
      have e : dayL l p d = signL l 43 (onlyL (p.getD d []) (befL p d)) ++ signL l 45 (onlyL (befL p d) (p.getD d [])) := if_neg q
      rw [e] at IH
      exact IH
theorem held_len (n : Nat) (x : List Int) (h : Held n x) : x.length ≤ n := by
  have up : ∀ j : Nat, j < x.length → (j : Int) ≤ x.getD j 0 := by
    intro j
    induction j with
    | zero => intro hj; exact (h 0 hj).1.1
    | succ j ih =>
      intro hj
      have h1 := ih (by omega)
      have h2 := (h (j + 1) hj).2 (by omega)
      rw [Nat.add_sub_cancel] at h2
      omega
  rcases Nat.eq_zero_or_pos x.length with z | z
  · omega
  · have h1 := up (x.length - 1) (by omega)
    have h2 := (h (x.length - 1) (by omega)).1.2
    omega
theorem held_in (n : Nat) (x : List Int) (h : Held n x) : ∀ i ∈ x, 0 ≤ i ∧ i < (n : Int) := by
  intro i hi
  obtain ⟨j, hj, rfl⟩ := List.getElem_of_mem hi
  have := (h j hj).1
  rw [List.getD_eq_getElem?_getD, List.getElem?_eq_getElem hj] at this
  have h2 : 0 ≤ x[j] ∧ x[j] ≤ (n : Int) - 1 := this
  omega
theorem planOk {l : List Int} {p : List (List Int)} (sm : Small p) (pl : Plan l.length p) (g : Good l) (hn : l.length ≤ 8) : PlanOk l p := by
  have bl : ∀ d, d < p.length → Held l.length (befL p d) := by
    intro d hd
    unfold befL
    split
    · intro j hj; exact absurd hj (by simp)
    · exact pl.2 (d - 1) (by omega)
  have only : ∀ a b, Held l.length a → Places l (onlyL a b) := by
    intro a b ha
    refine ⟨?_, fun i hi => held_in _ a ha i (List.mem_filter.mp hi).1⟩
    have h1 := held_len _ a ha
    have h2 := onlyL_len a b
    omega
  exact ⟨g.2.1, sm, pl.1, fun d hd => only _ _ (pl.2 d hd), fun d hd => only _ _ (bl d hd)⟩
theorem PlanText_same (l : List Int) (p : List (List Int)) (hm : l.length ≤ 1048576) (sm : Small p) : ∃ r, Ev (fun k => spec_PlanText.f k l p) r ∧ Ev (fun k => impl_PlanText.f k l p) r := by
  obtain ⟨b, c, hs, hc, hi, hg⟩ := plan_same l hm p sm
  unfold spec_PlanText.f impl_PlanText.f
  cases b with
  | false =>
    refine ⟨((⟨#[]⟩ : ByteArray), false), Ev.bind hs ?_, Ev.bind hi ?_⟩
    · simp only [Bool.false_eq_true, if_false]
      refine Ev.step (fun k => by rw [spec_PlanText.j0]) ?_
      simp only [if_true]
      exact Ev.now _
    · simp only [Bool.false_and, Bool.false_eq_true, if_false]; exact Ev.now _
  | true =>
    cases c with
    | false =>
      refine ⟨((⟨#[]⟩ : ByteArray), false), Ev.bind hs ?_, Ev.bind hi ?_⟩
      · simp only [if_true]
        refine Ev.bind hc ?_
        refine Ev.step (fun k => by rw [spec_PlanText.j0]) ?_
        simp only [Bool.not_false, if_true]
        exact Ev.now _
      · simp only [Bool.and_false, Bool.false_eq_true, if_false]; exact Ev.now _
    | true =>
      obtain ⟨pl, g, hn⟩ := hg rfl
      have ok := planOk sm pl g hn
      refine ⟨(mkT (Lib.join (daysL l p p.length) [47]), true), Ev.bind hs ?_, Ev.bind hi ?_⟩
      · simp only [if_true]
        refine Ev.bind hc ?_
        refine Ev.step (fun k => by rw [spec_PlanText.j0]) ?_
        simp only [Bool.not_true, Bool.false_eq_true, if_false]
        exact spec_days ok p.length 0 (by omega)
      · simp only [Bool.and_self, if_true]
        exact impl_days ok p.length 0 (by omega)
theorem FnExactPlanText : laws_FnExactPlanText.Pure := by
  intro l0 l1 h1 h2 h3 h4 h5 h6 
  apply Ev.rounds
  unfold laws_FnExactPlanText.f
  by_cases c : (l0.length : Int) > 1048576
  · simp only [if_pos c]; exact Ev.now _
  · simp only [if_neg c]
    have hm : l0.length ≤ 1099511627776 := by omega
    obtain ⟨s, hs0, hs1⟩ := szSS_ev l1 (by unfold maxLen at h4; omega) (fun j hj => (rows_getD l1 h6 j hj).1)
    refine Ev.bind hs0 ?_
    by_cases c2 : s < 0
    · simp only [if_pos c2]; exact Ev.now _
    simp only [if_neg c2]
    have sm : Small l1 := by rcases hs1 with z | z; exact absurd z c2; exact z.2
    obtain ⟨⟨r1, r2⟩, hs, hi⟩ := PlanText_same l0 l1 (by omega) sm
    refine Ev.bind (toInt_ev l0 hm) ?_
    refine Ev.bind (toSS_ev l1 sm) ?_
    refine Ev.bind hs ?_
    refine Ev.bind (toInt_ev l0 hm) ?_
    refine Ev.bind (toSS_ev l1 sm) ?_
    refine Ev.bind hi ?_
    simp only [if_true, bne_self_eq_false, Bool.false_eq_true, if_false]
    refine Ev.step (fun k => by rw [laws_FnExactPlanText.j0]) ?_
    simp only [Bool.false_eq_true, if_false]
    refine Ev.bind (toInt_ev l0 hm) ?_
    refine Ev.bind (eq_ev l0 hm) ?_
    simp only [if_true]
    refine Ev.bind (toSS_ev l1 sm) ?_
    refine Ev.bind (eqSS_ev l1 sm) ?_
    exact Ev.now _

end Go.Proofs.YtfldgimmdeijjaaDoor.Pure
