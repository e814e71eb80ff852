/- For every list of whole numbers and every number of days, the program's PlanOfRun tells what the reference's tells, in memory of its own, and the list reads as before. No conditions. -/
import Derived.Test.YtfldgimmdeijjaaPFnExactPlanOfRunx6
namespace Go.Proofs.Ytfldgimmdeijjaa.Pure
open Go.RowKit Go.Proofs.Ytfldgimmdeijjaa.PFnExactPlanOfRun Go.Proofs.YtfldgimmdeijjaaW.PrintWords Go.Proofs.YtfldgimmdeijjaaW.PrintLast
set_option linter.unusedVariables false
set_option linter.unusedSimpArgs false

theorem wrap_id (x : Int) (h0 : -9223372036854775808 ≤ x) (h1 : x ≤ 9223372036854775807) : wrap64 x = x := by
  unfold wrap64; omega
theorem wrap_succ (i : Nat) (h : i < 4611686018427387904) : wrap64 ((i : Int) + 1) = ((i + 1 : Nat) : Int) := by
  rw [wrap_id _ (by omega) (by omega)]; rfl
theorem rd_nat (l : List Int) (i : Nat) : rd l (i : Int) = l.getD i 0 := rfl
theorem getD_some (l : List Int) (i : Nat) (h : i < l.length) : l[i]? = some (l.getD i 0) := by
  rw [List.getD_eq_getElem?_getD, List.getElem?_eq_getElem h]; rfl
theorem bool_same {b c : Bool} {P : Prop} (hb : b = true ↔ P) (hc : c = true ↔ P) : b = c := by
  cases b <;> cases c <;> simp_all

theorem eq_loop (a : List Int) (hm : a.length ≤ 1099511627776) : ∀ (d i : Nat), i + d = a.length → Ev (fun k => laws_eqIntS.l0 k a a (i : Int)) true
  | 0, i, h => by
    refine Ev.step (fun k => by rw [laws_eqIntS.l0]) ?_
    simp only [if_neg (show ¬ ((i : Int) < (a.length : Int)) by omega)]
    exact Ev.now _
  | d + 1, i, h => by
    refine Ev.step (fun k => by rw [laws_eqIntS.l0]) ?_
    simp only [if_pos (show (i : Int) < (a.length : Int) by omega), if_pos (show (0 : Int) ≤ (i : Int) by omega), if_true]
    rw [wrap_succ i (by omega)]
    exact eq_loop a hm d (i + 1) (by omega)
theorem eq_ev (a : List Int) (hm : a.length ≤ 1099511627776) : Ev (fun k => laws_eqIntS.f k a a) true := by
  unfold laws_eqIntS.f
  simp only [if_true]
  exact eq_loop a hm a.length 0 (by omega)

theorem toInt_loop (l : List Int) (hm : l.length ≤ 1099511627776) : ∀ (d i : Nat) (cur : List Int), i + d = l.length → cur.length = l.length → (∀ j, j < i → cur[j]? = l[j]?) → Ev (fun k => laws_toIntS.l0 k l cur (i : Int)) l
  | 0, i, cur, h, hc, hj => by
    refine Ev.step (fun k => by rw [laws_toIntS.l0]) ?_
    simp only [if_neg (show ¬ ((i : Int) < (l.length : Int)) by omega)]
    have e : cur = l := by
      apply List.ext_getElem?
      intro j
      by_cases c : j < i
      · exact hj j c
      · rw [List.getElem?_eq_none (by omega), List.getElem?_eq_none (by omega)]
    rw [e]
    exact Ev.now _
  | d + 1, i, cur, h, hc, hj => by
    refine Ev.step (fun k => by rw [laws_toIntS.l0]) ?_
    simp only [if_pos (show (i : Int) < (l.length : Int) by omega), if_pos (show (0 : Int) ≤ (i : Int) by omega), if_pos (show (i : Int) < (cur.length : Int) by omega)]
    rw [wrap_succ i (by omega), Int.toNat_natCast, rd_nat]
    refine toInt_loop l hm d (i + 1) _ (by omega) (by rw [List.length_set]; exact hc) ?_
    intro j hlt
    rw [List.getElem?_set]
    by_cases c : i = j
    · subst c
      rw [if_pos rfl, if_pos (by omega), getD_some l i (by omega)]
    · rw [if_neg c]
      exact hj j (by omega)
theorem toInt_ev (l : List Int) (hm : l.length ≤ 1099511627776) : Ev (fun k => laws_toIntS.f k l) l := by
  unfold laws_toIntS.f
  simp only [if_pos (show (0 : Int) ≤ (l.length : Int) by omega), if_pos (show ((l.length : Int)).toNat ≤ 35184372088832 by omega)]
  exact toInt_loop l hm l.length 0 _ (by omega) (by simp) (fun j hj => by omega)

/-- A list of lists of a size that the law speaks of. -/
def Small (l : List (List Int)) : Prop := l.length ≤ 1048576 ∧ ∀ j, j < l.length → (l.getD j []).length ≤ 1048576
theorem rdL_nat (l : List (List Int)) (i : Nat) : rd_L1 l (i : Int) = l.getD i [] := rfl
theorem rows_getD (l : List (List Int)) {p : List Int → Prop} (h : ∀ x ∈ l, p x) (j : Nat) (hj : j < l.length) : p (l.getD j []) := by
  rw [List.getD_eq_getElem?_getD, List.getElem?_eq_getElem hj]
  exact h _ (List.getElem_mem hj)

theorem eqSS_loop (a : List (List Int)) (sm : Small a) : ∀ (d i : Nat), i + d = a.length → Ev (fun k => laws_eqIntSS.l0 k a a (i : Int)) true
  | 0, i, h => by
    refine Ev.step (fun k => by rw [laws_eqIntSS.l0]) ?_
    simp only [if_neg (show ¬ ((i : Int) < (a.length : Int)) by omega)]
    exact Ev.now _
  | d + 1, i, h => by
    have hxi := sm.2 i (by omega)
    have hl := sm.1
    refine Ev.step (fun k => by rw [laws_eqIntSS.l0]) ?_
    simp only [if_pos (show (i : Int) < (a.length : Int) by omega), if_pos (show (0 : Int) ≤ (i : Int) by omega), rdL_nat]
    refine Ev.bind (eq_ev (a.getD i []) (by omega)) ?_
    simp only [if_true]
    rw [wrap_succ i (by omega)]
    exact eqSS_loop a sm d (i + 1) (by omega)
theorem eqSS_ev (a : List (List Int)) (sm : Small a) : Ev (fun k => laws_eqIntSS.f k a a) true := by
  unfold laws_eqIntSS.f
  simp only [if_true]
  exact eqSS_loop a sm a.length 0 (by omega)

theorem markG_loop (a : Int) (h0 : 0 ≤ a) (h1 : a ≤ 1152921504606846976) : ∀ (d i : Nat) (cur : List Int), i + d = cur.length → cur.length ≤ 1099511627776 → (∀ j, j < i → cur[j]? = some (a + (j : Int))) →
    ∃ m : List Int, m.length = cur.length ∧ (∀ j, j < m.length → m[j]? = some (a + (j : Int))) ∧ Ev (fun k => laws_markIntS.l0 k cur (a + (i : Int)) (i : Int)) (a + (cur.length : Int), m)
  | 0, i, cur, h, hm, hj => by
    refine ⟨cur, rfl, fun j hlt => hj j (by omega), ?_⟩
    refine Ev.step (fun k => by rw [laws_markIntS.l0]) ?_
    simp only [if_neg (show ¬ ((i : Int) < (cur.length : Int)) by omega)]
    rw [show (a + (cur.length : Int)) = (a + (i : Int)) by omega]
    exact Ev.now _
  | d + 1, i, cur, h, hm, hj => by
    obtain ⟨m, h2, h3, h4⟩ := markG_loop a h0 h1 d (i + 1) (cur.set i (a + (i : Int))) (by simp; omega) (by simpa using hm) (fun j hlt => by
      rw [List.getElem?_set]
      by_cases c : i = j
      · subst c; rw [if_pos rfl, if_pos (by omega)]
      · rw [if_neg c]; exact hj j (by omega))
    rw [List.length_set] at h2 h4
    refine ⟨m, h2, h3, ?_⟩
    refine Ev.step (fun k => by rw [laws_markIntS.l0]) ?_
    simp only [if_pos (show (i : Int) < (cur.length : Int) by omega), if_pos (show (0 : Int) ≤ (i : Int) by omega)]
    rw [wrap_succ i (by omega), Int.toNat_natCast, show wrap64 (a + (i : Int) + 1) = a + ((i + 1 : Nat) : Int) by rw [wrap_id _ (by omega) (by omega)]; omega]
    exact h4
theorem heldG_loop (a : Int) (h0 : 0 ≤ a) (h1 : a ≤ 1152921504606846976) (m : List Int) (hm : m.length ≤ 1099511627776) (hj : ∀ j, j < m.length → m[j]? = some (a + (j : Int))) : ∀ (d i : Nat), i + d = m.length →
    Ev (fun k => laws_heldIntS.l0 k m (a + (i : Int)) (i : Int)) (a + (m.length : Int))
  | 0, i, h => by
    refine Ev.step (fun k => by rw [laws_heldIntS.l0]) ?_
    simp only [if_neg (show ¬ ((i : Int) < (m.length : Int)) by omega)]
    rw [show (a + (m.length : Int)) = (a + (i : Int)) by omega]
    exact Ev.now _
  | d + 1, i, h => by
    refine Ev.step (fun k => by rw [laws_heldIntS.l0]) ?_
    have e : rd m (i : Int) = a + (i : Int) := by
      rw [rd_nat, List.getD_eq_getElem?_getD, hj i (by omega)]; rfl
    simp only [if_pos (show (i : Int) < (m.length : Int) by omega), if_pos (show (0 : Int) ≤ (i : Int) by omega), e, if_true]
    rw [wrap_succ i (by omega), show wrap64 (a + (i : Int) + 1) = a + ((i + 1 : Nat) : Int) by rw [wrap_id _ (by omega) (by omega)]; omega]
    exact heldG_loop a h0 h1 m hm hj d (i + 1) (by omega)
theorem markG_ev (a : Int) (h0 : 0 ≤ a) (h1 : a ≤ 1152921504606846976) (l : List Int) (hm : l.length ≤ 1099511627776) :
    ∃ m : List Int, m.length = l.length ∧ Ev (fun k => laws_markIntS.f k l a) (a + (l.length : Int), m) ∧ Ev (fun k => laws_heldIntS.f k m a) (a + (l.length : Int)) := by
  obtain ⟨m, h2, h3, h4⟩ := markG_loop a h0 h1 l.length 0 l (by omega) hm (fun j h => by omega)
  refine ⟨m, h2, ?_, ?_⟩
  · unfold laws_markIntS.f; simpa using h4
  · have := heldG_loop a h0 h1 m (by omega) h3 m.length 0 (by omega)
    unfold laws_heldIntS.f
    rw [h2] at this
    simpa using this

/-- Rows that are numbered on from a, the last one up to r. -/
def Numbered : List (List Int) → Int → Int → Prop
  | [], a, r => r = a
  | m :: l, a, r => (∀ j, j < m.length → m[j]? = some (a + (j : Int))) ∧ Numbered l (a + (m.length : Int)) r
theorem markRows_ev : ∀ (l : List (List Int)) (a : Int), (∀ x ∈ l, x.length ≤ 1048576) → 0 ≤ a → a + (l.length : Int) * 1048576 ≤ 1152921504606846976 →
    ∃ (r : Int) (l' : List (List Int)), l'.length = l.length ∧ (∀ x ∈ l', x.length ≤ 1048576) ∧ a ≤ r ∧ Numbered l' a r ∧ Ev (fun k => hwMark (laws_markIntS.f k) l a) (r, l')
  | [], a, _, h0, _ => ⟨a, [], rfl, (fun _ h => by cases h), Int.le_refl _, rfl, by simp only [hwMark]; exact Ev.now _⟩
  | x :: l, a, hx, h0, h1 => by
    have hxl := hx x List.mem_cons_self
    rw [List.length_cons] at h1
    obtain ⟨m, hm, hj, e1⟩ := markG_loop a h0 (by omega) x.length 0 x (by omega) (by omega) (fun j h => by omega)
    have e1' : Ev (fun k => laws_markIntS.f k x a) (a + (x.length : Int), m) := by unfold laws_markIntS.f; simpa using e1
    obtain ⟨r, l', h2, h3, h5, h6, e2⟩ := markRows_ev l (a + (x.length : Int)) (fun y hy => hx y (List.mem_cons_of_mem _ hy)) (by omega) (by omega)
    refine ⟨r, m :: l', by simp [h2], (fun y hy => ?_), by omega, ⟨hj, by rw [hm]; exact h6⟩, ?_⟩
    · rcases List.mem_cons.1 hy with e | hy
      · rw [e, hm]; exact hxl
      · exact h3 y hy
    · simp only [hwMark]
      refine Ev.bind e1' ?_
      refine Ev.bind e2 ?_
      exact Ev.now _
theorem heldSS_loop (L : List (List Int)) (hL : ∀ x ∈ L, x.length ≤ 1048576) (hn : L.length ≤ 1048576) : ∀ (d i : Nat) (a r : Int), i + d = L.length → 0 ≤ a → a + (d : Int) * 1048576 ≤ 1152921504606846976 → Numbered (L.drop i) a r → Ev (fun k => laws_heldIntSS.l0 k L a (i : Int)) r
  | 0, i, a, r, h, h0, h1, hN => by
    rw [List.drop_of_length_le (by omega)] at hN
    have e : r = a := hN
    subst e
    refine Ev.step (fun k => by rw [laws_heldIntSS.l0]) ?_
    simp only [if_neg (show ¬ ((i : Int) < (L.length : Int)) by omega)]
    exact Ev.now _
  | d + 1, i, a, r, h, h0, h1, hN => by
    have hi : i < L.length := by omega
    rw [List.drop_eq_getElem_cons hi] at hN
    obtain ⟨hj, hN⟩ := hN
    have hxl := hL _ (List.getElem_mem hi)
    have e : rd_L1 L (i : Int) = L[i] := by
      show L.getD i [] = L[i]
      rw [List.getD_eq_getElem?_getD, List.getElem?_eq_getElem hi]; rfl
    refine Ev.step (fun k => by rw [laws_heldIntSS.l0]) ?_
    simp only [if_pos (show (i : Int) < (L.length : Int) by omega), if_pos (show (0 : Int) ≤ (i : Int) by omega), e]
    have hh : Ev (fun k => laws_heldIntS.f k L[i] a) (a + (L[i].length : Int)) := by
      have := heldG_loop a h0 (by omega) L[i] (by omega) hj L[i].length 0 (by omega)
      unfold laws_heldIntS.f
      simpa using this
    refine Ev.bind hh ?_
    simp only [if_neg (show ¬ a + (L[i].length : Int) < 0 by omega)]
    rw [wrap_succ i (by omega)]
    exact heldSS_loop L hL hn d (i + 1) _ r (by omega) (by omega) (by omega) hN

theorem l1In_eq (x lo hi : Int) : spec_l1In.f x lo hi = some (decide (lo ≤ x ∧ x ≤ hi)) := by
  unfold spec_l1In.f
  by_cases c : x ≥ lo
  · rw [if_pos c]; congr 1; by_cases d : x ≤ hi
    · rw [decide_eq_true d, decide_eq_true ⟨c, d⟩]
    · rw [decide_eq_false d, decide_eq_false (fun h => d h.2)]
  · rw [if_neg c, decide_eq_false (fun h => c h.1)]

theorem l1All_loop (lo hi : Int) (l : List Int) (hm : l.length ≤ 1099511627776) : ∀ (d i : Nat), i + d = l.length →
    ∃ b, Ev (fun k => spec_l1All.l0 k lo hi l (l.length : Int) (i : Int)) b ∧ (b = true ↔ ∀ j, i ≤ j → j < l.length → lo ≤ l.getD j 0 ∧ l.getD j 0 ≤ hi)
  | 0, i, h => by
    refine ⟨true, ?_, by simp only [true_iff]; intro j h1 h2; omega⟩
    refine Ev.step (fun k => by rw [spec_l1All.l0]) ?_
    simp only [if_neg (show ¬ ((i : Int) < (l.length : Int)) by omega)]
    exact Ev.now _
  | d + 1, i, h => by
    by_cases c : lo ≤ l.getD i 0 ∧ l.getD i 0 ≤ hi
    · obtain ⟨b, hb, hj⟩ := l1All_loop lo hi l hm d (i + 1) (by omega)
      refine ⟨b, ?_, ?_⟩
      · refine Ev.step (fun k => by rw [spec_l1All.l0]) ?_
        simp only [if_pos (show (i : Int) < (l.length : Int) by omega), if_pos (show (0 : Int) ≤ (i : Int) by omega), l1In_eq, rd_nat, decide_eq_true c, Option.bind_some, if_true]
        rw [wrap_succ i (by omega)]
        exact hb
      · rw [hj]
        constructor
        · intro H j h1 h2
          by_cases e : j = i
          · rw [e]; exact c
          · exact H j (by omega) h2
        · intro H j h1 h2
          exact H j (by omega) h2
    · refine ⟨false, ?_, ?_⟩
      · refine Ev.step (fun k => by rw [spec_l1All.l0]) ?_
        simp only [if_pos (show (i : Int) < (l.length : Int) by omega), if_pos (show (0 : Int) ≤ (i : Int) by omega), l1In_eq, rd_nat, decide_eq_false c, Option.bind_some, Bool.false_eq_true, if_false]
        exact Ev.now _
      · constructor
        · intro H; cases H
        · intro H; exact absurd (H i (by omega) (by omega)) c
theorem l1All_ev (lo hi : Int) (l : List Int) (hm : l.length ≤ 1099511627776) :
    ∃ b, Ev (fun k => spec_l1All.f k l lo hi) b ∧ (b = true ↔ ∀ j, j < l.length → lo ≤ l.getD j 0 ∧ l.getD j 0 ≤ hi) := by
  obtain ⟨b, hb, hj⟩ := l1All_loop lo hi l hm l.length 0 (by omega)
  exact ⟨b, hb, by rw [hj]; exact ⟨fun H j h => H j (by omega) h, fun H j _ h => H j h⟩⟩

/-- What pieces are. -/
def Good (l : List Int) : Prop := l.length ≤ 20 ∧ (∀ j, j < l.length → 1 ≤ l.getD j 0 ∧ l.getD j 0 ≤ 10000) ∧ (∀ j, 1 ≤ j → j < l.length → l.getD (j - 1) 0 ≤ l.getD j 0)

theorem piGood_loop (l : List Int) (hm : l.length ≤ 1099511627776) : ∀ (d i : Nat), 1 ≤ i → l.length ≤ i + d →
    ∃ b, Ev (fun k => spec_piGood.l0 k l (i : Int)) b ∧ (b = true ↔ ∀ j, i ≤ j → j < l.length → l.getD (j - 1) 0 ≤ l.getD j 0)
  | 0, i, h0, h => by
    refine ⟨true, ?_, by simp only [true_iff]; intro j h1 h2; omega⟩
    refine Ev.step (fun k => by rw [spec_piGood.l0]) ?_
    simp only [if_neg (show ¬ ((i : Int) < (l.length : Int)) by omega)]
    exact Ev.now _
  | d + 1, i, h0, h => by
    by_cases hlt : i < l.length
    · have w : wrap64 ((i : Int) - 1) = ((i - 1 : Nat) : Int) := by rw [wrap_id _ (by omega) (by omega)]; omega
      by_cases c : l.getD (i - 1) 0 ≤ l.getD i 0
      · obtain ⟨b, hb, hj⟩ := piGood_loop l hm d (i + 1) (by omega) (by omega)
        refine ⟨b, ?_, ?_⟩
        · refine Ev.step (fun k => by rw [spec_piGood.l0]) ?_
          simp only [w, rd_nat, if_pos (show (i : Int) < (l.length : Int) by omega), if_pos (show (0 : Int) ≤ (i : Int) by omega), if_pos (show (0 : Int) ≤ ((i - 1 : Nat) : Int) by omega), if_pos (show ((i - 1 : Nat) : Int) < (l.length : Int) by omega), if_neg (show ¬ (l.getD (i - 1) 0 > l.getD i 0) by omega)]
          rw [wrap_succ i (by omega)]
          exact hb
        · rw [hj]
          constructor
          · intro H j h1 h2
            by_cases e : j = i
            · rw [e]; exact c
            · exact H j (by omega) h2
          · intro H j h1 h2
            exact H j (by omega) h2
      · refine ⟨false, ?_, ?_⟩
        · refine Ev.step (fun k => by rw [spec_piGood.l0]) ?_
          simp only [w, rd_nat, if_pos (show (i : Int) < (l.length : Int) by omega), if_pos (show (0 : Int) ≤ (i : Int) by omega), if_pos (show (0 : Int) ≤ ((i - 1 : Nat) : Int) by omega), if_pos (show ((i - 1 : Nat) : Int) < (l.length : Int) by omega), if_pos (show (l.getD (i - 1) 0 > l.getD i 0) by omega)]
          exact Ev.now _
        · constructor
          · intro H; cases H
          · intro H; exact absurd (H i (by omega) hlt) c
    · exact piGood_loop l hm 0 i h0 (by omega)
theorem piGood_ev (l : List Int) (hm : l.length ≤ 1099511627776) : ∃ b, Ev (fun k => spec_piGood.f k l) b ∧ (b = true ↔ Good l) := by
  by_cases c : l.length ≤ 20
  · obtain ⟨a, ha, ja⟩ := l1All_ev 1 10000 l hm
    cases a with
    | true =>
      obtain ⟨b, hb, jb⟩ := piGood_loop l hm l.length 1 (by omega) (by omega)
      refine ⟨b, ?_, ?_⟩
      · unfold spec_piGood.f
        simp only [if_neg (show ¬ ((l.length : Int) > 20) by omega)]
        refine Ev.bind ha ?_
        refine Ev.step (fun k => by rw [spec_piGood.j0]) ?_
        simp only [Bool.not_true, Bool.false_eq_true, if_false]
        exact hb
      · rw [jb]
        exact ⟨fun H => ⟨c, ja.1 rfl, H⟩, fun H => H.2.2⟩
    | false =>
      refine ⟨false, ?_, ?_⟩
      · unfold spec_piGood.f
        simp only [if_neg (show ¬ ((l.length : Int) > 20) by omega)]
        refine Ev.bind ha ?_
        refine Ev.step (fun k => by rw [spec_piGood.j0]) ?_
        simp only [Bool.not_false, if_true]
        exact Ev.now _
      · exact ⟨fun H => (by cases H), fun H => ja.2 H.2.1⟩
  · refine ⟨false, ?_, ?_⟩
    · unfold spec_piGood.f
      simp only [if_pos (show ((l.length : Int) > 20) by omega)]
      refine Ev.step (fun k => by rw [spec_piGood.j0]) ?_
      simp only [if_true]
      exact Ev.now _
    · exact ⟨fun H => (by cases H), fun H => absurd H.1 c⟩

theorem sum_take_succ (l : List Int) (i : Nat) (h : i < l.length) : (l.take (i + 1)).sum = (l.take i).sum + l.getD i 0 := by
  rw [List.take_succ_eq_append_getElem h, List.sum_append, List.getD_eq_getElem?_getD, List.getElem?_eq_getElem h]; simp
theorem Good.at {l : List Int} (g : Good l) (j : Nat) (h : j < l.length) : 1 ≤ l.getD j 0 ∧ l.getD j 0 ≤ 10000 := g.2.1 j h
theorem Good.sums {l : List Int} (g : Good l) : ∀ i, i ≤ l.length → 0 ≤ (l.take i).sum ∧ (l.take i).sum ≤ 10000 * i
  | 0, _ => by simp
  | i + 1, h => by
    have ih := Good.sums g i (by omega)
    have a := g.at i (by omega)
    rw [sum_take_succ l i (by omega)]
    omega
theorem Good.sum {l : List Int} (g : Good l) : 0 ≤ l.sum ∧ l.sum ≤ 200000 := by
  have h := g.sums l.length (Nat.le_refl _)
  rw [List.take_length] at h
  have := g.1
  omega
theorem Good.mem {l : List Int} (g : Good l) (x : Int) (h : x ∈ l) : 1 ≤ x ∧ x ≤ 10000 := by
  obtain ⟨j, hj, rfl⟩ := List.getElem_of_mem h
  have := g.at j hj
  rw [List.getD_eq_getElem?_getD, List.getElem?_eq_getElem hj] at this
  simpa using this
theorem piSum_loop (l : List Int) (g : Good l) : ∀ (d i : Nat), i + d = l.length → Ev (fun k => spec_piSum.l0 k (l.take i).sum l (l.length : Int) (i : Int)) l.sum
  | 0, i, h => by
    refine Ev.step (fun k => by rw [spec_piSum.l0]) ?_
    simp only [if_neg (show ¬ ((i : Int) < (l.length : Int)) by omega)]
    rw [List.take_of_length_le (by omega)]
    exact Ev.now _
  | d + 1, i, h => by
    refine Ev.step (fun k => by rw [spec_piSum.l0]) ?_
    have gs := g.sums (i + 1) (by omega)
    have g1 := g.1
    simp only [if_pos (show (i : Int) < (l.length : Int) by omega), if_pos (show (0 : Int) ≤ (i : Int) by omega), rd_nat]
    rw [wrap_succ i (by omega), ← sum_take_succ l i (by omega), wrap_id _ (by omega) (by omega)]
    exact piSum_loop l g d (i + 1) (by omega)
theorem piSum_ev (l : List Int) (g : Good l) : Ev (fun k => spec_piSum.f k l) l.sum := piSum_loop l g l.length 0 (by omega)
theorem total_eq0 : ∀ k a b c d, impl_total.l0 k a b c d = spec_piSum.l0 k a b c d
  | 0, _, _, _, _ => rfl
  | k + 1, a, b, c, d => by rw [impl_total.l0, spec_piSum.l0]; simp only [total_eq0 k]
theorem total_eq (k : Nat) (l : List Int) : impl_total.f k l = spec_piSum.f k l := total_eq0 k _ _ _ _
theorem total_ev (l : List Int) (g : Good l) : Ev (fun k => impl_total.f k l) l.sum := Ev.congr (fun k => total_eq k l) (piSum_ev l g)

/-- In how many ways some of the numbers make a sum. -/
def cnt : List Int → Int → Int
  | [], s => if s = 0 then 1 else 0
  | n :: l, s => cnt l s + cnt l (s - n)

theorem cnt_snoc (l : List Int) (n : Int) : ∀ s, cnt (l ++ [n]) s = cnt l s + cnt l (s - n) := by
  induction l with
  | nil => intro s; rfl
  | cons m l ih =>
    intro s
    simp only [List.cons_append, cnt, ih]
    rw [show s - m - n = s - n - m by omega]
    omega

theorem cnt_nonneg (l : List Int) : ∀ s, 0 ≤ cnt l s := by
  induction l with
  | nil => intro s; unfold cnt; split <;> omega
  | cons m l ih => intro s; have a := ih s; have b := ih (s - m); unfold cnt; omega

theorem cnt_neg (l : List Int) (hl : ∀ x ∈ l, 0 ≤ x) : ∀ s, s < 0 → cnt l s = 0 := by
  induction l with
  | nil => intro s h; unfold cnt; rw [if_neg (by omega)]
  | cons m l ih =>
    intro s h
    have hm := hl m (by simp)
    have i := ih (fun x hx => hl x (by simp [hx]))
    unfold cnt
    rw [i s h, i (s - m) (by omega)]; rfl

theorem cnt_big (l : List Int) (hl : ∀ x ∈ l, 0 ≤ x) : ∀ s, l.sum < s → cnt l s = 0 := by
  induction l with
  | nil => intro s h; unfold cnt; rw [if_neg (by simp at h; omega)]
  | cons m l ih =>
    intro s h
    have hm := hl m (by simp)
    have i := ih (fun x hx => hl x (by simp [hx]))
    simp only [List.sum_cons] at h
    unfold cnt
    rw [i s (by omega), i (s - m) (by omega)]; rfl

theorem cnt_le (l : List Int) : ∀ s, cnt l s ≤ 2 ^ l.length := by
  induction l with
  | nil => intro s; unfold cnt; split <;> simp
  | cons m l ih =>
    intro s
    have a := ih s
    have b := ih (s - m)
    unfold cnt
    rw [List.length_cons, Int.pow_succ]
    omega

theorem cnt_small (l : List Int) (h : l.length ≤ 20) (s : Int) : cnt l s ≤ 1048576 := by
  have a := cnt_le l s
  have b : (2 : Int) ^ l.length ≤ 2 ^ 20 := by
    have := Nat.pow_le_pow_right (n := 2) (by omega) h
    exact_mod_cast this
  have c : (2 : Int) ^ 20 = 1048576 := by decide
  omega

/-- A table of a function's values. -/
def tabf (N : Nat) (f : Nat → Int) : List Int := (List.range N).map f
theorem tabf_length (N : Nat) (f : Nat → Int) : (tabf N f).length = N := by simp [tabf]
theorem tabf_get? (N : Nat) (f : Nat → Int) (j : Nat) : (tabf N f)[j]? = if j < N then some (f j) else none := by
  unfold tabf
  rw [List.getElem?_map]
  by_cases c : j < N
  · rw [if_pos c, List.getElem?_range c]; rfl
  · rw [if_neg c, List.getElem?_eq_none (by simpa using c)]; rfl
theorem tabf_getD (N : Nat) (f : Nat → Int) (j : Nat) (h : j < N) : (tabf N f).getD j 0 = f j := by
  rw [List.getD_eq_getElem?_getD, tabf_get?, if_pos h]; rfl
theorem tabf_ext (N : Nat) (f g : Nat → Int) (h : ∀ j, j < N → f j = g j) : tabf N f = tabf N g := by
  apply List.ext_getElem?
  intro j
  rw [tabf_get?, tabf_get?]
  by_cases c : j < N
  · rw [if_pos c, if_pos c, h j c]
  · rw [if_neg c, if_neg c]
theorem tabf_set (N : Nat) (f g : Nat → Int) (s : Nat) (v : Int) (hs : s < N) (hv : v = g s) (h : ∀ j, j < N → j ≠ s → f j = g j) : (tabf N f).set s v = tabf N g := by
  apply List.ext_getElem?
  intro j
  rw [List.getElem?_set, tabf_length, tabf_get?, tabf_get?]
  by_cases c : s = j
  · subst c
    rw [if_pos rfl, if_pos hs, if_pos hs, hv]
  · rw [if_neg c]
    by_cases d : j < N
    · rw [if_pos d, if_pos d, h j d (fun e => c e.symm)]
    · rw [if_neg d, if_neg d]
theorem replicate_tabf (N : Nat) (v : Int) : List.replicate N v = tabf N (fun _ => v) := by
  apply List.ext_getElem?
  intro j
  rw [tabf_get?, List.getElem?_replicate]

theorem take_snoc (l : List Int) (i : Nat) (h : i < l.length) : l.take (i + 1) = l.take i ++ [l.getD i 0] := by
  rw [List.take_succ_eq_append_getElem h, List.getD_eq_getElem?_getD, List.getElem?_eq_getElem h]; rfl
theorem ways_inner (p : List Int) (n : Int) (hn : 1 ≤ n) (hp : p.length ≤ 20) (hp0 : ∀ x ∈ p, 0 ≤ x) (N : Nat) (hN : N ≤ 1099511627776) (x13 : List Int) (x14 x15 : Int) (r : List Int)
    (K : Ev (fun k => spec_piWays.l0 k (tabf N (fun j => cnt (p ++ [n]) j)) x13 x14 (wrap64 (x15 + 1))) r) :
    ∀ s : Nat, s ≤ N → Ev (fun k => spec_piWays.l1 k (tabf N (fun j => if s ≤ j then cnt (p ++ [n]) j else cnt p j)) n ((s : Int) - 1) x13 x14 x15) r
  | 0, _ => by
    refine Ev.step (fun k => by rw [spec_piWays.l1]) ?_
    simp only [if_neg (show ¬ (((0 : Nat) : Int) - 1 ≥ n) by omega), Nat.zero_le, if_true]
    exact K
  | s + 1, hs => by
    have e0 : ((s + 1 : Nat) : Int) - 1 = (s : Int) := by omega
    refine Ev.step (fun k => by rw [spec_piWays.l1]) ?_
    rw [e0]
    by_cases c : (s : Int) ≥ n
    · have w : wrap64 ((s : Int) - n) = ((s - n.toNat : Nat) : Int) := by rw [wrap_id _ (by omega) (by omega)]; omega
      have e1 : ((s - n.toNat : Nat) : Int) = (s : Int) - n := by omega
      have a1 := cnt_nonneg p s
      have a2 := cnt_small p hp s
      have a3 := cnt_nonneg p ((s : Int) - n)
      have a4 := cnt_small p hp ((s : Int) - n)
      have v : wrap64 (cnt p s + cnt p ((s - n.toNat : Nat) : Int)) = cnt (p ++ [n]) s := by
        rw [cnt_snoc, e1, wrap_id _ (by omega) (by omega)]
      simp only [if_pos c, w, if_pos (show (0 : Int) ≤ (s : Int) by omega), tabf_length, if_pos (show (s : Int) < (N : Int) by omega), if_pos (show (0 : Int) ≤ ((s - n.toNat : Nat) : Int) by omega), if_pos (show ((s - n.toNat : Nat) : Int) < (N : Int) by omega), rd_nat]
      rw [tabf_getD N _ s (by omega), tabf_getD N _ (s - n.toNat) (by omega), if_neg (by omega), if_neg (by omega), v, wrap_id ((s : Int) - 1) (by omega) (by omega), Int.toNat_natCast,
        tabf_set N _ (fun j => if s ≤ j then cnt (p ++ [n]) j else cnt p j) s _ (by omega) (by rw [if_pos (Nat.le_refl _)]) (fun j hj hne => by
          by_cases d : s ≤ j
          · rw [if_pos (by omega), if_pos d]
          · rw [if_neg (by omega), if_neg d])]
      exact ways_inner p n hn hp hp0 N hN x13 x14 x15 r K s (by omega)
    · simp only [if_neg c]
      rw [tabf_ext N _ (fun j => cnt (p ++ [n]) j) (fun j hj => by
        by_cases d : s + 1 ≤ j
        · rw [if_pos d]
        · rw [if_neg d, cnt_snoc, cnt_neg p hp0 ((j : Int) - n) (by omega)]; omega)]
      exact K
theorem ways_outer (l : List Int) (g : Good l) (N : Nat) (hN : N ≤ 1099511627776) : ∀ (d i : Nat), i + d = l.length →
    Ev (fun k => spec_piWays.l0 k (tabf N (fun j => cnt (l.take i) j)) l (l.length : Int) (i : Int)) (tabf N (fun j => cnt l j))
  | 0, i, h => by
    refine Ev.step (fun k => by rw [spec_piWays.l0]) ?_
    simp only [if_neg (show ¬ ((i : Int) < (l.length : Int)) by omega)]
    rw [List.take_of_length_le (by omega)]
    exact Ev.now _
  | d + 1, i, h => by
    have g1 := g.1
    refine Ev.step (fun k => by rw [spec_piWays.l0]) ?_
    simp only [if_pos (show (i : Int) < (l.length : Int) by omega), if_pos (show (0 : Int) ≤ (i : Int) by omega), rd_nat, tabf_length]
    rw [wrap_id ((N : Int) - 1) (by omega) (by omega)]
    have hi := ways_inner (l.take i) (l.getD i 0) (g.at i (by omega)).1 (by rw [List.length_take]; omega) (fun x hx => by have := g.mem x (List.mem_of_mem_take hx); omega) N hN l (l.length : Int) (i : Int) (tabf N (fun j => cnt l j))
      (by rw [wrap_succ i (by omega), ← take_snoc l i (by omega)]; exact ways_outer l g N hN d (i + 1) (by omega)) N (Nat.le_refl _)
    rw [tabf_ext N (fun j => if N ≤ j then cnt (l.take i ++ [l.getD i 0]) j else cnt (l.take i) j) (fun j => cnt (l.take i) j) (fun j hj => if_neg (by omega))] at hi
    exact hi
theorem ways_ev (l : List Int) (g : Good l) : Ev (fun k => spec_piWays.f k l) (tabf (l.sum + 1).toNat (fun j => cnt l j)) := by
  unfold spec_piWays.f
  have gs := g.sum
  refine Ev.bind (piSum_ev l g) ?_
  rw [wrap_id _ (by omega) (by omega)]
  simp only [if_pos (show 0 ≤ l.sum + 1 by omega), if_pos (show (l.sum + 1).toNat ≤ 35184372088832 by omega), Option.bind_some, replicate_tabf, tabf_length, if_pos (show (0 : Int) < ((l.sum + 1).toNat : Int) by omega)]
  rw [show (0 : Int).toNat = 0 from rfl, tabf_set _ _ (fun j => cnt (l.take 0) j) 0 1 (by omega) (by simp [cnt]) (fun j _ hj => by simp only [List.take_zero, cnt]; rw [if_neg (by omega)])]
  exact ways_outer l g _ (by omega) l.length 0 (by omega)

theorem Good.nonneg {l : List Int} (g : Good l) : ∀ x ∈ l, 0 ≤ x := fun x hx => by have := g.mem x hx; omega
theorem piMake_ev (l : List Int) (g : Good l) (s : Int) (h0 : 0 ≤ s) : Ev (fun k => spec_piMake.f k l s) (cnt l s) := by
  have gs := g.sum
  unfold spec_piMake.f
  refine Ev.bind (ways_ev l g) ?_
  simp only [tabf_length]
  by_cases c : s ≥ ((l.sum + 1).toNat : Int)
  · simp only [if_pos c]
    rw [cnt_big l g.nonneg s (by omega)]
    exact Ev.now _
  · simp only [if_neg c, if_pos h0, if_pos (show s < ((l.sum + 1).toNat : Int) by omega)]
    have e : rd (tabf (l.sum + 1).toNat (fun j => cnt l j)) s = cnt l s := by
      show (tabf _ _).getD s.toNat 0 = _
      rw [tabf_getD _ _ _ (by omega)]
      rw [Int.toNat_of_nonneg h0]
    rw [e]
    exact Ev.now _

/-- A table of a function's values. -/
def tabb (N : Nat) (f : Nat → Bool) : List Bool := (List.range N).map f
theorem tabb_length (N : Nat) (f : Nat → Bool) : (tabb N f).length = N := by simp [tabb]
theorem tabb_get? (N : Nat) (f : Nat → Bool) (j : Nat) : (tabb N f)[j]? = if j < N then some (f j) else none := by
  unfold tabb
  rw [List.getElem?_map]
  by_cases c : j < N
  · rw [if_pos c, List.getElem?_range c]; rfl
  · rw [if_neg c, List.getElem?_eq_none (by simpa using c)]; rfl
theorem tabb_getD (N : Nat) (f : Nat → Bool) (j : Nat) (h : j < N) : (tabb N f).getD j false = f j := by
  rw [List.getD_eq_getElem?_getD, tabb_get?, if_pos h]; rfl
theorem tabb_ext (N : Nat) (f g : Nat → Bool) (h : ∀ j, j < N → f j = g j) : tabb N f = tabb N g := by
  apply List.ext_getElem?
  intro j
  rw [tabb_get?, tabb_get?]
  by_cases c : j < N
  · rw [if_pos c, if_pos c, h j c]
  · rw [if_neg c, if_neg c]
theorem tabb_set (N : Nat) (f g : Nat → Bool) (s : Nat) (v : Bool) (hs : s < N) (hv : v = g s) (h : ∀ j, j < N → j ≠ s → f j = g j) : (tabb N f).set s v = tabb N g := by
  apply List.ext_getElem?
  intro j
  rw [List.getElem?_set, tabb_length, tabb_get?, tabb_get?]
  by_cases c : s = j
  · subst c
    rw [if_pos rfl, if_pos hs, if_pos hs, hv]
  · rw [if_neg c]
    by_cases d : j < N
    · rw [if_pos d, if_pos d, h j d (fun e => c e.symm)]
    · rw [if_neg d, if_neg d]
theorem replicate_tabb (N : Nat) (v : Bool) : List.replicate N v = tabb N (fun _ => v) := by
  apply List.ext_getElem?
  intro j
  rw [tabb_get?, List.getElem?_replicate]

theorem Good.drop {l : List Int} (g : Good l) (i : Nat) : Good (l.drop i) := by
  have at0 : ∀ j, (l.drop i).getD j 0 = l.getD (i + j) 0 := fun j => by
    rw [List.getD_eq_getElem?_getD, List.getElem?_drop, List.getD_eq_getElem?_getD]
  refine ⟨by rw [List.length_drop]; have := g.1; omega, fun j hj => ?_, fun j h0 hj => ?_⟩
  · rw [List.length_drop] at hj
    rw [at0]; exact g.2.1 _ (by omega)
  · rw [List.length_drop] at hj
    rw [at0, at0, show i + (j - 1) = i + j - 1 by omega]
    exact g.2.2 _ (by omega) (by omega)
theorem cnt_drop (l : List Int) (i : Nat) (h : i < l.length) (s : Int) : cnt (l.drop i) s = cnt (l.drop (i + 1)) s + cnt (l.drop (i + 1)) (s - l.getD i 0) := by
  rw [List.drop_eq_getElem_cons h, List.getD_eq_getElem?_getD, List.getElem?_eq_getElem h]; rfl
theorem cnt_zero (l : List Int) (h : ∀ x ∈ l, 1 ≤ x) : cnt l 0 = 1 := by
  induction l with
  | nil => rfl
  | cons x l ih =>
    have hx := h x (by simp)
    have hl : ∀ y ∈ l, 1 ≤ y := fun y hy => h y (by simp [hy])
    show cnt l 0 + cnt l (0 - x) = 1
    rw [ih hl, cnt_neg l (fun y hy => by have := hl y hy; omega) (0 - x) (by omega)]; rfl
/-- Whether the pieces from one on make each sum. -/
def canRow (l : List Int) (i : Nat) (s : Nat) : Bool := decide (cnt (l.drop i) s > 0)
theorem canRow_step (l : List Int) (g : Good l) (i : Nat) (h : i < l.length) (s : Nat) (p : Int) (hp : l.getD i 0 = p) : canRow l i s = (canRow l (i + 1) s || (decide (p ≤ (s : Int)) && canRow l (i + 1) ((s : Int) - p).toNat)) := by
  unfold canRow
  have a := cnt_nonneg (l.drop (i + 1)) s
  have b := cnt_nonneg (l.drop (i + 1)) ((s : Int) - p)
  rw [cnt_drop l i h, hp]
  by_cases c : p ≤ (s : Int)
  · rw [decide_eq_true c, Bool.true_and, show ((((s : Int) - p).toNat : Nat) : Int) = (s : Int) - p by omega, Bool.eq_iff_iff, Bool.or_eq_true, decide_eq_true_iff, decide_eq_true_iff, decide_eq_true_iff]
    omega
  · rw [decide_eq_false c, Bool.false_and, Bool.or_false, cnt_neg (l.drop (i + 1)) (fun x hx => by have := (g.drop (i + 1)).mem x hx; omega) ((s : Int) - p) (by omega), Int.add_zero]
theorem rdL_at (X : List (List Bool)) (j : Nat) (r : List Bool) (h : X[j]? = some r) : rd_L3 X (j : Int) = r := by
  show X.getD j [] = r
  rw [List.getD_eq_getElem?_getD, h]; rfl
theorem rdOf_tabb (N : Nat) (f : Nat → Bool) (s : Nat) (h : s < N) : rdOf false (tabb N f) (s : Int) = f s := tabb_getD N f s h
theorem cloneB_eq (N : Nat) (f : Nat → Bool) (h : N ≤ 1099511627776) : slices_Clone_bool_bool.f (tabb N f) = some (tabb N f) := by
  unfold slices_Clone_bool_bool.f
  rw [if_pos (by rw [tabb_length]; omega)]
/-- The rows from one on are told. -/
def Told (l : List Int) (N i : Nat) (X : List (List Bool)) : Prop := X.length = l.length + 1 ∧ ∀ j, i ≤ j → j ≤ l.length → X[j]? = some (tabb N (canRow l j))
theorem can_inner (l : List Int) (g : Good l) (a1 : Int) (h0 : 0 ≤ a1) (hB : a1 ≤ 1000000) (N : Nat) (hN : (N : Int) = a1 + 1) (i : Nat) (hi : i < l.length) (r : List Int × Bool)
    (K : ∀ X, Told l N i X → Ev (fun k => impl_firstWay.l0 k l a1 X (wrap64 ((i : Int) - 1))) r) : ∀ (d s : Nat) (X : List (List Bool)), s + d = N → l.getD i 0 ≤ s → Told l N (i + 1) X →
    X[i]? = some (tabb N (fun j => if j < s then canRow l i j else canRow l (i + 1) j)) → Ev (fun k => impl_firstWay.l1 k l a1 X (i : Int) (s : Int)) r
  | 0, s, X, h, hs, hX, hr => by
    refine Ev.step (fun k => by rw [impl_firstWay.l1]) ?_
    simp only [if_neg (show ¬ (s : Int) ≤ a1 by omega)]
    refine K X ⟨hX.1, fun j h1 h2 => ?_⟩
    by_cases e : j = i
    · subst e
      rw [hr]
      congr 1
      exact tabb_ext N _ _ (fun q hq => if_pos (by omega))
    · exact hX.2 j (by omega) h2
  | d + 1, s, X, h, hs, hX, hr => by
    have hp := g.at i hi
    have hlen := hX.1
    have hg := g.1
    have r1 := rdL_at X i _ hr
    have r2 := rdL_at X (i + 1) _ (hX.2 (i + 1) (by omega) (by omega))
    have w1 : wrap64 ((i : Int) + 1) = ((i + 1 : Nat) : Int) := wrap_succ i (by omega)
    have e0 : rd l (i : Int) = l.getD i 0 := rfl
    have w2 : wrap64 ((s : Int) - rd l (i : Int)) = ((((s : Int) - l.getD i 0).toNat : Nat) : Int) := by rw [e0, wrap_id _ (by omega) (by omega)]; omega
    have q1 : ((s : Int) - l.getD i 0).toNat < N := by omega
    have v1 : rdOf false (rd_L3 X (i : Int)) (s : Int) = canRow l (i + 1) s := by
      rw [r1, rdOf_tabb N _ s (by omega), if_neg (Nat.lt_irrefl s)]
    have v2 : rdOf false (rd_L3 X ((i + 1 : Nat) : Int)) ((((s : Int) - l.getD i 0).toNat : Nat) : Int) = canRow l (i + 1) ((s : Int) - l.getD i 0).toNat := by
      rw [r2, rdOf_tabb N _ _ q1]
    have st := canRow_step l g i hi s (l.getD i 0) rfl
    rw [decide_eq_true hs, Bool.true_and] at st
    have next : ∀ v : Bool, v = canRow l i s → Ev (fun k => impl_firstWay.l1 k l a1 (X.set i ((rd_L3 X (i : Int)).set s v)) (i : Int) ((s + 1 : Nat) : Int)) r := by
      intro v hv
      refine can_inner l g a1 h0 hB N hN i hi r K d (s + 1) _ (by omega) (by omega) ⟨by rw [List.length_set]; exact hX.1, fun j h1 h2 => ?_⟩ ?_
      · rw [List.getElem?_set, if_neg (by omega)]
        exact hX.2 j h1 h2
      · rw [List.getElem?_set, if_pos rfl, if_pos (by omega), r1]
        congr 1
        refine tabb_set N _ _ s v (by omega) (by rw [if_pos (by omega)]; exact hv) (fun j hj hne => ?_)
        by_cases c : j < s
        · rw [if_pos c, if_pos (by omega)]
        · rw [if_neg c, if_neg (by omega)]
    have l1 : (rd_L3 X (i : Int)).length = N := by rw [r1, tabb_length]
    have l2 : (rd_L3 X ((i + 1 : Nat) : Int)).length = N := by rw [r2, tabb_length]
    refine Ev.step (fun k => by rw [impl_firstWay.l1]) ?_
    rw [w1, w2]
    by_cases c : rdOf false (rd_L3 X (i : Int)) (s : Int) = true
    · simp only [if_pos (show (s : Int) ≤ a1 by omega), if_pos (show (0 : Int) ≤ (i : Int) by omega), if_pos (show (i : Int) < (X.length : Int) by omega), if_pos (show (0 : Int) ≤ (s : Int) by omega), if_pos (show (s : Int) < ((rd_L3 X (i : Int)).length : Int) by omega), if_pos c, Int.toNat_natCast]
      rw [wrap_succ s (by omega)]
      exact next true (by rw [st, ← v1, c]; rfl)
    · simp only [if_pos (show (s : Int) ≤ a1 by omega), if_pos (show (0 : Int) ≤ (i : Int) by omega), if_pos (show (i : Int) < (X.length : Int) by omega), if_pos (show (0 : Int) ≤ (s : Int) by omega), if_pos (show (s : Int) < ((rd_L3 X (i : Int)).length : Int) by omega), if_neg c, if_pos (show (0 : Int) ≤ ((i + 1 : Nat) : Int) by omega), if_pos (show ((i + 1 : Nat) : Int) < (X.length : Int) by omega), if_pos (show (i : Int) < (l.length : Int) by omega),
        if_pos (show (0 : Int) ≤ ((((s : Int) - l.getD i 0).toNat : Nat) : Int) by omega), if_pos (show ((((s : Int) - l.getD i 0).toNat : Nat) : Int) < ((rd_L3 X ((i + 1 : Nat) : Int)).length : Int) by omega), Int.toNat_natCast, v2]
      rw [wrap_succ s (by omega)]
      exact next _ (by rw [st, ← v1, Bool.eq_false_iff.mpr c, Bool.false_or])
theorem can_outer (l : List Int) (g : Good l) (a1 : Int) (h0 : 0 ≤ a1) (hB : a1 ≤ 1000000) (N : Nat) (hN : (N : Int) = a1 + 1) (r : List Int × Bool)
    (K : ∀ X, Told l N 0 X → Ev (fun k => if 0 < (X.length : Int) then (if 0 ≤ a1 then (if a1 < ((rd_L3 X 0).length : Int) then (if (rdOf false (rd_L3 X 0) a1 = true) then (impl_firstWay.l2 k l a1 X (([] : List Int)) 0) else (some (([] : List Int), false))) else (none)) else (none)) else (none)) r) :
    ∀ (i : Nat) (X : List (List Bool)), i ≤ l.length → Told l N i X → Ev (fun k => impl_firstWay.l0 k l a1 X ((i : Int) - 1)) r
  | 0, X, hi, hX => by
    refine Ev.step (fun k => by rw [impl_firstWay.l0]) ?_
    simp only [if_neg (show ¬ (((0 : Nat) : Int) - 1 ≥ 0) by omega)]
    exact K X hX
  | i + 1, X, hi, hX => by
    have hg := g.1
    have hlen := hX.1
    have hp := g.at i (by omega)
    have e1 : ((i + 1 : Nat) : Int) - 1 = (i : Int) := by omega
    have r2 := rdL_at X (i + 1) _ (hX.2 (i + 1) (by omega) (by omega))
    have e0 : rd l (i : Int) = ((l.getD i 0).toNat : Int) := by show l.getD i 0 = _; omega
    refine Ev.step (fun k => by rw [impl_firstWay.l0]) ?_
    rw [e1, wrap_succ i (by omega), r2]
    simp only [if_pos (show (i : Int) ≥ 0 by omega), if_pos (show (0 : Int) ≤ ((i + 1 : Nat) : Int) by omega), if_pos (show ((i + 1 : Nat) : Int) < (X.length : Int) by omega)]
    refine Ev.bind (a := tabb N (canRow l (i + 1))) (by rw [cloneB_eq N _ (by omega)]; exact Ev.now _) ?_
    simp only [if_pos (show (0 : Int) ≤ (i : Int) by omega), if_pos (show (i : Int) < (X.length : Int) by omega), if_pos (show (i : Int) < (l.length : Int) by omega), Int.toNat_natCast]
    rw [e0]
    have same : ∀ j, j < (l.getD i 0).toNat → canRow l i j = canRow l (i + 1) j := fun j hj => by
      rw [canRow_step l g i (by omega) j (l.getD i 0) rfl, decide_eq_false (by omega), Bool.false_and, Bool.or_false]
    have K2 : ∀ X, Told l N i X → Ev (fun k => impl_firstWay.l0 k l a1 X (wrap64 ((i : Int) - 1))) r := fun X2 h2 => by
      rw [wrap_id _ (by omega) (by omega)]
      exact can_outer l g a1 h0 hB N hN r K i X2 (by omega) h2
    have T : Told l N (i + 1) (X.set i (tabb N (canRow l (i + 1)))) := ⟨by rw [List.length_set]; exact hX.1, fun j h1 h2 => by rw [List.getElem?_set, if_neg (by omega)]; exact hX.2 j h1 h2⟩
    have R : (X.set i (tabb N (canRow l (i + 1))))[i]? = some (tabb N (fun j => if j < (l.getD i 0).toNat then canRow l i j else canRow l (i + 1) j)) := by
      rw [List.getElem?_set, if_pos rfl, if_pos (by omega)]
      congr 1
      refine tabb_ext N _ _ (fun j hj => ?_)
      by_cases c : j < (l.getD i 0).toNat
      · rw [if_pos c, same j c]
      · rw [if_neg c]
    by_cases c : (l.getD i 0).toNat ≤ N
    · exact can_inner l g a1 h0 hB N hN i (by omega) r K2 (N - (l.getD i 0).toNat) (l.getD i 0).toNat _ (by omega) (by omega) T R
    · refine Ev.step (fun k => by rw [impl_firstWay.l1]) ?_
      simp only [if_neg (show ¬ (((l.getD i 0).toNat : Nat) : Int) ≤ a1 by omega)]
      refine K2 _ ⟨T.1, fun j h1 h2 => ?_⟩
      by_cases e : j = i
      · subst e
        rw [R]
        congr 1
        exact tabb_ext N _ _ (fun q hq => if_pos (by omega))
      · exact T.2 j (by omega) h2
theorem first_done (l : List Int) (g : Good l) (acc : List Int) : ∀ (d i : Nat), i + d = l.length → Ev (fun k => spec_piFirst.l0 k l 0 acc l (l.length : Int) (i : Int)) acc
  | 0, i, h => by
    refine Ev.step (fun k => by rw [spec_piFirst.l0]) ?_
    simp only [if_neg (show ¬ (i : Int) < (l.length : Int) by omega)]
    exact Ev.now _
  | d + 1, i, h => by
    have hg := g.1
    have hp := g.at i (by omega)
    have c : ¬ (0 : Int) ≥ rd l (i : Int) := by show ¬ (0 : Int) ≥ l.getD i 0; omega
    refine Ev.step (fun k => by rw [spec_piFirst.l0]) ?_
    simp only [if_pos (show (i : Int) < (l.length : Int) by omega), if_pos (show (0 : Int) ≤ (i : Int) by omega), if_neg c]
    rw [wrap_succ i (by omega)]
    exact first_done l g acc d (i + 1) (by omega)
theorem way_loop (l : List Int) (g : Good l) (N : Nat) (hNB : N ≤ 1000001) (X : List (List Bool)) (hX : Told l N 0 X) : ∀ (d i : Nat) (s : Int) (acc : List Int), i + d = l.length → 0 ≤ s → s < N → acc.length ≤ i → cnt (l.drop i) s > 0 →
    ∃ w : List Int, w.length ≤ l.length ∧ Ev (fun k => spec_piFirst.l0 k l s acc l (l.length : Int) (i : Int)) w ∧ Ev (fun k => impl_firstWay.l2 k l s X acc (i : Int)) (w, true)
  | 0, i, s, acc, h, h0, hs, ha, hc => by
    have z : s = 0 := by
      rw [List.drop_of_length_le (by omega)] at hc
      unfold cnt at hc
      by_cases e : s = 0
      · exact e
      · rw [if_neg e] at hc; omega
    subst z
    refine ⟨acc, by omega, first_done l g acc 0 i h, Ev.step (fun k => by rw [impl_firstWay.l2]) ?_⟩
    simp only [if_neg (show ¬ (0 : Int) > 0 by omega)]
    exact Ev.now _
  | d + 1, i, s, acc, h, h0, hs, ha, hc => by
    by_cases z : s = 0
    · subst z
      refine ⟨acc, by omega, first_done l g acc (d + 1) i h, Ev.step (fun k => by rw [impl_firstWay.l2]) ?_⟩
      simp only [if_neg (show ¬ (0 : Int) > 0 by omega)]
      exact Ev.now _
    · have hg := g.1
      have hi : i < l.length := by omega
      have hp := g.at i hi
      have hlen := hX.1
      obtain ⟨p, hpe⟩ : ∃ p, rd l (i : Int) = p := ⟨_, rfl⟩
      have hpe' : l.getD i 0 = p := hpe
      rw [hpe'] at hp
      have cs := cnt_drop l i hi s
      rw [hpe'] at cs
      have a := cnt_nonneg (l.drop (i + 1)) s
      by_cases c : p ≤ s
      · have w2 : wrap64 (s - p) = s - p := wrap_id _ (by omega) (by omega)
        have mk := piMake_ev (l.drop (i + 1)) (g.drop (i + 1)) (s - p) (by omega)
        have r2 := rdL_at X (i + 1) _ (hX.2 (i + 1) (by omega) (by omega))
        have l2 : (rd_L3 X ((i + 1 : Nat) : Int)).length = N := by rw [r2, tabb_length]
        have v2 : rdOf false (rd_L3 X ((i + 1 : Nat) : Int)) (s - p) = decide (cnt (l.drop (i + 1)) (s - p) > 0) := by
          rw [r2, show s - p = (((s - p).toNat : Nat) : Int) by omega, rdOf_tabb N _ _ (by omega)]; rfl
        by_cases t : cnt (l.drop (i + 1)) (s - p) > 0
        · obtain ⟨w, k1, k2, k3⟩ := way_loop l g N hNB X hX d (i + 1) (s - p) (acc ++ [(i : Int)]) (by omega) (by omega) (by omega) (by simp; omega) t
          refine ⟨w, k1, Ev.step (fun k => by rw [spec_piFirst.l0]) ?_, Ev.step (fun k => by rw [impl_firstWay.l2]) ?_⟩
          · simp only [if_pos (show (i : Int) < (l.length : Int) by omega), if_pos (show (0 : Int) ≤ (i : Int) by omega), hpe]
            simp only [if_pos (show s ≥ p by omega)]
            rw [wrap_succ i (by omega), Int.toNat_natCast, w2]
            simp only [if_pos (show (0 : Int) ≤ ((i + 1 : Nat) : Int) by omega), if_pos (show ((i + 1 : Nat) : Int) ≤ (l.length : Int) by omega)]
            refine Ev.bind mk ?_
            simp only [if_pos t, if_pos (show acc.length < 17592186044416 by omega)]
            exact k2
          · rw [hpe, wrap_succ i (by omega), w2, v2]
            simp only [if_pos (show s > 0 by omega), if_pos (show (i : Int) < (l.length : Int) by omega), if_pos (show (0 : Int) ≤ (i : Int) by omega)]
            simp only [if_pos c, if_pos (show (0 : Int) ≤ ((i + 1 : Nat) : Int) by omega), if_pos (show ((i + 1 : Nat) : Int) < (X.length : Int) by omega), if_pos (show 0 ≤ s - p by omega), if_pos (show s - p < ((rd_L3 X ((i + 1 : Nat) : Int)).length : Int) by omega), decide_eq_true t, if_true, if_pos (show acc.length < 17592186044416 by omega)]
            exact k3
        · have b := cnt_nonneg (l.drop (i + 1)) (s - p)
          obtain ⟨w, k1, k2, k3⟩ := way_loop l g N hNB X hX d (i + 1) s acc (by omega) h0 hs (by omega) (by omega)
          refine ⟨w, k1, Ev.step (fun k => by rw [spec_piFirst.l0]) ?_, Ev.step (fun k => by rw [impl_firstWay.l2]) ?_⟩
          · simp only [if_pos (show (i : Int) < (l.length : Int) by omega), if_pos (show (0 : Int) ≤ (i : Int) by omega), hpe]
            simp only [if_pos (show s ≥ p by omega)]
            rw [wrap_succ i (by omega), Int.toNat_natCast, w2]
            simp only [if_pos (show (0 : Int) ≤ ((i + 1 : Nat) : Int) by omega), if_pos (show ((i + 1 : Nat) : Int) ≤ (l.length : Int) by omega)]
            refine Ev.bind mk ?_
            simp only [if_neg t]
            exact k2
          · rw [hpe, wrap_succ i (by omega), w2, v2]
            simp only [if_pos (show s > 0 by omega), if_pos (show (i : Int) < (l.length : Int) by omega), if_pos (show (0 : Int) ≤ (i : Int) by omega)]
            simp only [if_pos c, if_pos (show (0 : Int) ≤ ((i + 1 : Nat) : Int) by omega), if_pos (show ((i + 1 : Nat) : Int) < (X.length : Int) by omega), if_pos (show 0 ≤ s - p by omega), if_pos (show s - p < ((rd_L3 X ((i + 1 : Nat) : Int)).length : Int) by omega), decide_eq_false t, Bool.false_eq_true, if_false]
            exact k3
      · rw [cnt_neg (l.drop (i + 1)) (fun x hx => by have := (g.drop (i + 1)).mem x hx; omega) (s - p) (by omega)] at cs
        obtain ⟨w, k1, k2, k3⟩ := way_loop l g N hNB X hX d (i + 1) s acc (by omega) h0 hs (by omega) (by omega)
        refine ⟨w, k1, Ev.step (fun k => by rw [spec_piFirst.l0]) ?_, Ev.step (fun k => by rw [impl_firstWay.l2]) ?_⟩
        · simp only [if_pos (show (i : Int) < (l.length : Int) by omega), if_pos (show (0 : Int) ≤ (i : Int) by omega), hpe]
          simp only [if_neg (show ¬ s ≥ p by omega)]
          rw [wrap_succ i (by omega)]
          exact k2
        · rw [hpe, wrap_succ i (by omega)]
          simp only [if_pos (show s > 0 by omega), if_pos (show (i : Int) < (l.length : Int) by omega), if_pos (show (0 : Int) ≤ (i : Int) by omega)]
          simp only [if_neg c]
          exact k3
/-- The first way, as the program and as the reference tell it. -/
theorem firstWay_ev (l : List Int) (g : Good l) (s : Int) (h0 : 0 ≤ s) (hB : s ≤ 1000000) :
    (cnt l s = 0 → Ev (fun k => impl_firstWay.f k l s) ([], false)) ∧
    (cnt l s ≠ 0 → ∃ w : List Int, w.length ≤ l.length ∧ Ev (fun k => spec_piFirst.f k l s) w ∧ Ev (fun k => impl_firstWay.f k l s) (w, true)) := by
  have hg := g.1
  have nn := cnt_nonneg l s
  have hN : (((s + 1).toNat : Nat) : Int) = s + 1 := by omega
  generalize hNe : (s + 1).toNat = N at hN
  have big : s > l.sum → cnt l s = 0 := fun h => cnt_big l g.nonneg s (by omega)
  have main : ¬ s > l.sum → ∀ r, (∀ X, Told l N 0 X → Ev (fun k => if (rdOf false (rd_L3 X 0) s = true) then (impl_firstWay.l2 k l s X (([] : List Int)) 0) else (some (([] : List Int), false))) r) → Ev (fun k => impl_firstWay.f k l s) r := by
    intro c r H
    unfold impl_firstWay.f
    refine Ev.bind (total_ev l g) ?_
    rw [wrap_succ l.length (by omega), wrap_id (s + 1) (by omega) (by omega), Int.toNat_natCast, hNe]
    have y1 : ((List.replicate (l.length + 1) ([] : List Bool)).set l.length (List.replicate N false))[l.length]? = some (List.replicate N false) := by
      rw [List.getElem?_set, if_pos rfl, if_pos (by simp)]
    have r1 := rdL_at _ l.length _ y1
    simp only [if_neg c, if_pos (show (0 : Int) ≤ ((l.length + 1 : Nat) : Int) by omega), if_pos (show l.length + 1 ≤ 11728124029610 by omega), if_pos (show 0 ≤ s + 1 by omega), if_pos (show N ≤ 281474976710656 by omega)]
    refine Ev.bind (Ev.now _) ?_
    simp only [if_pos (show (0 : Int) ≤ (l.length : Int) by omega), Int.toNat_natCast]
    rw [show (((List.replicate (l.length + 1) ([] : List Bool)).length : Nat) : Int) = (l.length : Int) + 1 by simp]
    simp only [if_pos (show (l.length : Int) < (l.length : Int) + 1 by omega)]
    refine Ev.bind (Ev.now _) ?_
    rw [r1, show (((List.replicate N false).length : Nat) : Int) = (N : Int) by simp, show (0 : Int).toNat = 0 from rfl]
    simp only [if_pos (show (0 : Int) < (N : Int) by omega)]
    rw [wrap_id _ (by omega) (by omega)]
    refine can_outer l g s h0 hB N hN r (fun X hX => ?_) l.length _ (Nat.le_refl _) ⟨by simp, fun j h1 h2 => ?_⟩
    · have hl := hX.1
      have x0 := hX.2 0 (by omega) (by omega)
      have r0 : rd_L3 X 0 = tabb N (canRow l 0) := rdL_at X 0 _ x0
      have ll : (rd_L3 X 0).length = N := by rw [r0, tabb_length]
      simp only [if_pos (show (0 : Int) < (X.length : Int) by omega), if_pos h0, if_pos (show s < ((rd_L3 X 0).length : Int) by omega)]
      exact H X hX
    · have e : j = l.length := by omega
      subst e
      rw [List.getElem?_set, if_pos rfl, if_pos (by simp)]
      congr 1
      rw [replicate_tabb]
      refine tabb_set N _ _ 0 true (by omega) ?_ (fun j hj hne => ?_)
      · unfold canRow
        rw [List.drop_of_length_le (Nat.le_refl _)]
        rfl
      · unfold canRow
        rw [List.drop_of_length_le (Nat.le_refl _)]
        unfold cnt
        rw [if_neg (by omega)]
        rfl
  have cell : ∀ X, Told l N 0 X → rdOf false (rd_L3 X 0) s = decide (cnt l s > 0) := by
    intro X hX
    have r0 : rd_L3 X 0 = tabb N (canRow l 0) := rdL_at X 0 _ (hX.2 0 (by omega) (by omega))
    rw [r0, show s = ((s.toNat : Nat) : Int) by omega, rdOf_tabb N _ _ (by omega)]
    unfold canRow
    rw [List.drop_zero]
  constructor
  · intro z
    by_cases c : s > l.sum
    · unfold impl_firstWay.f
      refine Ev.bind (total_ev l g) ?_
      simp only [if_pos c]
      exact Ev.now _
    · refine main c _ (fun X hX => ?_)
      rw [cell X hX]
      simp only [decide_eq_false (show ¬ cnt l s > 0 by omega), Bool.false_eq_true, if_false]
      exact Ev.now _
  · intro z
    have c : ¬ s > l.sum := fun h => z (big h)
    have pos : cnt (l.drop 0) s > 0 := by rw [List.drop_zero]; omega
    obtain ⟨X0, hX0⟩ : ∃ X0, Told l N 0 X0 := ⟨(List.range (l.length + 1)).map (fun j => tabb N (canRow l j)), by simp, fun j h1 h2 => by rw [List.getElem?_map, List.getElem?_range (by omega)]; rfl⟩
    obtain ⟨w, k1, k2, k3⟩ := way_loop l g N (by omega) X0 hX0 l.length 0 s [] (by omega) h0 (by omega) (by simp) pos
    refine ⟨w, k1, k2, main c _ (fun X hX => ?_)⟩
    have e : X = X0 := by
      apply List.ext_getElem?
      intro j
      by_cases d : j ≤ l.length
      · rw [hX.2 j (by omega) d, hX0.2 j (by omega) d]
      · rw [List.getElem?_eq_none (by rw [hX.1]; omega), List.getElem?_eq_none (by rw [hX0.1]; omega)]
    rw [cell X hX]
    simp only [decide_eq_true (show cnt l s > 0 by omega), if_true]
    rw [e]
    exact k3

theorem areWithin_eq (l : List Int) (lo hi : Int) (hm : l.length ≤ 1099511627776) :
    ∃ b, impl_areWithin.f l lo hi = some b ∧ (b = true ↔ ∀ j, j < l.length → lo ≤ l.getD j 0 ∧ l.getD j 0 ≤ hi) := by
  refine ⟨_, by unfold impl_areWithin.f; rw [if_pos (by omega)], ?_⟩
  rw [Bool.not_eq_true', List.any_eq_false]
  constructor
  · intro H j hj
    have := H (l.getD j 0) (by rw [List.getD_eq_getElem?_getD, List.getElem?_eq_getElem hj]; exact List.getElem_mem hj)
    simpa using this
  · intro H x hx
    obtain ⟨j, hj, rfl⟩ := List.getElem_of_mem hx
    have := H j hj
    rw [List.getD_eq_getElem?_getD, List.getElem?_eq_getElem hj] at this
    simpa using this

theorem less_eq (a b : Int) : cmp_Less_int.f a b = some (decide (a < b)) := by
  unfold cmp_Less_int.f cmp_isNaN_int.f
  simp
theorem isSorted_loop (l : List Int) (hm : l.length ≤ 1099511627776) : ∀ (i : Nat), i < l.length →
    ∃ b, Ev (fun k => slices_IsSorted_int_int.l0 k l (i : Int)) b ∧ (b = true ↔ ∀ j, 1 ≤ j → j ≤ i → l.getD (j - 1) 0 ≤ l.getD j 0)
  | 0, h => by
    refine ⟨true, ?_, by simp only [true_iff]; intro j h1 h2; omega⟩
    refine Ev.step (fun k => by rw [slices_IsSorted_int_int.l0]) ?_
    simp only [if_neg (show ¬ (((0 : Nat) : Int) > 0) by omega)]
    exact Ev.now _
  | i + 1, h => by
    have w : wrap64 (((i + 1 : Nat) : Int) - 1) = (i : Int) := by rw [wrap_id _ (by omega) (by omega)]; omega
    by_cases c : l.getD i 0 ≤ l.getD (i + 1) 0
    · obtain ⟨b, hb, hj⟩ := isSorted_loop l hm i (by omega)
      refine ⟨b, ?_, ?_⟩
      · refine Ev.step (fun k => by rw [slices_IsSorted_int_int.l0]) ?_
        simp only [w, rd_nat, less_eq, if_pos (show ((i + 1 : Nat) : Int) > 0 by omega), if_pos (show (0 : Int) ≤ ((i + 1 : Nat) : Int) by omega), if_pos (show ((i + 1 : Nat) : Int) < (l.length : Int) by omega), if_pos (show (0 : Int) ≤ (i : Int) by omega), if_pos (show (i : Int) < (l.length : Int) by omega), Option.bind_some, decide_eq_false (show ¬ (l.getD (i + 1) 0 < l.getD i 0) by omega), Bool.false_eq_true, if_false]
        exact hb
      · rw [hj]
        constructor
        · intro H j h1 h2
          by_cases e : j = i + 1
          · subst e; exact c
          · exact H j h1 (by omega)
        · intro H j h1 h2
          exact H j h1 (by omega)
    · refine ⟨false, ?_, ?_⟩
      · refine Ev.step (fun k => by rw [slices_IsSorted_int_int.l0]) ?_
        simp only [w, rd_nat, less_eq, if_pos (show ((i + 1 : Nat) : Int) > 0 by omega), if_pos (show (0 : Int) ≤ ((i + 1 : Nat) : Int) by omega), if_pos (show ((i + 1 : Nat) : Int) < (l.length : Int) by omega), if_pos (show (0 : Int) ≤ (i : Int) by omega), if_pos (show (i : Int) < (l.length : Int) by omega), Option.bind_some, decide_eq_true (show (l.getD (i + 1) 0 < l.getD i 0) by omega), if_true]
        exact Ev.now _
      · constructor
        · intro H; cases H
        · intro H; exact absurd (H (i + 1) (by omega) (by omega)) c
theorem isSorted_ev (l : List Int) (hm : l.length ≤ 1099511627776) :
    ∃ b, Ev (fun k => slices_IsSorted_int_int.f k l) b ∧ (b = true ↔ ∀ j, 1 ≤ j → j < l.length → l.getD (j - 1) 0 ≤ l.getD j 0) := by
  unfold slices_IsSorted_int_int.f
  by_cases c : l.length = 0
  · refine ⟨true, ?_, by simp only [true_iff]; intro j h1 h2; omega⟩
    rw [c, wrap_id _ (by omega) (by omega)]
    refine Ev.step (fun k => by rw [slices_IsSorted_int_int.l0]) ?_
    simp only [if_neg (show ¬ (((0 : Nat) : Int) - 1 > 0) by omega)]
    exact Ev.now _
  · obtain ⟨b, hb, hj⟩ := isSorted_loop l hm (l.length - 1) (by omega)
    refine ⟨b, ?_, ?_⟩
    · rw [wrap_id _ (by omega) (by omega), show ((l.length : Int) - 1) = ((l.length - 1 : Nat) : Int) by omega]
      exact hb
    · rw [hj]
      exact ⟨fun H j h1 h2 => H j h1 (by omega), fun H j h1 h2 => H j h1 (by omega)⟩

theorem arePieces_ev (l : List Int) (hm : l.length ≤ 1099511627776) : ∃ b, Ev (fun k => impl_ArePieces.f k l) b ∧ (b = true ↔ Good l) := by
  unfold impl_ArePieces.f
  by_cases c : l.length ≤ 20
  · simp only [if_pos (show ((l.length : Int) ≤ 20) by omega)]
    obtain ⟨a, ha, ja⟩ := areWithin_eq l 1 10000 hm
    rw [ha]
    cases a with
    | true =>
      obtain ⟨b, hb, jb⟩ := isSorted_ev l hm
      refine ⟨b, ?_, ?_⟩
      · simp only [Option.bind_some, if_true]
        refine Ev.bind hb ?_
        exact Ev.now _
      · rw [jb]
        exact ⟨fun H => ⟨c, ja.1 rfl, H⟩, fun H => H.2.2⟩
    | false =>
      refine ⟨false, ?_, ?_⟩
      · simp only [Option.bind_some, Bool.false_eq_true, if_false]
        exact Ev.now _
      · exact ⟨fun H => (by cases H), fun H => ja.2 H.2.1⟩
  · refine ⟨false, ?_, ?_⟩
    · simp only [if_neg (show ¬ ((l.length : Int) ≤ 20) by omega)]
      exact Ev.now _
    · exact ⟨fun H => (by cases H), fun H => absurd H.1 c⟩
theorem good_same (l : List Int) (hm : l.length ≤ 1099511627776) : ∃ b, Ev (fun k => spec_piGood.f k l) b ∧ Ev (fun k => impl_ArePieces.f k l) b ∧ (b = true ↔ Good l) := by
  obtain ⟨b, hb, jb⟩ := piGood_ev l hm
  obtain ⟨c, hc, jc⟩ := arePieces_ev l hm
  have e := bool_same jb jc
  subst e
  exact ⟨b, hb, hc, jb⟩

theorem within_eq (x lo hi : Int) : impl_within.f x lo hi = some (decide (lo ≤ x ∧ x ≤ hi)) := by
  unfold impl_within.f
  by_cases c : lo ≤ x
  · rw [if_pos c]; congr 1; by_cases d : x ≤ hi
    · rw [decide_eq_true d, decide_eq_true ⟨c, d⟩]
    · rw [decide_eq_false d, decide_eq_false (fun h => d h.2)]
  · rw [if_neg c, decide_eq_false (fun h => c h.1)]

theorem fewPaid_same (l : List Int) (hm : l.length ≤ 1099511627776) : ∃ b, Ev (fun k => spec_paFew.f k l) b ∧ Ev (fun k => impl_arePaid.f k l) b ∧ (b = true → Good l ∧ l.length ≤ 8) := by
  obtain ⟨b, hs, hi, jb⟩ := good_same l hm
  unfold spec_paFew.f impl_arePaid.f
  cases b with
  | true =>
    refine ⟨decide ((l.length : Int) ≤ 8), Ev.bind hs ?_, Ev.bind hi ?_, ?_⟩
    · simp only [if_true]; exact Ev.now _
    · simp only [if_true]; exact Ev.now _
    · rw [decide_eq_true_eq]
      exact fun h => ⟨jb.1 rfl, by omega⟩
  | false =>
    refine ⟨false, Ev.bind hs ?_, Ev.bind hi ?_, fun h => by cases h⟩
    · simp only [Bool.false_eq_true, if_false]; exact Ev.now _
    · simp only [Bool.false_eq_true, if_false]; exact Ev.now _
theorem arePay_ev (l : List Int) (b : Bool) (hi : Ev (fun k => impl_arePaid.f k l) b) (a1 a2 : Int) : Ev (fun k => impl_arePayments.f k l a1 a2) (b && (decide (0 ≤ a1 ∧ a1 ≤ 60) && decide (1 ≤ a2 ∧ a2 ≤ 100))) := by
  unfold impl_arePayments.f
  refine Ev.bind hi ?_
  cases b with
  | false => simp only [Bool.false_eq_true, if_false, Bool.false_and]; exact Ev.now _
  | true =>
    simp only [if_true, within_eq, Option.bind_some, Bool.true_and]
    cases h : decide (0 ≤ a1 ∧ a1 ≤ 60) with
    | true => simp only [if_true, Bool.true_and]; exact Ev.now _
    | false => simp only [Bool.false_eq_true, if_false, Bool.false_and]; exact Ev.now _
theorem byWays_loop (l : List Int) (g : Good l) (days rate : Int) (h0 : 0 ≤ days) (h60 : days ≤ 60) (hr0 : 1 ≤ rate) (hr1 : rate ≤ 100) : ∀ (d i : Nat) (acc : List (List Int)), (i : Int) + d = days → acc.length = i → (∀ x ∈ acc, x.length ≤ 20) →
    ∃ r : List (List Int) × Bool, r.1.length ≤ 60 ∧ (∀ x ∈ r.1, x.length ≤ 20) ∧ Ev (fun k => spec_paByWays.l0 k l days rate acc ((i : Int) + 1)) r ∧ Ev (fun k => impl_PlanByRate.l0 k l rate acc days (i : Int)) r
  | 0, i, acc, h, hl, hx => by
    refine ⟨(acc, true), by dsimp only; omega, hx, Ev.step (fun k => by rw [spec_paByWays.l0]) ?_, Ev.step (fun k => by rw [impl_PlanByRate.l0]) ?_⟩
    · simp only [if_neg (show ¬ ((i : Int) + 1 ≤ days) by omega)]; exact Ev.now _
    · simp only [if_neg (show ¬ ((i : Int) < days) by omega)]; exact Ev.now _
  | d + 1, i, acc, h, hl, hx => by
    have hb : ((i : Int) + 1) * rate ≤ 60 * 100 := Int.mul_le_mul (by omega) hr1 (by omega) (by omega)
    have hb0 : 0 ≤ ((i : Int) + 1) * rate := Int.mul_nonneg (by omega) (by omega)
    obtain ⟨s, hs⟩ : ∃ s, s = ((i : Int) + 1) * rate := ⟨_, rfl⟩
    have w1 : wrap64 (((i : Int) + 1) * rate) = s := by rw [wrap_id _ (by omega) (by omega), hs]
    have w2 : wrap64 (rate * (wrap64 ((i : Int) + 1))) = s := by rw [wrap_id ((i : Int) + 1) (by omega) (by omega), Int.mul_comm, w1]
    obtain ⟨no, yes⟩ := firstWay_ev l g s (by omega) (by omega)
    by_cases z : cnt l s = 0
    · refine ⟨([], false), by simp, by simp, Ev.step (fun k => by rw [spec_paByWays.l0]) ?_, Ev.step (fun k => by rw [impl_PlanByRate.l0]) ?_⟩
      · simp only [if_pos (show ((i : Int) + 1 ≤ days) by omega), w1]
        exact Ev.bind (piMake_ev l g s (by omega)) (by simp only [if_pos z]; exact Ev.now _)
      · simp only [if_pos (show ((i : Int) < days) by omega), w2]
        exact Ev.bind (no z) (by simp only [Bool.false_eq_true, if_false]; exact Ev.now _)
    · obtain ⟨w, k1, k2, k3⟩ := yes z
      have hw : w.length ≤ 20 := by have := g.1; omega
      obtain ⟨r, r1, r2, r3, r4⟩ := byWays_loop l g days rate h0 h60 hr0 hr1 d (i + 1) (acc ++ [w]) (by omega) (by simp [hl]) (fun x hx' => by rcases List.mem_append.1 hx' with q | q; exact hx x q; rw [List.mem_singleton.1 q]; exact hw)
      refine ⟨r, r1, r2, Ev.step (fun k => by rw [spec_paByWays.l0]) ?_, Ev.step (fun k => by rw [impl_PlanByRate.l0]) ?_⟩
      · simp only [if_pos (show ((i : Int) + 1 ≤ days) by omega), w1]
        refine Ev.bind (piMake_ev l g s (by omega)) ?_
        simp only [if_neg z]
        refine Ev.bind k2 ?_
        simp only [if_pos (show acc.length < 5864062014805 by omega)]
        rw [wrap_id _ (by omega) (by omega)]
        exact r3
      · simp only [if_pos (show ((i : Int) < days) by omega), w2]
        refine Ev.bind k3 ?_
        simp only [if_true, if_pos (show acc.length < 5864062014805 by omega)]
        rw [wrap_succ i (by omega)]
        exact r4
theorem planBy_ev (l : List Int) (hm : l.length ≤ 1099511627776) (a1 a2 : Int) (b : Bool) (hi : Ev (fun k => impl_arePaid.f k l) b) (hg : b = true → Good l) :
    ∃ r : List (List Int) × Bool, r.1.length ≤ 60 ∧ (∀ x ∈ r.1, x.length ≤ 20) ∧ Ev (fun k => impl_PlanByRate.f k l a1 a2) r ∧
      ((b && (decide (0 ≤ a1 ∧ a1 ≤ 60) && decide (1 ≤ a2 ∧ a2 ≤ 100))) = true → Ev (fun k => spec_paByWays.f k l a1 a2) r) ∧ ((b && (decide (0 ≤ a1 ∧ a1 ≤ 60) && decide (1 ≤ a2 ∧ a2 ≤ 100))) = false → r = ([], false)) := by
  have ha := arePay_ev l b hi a1 a2
  cases h : b && (decide (0 ≤ a1 ∧ a1 ≤ 60) && decide (1 ≤ a2 ∧ a2 ≤ 100)) with
  | false =>
    rw [h] at ha
    refine ⟨([], false), by simp, by simp, ?_, (fun h => by cases h), fun _ => rfl⟩
    unfold impl_PlanByRate.f
    exact Ev.bind ha (by simp only [Bool.false_eq_true, if_false]; exact Ev.now _)
  | true =>
    rw [h] at ha
    simp only [Bool.and_eq_true, decide_eq_true_eq] at h
    obtain ⟨hb, ⟨h0, h60⟩, hr0, hr1⟩ := h
    obtain ⟨r, r1, r2, r3, r4⟩ := byWays_loop l (hg hb) a1 a2 h0 h60 hr0 hr1 a1.toNat 0 [] (by omega) rfl (fun _ h => by cases h)
    refine ⟨r, r1, r2, ?_, (fun _ => ?_), fun h => by cases h⟩
    · unfold impl_PlanByRate.f
      exact Ev.bind ha (by simp only [if_true]; simpa using r4)
    · unfold spec_paByWays.f; simpa using r3
theorem rows_small {l : List (List Int)} (h : l.length ≤ 60) (hx : ∀ x ∈ l, x.length ≤ 20) : Small l ∧ ∀ x ∈ l, x.length ≤ 1048576 :=
  ⟨⟨by omega, fun j hj => by have := rows_getD l hx j hj; omega⟩, fun x h => by have := hx x h; omega⟩

theorem PlanOfRun_same (l : List Int) (a1 : Int) (hm : l.length ≤ 1099511627776) : ∃ r : List (List Int) × Bool, (r.1.length ≤ 60 ∧ ∀ x ∈ r.1, x.length ≤ 20) ∧ Ev (fun k => spec_PlanOfRun.f k l a1) r ∧ Ev (fun k => impl_PlanOfRun.f k l a1) r := by
  obtain ⟨b, hs, hi, hg⟩ := fewPaid_same l hm
  obtain ⟨r, r1, r2, r3, r4, r5⟩ := planBy_ev l hm a1 1 b hi (fun h => (hg h).1)
  refine ⟨r, ⟨r1, r2⟩, ?_, by unfold impl_PlanOfRun.f; exact Ev.bind r3 (Ev.now _)⟩
  rw [decide_eq_true (show (1 : Int) ≤ 1 ∧ (1 : Int) ≤ 100 by omega), Bool.and_true] at r4 r5
  unfold spec_PlanOfRun.f
  refine Ev.bind hs ?_
  cases b with
  | false => rw [r5 rfl]; simp only [Bool.false_eq_true, if_false]; exact Ev.now _
  | true =>
    simp only [if_true, l1In_eq, Option.bind_some]
    rw [Bool.true_and] at r4 r5
    cases h : decide (0 ≤ a1 ∧ a1 ≤ 60) with
    | true => simp only [if_true]; exact Ev.bind (r4 h) (Ev.now _)
    | false => rw [r5 h]; simp only [Bool.false_eq_true, if_false]; exact Ev.now _
theorem FnExactPlanOfRun : laws_FnExactPlanOfRun.Pure := by
  intro l0 a1 h1 h2 h3 w_a1
  by_cases c : (l0.length : Int) > 1048576
  · exact .inl c
  have hm : l0.length ≤ 1099511627776 := by omega
  obtain ⟨⟨g, b⟩, ⟨hg1, hg2⟩, e3, e4⟩ := PlanOfRun_same l0 a1 hm
  dsimp only at hg1 hg2
  obtain ⟨sm, smx⟩ := rows_small hg1 hg2
  obtain ⟨x', hx', e8, _⟩ := markG_ev 1 (by omega) (by omega) l0 (by omega)
  obtain ⟨m, g', hg', hgx, hmm, hN, e11⟩ := markRows_ev g 1 smx (by omega) (by omega)
  have e12 : Ev (fun k => laws_heldIntSS.f k g' 1) m := by unfold laws_heldIntSS.f; exact heldSS_loop g' hgx (by omega) g'.length 0 1 m (by omega) (by omega) (by omega) (by rw [List.drop_zero]; exact hN)
  obtain ⟨K1, q1⟩ := toInt_ev l0 (by omega)
  obtain ⟨K3, q3⟩ := e3
  obtain ⟨K4, q4⟩ := e4
  obtain ⟨K5, q5⟩ := eqSS_ev g sm
  obtain ⟨K6, q6⟩ := eq_ev l0 (by omega)
  obtain ⟨K8, q8⟩ := e8
  obtain ⟨K11, q11⟩ := e11
  obtain ⟨K12, q12⟩ := e12
  refine .inr ⟨K1 + K3 + K4 + K5 + K6 + K8 + K11 + K12, g, b, 1 + (l0.length : Int), 1 + (l0.length : Int), m, x', g', q1 _ (by omega), q3 _ (by omega), q4 _ (by omega), q5 _ (by omega), q6 _ (by omega), q8 _ (by omega), rfl, by omega, q11 _ (by omega), q12 _ (by omega), by omega⟩

end Go.Proofs.Ytfldgimmdeijjaa.Pure
