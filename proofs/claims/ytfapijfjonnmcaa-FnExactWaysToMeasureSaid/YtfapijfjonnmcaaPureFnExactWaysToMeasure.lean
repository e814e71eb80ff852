/- For every list of whole numbers and every length, the program's WaysToMeasure tells what the reference's tells, and the list reads as before. No conditions. -/
import Derived.Test.YtfapijfjonnmcaaPFnExactWaysToMeasurex2
namespace Go.Proofs.Ytfapijfjonnmcaa.Pure
open Go.RowKit Go.Proofs.Ytfapijfjonnmcaa.PFnExactWaysToMeasure Go.Proofs.YtfapijfjonnmcaaW.PrintWords Go.Proofs.YtfapijfjonnmcaaW.PrintLast
set_option linter.unusedVariables false
set_option linter.unusedSimpArgs false

theorem wrap_id (x : Int) (h0 : -9223372036854775808 ≤ x) (h1 : x ≤ 9223372036854775807) : wrap64 x = x := by
  unfold wrap64; omega
theorem wrap_succ (i : Nat) (h : i < 4611686018427387904) : wrap64 ((i : Int) + 1) = ((i + 1 : Nat) : Int) := by
  rw [wrap_id _ (by omega) (by omega)]; rfl
theorem rd_nat (l : List Int) (i : Nat) : rd l (i : Int) = l.getD i 0 := rfl
theorem getD_some (l : List Int) (i : Nat) (h : i < l.length) : l[i]? = some (l.getD i 0) := by
  rw [List.getD_eq_getElem?_getD, List.getElem?_eq_getElem h]; rfl
theorem bool_same {b c : Bool} {P : Prop} (hb : b = true ↔ P) (hc : c = true ↔ P) : b = c := by
  cases b <;> cases c <;> simp_all

theorem eq_loop (a : List Int) (hm : a.length ≤ 1099511627776) : ∀ (d i : Nat), i + d = a.length → Ev (fun k => laws_eqIntS.l0 k a a (i : Int)) true
  | 0, i, h => by
    refine Ev.step (fun k => by rw [laws_eqIntS.l0]) ?_
    simp only [if_neg (show ¬ ((i : Int) < (a.length : Int)) by omega)]
    exact Ev.now _
  | d + 1, i, h => by
    refine Ev.step (fun k => by rw [laws_eqIntS.l0]) ?_
    simp only [if_pos (show (i : Int) < (a.length : Int) by omega), if_pos (show (0 : Int) ≤ (i : Int) by omega), if_true]
    rw [wrap_succ i (by omega)]
    exact eq_loop a hm d (i + 1) (by omega)
theorem eq_ev (a : List Int) (hm : a.length ≤ 1099511627776) : Ev (fun k => laws_eqIntS.f k a a) true := by
  unfold laws_eqIntS.f
  simp only [if_true]
  exact eq_loop a hm a.length 0 (by omega)

theorem l1In_eq (x lo hi : Int) : spec_l1In.f x lo hi = some (decide (lo ≤ x ∧ x ≤ hi)) := by
  unfold spec_l1In.f
  by_cases c : x ≥ lo
  · rw [if_pos c]; congr 1; by_cases d : x ≤ hi
    · rw [decide_eq_true d, decide_eq_true ⟨c, d⟩]
    · rw [decide_eq_false d, decide_eq_false (fun h => d h.2)]
  · rw [if_neg c, decide_eq_false (fun h => c h.1)]

theorem l1Rising_loop (lo hi : Int) (l : List Int) (hm : l.length ≤ 1099511627776) : ∀ (d i : Nat), i + d = l.length →
    ∃ b, Ev (fun k => spec_l1Rising.l0 k l lo hi l (l.length : Int) (i : Int)) b ∧ (b = true ↔ ∀ j, i ≤ j → j < l.length → (lo ≤ l.getD j 0 ∧ l.getD j 0 ≤ hi) ∧ (0 < j → l.getD (j - 1) 0 < l.getD j 0))
  | 0, i, h => by
    refine ⟨true, ?_, by simp only [true_iff]; intro j h1 h2; omega⟩
    refine Ev.step (fun k => by rw [spec_l1Rising.l0]) ?_
    simp only [if_neg (show ¬ ((i : Int) < (l.length : Int)) by omega)]
    exact Ev.now _
  | d + 1, i, h => by
    have w : 0 < i → wrap64 ((i : Int) - 1) = ((i - 1 : Nat) : Int) := fun h => by rw [wrap_id _ (by omega) (by omega)]; omega
    by_cases c : (lo ≤ l.getD i 0 ∧ l.getD i 0 ≤ hi)
    · by_cases c2 : 0 < i → l.getD (i - 1) 0 < l.getD i 0
      · obtain ⟨b, hb, hj⟩ := l1Rising_loop lo hi l hm d (i + 1) (by omega)
        refine ⟨b, ?_, ?_⟩
        · refine Ev.step (fun k => by rw [spec_l1Rising.l0]) ?_
          simp only [if_pos (show (i : Int) < (l.length : Int) by omega), if_pos (show (0 : Int) ≤ (i : Int) by omega), l1In_eq, rd_nat, decide_eq_true c, Option.bind_some, if_true]
          rw [wrap_succ i (by omega)]
          by_cases p : 0 < i
          · have c3 := c2 p
            simp only [w p, rd_nat, if_pos (show (i : Int) > 0 by omega), if_pos (show (0 : Int) ≤ ((i - 1 : Nat) : Int) by omega), if_pos (show ((i - 1 : Nat) : Int) < (l.length : Int) by omega), if_neg (show ¬ (l.getD (i - 1) 0 ≥ l.getD i 0) by omega)]
            exact hb
          · simp only [if_neg (show ¬ ((i : Int) > 0) by omega)]
            exact hb
        · rw [hj]
          constructor
          · intro H j h1 h2
            by_cases e : j = i
            · rw [e]; exact ⟨c, c2⟩
            · exact H j (by omega) h2
          · intro H j h1 h2
            exact H j (by omega) h2
      · have p : 0 < i := by
          rcases Nat.eq_zero_or_pos i with z | z
          · exact absurd (fun hh => by omega) c2
          · exact z
        have c3 : ¬ l.getD (i - 1) 0 < l.getD i 0 := fun hh => c2 (fun _ => hh)
        refine ⟨false, ?_, ?_⟩
        · refine Ev.step (fun k => by rw [spec_l1Rising.l0]) ?_
          simp only [if_pos (show (i : Int) < (l.length : Int) by omega), if_pos (show (0 : Int) ≤ (i : Int) by omega), l1In_eq, rd_nat, decide_eq_true c, Option.bind_some, if_true]
          simp only [w p, rd_nat, if_pos (show (i : Int) > 0 by omega), if_pos (show (0 : Int) ≤ ((i - 1 : Nat) : Int) by omega), if_pos (show ((i - 1 : Nat) : Int) < (l.length : Int) by omega), if_pos (show (l.getD (i - 1) 0 ≥ l.getD i 0) by omega)]
          exact Ev.now _
        · exact ⟨fun H => (by cases H), fun H => absurd (H i (by omega) (by omega)).2 c2⟩
    · refine ⟨false, ?_, ?_⟩
      · refine Ev.step (fun k => by rw [spec_l1Rising.l0]) ?_
        simp only [if_pos (show (i : Int) < (l.length : Int) by omega), if_pos (show (0 : Int) ≤ (i : Int) by omega), l1In_eq, rd_nat, decide_eq_false c, Option.bind_some, Bool.false_eq_true, if_false]
        exact Ev.now _
      · exact ⟨fun H => (by cases H), fun H => absurd (H i (by omega) (by omega)).1 c⟩
theorem l1Rising_ev (lo hi : Int) (l : List Int) (hm : l.length ≤ 1099511627776) :
    ∃ b, Ev (fun k => spec_l1Rising.f k l lo hi) b ∧ (b = true ↔ ∀ j, j < l.length → (lo ≤ l.getD j 0 ∧ l.getD j 0 ≤ hi) ∧ (0 < j → l.getD (j - 1) 0 < l.getD j 0)) := by
  obtain ⟨b, hb, hj⟩ := l1Rising_loop lo hi l hm l.length 0 (by omega)
  exact ⟨b, hb, by rw [hj]; exact ⟨fun H j h => H j (by omega) h, fun H j _ h => H j h⟩⟩
theorem rises_loop (l : List Int) (hm : l.length ≤ 1099511627776) : ∀ (d i : Nat), 1 ≤ i → l.length ≤ i + d →
    ∃ b, Ev (fun k => impl_rises.l0 k l (i : Int)) b ∧ (b = true ↔ ∀ j, i ≤ j → j < l.length → l.getD (j - 1) 0 < l.getD j 0)
  | 0, i, h0, h => by
    refine ⟨true, ?_, by simp only [true_iff]; intro j h1 h2; omega⟩
    refine Ev.step (fun k => by rw [impl_rises.l0]) ?_
    simp only [if_neg (show ¬ ((i : Int) < (l.length : Int)) by omega)]
    exact Ev.now _
  | d + 1, i, h0, h => by
    by_cases hlt : i < l.length
    · have w : wrap64 ((i : Int) - 1) = ((i - 1 : Nat) : Int) := by rw [wrap_id _ (by omega) (by omega)]; omega
      by_cases c : l.getD (i - 1) 0 < l.getD i 0
      · obtain ⟨b, hb, hj⟩ := rises_loop l hm d (i + 1) (by omega) (by omega)
        refine ⟨b, ?_, ?_⟩
        · refine Ev.step (fun k => by rw [impl_rises.l0]) ?_
          simp only [w, rd_nat, if_pos (show (i : Int) < (l.length : Int) by omega), if_pos (show (0 : Int) ≤ (i : Int) by omega), if_pos (show (0 : Int) ≤ ((i - 1 : Nat) : Int) by omega), if_pos (show ((i - 1 : Nat) : Int) < (l.length : Int) by omega), if_neg (show ¬ (l.getD (i - 1) 0 ≥ l.getD i 0) by omega)]
          rw [wrap_succ i (by omega)]
          exact hb
        · rw [hj]
          constructor
          · intro H j h1 h2
            by_cases e : j = i
            · rw [e]; exact c
            · exact H j (by omega) h2
          · intro H j h1 h2
            exact H j (by omega) h2
      · refine ⟨false, ?_, ?_⟩
        · refine Ev.step (fun k => by rw [impl_rises.l0]) ?_
          simp only [w, rd_nat, if_pos (show (i : Int) < (l.length : Int) by omega), if_pos (show (0 : Int) ≤ (i : Int) by omega), if_pos (show (0 : Int) ≤ ((i - 1 : Nat) : Int) by omega), if_pos (show ((i - 1 : Nat) : Int) < (l.length : Int) by omega), if_pos (show (l.getD (i - 1) 0 ≥ l.getD i 0) by omega)]
          exact Ev.now _
        · exact ⟨fun H => (by cases H), fun H => absurd (H i (by omega) hlt) c⟩
    · exact rises_loop l hm 0 i h0 (by omega)
theorem rises_ev (l : List Int) (hm : l.length ≤ 1099511627776) :
    ∃ b, Ev (fun k => impl_rises.f k l) b ∧ (b = true ↔ ∀ j, 0 < j → j < l.length → l.getD (j - 1) 0 < l.getD j 0) :=
  rises_loop l hm l.length 1 (by omega) (by omega)

theorem up_to (l : List Int) (h : ∀ j, 0 < j → j < l.length → l.getD (j - 1) 0 < l.getD j 0) : ∀ (d i : Nat), i + d < l.length → l.getD i 0 ≤ l.getD (i + d) 0
  | 0, i, _ => by simp
  | d + 1, i, hd => by
    have a := up_to l h d i (by omega)
    have b := h (i + d + 1) (by omega) (by omega)
    rw [Nat.add_sub_cancel] at b
    rw [← Nat.add_assoc]
    omega

/-- What a ruler is. -/
def Ruler (l : List Int) : Prop := 2 ≤ l.length ∧ l.getD 0 0 = 0 ∧ (∀ j, j < l.length → 0 ≤ l.getD j 0 ∧ l.getD j 0 ≤ 60) ∧ ∀ j, 0 < j → j < l.length → l.getD (j - 1) 0 < l.getD j 0
theorem ruGood_ev (l : List Int) (hm : l.length ≤ 1099511627776) : ∃ b, Ev (fun k => spec_ruGood.f k l) b ∧ (b = true ↔ Ruler l) := by
  unfold spec_ruGood.f
  by_cases c : 2 ≤ l.length
  · simp only [if_pos (show ((l.length : Int) ≥ 2) by omega)]
    obtain ⟨b, hb, jb⟩ := l1Rising_ev 0 60 l hm
    cases b with
    | true =>
      have J := jb.1 rfl
      refine ⟨rd l 0 == 0, Ev.bind hb ?_, ?_⟩
      · simp only [if_true, if_pos (show (0 : Int) < (l.length : Int) by omega)]
        exact Ev.now _
      · rw [beq_iff_eq]
        exact ⟨fun H => ⟨c, H, fun j h => (J j h).1, fun j h0 h => (J j h).2 h0⟩, fun H => H.2.1⟩
    | false =>
      refine ⟨false, Ev.bind hb ?_, ?_⟩
      · simp only [Bool.false_eq_true, if_false]
        exact Ev.now _
      · exact ⟨fun H => (by cases H), fun H => jb.2 (fun j h => ⟨H.2.2.1 j h, fun h0 => H.2.2.2 j h0 h⟩)⟩
  · simp only [if_neg (show ¬ ((l.length : Int) ≥ 2) by omega)]
    exact ⟨false, Ev.now _, fun H => (by cases H), fun H => absurd H.1 c⟩
theorem isRuler_ev (l : List Int) (hm : l.length ≤ 1099511627776) : ∃ b, Ev (fun k => impl_IsRuler.f k l) b ∧ (b = true ↔ Ruler l) := by
  unfold impl_IsRuler.f
  by_cases c : 2 ≤ l.length
  · have w : wrap64 ((l.length : Int) - 1) = ((l.length - 1 : Nat) : Int) := by rw [wrap_id _ (by omega) (by omega)]; omega
    simp only [if_pos (show ((l.length : Int) ≥ 2) by omega), if_pos (show (0 : Int) < (l.length : Int) by omega), w, if_pos (show (0 : Int) ≤ ((l.length - 1 : Nat) : Int) by omega), if_pos (show ((l.length - 1 : Nat) : Int) < (l.length : Int) by omega)]
    by_cases c1 : rd l 0 = 0
    · simp only [if_pos c1]
      by_cases c2 : rd l ((l.length - 1 : Nat) : Int) ≤ 60
      · simp only [if_pos c2]
        obtain ⟨b, hb, jb⟩ := rises_ev l hm
        refine ⟨b, Ev.bind hb (Ev.now _), ?_⟩
        rw [jb]
        constructor
        · intro H
          refine ⟨c, c1, fun j hj => ?_, H⟩
          have a1 := up_to l H j 0 (by omega)
          have a2 := up_to l H (l.length - 1 - j) j (by omega)
          rw [Nat.zero_add] at a1
          rw [show j + (l.length - 1 - j) = l.length - 1 by omega] at a2
          have b1 : l.getD 0 0 = 0 := c1
          have b2 : l.getD (l.length - 1) 0 ≤ 60 := c2
          omega
        · intro H
          exact H.2.2.2
      · simp only [if_neg c2]
        exact ⟨false, Ev.now _, fun H => (by cases H), fun H => absurd (H.2.2.1 (l.length - 1) (by omega)).2 c2⟩
    · simp only [if_neg c1]
      exact ⟨false, Ev.now _, fun H => (by cases H), fun H => absurd H.2.1 c1⟩
  · simp only [if_neg (show ¬ ((l.length : Int) ≥ 2) by omega)]
    exact ⟨false, Ev.now _, fun H => (by cases H), fun H => absurd H.1 c⟩
theorem ruler_same (l : List Int) (hm : l.length ≤ 1099511627776) : ∃ b, Ev (fun k => spec_ruGood.f k l) b ∧ Ev (fun k => impl_IsRuler.f k l) b ∧ (b = true ↔ Ruler l) := by
  obtain ⟨b, hb, jb⟩ := ruGood_ev l hm
  obtain ⟨c, hc, jc⟩ := isRuler_ev l hm
  have e := bool_same jb jc
  subst e
  exact ⟨b, hb, hc, jb⟩

/-- A table of a function's values. -/
def tabf (N : Nat) (f : Nat → Int) : List Int := (List.range N).map f
theorem tabf_length (N : Nat) (f : Nat → Int) : (tabf N f).length = N := by simp [tabf]
theorem tabf_get? (N : Nat) (f : Nat → Int) (j : Nat) : (tabf N f)[j]? = if j < N then some (f j) else none := by
  unfold tabf
  rw [List.getElem?_map]
  by_cases c : j < N
  · rw [if_pos c, List.getElem?_range c]; rfl
  · rw [if_neg c, List.getElem?_eq_none (by simpa using c)]; rfl
theorem tabf_getD (N : Nat) (f : Nat → Int) (j : Nat) (h : j < N) : (tabf N f).getD j 0 = f j := by
  rw [List.getD_eq_getElem?_getD, tabf_get?, if_pos h]; rfl
theorem tabf_ext (N : Nat) (f g : Nat → Int) (h : ∀ j, j < N → f j = g j) : tabf N f = tabf N g := by
  apply List.ext_getElem?
  intro j
  rw [tabf_get?, tabf_get?]
  by_cases c : j < N
  · rw [if_pos c, if_pos c, h j c]
  · rw [if_neg c, if_neg c]
theorem tabf_set (N : Nat) (f g : Nat → Int) (s : Nat) (v : Int) (hs : s < N) (hv : v = g s) (h : ∀ j, j < N → j ≠ s → f j = g j) : (tabf N f).set s v = tabf N g := by
  apply List.ext_getElem?
  intro j
  rw [List.getElem?_set, tabf_length, tabf_get?, tabf_get?]
  by_cases c : s = j
  · subst c
    rw [if_pos rfl, if_pos hs, if_pos hs, hv]
  · rw [if_neg c]
    by_cases d : j < N
    · rw [if_pos d, if_pos d, h j d (fun e => c e.symm)]
    · rw [if_neg d, if_neg d]
theorem replicate_tabf (N : Nat) (v : Int) : List.replicate N v = tabf N (fun _ => v) := by
  apply List.ext_getElem?
  intro j
  rw [tabf_get?, List.getElem?_replicate]

theorem toInt_loop (l : List Int) (hm : l.length ≤ 1099511627776) : ∀ (d i : Nat) (cur : List Int), i + d = l.length → cur.length = l.length → (∀ j, j < i → cur[j]? = l[j]?) → Ev (fun k => laws_toIntS.l0 k l cur (i : Int)) l
  | 0, i, cur, h, hc, hj => by
    refine Ev.step (fun k => by rw [laws_toIntS.l0]) ?_
    simp only [if_neg (show ¬ ((i : Int) < (l.length : Int)) by omega)]
    have e : cur = l := by
      apply List.ext_getElem?
      intro j
      by_cases c : j < i
      · exact hj j c
      · rw [List.getElem?_eq_none (by omega), List.getElem?_eq_none (by omega)]
    rw [e]
    exact Ev.now _
  | d + 1, i, cur, h, hc, hj => by
    refine Ev.step (fun k => by rw [laws_toIntS.l0]) ?_
    simp only [if_pos (show (i : Int) < (l.length : Int) by omega), if_pos (show (0 : Int) ≤ (i : Int) by omega), if_pos (show (i : Int) < (cur.length : Int) by omega)]
    rw [wrap_succ i (by omega), Int.toNat_natCast, rd_nat]
    refine toInt_loop l hm d (i + 1) _ (by omega) (by rw [List.length_set]; exact hc) ?_
    intro j hlt
    rw [List.getElem?_set]
    by_cases c : i = j
    · subst c
      rw [if_pos rfl, if_pos (by omega), getD_some l i (by omega)]
    · rw [if_neg c]
      exact hj j (by omega)
theorem toInt_ev (l : List Int) (hm : l.length ≤ 1099511627776) : Ev (fun k => laws_toIntS.f k l) l := by
  unfold laws_toIntS.f
  simp only [if_pos (show (0 : Int) ≤ (l.length : Int) by omega), if_pos (show ((l.length : Int)).toNat ≤ 35184372088832 by omega)]
  exact toInt_loop l hm l.length 0 _ (by omega) (by simp) (fun j hj => by omega)

theorem within_eq (x lo hi : Int) : impl_within.f x lo hi = some (decide (lo ≤ x ∧ x ≤ hi)) := by
  unfold impl_within.f
  by_cases c : lo ≤ x
  · rw [if_pos c]; congr 1; by_cases d : x ≤ hi
    · rw [decide_eq_true d, decide_eq_true ⟨c, d⟩]
    · rw [decide_eq_false d, decide_eq_false (fun h => d h.2)]
  · rw [if_neg c, decide_eq_false (fun h => c h.1)]

/-- The lengths that pairs of marks measure. -/
def diffs : List Int → List Int
  | [] => []
  | a :: t => t.map (fun b => b - a) ++ diffs t
def cntv (ds : List Int) (v : Int) : Int := (ds.count v : Int)
theorem cntv_app (a b : List Int) (v : Int) : cntv (a ++ b) v = cntv a v + cntv b v := by simp [cntv, List.count_append]
theorem cntv_nil (v : Int) : cntv [] v = 0 := rfl
theorem cntv_one (x v : Int) : cntv [x] v = if v = x then 1 else 0 := by
  unfold cntv
  by_cases h : v = x
  · subst h; simp
  · rw [if_neg h]; simp [List.count_cons, show ¬ x = v from fun e => h e.symm]
theorem cntv_nonneg (ds : List Int) (v : Int) : 0 ≤ cntv ds v := by unfold cntv; omega
theorem cntv_le (ds : List Int) (v : Int) : cntv ds v ≤ ds.length := by unfold cntv; have := List.count_le_length (a := v) (l := ds); omega
theorem cntv_cons (x : Int) (t : List Int) (v : Int) : cntv (x :: t) v = (if v = x then 1 else 0) + cntv t v := by
  rw [show x :: t = [x] ++ t from rfl, cntv_app, cntv_one]
theorem cntv_snoc (p : List Int) (x v : Int) : cntv (diffs (p ++ [x])) v = cntv (diffs p) v + cntv (p.map (fun b => x - b)) v := by
  induction p with
  | nil => simp [diffs, cntv]
  | cons a p ih =>
    rw [List.cons_append, diffs, diffs, cntv_app, ih, cntv_app, List.map_append, cntv_app]
    simp only [List.map_cons, List.map_nil, cntv_cons, cntv_nil]
    omega
theorem diffs_len : ∀ p : List Int, (diffs p).length ≤ p.length * p.length
  | [] => by simp [diffs]
  | a :: p => by
    have := diffs_len p
    rw [diffs, List.length_append, List.length_map, List.length_cons, Nat.add_mul, Nat.mul_add]
    omega
theorem diffs_in (L : Int) : ∀ p : List Int, (∀ x ∈ p, 0 ≤ x ∧ x ≤ L) → ∀ y ∈ diffs p, y ≤ L
  | [], _, y, hy => by simp [diffs] at hy
  | a :: p, h, y, hy => by
    rw [diffs] at hy
    rcases List.mem_append.mp hy with z | z
    · obtain ⟨b, hb, rfl⟩ := List.mem_map.mp z
      have := h a List.mem_cons_self
      have := h b (List.mem_cons_of_mem _ hb)
      omega
    · exact diffs_in L p (fun x hx => h x (List.mem_cons_of_mem _ hx)) y z
theorem ruler_ge {l : List Int} (g : Ruler l) : ∀ j, j < l.length → (j : Int) ≤ l.getD j 0
  | 0, h => (g.2.2.1 0 h).1
  | j + 1, h => by
    have a := ruler_ge g j (by omega)
    have b := g.2.2.2 (j + 1) (by omega) h
    rw [Nat.add_sub_cancel] at b
    omega
theorem ruler_len {l : List Int} (g : Ruler l) : l.length ≤ 61 := by
  have h2 := g.1
  have a := ruler_ge g (l.length - 1) (by omega)
  have b := g.2.2.1 (l.length - 1) (by omega)
  omega
theorem ruler_lt {l : List Int} (g : Ruler l) (i : Nat) : ∀ d, i + d + 1 < l.length → l.getD i 0 < l.getD (i + d + 1) 0
  | 0, h => by
    have b := g.2.2.2 (i + 1) (by omega) h
    rw [Nat.add_sub_cancel] at b
    exact b
  | d + 1, h => by
    have a := ruler_lt g i d (by omega)
    have b := g.2.2.2 (i + d + 1 + 1) (by omega) h
    rw [Nat.add_sub_cancel] at b
    have : i + (d + 1) + 1 = i + d + 1 + 1 := by omega
    rw [this]
    omega
theorem take_one (l : List Int) (i : Nat) (h : i < l.length) : l.take (i + 1) = l.take i ++ [l.getD i 0] := by
  rw [List.take_succ_eq_append_getElem h, List.getD_eq_getElem?_getD, List.getElem?_eq_getElem h]; rfl
theorem drop_one (l : List Int) (i : Nat) (h : i < l.length) : l.drop i = l.getD i 0 :: l.drop (i + 1) := by
  rw [List.drop_eq_getElem_cons h, List.getD_eq_getElem?_getD, List.getElem?_eq_getElem h]; rfl
/-- The program's table. -/
theorem ms_inner (l : List Int) (g : Ruler l) (i : Nat) (hi : i < l.length) (r : List Int)
    (K : Ev (fun k => hwMs0 k l (tabf 61 (fun v => cntv (diffs (l.take (i + 1))) v)) ((i + 1 : Nat) : Int)) r) : ∀ (d j : Nat), j + d = i →
    Ev (fun k => hwMs1 k l (tabf 61 (fun v => cntv (diffs (l.take i)) v + cntv ((l.take j).map (fun b => l.getD i 0 - b)) v)) (i : Int) (j : Int)) r
  | 0, j, h => by
    obtain rfl : j = i := by omega
    have hl := ruler_len g
    refine Ev.step (fun k => by rw [hwMs1]) ?_
    simp only [if_neg (show ¬ ((j : Int) < (j : Int)) by omega)]
    rw [wrap_succ j (by omega), tabf_ext 61 _ (fun v => cntv (diffs (l.take (j + 1))) v) (fun v _ => by rw [take_one l j hi, cntv_snoc])]
    exact K
  | d + 1, j, h => by
    have hl := ruler_len g
    have a := ruler_lt g j (i - j - 1) (by omega)
    rw [show j + (i - j - 1) + 1 = i by omega] at a
    have b := g.2.2.1 i hi
    have c := g.2.2.1 j (by omega)
    have ew : wrap64 (rd l (i : Int) - rd l (j : Int)) = l.getD i 0 - l.getD j 0 := by
      show wrap64 (l.getD i 0 - l.getD j 0) = _
      rw [wrap_id _ (by omega) (by omega)]
    obtain ⟨m, hm⟩ : ∃ m : Nat, l.getD i 0 - l.getD j 0 = (m : Int) := ⟨(l.getD i 0 - l.getD j 0).toNat, by omega⟩
    have hm61 : m < 61 := by omega
    have q1 := cntv_nonneg (diffs (l.take i)) (m : Int)
    have q2 := cntv_le (diffs (l.take i)) (m : Int)
    have q3 := diffs_len (l.take i)
    have q4 : (l.take i).length * (l.take i).length ≤ 61 * 61 := Nat.mul_le_mul (by rw [List.length_take]; omega) (by rw [List.length_take]; omega)
    have q5 := cntv_nonneg ((l.take j).map (fun b => l.getD i 0 - b)) (m : Int)
    have q6 := cntv_le ((l.take j).map (fun b => l.getD i 0 - b)) (m : Int)
    rw [List.length_map, List.length_take] at q6
    refine Ev.step (fun k => by rw [hwMs1]) ?_
    rw [ew, hm, wrap_succ j (by omega), Int.toNat_natCast]
    simp only [if_pos (show (j : Int) < (i : Int) by omega), if_pos (show (0 : Int) ≤ (j : Int) by omega), if_pos (show (0 : Int) ≤ (m : Int) by omega), if_pos (show (m : Int) < 61 by omega), rd_nat]
    rw [tabf_getD 61 _ m hm61, wrap_id _ (by omega) (by omega), tabf_set 61 _ (fun v => cntv (diffs (l.take i)) v + cntv ((l.take (j + 1)).map (fun b => l.getD i 0 - b)) v) m _ hm61 ?_ ?_]
    · exact ms_inner l g i hi r K d (j + 1) (by omega)
    · rw [take_one l j (by omega), List.map_append, cntv_app, List.map_cons, List.map_nil, hm, cntv_one, if_pos rfl]
      omega
    · intro v hv hne
      rw [take_one l j (by omega), List.map_append, cntv_app, List.map_cons, List.map_nil, hm, cntv_one, if_neg (by omega)]
      omega
theorem ms_outer (l : List Int) (g : Ruler l) : ∀ (d i : Nat), i + d = l.length →
    Ev (fun k => hwMs0 k l (tabf 61 (fun v => cntv (diffs (l.take i)) v)) (i : Int)) (tabf 61 (fun v => cntv (diffs l) v))
  | 0, i, h => by
    refine Ev.step (fun k => by rw [hwMs0]) ?_
    simp only [if_neg (show ¬ ((i : Int) < (l.length : Int)) by omega)]
    rw [List.take_of_length_le (by omega)]
    exact Ev.now _
  | d + 1, i, h => by
    refine Ev.step (fun k => by rw [hwMs0]) ?_
    simp only [if_pos (show (i : Int) < (l.length : Int) by omega), if_pos (show (0 : Int) ≤ (i : Int) by omega)]
    have := ms_inner l g i (by omega) _ (ms_outer l g d (i + 1) (by omega)) i 0 (by omega)
    rw [tabf_ext 61 _ (fun v => cntv (diffs (l.take i)) v) (fun v _ => by rw [List.take_zero, List.map_nil, cntv_nil]; omega)] at this
    exact this
theorem ms_ev (l : List Int) (g : Ruler l) : Ev (fun k => hwMs0 k l hwZ0 0) (tabf 61 (fun v => cntv (diffs l) v)) := by
  have := ms_outer l g l.length 0 (by omega)
  have e : hwZ0 = tabf 61 (fun v => cntv (diffs (l.take 0)) v) := by
    unfold hwZ0
    rw [replicate_tabf]
    exact tabf_ext 61 _ _ (fun v _ => by rw [List.take_zero, diffs, cntv_nil])
  rw [e]
  exact this
/-- The reference's table. -/
def soFar (l : List Int) (i : Nat) (v : Int) : Int := cntv (diffs l) v - cntv (diffs (l.drop i)) v
theorem soFar_next (l : List Int) (i : Nat) (hi : i < l.length) (v : Int) : soFar l i v + cntv ((l.drop (i + 1)).map (fun b => b - l.getD i 0)) v = soFar l (i + 1) v := by
  unfold soFar
  rw [drop_one l i hi, diffs, cntv_app]
  omega
theorem soFar_ge (l : List Int) : ∀ i, i ≤ l.length → ∀ v, 0 ≤ soFar l i v
  | 0, _, v => by unfold soFar; rw [List.drop_zero]; omega
  | i + 1, h, v => by
    rw [← soFar_next l i (by omega) v]
    have a := soFar_ge l i (by omega) v
    have b := cntv_nonneg ((l.drop (i + 1)).map (fun b => b - l.getD i 0)) v
    omega
theorem soFar_le (l : List Int) (i : Nat) (v : Int) : soFar l i v ≤ (l.length * l.length : Nat) := by
  unfold soFar
  have a := cntv_le (diffs l) v
  have b := diffs_len l
  have c := cntv_nonneg (diffs (l.drop i)) v
  omega
theorem times_inner (l : List Int) (g : Ruler l) (N : Nat) (hN : (N : Int) = l.getD (l.length - 1) 0 + 1) (i : Nat) (hi : i < l.length) (r : List Int)
    (K : Ev (fun k => spec_ruTimes.l0 k l (tabf N (fun v => soFar l (i + 1) v)) l (l.length : Int) ((i + 1 : Nat) : Int)) r) : ∀ (d j : Nat), j + d = (l.drop (i + 1)).length →
    Ev (fun k => spec_ruTimes.l1 k l (tabf N (fun v => soFar l i v + cntv (((l.drop (i + 1)).take j).map (fun b => b - l.getD i 0)) v)) (l.getD i 0) l (l.length : Int) (i : Int) (l.drop (i + 1)) ((l.drop (i + 1)).length : Int) (j : Int)) r
  | 0, j, h => by
    have hl := ruler_len g
    refine Ev.step (fun k => by rw [spec_ruTimes.l1]) ?_
    simp only [if_neg (show ¬ ((j : Int) < ((l.drop (i + 1)).length : Int)) by omega)]
    rw [wrap_succ i (by omega), tabf_ext N _ (fun v => soFar l (i + 1) v) (fun v _ => by rw [List.take_of_length_le (by omega), soFar_next l i hi])]
    exact K
  | d + 1, j, h => by
    have hl := ruler_len g
    have hdl : (l.drop (i + 1)).length = l.length - (i + 1) := List.length_drop
    have ex : (l.drop (i + 1)).getD j 0 = l.getD (i + j + 1) 0 := by
      rw [List.getD_eq_getElem?_getD, List.getD_eq_getElem?_getD, List.getElem?_drop]
      congr 2; omega
    have a := ruler_lt g i j (by omega)
    have b := g.2.2.1 i hi
    have c := g.2.2.1 (i + j + 1) (by omega)
    have top : l.getD (i + j + 1) 0 ≤ l.getD (l.length - 1) 0 := by
      rcases Nat.lt_or_ge (i + j + 1) (l.length - 1) with z | z
      · have := ruler_lt g (i + j + 1) (l.length - 1 - (i + j + 1) - 1) (by omega)
        rw [show i + j + 1 + (l.length - 1 - (i + j + 1) - 1) + 1 = l.length - 1 by omega] at this
        omega
      · rw [show i + j + 1 = l.length - 1 by omega]; exact Int.le_refl _
    have ew : wrap64 (rd (l.drop (i + 1)) (j : Int) - l.getD i 0) = l.getD (i + j + 1) 0 - l.getD i 0 := by
      show wrap64 ((l.drop (i + 1)).getD j 0 - l.getD i 0) = _
      rw [ex, wrap_id _ (by omega) (by omega)]
    obtain ⟨m, hm⟩ : ∃ m : Nat, l.getD (i + j + 1) 0 - l.getD i 0 = (m : Int) := ⟨(l.getD (i + j + 1) 0 - l.getD i 0).toNat, by omega⟩
    have hmN : m < N := by omega
    have q1 := soFar_ge l i (by omega) (m : Int)
    have q2 := soFar_le l i (m : Int)
    have q4 : l.length * l.length ≤ 61 * 61 := Nat.mul_le_mul hl hl
    have q5 := cntv_nonneg (((l.drop (i + 1)).take j).map (fun b => b - l.getD i 0)) (m : Int)
    have q6 := cntv_le (((l.drop (i + 1)).take j).map (fun b => b - l.getD i 0)) (m : Int)
    rw [List.length_map, List.length_take] at q6
    have et : (l.drop (i + 1)).take (j + 1) = (l.drop (i + 1)).take j ++ [l.getD (i + j + 1) 0] := by rw [take_one _ j (by omega), ex]
    refine Ev.step (fun k => by rw [spec_ruTimes.l1]) ?_
    rw [ew, hm, wrap_succ j (by omega), Int.toNat_natCast]
    simp only [if_pos (show (j : Int) < ((l.drop (i + 1)).length : Int) by omega), if_pos (show (0 : Int) ≤ (j : Int) by omega), if_pos (show (0 : Int) ≤ (m : Int) by omega), tabf_length, if_pos (show (m : Int) < (N : Int) by omega), rd_nat]
    rw [tabf_getD N _ m hmN, wrap_id _ (by omega) (by omega), tabf_set N _ (fun v => soFar l i v + cntv (((l.drop (i + 1)).take (j + 1)).map (fun b => b - l.getD i 0)) v) m _ hmN ?_ ?_]
    · exact times_inner l g N hN i hi r K d (j + 1) (by omega)
    · rw [et, List.map_append, cntv_app, List.map_cons, List.map_nil, hm, cntv_one, if_pos rfl]
      omega
    · intro v hv hne
      rw [et, List.map_append, cntv_app, List.map_cons, List.map_nil, hm, cntv_one, if_neg (by omega)]
      omega
theorem times_outer (l : List Int) (g : Ruler l) (N : Nat) (hN : (N : Int) = l.getD (l.length - 1) 0 + 1) : ∀ (d i : Nat), i + d = l.length →
    Ev (fun k => spec_ruTimes.l0 k l (tabf N (fun v => soFar l i v)) l (l.length : Int) (i : Int)) (tabf N (fun v => cntv (diffs l) v))
  | 0, i, h => by
    refine Ev.step (fun k => by rw [spec_ruTimes.l0]) ?_
    simp only [if_neg (show ¬ ((i : Int) < (l.length : Int)) by omega)]
    rw [tabf_ext N _ (fun v => cntv (diffs l) v) (fun v _ => by unfold soFar; rw [List.drop_of_length_le (by omega), diffs, cntv_nil]; omega)]
    exact Ev.now _
  | d + 1, i, h => by
    have hl := ruler_len g
    refine Ev.step (fun k => by rw [spec_ruTimes.l0]) ?_
    rw [wrap_succ i (by omega), Int.toNat_natCast]
    simp only [if_pos (show (i : Int) < (l.length : Int) by omega), if_pos (show (0 : Int) ≤ (i : Int) by omega), if_pos (show (0 : Int) ≤ ((i + 1 : Nat) : Int) by omega), if_pos (show ((i + 1 : Nat) : Int) ≤ (l.length : Int) by omega), rd_nat]
    have := times_inner l g N hN i (by omega) _ (times_outer l g N hN d (i + 1) (by omega)) (l.drop (i + 1)).length 0 (by omega)
    rw [tabf_ext N _ (fun v => soFar l i v) (fun v _ => by rw [List.take_zero, List.map_nil, cntv_nil]; omega)] at this
    exact this
theorem times_ev (l : List Int) (g : Ruler l) : Ev (fun k => spec_ruTimes.f k l) (tabf (l.getD (l.length - 1) 0 + 1).toNat (fun v => cntv (diffs l) v)) := by
  have hl := ruler_len g
  have h2 := g.1
  have b := g.2.2.1 (l.length - 1) (by omega)
  have w : wrap64 ((l.length : Int) - 1) = ((l.length - 1 : Nat) : Int) := by rw [wrap_id _ (by omega) (by omega)]; omega
  unfold spec_ruTimes.f
  rw [w]
  simp only [if_pos (show (0 : Int) ≤ ((l.length - 1 : Nat) : Int) by omega), if_pos (show ((l.length - 1 : Nat) : Int) < (l.length : Int) by omega)]
  have e1 : wrap64 (rd l ((l.length - 1 : Nat) : Int) + 1) = l.getD (l.length - 1) 0 + 1 := by
    show wrap64 (l.getD (l.length - 1) 0 + 1) = _
    rw [wrap_id _ (by omega) (by omega)]
  simp only [e1, if_pos (show 0 ≤ l.getD (l.length - 1) 0 + 1 by omega), if_pos (show (l.getD (l.length - 1) 0 + 1).toNat ≤ 35184372088832 by omega)]
  have := times_outer l g (l.getD (l.length - 1) 0 + 1).toNat (by omega) l.length 0 (by omega)
  rw [tabf_ext _ _ (fun _ => 0) (fun v _ => by unfold soFar; rw [List.drop_zero]; omega), ← replicate_tabf] at this
  exact this
theorem WaysToMeasure_same (l : List Int) (n : Int) (hm : l.length ≤ 1099511627776) : ∃ r, Ev (fun k => spec_WaysToMeasure.f k l n) r ∧ Ev (fun k => impl_WaysToMeasure.f k l n) r := by
  obtain ⟨b, hs, hi, jb⟩ := ruler_same l hm
  have no1 : Ev (fun k => spec_WaysToMeasure.j0 k l n true) (0, false) := by
    refine Ev.step (fun k => by rw [spec_WaysToMeasure.j0]) ?_
    simp only [if_true]
    exact Ev.now _
  unfold spec_WaysToMeasure.f impl_WaysToMeasure.f
  cases b with
  | false => exact ⟨(0, false), Ev.bind hs (by simp only [Bool.false_eq_true, if_false]; exact no1), Ev.bind hi (by simp only [Bool.false_eq_true, if_false]; exact Ev.now _)⟩
  | true =>
    have g := jb.1 rfl
    by_cases c : 1 ≤ n ∧ n ≤ 60
    · have h2 := g.1
      have bl := g.2.2.1 (l.length - 1) (by omega)
      obtain ⟨m, rfl⟩ : ∃ m : Nat, n = (m : Int) := ⟨n.toNat, by omega⟩
      refine ⟨(cntv (diffs l) (m : Int), true), Ev.bind hs ?_, Ev.bind hi ?_⟩
      · simp only [if_true, l1In_eq, Option.bind_some, decide_eq_true c, Bool.not_true]
        refine Ev.step (fun k => by rw [spec_WaysToMeasure.j0]) ?_
        simp only [Bool.false_eq_true, if_false]
        refine Ev.bind (times_ev l g) ?_
        simp only [tabf_length]
        by_cases q : (m : Int) ≥ ((l.getD (l.length - 1) 0 + 1).toNat : Int)
        · simp only [if_pos q]
          have z : cntv (diffs l) (m : Int) = 0 := by
            unfold cntv
            rw [List.count_eq_zero_of_not_mem]
            · rfl
            · intro hmem
              have := diffs_in (l.getD (l.length - 1) 0) l (fun x hx => by
                obtain ⟨j, hj, rfl⟩ := List.getElem_of_mem hx
                have e : l[j] = l.getD j 0 := by rw [List.getD_eq_getElem?_getD, List.getElem?_eq_getElem hj]; rfl
                rw [e]
                have := g.2.2.1 j hj
                rcases Nat.lt_or_ge j (l.length - 1) with z | z
                · have := ruler_lt g j (l.length - 1 - j - 1) (by omega)
                  rw [show j + (l.length - 1 - j - 1) + 1 = l.length - 1 by omega] at this
                  omega
                · rw [show j = l.length - 1 by omega]; omega) _ hmem
              omega
          rw [z]
          exact Ev.now _
        · simp only [if_neg q, if_pos (show (0 : Int) ≤ (m : Int) by omega), if_pos (show (m : Int) < ((l.getD (l.length - 1) 0 + 1).toNat : Int) by omega), rd_nat]
          rw [tabf_getD _ _ m (by omega)]
          exact Ev.now _
      · simp only [if_true, within_eq, Option.bind_some, decide_eq_true c]
        refine Ev.bind (ms_ev l g) ?_
        simp only [if_pos (show (0 : Int) ≤ (m : Int) by omega), if_pos (show (m : Int) < 61 by omega), rd_nat]
        rw [tabf_getD _ _ m (by omega)]
        exact Ev.now _
    · refine ⟨(0, false), Ev.bind hs ?_, Ev.bind hi ?_⟩
      · simp only [if_true, l1In_eq, Option.bind_some, decide_eq_false c, Bool.not_false]
        exact no1
      · simp only [if_true, within_eq, Option.bind_some, decide_eq_false c, Bool.false_eq_true, if_false]
        exact Ev.now _
theorem FnExactWaysToMeasure : laws_FnExactWaysToMeasure.Pure := by
  intro l0 a1 h1 h2 h3 w_a1
  apply Ev.rounds
  unfold laws_FnExactWaysToMeasure.f
  by_cases c : (l0.length : Int) > 1048576
  · simp only [if_pos c]; exact Ev.now _
  · simp only [if_neg c]
    have hm : l0.length ≤ 1099511627776 := by omega
    obtain ⟨⟨r1, r2⟩, hs, hi⟩ := WaysToMeasure_same l0 a1 hm
    refine Ev.bind (toInt_ev l0 hm) ?_
    refine Ev.bind hs ?_
    refine Ev.bind (toInt_ev l0 hm) ?_
    refine Ev.bind hi ?_
    simp only [if_true, bne_self_eq_false, Bool.false_eq_true, if_false]
    refine Ev.step (fun k => by rw [laws_FnExactWaysToMeasure.j0]) ?_
    simp only [Bool.false_eq_true, if_false]
    refine Ev.bind (toInt_ev l0 hm) ?_
    refine Ev.bind (eq_ev l0 hm) ?_
    exact Ev.now _

end Go.Proofs.Ytfapijfjonnmcaa.Pure
