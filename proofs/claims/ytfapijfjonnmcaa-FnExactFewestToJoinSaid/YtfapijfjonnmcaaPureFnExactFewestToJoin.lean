/- For every list of whole numbers, the program's FewestToJoin tells what the reference's tells, and the list reads as before. No conditions. -/
import Derived.Test.YtfapijfjonnmcaaPFnExactFewestToJoinx4
namespace Go.Proofs.Ytfapijfjonnmcaa.Pure
open Go.RowKit Go.Proofs.Ytfapijfjonnmcaa.PFnExactFewestToJoin Go.Proofs.YtfapijfjonnmcaaW.PrintWords Go.Proofs.YtfapijfjonnmcaaW.PrintLast
set_option linter.unusedVariables false
set_option linter.unusedSimpArgs false

theorem wrap_id (x : Int) (h0 : -9223372036854775808 ≤ x) (h1 : x ≤ 9223372036854775807) : wrap64 x = x := by
  unfold wrap64; omega
theorem wrap_succ (i : Nat) (h : i < 4611686018427387904) : wrap64 ((i : Int) + 1) = ((i + 1 : Nat) : Int) := by
  rw [wrap_id _ (by omega) (by omega)]; rfl
theorem rd_nat (l : List Int) (i : Nat) : rd l (i : Int) = l.getD i 0 := rfl
theorem getD_some (l : List Int) (i : Nat) (h : i < l.length) : l[i]? = some (l.getD i 0) := by
  rw [List.getD_eq_getElem?_getD, List.getElem?_eq_getElem h]; rfl
theorem bool_same {b c : Bool} {P : Prop} (hb : b = true ↔ P) (hc : c = true ↔ P) : b = c := by
  cases b <;> cases c <;> simp_all

theorem own_eq (l : List Int) (h : l.length < 17592186044416) : spec_l1Own.f l = some l := by
  unfold spec_l1Own.f
  show (if (List.length ([] : List Int)) + l.length < 17592186044416 then some ([] ++ l) else none) = some l
  rw [if_pos (by rw [List.length_nil, Nat.zero_add]; exact h), List.nil_append]

/-- Few numbers in order. -/
def Ups (l : List Int) : Prop := l.length ≤ 20 ∧ True ∧ (∀ j, 1 ≤ j → j < l.length → l.getD (j - 1) 0 ≤ l.getD j 0)
theorem Ups.rise {l : List Int} (g : Ups l) (i : Nat) : ∀ d, i + d < l.length → l.getD i 0 ≤ l.getD (i + d) 0
  | 0, _ => Int.le_refl _
  | d + 1, h => Int.le_trans (g.rise i d (by omega)) (g.2.2 (i + (d + 1)) (by omega) h)
theorem getD_at (l : List Int) (i : Nat) (h : i < l.length) : l[i] = l.getD i 0 := by
  rw [List.getD_eq_getElem?_getD, List.getElem?_eq_getElem h]; rfl
theorem put_eq (l : List Int) (g : Ups l) (n : Int) (p : Nat) (hp : p ≤ l.length) (ha : p = 0 ∨ l.getD (p - 1) 0 ≤ n) (hb : ∀ j, p ≤ j → j < l.length → n < l.getD j 0) :
    l.take p ++ [n] ++ l.drop p = (l ++ [n]).mergeSort (fun x y => decide (x ≤ y)) := by
  have pl : l.Pairwise (· ≤ ·) := List.pairwise_iff_getElem.mpr (fun i j hi hj hij => by
    rw [getD_at l i hi, getD_at l j hj]
    have := g.rise i (j - i) (by omega)
    rwa [show i + (j - i) = j by omega] at this)
  have mt : ∀ a ∈ l.take p, a ≤ n := fun a h => by
    obtain ⟨i, hi, e⟩ := List.mem_take_iff_getElem.mp h
    have hi2 : i < l.length := by omega
    have := g.rise i (p - 1 - i) (by omega)
    rw [show i + (p - 1 - i) = p - 1 by omega] at this
    rw [← e, getD_at l i hi2]
    rcases ha with ha | ha
    · omega
    · omega
  have md : ∀ b ∈ l.drop p, n ≤ b := fun b h => by
    obtain ⟨j, hj, e⟩ := List.mem_drop_iff_getElem.mp h
    rw [← e, getD_at l _ (by omega)]
    have := hb (p + j) (by omega) (by omega)
    omega
  have p1 : (l.take p ++ [n] ++ l.drop p).Pairwise (· ≤ ·) := by
    refine List.pairwise_append.mpr ⟨List.pairwise_append.mpr ⟨pl.sublist (List.take_sublist _ _), List.pairwise_singleton _ _, fun a h b hb' => by rw [List.mem_singleton.mp hb']; exact mt a h⟩, pl.sublist (List.drop_sublist _ _), fun a h b hb' => ?_⟩
    rcases List.mem_append.mp h with h | h
    · exact Int.le_trans (mt a h) (md b hb')
    · rw [List.mem_singleton.mp h]; exact md b hb'
  have p2 : ((l ++ [n]).mergeSort (fun x y => decide (x ≤ y))).Pairwise (· ≤ ·) :=
    (List.pairwise_mergeSort (le := fun x y : Int => decide (x ≤ y)) (fun a b c h1 h2 => decide_eq_true (Int.le_trans (of_decide_eq_true h1) (of_decide_eq_true h2))) (fun a b => by
      rcases Int.le_total a b with h | h
      · simp [h]
      · simp [h]) (l ++ [n])).imp (fun h => of_decide_eq_true h)
  have pm : (l.take p ++ [n] ++ l.drop p).Perm (l ++ [n]) := by
    have e : (l.take p ++ l.drop p) ++ [n] = l ++ [n] := by rw [List.take_append_drop]
    rw [← e, List.append_assoc, List.append_assoc]
    exact List.Perm.append_left _ List.perm_append_comm
  exact List.Perm.eq_of_pairwise (le := fun x y : Int => x ≤ y) (fun a b _ _ h1 h2 => Int.le_antisymm h1 h2) p1 p2 (pm.trans (List.mergeSort_perm _ _).symm)
theorem put_loop (l : List Int) (g : Ups l) (n : Int) : ∀ p, p ≤ l.length → (∀ j, p ≤ j → j < l.length → n < l.getD j 0) →
    Ev (fun k => spec_piPut.l0 k l n (p : Int)) ((l ++ [n]).mergeSort (fun x y => decide (x ≤ y)))
  | 0, h, hb => by
    have hg := g.1
    refine Ev.step (fun k => by rw [spec_piPut.l0]) ?_
    simp only [if_neg (show ¬ (((0 : Nat) : Int) > 0) by omega), if_pos (show (0 : Int) ≤ ((0 : Nat) : Int) by omega), if_pos (show ((0 : Nat) : Int) ≤ (l.length : Int) by omega), Int.toNat_natCast]
    rw [own_eq _ (by rw [List.length_take]; omega), Option.bind_some, Option.bind_some, if_pos (by rw [List.length_take]; simp only [List.length_singleton]; omega), Option.bind_some,
      if_pos (by rw [List.length_append, List.length_take, List.length_drop]; simp only [List.length_singleton]; omega), put_eq l g n 0 h (.inl rfl) hb]
    exact Ev.now _
  | p + 1, h, hb => by
    have hg := g.1
    have w : wrap64 (((p + 1 : Nat) : Int) - 1) = (p : Int) := by rw [wrap_id _ (by omega) (by omega)]; omega
    refine Ev.step (fun k => by rw [spec_piPut.l0]) ?_
    rw [w]
    by_cases c : rd l (p : Int) > n
    · simp only [if_pos (show (((p + 1 : Nat) : Int) > 0) by omega), if_pos (show (0 : Int) ≤ (p : Int) by omega), if_pos (show (p : Int) < (l.length : Int) by omega), if_pos c]
      exact put_loop l g n p (by omega) (fun j h1 h2 => by
        by_cases e : j = p
        · subst e; exact c
        · exact hb j (by omega) h2)
    · simp only [if_pos (show (((p + 1 : Nat) : Int) > 0) by omega), if_pos (show (0 : Int) ≤ (p : Int) by omega), if_pos (show (p : Int) < (l.length : Int) by omega), if_neg c, if_pos (show (0 : Int) ≤ ((p + 1 : Nat) : Int) by omega), if_pos (show ((p + 1 : Nat) : Int) ≤ (l.length : Int) by omega), Int.toNat_natCast]
      have c' : l.getD p 0 ≤ n := by have e : rd l (p : Int) = l.getD p 0 := rfl; rw [e] at c; omega
      rw [own_eq _ (by rw [List.length_take]; omega), Option.bind_some, Option.bind_some, if_pos (by rw [List.length_take]; simp only [List.length_singleton]; omega), Option.bind_some,
        if_pos (by rw [List.length_append, List.length_take, List.length_drop]; simp only [List.length_singleton]; omega), put_eq l g n (p + 1) h (.inr (by simpa using c')) hb]
      exact Ev.now _

theorem eq_loop (a : List Int) (hm : a.length ≤ 1099511627776) : ∀ (d i : Nat), i + d = a.length → Ev (fun k => laws_eqIntS.l0 k a a (i : Int)) true
  | 0, i, h => by
    refine Ev.step (fun k => by rw [laws_eqIntS.l0]) ?_
    simp only [if_neg (show ¬ ((i : Int) < (a.length : Int)) by omega)]
    exact Ev.now _
  | d + 1, i, h => by
    refine Ev.step (fun k => by rw [laws_eqIntS.l0]) ?_
    simp only [if_pos (show (i : Int) < (a.length : Int) by omega), if_pos (show (0 : Int) ≤ (i : Int) by omega), if_true]
    rw [wrap_succ i (by omega)]
    exact eq_loop a hm d (i + 1) (by omega)
theorem eq_ev (a : List Int) (hm : a.length ≤ 1099511627776) : Ev (fun k => laws_eqIntS.f k a a) true := by
  unfold laws_eqIntS.f
  simp only [if_true]
  exact eq_loop a hm a.length 0 (by omega)

theorem toInt_loop (l : List Int) (hm : l.length ≤ 1099511627776) : ∀ (d i : Nat) (cur : List Int), i + d = l.length → cur.length = l.length → (∀ j, j < i → cur[j]? = l[j]?) → Ev (fun k => laws_toIntS.l0 k l cur (i : Int)) l
  | 0, i, cur, h, hc, hj => by
    refine Ev.step (fun k => by rw [laws_toIntS.l0]) ?_
    simp only [if_neg (show ¬ ((i : Int) < (l.length : Int)) by omega)]
    have e : cur = l := by
      apply List.ext_getElem?
      intro j
      by_cases c : j < i
      · exact hj j c
      · rw [List.getElem?_eq_none (by omega), List.getElem?_eq_none (by omega)]
    rw [e]
    exact Ev.now _
  | d + 1, i, cur, h, hc, hj => by
    refine Ev.step (fun k => by rw [laws_toIntS.l0]) ?_
    simp only [if_pos (show (i : Int) < (l.length : Int) by omega), if_pos (show (0 : Int) ≤ (i : Int) by omega), if_pos (show (i : Int) < (cur.length : Int) by omega)]
    rw [wrap_succ i (by omega), Int.toNat_natCast, rd_nat]
    refine toInt_loop l hm d (i + 1) _ (by omega) (by rw [List.length_set]; exact hc) ?_
    intro j hlt
    rw [List.getElem?_set]
    by_cases c : i = j
    · subst c
      rw [if_pos rfl, if_pos (by omega), getD_some l i (by omega)]
    · rw [if_neg c]
      exact hj j (by omega)
theorem toInt_ev (l : List Int) (hm : l.length ≤ 1099511627776) : Ev (fun k => laws_toIntS.f k l) l := by
  unfold laws_toIntS.f
  simp only [if_pos (show (0 : Int) ≤ (l.length : Int) by omega), if_pos (show ((l.length : Int)).toNat ≤ 35184372088832 by omega)]
  exact toInt_loop l hm l.length 0 _ (by omega) (by simp) (fun j hj => by omega)

theorem l1In_eq (x lo hi : Int) : spec_l1In.f x lo hi = some (decide (lo ≤ x ∧ x ≤ hi)) := by
  unfold spec_l1In.f
  by_cases c : x ≥ lo
  · rw [if_pos c]; congr 1; by_cases d : x ≤ hi
    · rw [decide_eq_true d, decide_eq_true ⟨c, d⟩]
    · rw [decide_eq_false d, decide_eq_false (fun h => d h.2)]
  · rw [if_neg c, decide_eq_false (fun h => c h.1)]

theorem l1All_loop (lo hi : Int) (l : List Int) (hm : l.length ≤ 1099511627776) : ∀ (d i : Nat), i + d = l.length →
    ∃ b, Ev (fun k => spec_l1All.l0 k lo hi l (l.length : Int) (i : Int)) b ∧ (b = true ↔ ∀ j, i ≤ j → j < l.length → lo ≤ l.getD j 0 ∧ l.getD j 0 ≤ hi)
  | 0, i, h => by
    refine ⟨true, ?_, by simp only [true_iff]; intro j h1 h2; omega⟩
    refine Ev.step (fun k => by rw [spec_l1All.l0]) ?_
    simp only [if_neg (show ¬ ((i : Int) < (l.length : Int)) by omega)]
    exact Ev.now _
  | d + 1, i, h => by
    by_cases c : lo ≤ l.getD i 0 ∧ l.getD i 0 ≤ hi
    · obtain ⟨b, hb, hj⟩ := l1All_loop lo hi l hm d (i + 1) (by omega)
      refine ⟨b, ?_, ?_⟩
      · refine Ev.step (fun k => by rw [spec_l1All.l0]) ?_
        simp only [if_pos (show (i : Int) < (l.length : Int) by omega), if_pos (show (0 : Int) ≤ (i : Int) by omega), l1In_eq, rd_nat, decide_eq_true c, Option.bind_some, if_true]
        rw [wrap_succ i (by omega)]
        exact hb
      · rw [hj]
        constructor
        · intro H j h1 h2
          by_cases e : j = i
          · rw [e]; exact c
          · exact H j (by omega) h2
        · intro H j h1 h2
          exact H j (by omega) h2
    · refine ⟨false, ?_, ?_⟩
      · refine Ev.step (fun k => by rw [spec_l1All.l0]) ?_
        simp only [if_pos (show (i : Int) < (l.length : Int) by omega), if_pos (show (0 : Int) ≤ (i : Int) by omega), l1In_eq, rd_nat, decide_eq_false c, Option.bind_some, Bool.false_eq_true, if_false]
        exact Ev.now _
      · constructor
        · intro H; cases H
        · intro H; exact absurd (H i (by omega) (by omega)) c
theorem l1All_ev (lo hi : Int) (l : List Int) (hm : l.length ≤ 1099511627776) :
    ∃ b, Ev (fun k => spec_l1All.f k l lo hi) b ∧ (b = true ↔ ∀ j, j < l.length → lo ≤ l.getD j 0 ∧ l.getD j 0 ≤ hi) := by
  obtain ⟨b, hb, hj⟩ := l1All_loop lo hi l hm l.length 0 (by omega)
  exact ⟨b, hb, by rw [hj]; exact ⟨fun H j h => H j (by omega) h, fun H j _ h => H j h⟩⟩

theorem areWithin_eq (l : List Int) (lo hi : Int) (hm : l.length ≤ 1099511627776) :
    ∃ b, impl_areWithin.f l lo hi = some b ∧ (b = true ↔ ∀ j, j < l.length → lo ≤ l.getD j 0 ∧ l.getD j 0 ≤ hi) := by
  refine ⟨_, by unfold impl_areWithin.f; rw [if_pos (by omega)], ?_⟩
  rw [Bool.not_eq_true', List.any_eq_false]
  constructor
  · intro H j hj
    have := H (l.getD j 0) (by rw [List.getD_eq_getElem?_getD, List.getElem?_eq_getElem hj]; exact List.getElem_mem hj)
    simpa using this
  · intro H x hx
    obtain ⟨j, hj, rfl⟩ := List.getElem_of_mem hx
    have := H j hj
    rw [List.getD_eq_getElem?_getD, List.getElem?_eq_getElem hj] at this
    simpa using this

theorem within_eq (x lo hi : Int) : impl_within.f x lo hi = some (decide (lo ≤ x ∧ x ≤ hi)) := by
  unfold impl_within.f
  by_cases c : lo ≤ x
  · rw [if_pos c]; congr 1; by_cases d : x ≤ hi
    · rw [decide_eq_true d, decide_eq_true ⟨c, d⟩]
    · rw [decide_eq_false d, decide_eq_false (fun h => d h.2)]
  · rw [if_neg c, decide_eq_false (fun h => c h.1)]

theorem ms_sorted (xs : List Int) : (xs.mergeSort (fun x y => decide (x ≤ y))).Pairwise (· ≤ ·) :=
  (List.pairwise_mergeSort (le := fun x y : Int => decide (x ≤ y)) (fun a b c h1 h2 => decide_eq_true (Int.le_trans (of_decide_eq_true h1) (of_decide_eq_true h2))) (fun a b => by
    rcases Int.le_total a b with h | h
    · simp [h]
    · simp [h]) xs).imp (fun h => of_decide_eq_true h)
theorem ms_perm {xs ys : List Int} (p : xs.Perm ys) : xs.mergeSort (fun x y => decide (x ≤ y)) = ys.mergeSort (fun x y => decide (x ≤ y)) :=
  List.Perm.eq_of_pairwise (le := fun x y : Int => x ≤ y) (fun a b _ _ h1 h2 => Int.le_antisymm h1 h2) (ms_sorted xs) (ms_sorted ys) ((List.mergeSort_perm _ _).trans (p.trans (List.mergeSort_perm _ _).symm))
theorem ms_ups (xs : List Int) (h : xs.length ≤ 20) : Ups (xs.mergeSort (fun x y => decide (x ≤ y))) := by
  refine ⟨by rw [List.length_mergeSort]; exact h, trivial, fun j h1 h2 => ?_⟩
  have := List.pairwise_iff_getElem.mp (ms_sorted xs) (j - 1) j (by omega) h2 (by omega)
  rw [getD_at _ _ (by omega), getD_at _ _ h2] at this
  exact this
theorem chSorted_loop (l : List Int) (hm : l.length ≤ 12) : ∀ (d i : Nat), i + d = l.length →
    Ev (fun k => spec_chSorted.l0 k ((l.take i).mergeSort (fun x y => decide (x ≤ y))) l (l.length : Int) (i : Int)) (l.mergeSort (fun x y => decide (x ≤ y)))
  | 0, i, h => by
    refine Ev.step (fun k => by rw [spec_chSorted.l0]) ?_
    simp only [if_neg (show ¬ ((i : Int) < (l.length : Int)) by omega)]
    rw [List.take_of_length_le (by omega)]
    exact Ev.now _
  | d + 1, i, h => by
    refine Ev.step (fun k => by rw [spec_chSorted.l0]) ?_
    simp only [if_pos (show (i : Int) < (l.length : Int) by omega), if_pos (show (0 : Int) ≤ (i : Int) by omega)]
    have u := ms_ups (l.take i) (by rw [List.length_take]; omega)
    have e : (((l.take i).mergeSort (fun x y => decide (x ≤ y))) ++ [rd l (i : Int)]).mergeSort (fun x y => decide (x ≤ y)) = (l.take (i + 1)).mergeSort (fun x y => decide (x ≤ y)) := by
      apply ms_perm
      rw [List.take_add_one, getD_some l i (by omega)]
      exact List.Perm.append_right _ (List.mergeSort_perm _ _)
    have hp := put_loop _ u (rd l (i : Int)) _ (Nat.le_refl _) (fun j h1 h2 => absurd h2 (by omega))
    rw [e] at hp
    refine Ev.bind (show Ev (fun k => spec_piPut.f k ((l.take i).mergeSort (fun x y => decide (x ≤ y))) (rd l (i : Int))) _ from hp) ?_
    rw [wrap_succ i (by omega)]
    exact chSorted_loop l hm d (i + 1) (by omega)
/-- The sum of the first numbers. -/
def psum (s : List Int) : Nat → Int
  | 0 => 0
  | t + 1 => psum s t + s.getD t 0
def Few (s : List Int) : Prop := s.length ≤ 12 ∧ ∀ j, j < s.length → 1 ≤ s.getD j 0 ∧ s.getD j 0 ≤ 100
theorem psum_step {s : List Int} (g : Few s) (t : Nat) (h : t < s.length) : psum s t + 1 ≤ psum s (t + 1) ∧ psum s (t + 1) ≤ psum s t + 100 := by
  have := g.2 t h
  have e : psum s (t + 1) = psum s t + s.getD t 0 := rfl
  omega
theorem psum_mono {s : List Int} (g : Few s) (t : Nat) : ∀ d, t + d ≤ s.length → psum s t ≤ psum s (t + d)
  | 0, _ => Int.le_refl _
  | d + 1, h => by
    have a := psum_mono g t d (by omega)
    have b := psum_step g (t + d) (by omega)
    rw [← Nat.add_assoc]
    omega
theorem psum_bound {s : List Int} (g : Few s) : ∀ t, t ≤ s.length → 0 ≤ psum s t ∧ psum s t ≤ 100 * t
  | 0, _ => by simp [psum]
  | t + 1, h => by
    have a := psum_bound g t (by omega)
    have b := psum_step g t (by omega)
    omega
def worst (s : List Int) (t : Nat) : Int := if psum s (t + 1) > (s.length : Int) - t - 2 then psum s (t + 1) else (s.length : Int) - t - 2
theorem spec_join (s : List Int) (g : Few s) : ∀ (d i : Nat) (best : Int), i + d = s.length →
    ∃ r, Ev (fun k => spec_FewestToJoin.l0 k s best (psum s i) s (s.length : Int) (i : Int)) (r, true) ∧ r ≤ best ∧ (∀ t, i ≤ t → t < s.length → r ≤ worst s t) ∧ (r = best ∨ ∃ t, t < s.length ∧ r = worst s t)
  | 0, i, best, h => by
    refine ⟨best, ?_, Int.le_refl _, fun t h1 h2 => by omega, .inl rfl⟩
    refine Ev.step (fun k => by rw [spec_FewestToJoin.l0]) ?_
    simp only [if_neg (show ¬ ((i : Int) < (s.length : Int)) by omega)]
    exact Ev.now _
  | d + 1, i, best, h => by
    have hs := g.1
    have b0 := psum_bound g i (by omega)
    have b1 := psum_step g i (by omega)
    have e1 : wrap64 (psum s i + rd s (i : Int)) = psum s (i + 1) := by
      have e : psum s (i + 1) = psum s i + rd s (i : Int) := rfl
      rw [wrap_id _ (by omega) (by omega), e]
    have e2 : wrap64 (wrap64 ((s.length : Int) - i) - 2) = (s.length : Int) - i - 2 := by
      rw [wrap_id ((s.length : Int) - i) (by omega) (by omega), wrap_id _ (by omega) (by omega)]
    have e3 : spec_l1Most.f (psum s (i + 1)) ((s.length : Int) - i - 2) = some (worst s i) := by
      unfold spec_l1Most.f worst
      split <;> rfl
    have e4 : spec_l1Least.f best (worst s i) = some (if best < worst s i then best else worst s i) := by
      unfold spec_l1Least.f
      split <;> rfl
    obtain ⟨r, h1, h2, h3, h4⟩ := spec_join s g d (i + 1) (if best < worst s i then best else worst s i) (by omega)
    refine ⟨r, ?_, ?_, fun t t1 t2 => ?_, ?_⟩
    · refine Ev.step (fun k => by rw [spec_FewestToJoin.l0]) ?_
      simp only [if_pos (show (i : Int) < (s.length : Int) by omega), if_pos (show (0 : Int) ≤ (i : Int) by omega), e1, e2, e3, e4, Option.bind_some]
      rw [wrap_succ i (by omega)]
      exact h1
    · split at h2 <;> omega
    · by_cases e : t = i
      · subst e
        split at h2 <;> omega
      · exact h3 t (by omega) t2
    · rcases h4 with h4 | h4
      · split at h4
        · exact .inl h4
        · exact .inr ⟨i, by omega, h4⟩
      · exact .inr h4
theorem impl_in (s : List Int) (g : Few s) (o : Int) (h0 : 0 ≤ o) (ho : o ≤ 2000) : ∀ (d i : Nat), i + d = s.length → psum s i ≤ o →
    ∃ c, i ≤ c ∧ c ≤ s.length ∧ psum s c ≤ o ∧ (c = s.length ∨ o < psum s (c + 1)) ∧
      ((s.length : Int) - c - 1 ≤ o → Ev (fun k => impl_FewestToJoin.l1 k s o ((s.length : Int) - i) (o - psum s i) s (s.length : Int) (i : Int)) (o, true)) ∧
      (∀ r, ¬ (s.length : Int) - c - 1 ≤ o → Ev (fun k => impl_FewestToJoin.l0 k s (o + 1)) r → Ev (fun k => impl_FewestToJoin.l1 k s o ((s.length : Int) - i) (o - psum s i) s (s.length : Int) (i : Int)) r)
  | 0, i, h, hp => by
    have hs := g.1
    refine ⟨i, Nat.le_refl _, by omega, hp, .inl (by omega), fun hc => ?_, fun r hc hr => ?_⟩
    · refine Ev.step (fun k => by rw [impl_FewestToJoin.l1]) ?_
      rw [wrap_id _ (by omega) (by omega)]
      simp only [if_neg (show ¬ ((i : Int) < (s.length : Int)) by omega), if_pos hc]
      exact Ev.now _
    · refine Ev.step (fun k => by rw [impl_FewestToJoin.l1]) ?_
      rw [wrap_id ((s.length : Int) - i - 1) (by omega) (by omega), wrap_id (o + 1) (by omega) (by omega)]
      simp only [if_neg (show ¬ ((i : Int) < (s.length : Int)) by omega), if_neg hc]
      exact hr
  | d + 1, i, h, hp => by
    have hs := g.1
    have b0 := psum_bound g i (by omega)
    have b1 := psum_step g i (by omega)
    have e : psum s (i + 1) = psum s i + rd s (i : Int) := rfl
    by_cases c : rd s (i : Int) > o - psum s i
    · refine ⟨i, Nat.le_refl _, by omega, hp, .inr (by omega), fun hc => ?_, fun r hc hr => ?_⟩
      · refine Ev.step (fun k => by rw [impl_FewestToJoin.l1]) ?_
        rw [wrap_id ((s.length : Int) - i - 1) (by omega) (by omega)]
        simp only [if_pos (show (i : Int) < (s.length : Int) by omega), if_pos (show (0 : Int) ≤ (i : Int) by omega), if_pos c, if_pos hc]
        exact Ev.now _
      · refine Ev.step (fun k => by rw [impl_FewestToJoin.l1]) ?_
        rw [wrap_id ((s.length : Int) - i - 1) (by omega) (by omega), wrap_id (o + 1) (by omega) (by omega)]
        simp only [if_pos (show (i : Int) < (s.length : Int) by omega), if_pos (show (0 : Int) ≤ (i : Int) by omega), if_pos c, if_neg hc]
        exact hr
    · obtain ⟨c', c1, c2, c3, c4, c5, c6⟩ := impl_in s g o h0 ho d (i + 1) (by omega) (by omega)
      have w1 : wrap64 ((s.length : Int) - i - 1) = (s.length : Int) - (i + 1 : Nat) := by rw [wrap_id _ (by omega) (by omega)]; omega
      have w2 : wrap64 (o - psum s i - rd s (i : Int)) = o - psum s (i + 1) := by rw [wrap_id _ (by omega) (by omega)]; omega
      refine ⟨c', by omega, c2, c3, c4, fun hc => ?_, fun r hc hr => ?_⟩
      · refine Ev.step (fun k => by rw [impl_FewestToJoin.l1]) ?_
        simp only [if_pos (show (i : Int) < (s.length : Int) by omega), if_pos (show (0 : Int) ≤ (i : Int) by omega), if_neg c, w1, w2]
        rw [wrap_succ i (by omega)]
        exact c5 hc
      · refine Ev.step (fun k => by rw [impl_FewestToJoin.l1]) ?_
        simp only [if_pos (show (i : Int) < (s.length : Int) by omega), if_pos (show (0 : Int) ≤ (i : Int) by omega), if_neg c, w1, w2]
        rw [wrap_succ i (by omega)]
        exact c6 r hc hr
theorem impl_join (s : List Int) (g : Few s) (r : Int) (hr : r ≤ 2000) (h1 : r ≤ (s.length : Int) - 1) (h2 : ∀ t, t < s.length → r ≤ worst s t) (h3 : r = (s.length : Int) - 1 ∨ ∃ t, t < s.length ∧ r = worst s t) :
    ∀ (e : Nat) (o : Int), 0 ≤ o → o + e = r → Ev (fun k => impl_FewestToJoin.l0 k s o) (r, true) := by
  intro e
  induction e with
  | zero =>
    intro o h0 he
    obtain rfl : o = r := by omega
    obtain ⟨c, c1, c2, c3, c4, c5, c6⟩ := impl_in s g o h0 hr s.length 0 (by omega) (by simpa [psum] using h0)
    refine Ev.step (fun k => by rw [impl_FewestToJoin.l0]) ?_
    have := c5 (by
      rcases h3 with h3 | ⟨t, t1, t2⟩
      · omega
      · unfold worst at t2
        have hp : psum s (t + 1) ≤ o ∧ (s.length : Int) - t - 2 ≤ o := by split at t2 <;> omega
        have htc : t + 1 ≤ c := by
          rcases Nat.lt_or_ge c (t + 1) with z | z
          · have z2 : psum s (c + 1) ≤ psum s (t + 1) := by
              have := psum_mono g (c + 1) (t - c) (by omega)
              rw [show c + 1 + (t - c) = t + 1 by omega] at this
              exact this
            rcases c4 with q | q
            · omega
            · omega
          · exact z
        omega)
    simpa [psum] using this
  | succ e ih =>
    intro o h0 he
    obtain ⟨c, c1, c2, c3, c4, c5, c6⟩ := impl_in s g o h0 (by omega) s.length 0 (by omega) (by simpa [psum] using h0)
    refine Ev.step (fun k => by rw [impl_FewestToJoin.l0]) ?_
    have := c6 (r, true) (by
      intro hc
      rcases Nat.eq_zero_or_pos c with z | z
      · subst z
        omega
      · have q := h2 (c - 1) (by omega)
        unfold worst at q
        rw [Nat.sub_add_cancel z] at q
        split at q <;> omega) (ih (o + 1) (by omega) (by omega))
    simpa [psum] using this
theorem FewestToJoin_same (l : List Int) (hm : l.length ≤ 1099511627776) : ∃ r, Ev (fun k => spec_FewestToJoin.f k l) r ∧ Ev (fun k => impl_FewestToJoin.f k l) r := by
  unfold spec_FewestToJoin.f impl_FewestToJoin.f
  have no1 : Ev (fun k => spec_FewestToJoin.j0 k l true) (0, false) := by
    refine Ev.step (fun k => by rw [spec_FewestToJoin.j0]) ?_
    simp only [if_true]
    exact Ev.now _
  have no2 : Ev (fun k => impl_FewestToJoin.j0 k l true) (0, false) := by
    refine Ev.step (fun k => by rw [impl_FewestToJoin.j0]) ?_
    simp only [if_true]
    exact Ev.now _
  simp only [l1In_eq, within_eq, Option.bind_some]
  by_cases c : 1 ≤ (l.length : Int) ∧ (l.length : Int) ≤ 12
  · simp only [decide_eq_true c, if_true]
    obtain ⟨a, ha, ja⟩ := l1All_ev 1 100 l hm
    obtain ⟨b, hb, jb⟩ := areWithin_eq l 1 100 hm
    obtain rfl := bool_same ja jb
    rw [hb]
    simp only [Option.bind_some]
    cases a with
    | false => exact ⟨(0, false), Ev.bind ha no1, no2⟩
    | true =>
      have hl := ja.1 rfl
      obtain ⟨s, hs⟩ : ∃ s, l.mergeSort (fun x y => decide (x ≤ y)) = s := ⟨_, rfl⟩
      have hsl : s.length = l.length := by rw [← hs, List.length_mergeSort]
      have g : Few s := by
        refine ⟨by omega, fun j hj => ?_⟩
        have hmem : s.getD j 0 ∈ l := by
          rw [← getD_at s j hj]
          exact (by rw [← hs]; exact List.mergeSort_perm _ _ : s.Perm l).mem_iff.mp (List.getElem_mem hj)
        obtain ⟨i, hi, e⟩ := List.getElem_of_mem hmem
        have := hl i hi
        rw [← getD_at l i hi, e] at this
        exact this
      obtain ⟨r, q1, q2, q3, q4⟩ := spec_join s g s.length 0 ((s.length : Int) - 1) (by omega)
      have r0 : 0 ≤ r := by
        rcases q4 with q4 | ⟨t, t1, t2⟩
        · omega
        · have := (psum_bound g (t + 1) (by omega)).1
          unfold worst at t2
          split at t2 <;> omega
      refine ⟨(r, true), Ev.bind ha ?_, ?_⟩
      · refine Ev.step (fun k => by rw [spec_FewestToJoin.j0]) ?_
        simp only [Bool.not_true, Bool.false_eq_true, if_false]
        refine Ev.bind (show Ev (fun k => spec_chSorted.f k l) s from by
          have := chSorted_loop l (by omega) l.length 0 (by omega)
          rw [hs] at this
          show Ev (fun k => spec_chSorted.l0 k [] l (l.length : Int) 0) s
          simpa using this) ?_
        rw [wrap_id _ (by omega) (by omega)]
        simpa [psum] using q1
      · refine Ev.step (fun k => by rw [impl_FewestToJoin.j0]) ?_
        simp only [Bool.not_true, Bool.false_eq_true, if_false]
        refine Ev.bind (a := s) (by unfold hwSortedO; rw [if_pos (by omega), if_pos (by omega), hs]; exact Ev.now _) ?_
        exact impl_join s g r (by omega) q2 (fun t h => q3 t (Nat.zero_le _) h) q4 r.toNat 0 (Int.le_refl _) (by omega)
  · simp only [decide_eq_false c, Bool.false_eq_true, if_false]
    exact ⟨(0, false), no1, no2⟩
theorem FnExactFewestToJoin : laws_FnExactFewestToJoin.Pure := by
  intro l0 h1 h2 h3
  apply Ev.rounds
  unfold laws_FnExactFewestToJoin.f
  by_cases c : (l0.length : Int) > 1048576
  · simp only [if_pos c]; exact Ev.now _
  · simp only [if_neg c]
    have hm : l0.length ≤ 1099511627776 := by omega
    obtain ⟨⟨r1, r2⟩, hs, hi⟩ := FewestToJoin_same l0 hm
    refine Ev.bind (toInt_ev l0 hm) ?_
    refine Ev.bind hs ?_
    refine Ev.bind (toInt_ev l0 hm) ?_
    refine Ev.bind hi ?_
    simp only [if_true, bne_self_eq_false, Bool.false_eq_true, if_false]
    refine Ev.step (fun k => by rw [laws_FnExactFewestToJoin.j0]) ?_
    simp only [Bool.false_eq_true, if_false]
    refine Ev.bind (toInt_ev l0 hm) ?_
    refine Ev.bind (eq_ev l0 hm) ?_
    exact Ev.now _

end Go.Proofs.Ytfapijfjonnmcaa.Pure
