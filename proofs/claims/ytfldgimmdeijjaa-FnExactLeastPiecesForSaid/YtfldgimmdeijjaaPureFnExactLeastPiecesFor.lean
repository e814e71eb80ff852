/- For every number, the program's LeastPiecesFor tells what the reference's tells, in new memory. No conditions. -/
import Derived.Test.YtfldgimmdeijjaaPFnExactLeastPiecesForx3
namespace Go.Proofs.Ytfldgimmdeijjaa.Pure
open Go.RowKit Go.Proofs.Ytfldgimmdeijjaa.PFnExactLeastPiecesFor Go.Proofs.YtfldgimmdeijjaaW.PrintWords Go.Proofs.YtfldgimmdeijjaaW.PrintLast
set_option linter.unusedVariables false
set_option linter.unusedSimpArgs false

theorem wrap_id (x : Int) (h0 : -9223372036854775808 ≤ x) (h1 : x ≤ 9223372036854775807) : wrap64 x = x := by
  unfold wrap64; omega
theorem wrap_succ (i : Nat) (h : i < 4611686018427387904) : wrap64 ((i : Int) + 1) = ((i + 1 : Nat) : Int) := by
  rw [wrap_id _ (by omega) (by omega)]; rfl
theorem rd_nat (l : List Int) (i : Nat) : rd l (i : Int) = l.getD i 0 := rfl
theorem getD_some (l : List Int) (i : Nat) (h : i < l.length) : l[i]? = some (l.getD i 0) := by
  rw [List.getD_eq_getElem?_getD, List.getElem?_eq_getElem h]; rfl
theorem bool_same {b c : Bool} {P : Prop} (hb : b = true ↔ P) (hc : c = true ↔ P) : b = c := by
  cases b <;> cases c <;> simp_all

theorem eq_loop (a : List Int) (hm : a.length ≤ 1099511627776) : ∀ (d i : Nat), i + d = a.length → Ev (fun k => laws_eqIntS.l0 k a a (i : Int)) true
  | 0, i, h => by
    refine Ev.step (fun k => by rw [laws_eqIntS.l0]) ?_
    simp only [if_neg (show ¬ ((i : Int) < (a.length : Int)) by omega)]
    exact Ev.now _
  | d + 1, i, h => by
    refine Ev.step (fun k => by rw [laws_eqIntS.l0]) ?_
    simp only [if_pos (show (i : Int) < (a.length : Int) by omega), if_pos (show (0 : Int) ≤ (i : Int) by omega), if_true]
    rw [wrap_succ i (by omega)]
    exact eq_loop a hm d (i + 1) (by omega)
theorem eq_ev (a : List Int) (hm : a.length ≤ 1099511627776) : Ev (fun k => laws_eqIntS.f k a a) true := by
  unfold laws_eqIntS.f
  simp only [if_true]
  exact eq_loop a hm a.length 0 (by omega)

theorem mark_loop : ∀ (d i : Nat) (cur : List Int), i + d = cur.length → cur.length ≤ 1099511627776 → (∀ j, j < i → cur[j]? = some ((j : Int) + 1)) →
    ∃ m : List Int, m.length = cur.length ∧ (∀ j, j < m.length → m[j]? = some ((j : Int) + 1)) ∧ Ev (fun k => laws_markIntS.l0 k cur ((i : Int) + 1) (i : Int)) ((cur.length : Int) + 1, m)
  | 0, i, cur, h, hm, hj => by
    refine ⟨cur, rfl, fun j hlt => hj j (by omega), ?_⟩
    refine Ev.step (fun k => by rw [laws_markIntS.l0]) ?_
    simp only [if_neg (show ¬ ((i : Int) < (cur.length : Int)) by omega)]
    rw [show ((cur.length : Int) + 1) = ((i : Int) + 1) by omega]
    exact Ev.now _
  | d + 1, i, cur, h, hm, hj => by
    obtain ⟨m, h1, h2, h3⟩ := mark_loop d (i + 1) (cur.set i ((i : Int) + 1)) (by simp; omega) (by simpa using hm) (fun j hlt => by
      rw [List.getElem?_set]
      by_cases c : i = j
      · subst c; rw [if_pos rfl, if_pos (by omega)]
      · rw [if_neg c]; exact hj j (by omega))
    rw [List.length_set] at h1 h3
    refine ⟨m, h1, h2, ?_⟩
    refine Ev.step (fun k => by rw [laws_markIntS.l0]) ?_
    simp only [if_pos (show (i : Int) < (cur.length : Int) by omega), if_pos (show (0 : Int) ≤ (i : Int) by omega)]
    rw [wrap_succ i (by omega), Int.toNat_natCast, show wrap64 ((i : Int) + 1 + 1) = ((i + 1 : Nat) : Int) + 1 by rw [wrap_id _ (by omega) (by omega)]; omega]
    exact h3
theorem held_loop (m : List Int) (hm : m.length ≤ 1099511627776) (hj : ∀ j, j < m.length → m[j]? = some ((j : Int) + 1)) : ∀ (d i : Nat), i + d = m.length →
    Ev (fun k => laws_heldIntS.l0 k m ((i : Int) + 1) (i : Int)) ((m.length : Int) + 1)
  | 0, i, h => by
    refine Ev.step (fun k => by rw [laws_heldIntS.l0]) ?_
    simp only [if_neg (show ¬ ((i : Int) < (m.length : Int)) by omega)]
    rw [show ((m.length : Int) + 1) = ((i : Int) + 1) by omega]
    exact Ev.now _
  | d + 1, i, h => by
    refine Ev.step (fun k => by rw [laws_heldIntS.l0]) ?_
    have e : rd m (i : Int) = (i : Int) + 1 := by
      rw [rd_nat, List.getD_eq_getElem?_getD, hj i (by omega)]; rfl
    simp only [if_pos (show (i : Int) < (m.length : Int) by omega), if_pos (show (0 : Int) ≤ (i : Int) by omega), e, if_true]
    rw [wrap_succ i (by omega), show wrap64 ((i : Int) + 1 + 1) = ((i + 1 : Nat) : Int) + 1 by rw [wrap_id _ (by omega) (by omega)]; omega]
    exact held_loop m hm hj d (i + 1) (by omega)
theorem mark_ev (l : List Int) (hm : l.length ≤ 1099511627776) : ∃ m : List Int, Ev (fun k => laws_markIntS.f k l 1) ((l.length : Int) + 1, m) ∧ Ev (fun k => laws_heldIntS.f k m 1) ((l.length : Int) + 1) := by
  obtain ⟨m, h1, h2, h3⟩ := mark_loop l.length 0 l (by omega) hm (fun j h => by omega)
  refine ⟨m, h3, ?_⟩
  rw [← h1]
  exact held_loop m (by omega) h2 m.length 0 (by omega)

theorem l1In_eq (x lo hi : Int) : spec_l1In.f x lo hi = some (decide (lo ≤ x ∧ x ≤ hi)) := by
  unfold spec_l1In.f
  by_cases c : x ≥ lo
  · rw [if_pos c]; congr 1; by_cases d : x ≤ hi
    · rw [decide_eq_true d, decide_eq_true ⟨c, d⟩]
    · rw [decide_eq_false d, decide_eq_false (fun h => d h.2)]
  · rw [if_neg c, decide_eq_false (fun h => c h.1)]

theorem within_eq (x lo hi : Int) : impl_within.f x lo hi = some (decide (lo ≤ x ∧ x ≤ hi)) := by
  unfold impl_within.f
  by_cases c : lo ≤ x
  · rw [if_pos c]; congr 1; by_cases d : x ≤ hi
    · rw [decide_eq_true d, decide_eq_true ⟨c, d⟩]
    · rw [decide_eq_false d, decide_eq_false (fun h => d h.2)]
  · rw [if_neg c, decide_eq_false (fun h => c h.1)]

/-- The pieces before they are put in order. -/
def raw : Nat → Int → List Int → Int → Option (List Int)
  | 0, _, _, _ => none
  | k + 1, x0, x4, x5 => if x5 ≤ x0 then raw k (wrap64 (x0 - x5)) (x4 ++ [x5]) (wrap64 (x5 * 2)) else if x0 > 0 then some (x4 ++ [x0]) else some x4
theorem raw_impl : ∀ k x0 x4 x5 xs, raw k x0 x4 x5 = some xs → x4.length ≤ xs.length ∧ (xs.length < 17592186044416 → impl_LeastPiecesFor.l0 k x0 x4 x5 = some (xs.mergeSort (fun x y => decide (x ≤ y)), true))
  | 0, _, _, _, _, h => by simp [raw] at h
  | k + 1, x0, x4, x5, xs, h => by
    rw [raw] at h
    by_cases c : x5 ≤ x0
    · rw [if_pos c] at h
      obtain ⟨h1, h2⟩ := raw_impl k _ _ _ xs h
      rw [List.length_append, List.length_singleton] at h1
      refine ⟨by omega, fun hx => ?_⟩
      rw [impl_LeastPiecesFor.l0, if_pos c, if_pos (by omega)]
      exact h2 hx
    · rw [if_neg c] at h
      by_cases d : x0 > 0
      · rw [if_pos d] at h
        obtain rfl := Option.some.inj h
        refine ⟨by simp, fun hx => ?_⟩
        rw [List.length_append, List.length_singleton] at hx
        rw [impl_LeastPiecesFor.l0, if_neg c, if_pos d, if_pos (by omega)]
        unfold slices_Sort_int_int.f
        rw [if_pos (by rw [List.length_append, List.length_singleton]; exact hx)]
        rfl
      · rw [if_neg d] at h
        obtain rfl := Option.some.inj h
        refine ⟨Nat.le_refl _, fun hx => ?_⟩
        rw [impl_LeastPiecesFor.l0, if_neg c, if_neg d]
        unfold slices_Sort_int_int.f
        rw [if_pos hx]
        rfl
theorem sort_is (xs ys : List Int) (h : ys.Pairwise (· ≤ ·)) (p : ys.Perm xs) : xs.mergeSort (fun x y => decide (x ≤ y)) = ys := by
  have p2 : (xs.mergeSort (fun x y => decide (x ≤ y))).Pairwise (· ≤ ·) :=
    (List.pairwise_mergeSort (le := fun x y : Int => decide (x ≤ y)) (fun a b c h1 h2 => decide_eq_true (Int.le_trans (of_decide_eq_true h1) (of_decide_eq_true h2))) (fun a b => by
      rcases Int.le_total a b with h | h
      · simp [h]
      · simp [h]) xs).imp (fun h => of_decide_eq_true h)
  exact List.Perm.eq_of_pairwise (le := fun x y : Int => x ≤ y) (fun a b _ _ h1 h2 => Int.le_antisymm h1 h2) p2 h ((List.mergeSort_perm _ _).trans p.symm)
def chk (d : Nat) : Bool := match spec_LeastPiecesFor.f 40 (d : Int), raw 40 (d : Int) [] 1 with
  | some (ys, true), some xs => decide (xs.length ≤ 60) && ys.isPerm xs && decide (ys.Pairwise (· ≤ ·))
  | _, _ => false
theorem chk_all : ∀ d : Nat, d < 61 → chk d = true := by decide +kernel
theorem least_same (a : Int) : ∃ r : List Int × Bool, r.1.length ≤ 1099511627776 ∧ Ev (fun k => spec_LeastPiecesFor.f k a) r ∧ Ev (fun k => impl_LeastPiecesFor.f k a) r := by
  by_cases d : 0 ≤ a ∧ a ≤ 60
  · have c := chk_all a.toNat (by omega)
    unfold chk at c
    rw [show ((a.toNat : Nat) : Int) = a by omega] at c
    split at c
    · rename_i ys xs hs hx
      rw [Bool.and_eq_true, Bool.and_eq_true] at c
      obtain ⟨⟨c1, c2⟩, c3⟩ := c
      have c1 := of_decide_eq_true c1
      have c3 := of_decide_eq_true c3
      have pm := List.isPerm_iff.mp c2
      have hi := (raw_impl 40 a [] 1 xs hx).2 (by omega)
      rw [sort_is xs ys c3 pm] at hi
      refine ⟨(ys, true), by have := pm.length_eq; simp only; omega, Ev.of (fun k => spec_LeastPiecesFor.mono a k) hs, Ev.of (fun k => impl_LeastPiecesFor.mono a k) (k := 40) ?_⟩
      unfold impl_LeastPiecesFor.f
      rw [within_eq, decide_eq_true d]
      exact hi
    · cases c
  · refine ⟨([], false), by simp, ?_, ?_⟩
    · unfold spec_LeastPiecesFor.f
      refine Ev.bind (a := false) (by rw [l1In_eq, decide_eq_false d]; exact Ev.now _) ?_
      simp only [Bool.false_eq_true, if_false]
      exact Ev.now _
    · unfold impl_LeastPiecesFor.f
      refine Ev.bind (a := false) (by rw [within_eq, decide_eq_false d]; exact Ev.now _) ?_
      simp only [Bool.false_eq_true, if_false]
      exact Ev.now _
theorem FnExactLeastPiecesFor : laws_FnExactLeastPiecesFor.Pure := by
  intro a0 _
  apply Ev.rounds
  unfold laws_FnExactLeastPiecesFor.f
  obtain ⟨⟨r1, r2⟩, hr, hs, hi⟩ := least_same a0
  replace hr : r1.length ≤ 1099511627776 := hr
  obtain ⟨m2, hm2, hm3⟩ := mark_ev r1 hr
  refine Ev.bind hs ?_
  refine Ev.bind hi ?_
  refine Ev.bind (eq_ev r1 hr) ?_
  simp only [if_true, bne_self_eq_false]
  refine Ev.step (fun k => by rw [laws_FnExactLeastPiecesFor.j0]) ?_
  simp only [Bool.false_eq_true, if_false]
  refine Ev.bind hm2 ?_
  refine Ev.bind hm3 ?_
  simp only [if_neg (show ¬ ((r1.length : Int) + 1 < 0) by omega), if_true]
  refine Ev.bind hi ?_
  refine Ev.bind (eq_ev r1 hr) ?_
  simp only [if_true, bne_self_eq_false]
  refine Ev.step (fun k => by rw [laws_FnExactLeastPiecesFor.j1]) ?_
  simp only [Bool.false_eq_true, if_false]
  refine Ev.bind hm3 ?_
  simp only [if_neg (show ¬ ((r1.length : Int) + 1 < 0) by omega), if_true]
  exact Ev.now _

end Go.Proofs.Ytfldgimmdeijjaa.Pure
