/- For every list of whole numbers and every value, the program's RoomFor tells what the reference's tells, and the list reads as before. No conditions. -/
import Derived.Test.YtbabhmdncfffnaaPFnExactRoomForx4
namespace Go.Proofs.Ytbabhmdncfffnaa.Pure
open Go.RowKit Go.Proofs.Ytbabhmdncfffnaa.PFnExactRoomFor Go.Proofs.YtbabhmdncfffnaaW.PrintWords Go.Proofs.YtbabhmdncfffnaaW.PrintLast
set_option linter.unusedVariables false
set_option linter.unusedSimpArgs false

theorem wrap_id (x : Int) (h0 : -9223372036854775808 ≤ x) (h1 : x ≤ 9223372036854775807) : wrap64 x = x := by
  unfold wrap64; omega
theorem wrap_succ (i : Nat) (h : i < 4611686018427387904) : wrap64 ((i : Int) + 1) = ((i + 1 : Nat) : Int) := by
  rw [wrap_id _ (by omega) (by omega)]; rfl
theorem rd_nat (l : List Int) (i : Nat) : rd l (i : Int) = l.getD i 0 := rfl
theorem getD_some (l : List Int) (i : Nat) (h : i < l.length) : l[i]? = some (l.getD i 0) := by
  rw [List.getD_eq_getElem?_getD, List.getElem?_eq_getElem h]; rfl
theorem bool_same {b c : Bool} {P : Prop} (hb : b = true ↔ P) (hc : c = true ↔ P) : b = c := by
  cases b <;> cases c <;> simp_all

theorem eq_loop (a : List Int) (hm : a.length ≤ 1099511627776) : ∀ (d i : Nat), i + d = a.length → Ev (fun k => laws_eqIntS.l0 k a a (i : Int)) true
  | 0, i, h => by
    refine Ev.step (fun k => by rw [laws_eqIntS.l0]) ?_
    simp only [if_neg (show ¬ ((i : Int) < (a.length : Int)) by omega)]
    exact Ev.now _
  | d + 1, i, h => by
    refine Ev.step (fun k => by rw [laws_eqIntS.l0]) ?_
    simp only [if_pos (show (i : Int) < (a.length : Int) by omega), if_pos (show (0 : Int) ≤ (i : Int) by omega), if_true]
    rw [wrap_succ i (by omega)]
    exact eq_loop a hm d (i + 1) (by omega)
theorem eq_ev (a : List Int) (hm : a.length ≤ 1099511627776) : Ev (fun k => laws_eqIntS.f k a a) true := by
  unfold laws_eqIntS.f
  simp only [if_true]
  exact eq_loop a hm a.length 0 (by omega)

theorem toInt_loop (l : List Int) (hm : l.length ≤ 1099511627776) : ∀ (d i : Nat) (cur : List Int), i + d = l.length → cur.length = l.length → (∀ j, j < i → cur[j]? = l[j]?) → Ev (fun k => laws_toIntS.l0 k l cur (i : Int)) l
  | 0, i, cur, h, hc, hj => by
    refine Ev.step (fun k => by rw [laws_toIntS.l0]) ?_
    simp only [if_neg (show ¬ ((i : Int) < (l.length : Int)) by omega)]
    have e : cur = l := by
      apply List.ext_getElem?
      intro j
      by_cases c : j < i
      · exact hj j c
      · rw [List.getElem?_eq_none (by omega), List.getElem?_eq_none (by omega)]
    rw [e]
    exact Ev.now _
  | d + 1, i, cur, h, hc, hj => by
    refine Ev.step (fun k => by rw [laws_toIntS.l0]) ?_
    simp only [if_pos (show (i : Int) < (l.length : Int) by omega), if_pos (show (0 : Int) ≤ (i : Int) by omega), if_pos (show (i : Int) < (cur.length : Int) by omega)]
    rw [wrap_succ i (by omega), Int.toNat_natCast, rd_nat]
    refine toInt_loop l hm d (i + 1) _ (by omega) (by rw [List.length_set]; exact hc) ?_
    intro j hlt
    rw [List.getElem?_set]
    by_cases c : i = j
    · subst c
      rw [if_pos rfl, if_pos (by omega), getD_some l i (by omega)]
    · rw [if_neg c]
      exact hj j (by omega)
theorem toInt_ev (l : List Int) (hm : l.length ≤ 1099511627776) : Ev (fun k => laws_toIntS.f k l) l := by
  unfold laws_toIntS.f
  simp only [if_pos (show (0 : Int) ≤ (l.length : Int) by omega), if_pos (show ((l.length : Int)).toNat ≤ 35184372088832 by omega)]
  exact toInt_loop l hm l.length 0 _ (by omega) (by simp) (fun j hj => by omega)

theorem l1In_eq (x lo hi : Int) : spec_l1In.f x lo hi = some (decide (lo ≤ x ∧ x ≤ hi)) := by
  unfold spec_l1In.f
  by_cases c : x ≥ lo
  · rw [if_pos c]; congr 1; by_cases d : x ≤ hi
    · rw [decide_eq_true d, decide_eq_true ⟨c, d⟩]
    · rw [decide_eq_false d, decide_eq_false (fun h => d h.2)]
  · rw [if_neg c, decide_eq_false (fun h => c h.1)]

theorem l1Rising_loop (lo hi : Int) (l : List Int) (hm : l.length ≤ 1099511627776) : ∀ (d i : Nat), i + d = l.length →
    ∃ b, Ev (fun k => spec_l1Rising.l0 k l lo hi l (l.length : Int) (i : Int)) b ∧ (b = true ↔ ∀ j, i ≤ j → j < l.length → (lo ≤ l.getD j 0 ∧ l.getD j 0 ≤ hi) ∧ (0 < j → l.getD (j - 1) 0 < l.getD j 0))
  | 0, i, h => by
    refine ⟨true, ?_, by simp only [true_iff]; intro j h1 h2; omega⟩
    refine Ev.step (fun k => by rw [spec_l1Rising.l0]) ?_
    simp only [if_neg (show ¬ ((i : Int) < (l.length : Int)) by omega)]
    exact Ev.now _
  | d + 1, i, h => by
    have w : 0 < i → wrap64 ((i : Int) - 1) = ((i - 1 : Nat) : Int) := fun h => by rw [wrap_id _ (by omega) (by omega)]; omega
    by_cases c : (lo ≤ l.getD i 0 ∧ l.getD i 0 ≤ hi)
    · by_cases c2 : 0 < i → l.getD (i - 1) 0 < l.getD i 0
      · obtain ⟨b, hb, hj⟩ := l1Rising_loop lo hi l hm d (i + 1) (by omega)
        refine ⟨b, ?_, ?_⟩
        · refine Ev.step (fun k => by rw [spec_l1Rising.l0]) ?_
          simp only [if_pos (show (i : Int) < (l.length : Int) by omega), if_pos (show (0 : Int) ≤ (i : Int) by omega), l1In_eq, rd_nat, decide_eq_true c, Option.bind_some, if_true]
          rw [wrap_succ i (by omega)]
          by_cases p : 0 < i
          · have c3 := c2 p
            simp only [w p, rd_nat, if_pos (show (i : Int) > 0 by omega), if_pos (show (0 : Int) ≤ ((i - 1 : Nat) : Int) by omega), if_pos (show ((i - 1 : Nat) : Int) < (l.length : Int) by omega), if_neg (show ¬ (l.getD (i - 1) 0 ≥ l.getD i 0) by omega)]
            exact hb
          · simp only [if_neg (show ¬ ((i : Int) > 0) by omega)]
            exact hb
        · rw [hj]
          constructor
          · intro H j h1 h2
            by_cases e : j = i
            · rw [e]; exact ⟨c, c2⟩
            · exact H j (by omega) h2
          · intro H j h1 h2
            exact H j (by omega) h2
      · have p : 0 < i := by
          rcases Nat.eq_zero_or_pos i with z | z
          · exact absurd (fun hh => by omega) c2
          · exact z
        have c3 : ¬ l.getD (i - 1) 0 < l.getD i 0 := fun hh => c2 (fun _ => hh)
        refine ⟨false, ?_, ?_⟩
        · refine Ev.step (fun k => by rw [spec_l1Rising.l0]) ?_
          simp only [if_pos (show (i : Int) < (l.length : Int) by omega), if_pos (show (0 : Int) ≤ (i : Int) by omega), l1In_eq, rd_nat, decide_eq_true c, Option.bind_some, if_true]
          simp only [w p, rd_nat, if_pos (show (i : Int) > 0 by omega), if_pos (show (0 : Int) ≤ ((i - 1 : Nat) : Int) by omega), if_pos (show ((i - 1 : Nat) : Int) < (l.length : Int) by omega), if_pos (show (l.getD (i - 1) 0 ≥ l.getD i 0) by omega)]
          exact Ev.now _
        · exact ⟨fun H => (by cases H), fun H => absurd (H i (by omega) (by omega)).2 c2⟩
    · refine ⟨false, ?_, ?_⟩
      · refine Ev.step (fun k => by rw [spec_l1Rising.l0]) ?_
        simp only [if_pos (show (i : Int) < (l.length : Int) by omega), if_pos (show (0 : Int) ≤ (i : Int) by omega), l1In_eq, rd_nat, decide_eq_false c, Option.bind_some, Bool.false_eq_true, if_false]
        exact Ev.now _
      · exact ⟨fun H => (by cases H), fun H => absurd (H i (by omega) (by omega)).1 c⟩
theorem l1Rising_ev (lo hi : Int) (l : List Int) (hm : l.length ≤ 1099511627776) :
    ∃ b, Ev (fun k => spec_l1Rising.f k l lo hi) b ∧ (b = true ↔ ∀ j, j < l.length → (lo ≤ l.getD j 0 ∧ l.getD j 0 ≤ hi) ∧ (0 < j → l.getD (j - 1) 0 < l.getD j 0)) := by
  obtain ⟨b, hb, hj⟩ := l1Rising_loop lo hi l hm l.length 0 (by omega)
  exact ⟨b, hb, by rw [hj]; exact ⟨fun H j h => H j (by omega) h, fun H j _ h => H j h⟩⟩
theorem rises_loop (l : List Int) (hm : l.length ≤ 1099511627776) : ∀ (d i : Nat), 1 ≤ i → l.length ≤ i + d →
    ∃ b, Ev (fun k => impl_rises.l0 k l (i : Int)) b ∧ (b = true ↔ ∀ j, i ≤ j → j < l.length → l.getD (j - 1) 0 < l.getD j 0)
  | 0, i, h0, h => by
    refine ⟨true, ?_, by simp only [true_iff]; intro j h1 h2; omega⟩
    refine Ev.step (fun k => by rw [impl_rises.l0]) ?_
    simp only [if_neg (show ¬ ((i : Int) < (l.length : Int)) by omega)]
    exact Ev.now _
  | d + 1, i, h0, h => by
    by_cases hlt : i < l.length
    · have w : wrap64 ((i : Int) - 1) = ((i - 1 : Nat) : Int) := by rw [wrap_id _ (by omega) (by omega)]; omega
      by_cases c : l.getD (i - 1) 0 < l.getD i 0
      · obtain ⟨b, hb, hj⟩ := rises_loop l hm d (i + 1) (by omega) (by omega)
        refine ⟨b, ?_, ?_⟩
        · refine Ev.step (fun k => by rw [impl_rises.l0]) ?_
          simp only [w, rd_nat, if_pos (show (i : Int) < (l.length : Int) by omega), if_pos (show (0 : Int) ≤ (i : Int) by omega), if_pos (show (0 : Int) ≤ ((i - 1 : Nat) : Int) by omega), if_pos (show ((i - 1 : Nat) : Int) < (l.length : Int) by omega), if_neg (show ¬ (l.getD (i - 1) 0 ≥ l.getD i 0) by omega)]
          rw [wrap_succ i (by omega)]
          exact hb
        · rw [hj]
          constructor
          · intro H j h1 h2
            by_cases e : j = i
            · rw [e]; exact c
            · exact H j (by omega) h2
          · intro H j h1 h2
            exact H j (by omega) h2
      · refine ⟨false, ?_, ?_⟩
        · refine Ev.step (fun k => by rw [impl_rises.l0]) ?_
          simp only [w, rd_nat, if_pos (show (i : Int) < (l.length : Int) by omega), if_pos (show (0 : Int) ≤ (i : Int) by omega), if_pos (show (0 : Int) ≤ ((i - 1 : Nat) : Int) by omega), if_pos (show ((i - 1 : Nat) : Int) < (l.length : Int) by omega), if_pos (show (l.getD (i - 1) 0 ≥ l.getD i 0) by omega)]
          exact Ev.now _
        · exact ⟨fun H => (by cases H), fun H => absurd (H i (by omega) hlt) c⟩
    · exact rises_loop l hm 0 i h0 (by omega)
theorem rises_ev (l : List Int) (hm : l.length ≤ 1099511627776) :
    ∃ b, Ev (fun k => impl_rises.f k l) b ∧ (b = true ↔ ∀ j, 0 < j → j < l.length → l.getD (j - 1) 0 < l.getD j 0) :=
  rises_loop l hm l.length 1 (by omega) (by omega)

theorem up_to (l : List Int) (h : ∀ j, 0 < j → j < l.length → l.getD (j - 1) 0 < l.getD j 0) : ∀ (d i : Nat), i + d < l.length → l.getD i 0 ≤ l.getD (i + d) 0
  | 0, i, _ => by simp
  | d + 1, i, hd => by
    have a := up_to l h d i (by omega)
    have b := h (i + d + 1) (by omega) (by omega)
    rw [Nat.add_sub_cancel] at b
    rw [← Nat.add_assoc]
    omega

theorem areWithin_eq (l : List Int) (lo hi : Int) (hm : l.length ≤ 1099511627776) :
    ∃ b, impl_areWithin.f l lo hi = some b ∧ (b = true ↔ ∀ j, j < l.length → lo ≤ l.getD j 0 ∧ l.getD j 0 ≤ hi) := by
  refine ⟨_, by unfold impl_areWithin.f; rw [if_pos (by omega)], ?_⟩
  rw [Bool.not_eq_true', List.any_eq_false]
  constructor
  · intro H j hj
    have := H (l.getD j 0) (by rw [List.getD_eq_getElem?_getD, List.getElem?_eq_getElem hj]; exact List.getElem_mem hj)
    simpa using this
  · intro H x hx
    obtain ⟨j, hj, rfl⟩ := List.getElem_of_mem hx
    have := H j hj
    rw [List.getD_eq_getElem?_getD, List.getElem?_eq_getElem hj] at this
    simpa using this

theorem within_eq (x lo hi : Int) : impl_within.f x lo hi = some (decide (lo ≤ x ∧ x ≤ hi)) := by
  unfold impl_within.f
  by_cases c : lo ≤ x
  · rw [if_pos c]; congr 1; by_cases d : x ≤ hi
    · rw [decide_eq_true d, decide_eq_true ⟨c, d⟩]
    · rw [decide_eq_false d, decide_eq_false (fun h => d h.2)]
  · rw [if_neg c, decide_eq_false (fun h => c h.1)]

/-- What stamps are. -/
def Stamps (l : List Int) : Prop := (1 ≤ l.length ∧ l.length ≤ 6) ∧ (∀ j, j < l.length → 1 ≤ l.getD j 0 ∧ l.getD j 0 ≤ 500) ∧ ∀ j, 0 < j → j < l.length → l.getD (j - 1) 0 < l.getD j 0
theorem stGood_ev (l : List Int) (hm : l.length ≤ 1099511627776) : ∃ b, Ev (fun k => spec_stGood.f k l) b ∧ (b = true ↔ Stamps l) := by
  unfold spec_stGood.f
  simp only [l1In_eq, Option.bind_some]
  by_cases c : 1 ≤ (l.length : Int) ∧ (l.length : Int) ≤ 6
  · simp only [decide_eq_true c, if_true]
    obtain ⟨b, hb, jb⟩ := l1Rising_ev 1 500 l hm
    refine ⟨b, Ev.bind hb (Ev.now _), ?_⟩
    rw [jb]
    exact ⟨fun H => ⟨by omega, fun j h => (H j h).1, fun j h0 h => (H j h).2 h0⟩, fun H j h => ⟨H.2.1 j h, fun h0 => H.2.2 j h0 h⟩⟩
  · simp only [decide_eq_false c, Bool.false_eq_true, if_false]
    exact ⟨false, Ev.now _, fun H => (by cases H), fun H => absurd H.1 (by omega)⟩
theorem areStamps_ev (l : List Int) (hm : l.length ≤ 1099511627776) : ∃ b, Ev (fun k => impl_AreStamps.f k l) b ∧ (b = true ↔ Stamps l) := by
  unfold impl_AreStamps.f
  simp only [within_eq, Option.bind_some]
  by_cases c : 1 ≤ (l.length : Int) ∧ (l.length : Int) ≤ 6
  · simp only [decide_eq_true c, if_true]
    obtain ⟨a, ha, ja⟩ := areWithin_eq l 1 500 hm
    rw [ha]
    cases a with
    | true =>
      obtain ⟨b, hb, jb⟩ := rises_ev l hm
      refine ⟨b, ?_, ?_⟩
      · simp only [Option.bind_some, if_true]
        exact Ev.bind hb (Ev.now _)
      · rw [jb]
        exact ⟨fun H => ⟨by omega, ja.1 rfl, H⟩, fun H => H.2.2⟩
    | false =>
      refine ⟨false, ?_, fun H => (by cases H), fun H => ja.2 H.2.1⟩
      simp only [Option.bind_some, Bool.false_eq_true, if_false]
      exact Ev.now _
  · simp only [decide_eq_false c, Bool.false_eq_true, if_false]
    exact ⟨false, Ev.now _, fun H => (by cases H), fun H => absurd H.1 (by omega)⟩
theorem stamps_same (l : List Int) (hm : l.length ≤ 1099511627776) : ∃ b, Ev (fun k => spec_stGood.f k l) b ∧ Ev (fun k => impl_AreStamps.f k l) b ∧ (b = true ↔ Stamps l) := by
  obtain ⟨b, hb, jb⟩ := stGood_ev l hm
  obtain ⟨c, hc, jc⟩ := areStamps_ev l hm
  have e := bool_same jb jc
  subst e
  exact ⟨b, hb, hc, jb⟩
theorem Stamps.last {l : List Int} (g : Stamps l) (j : Nat) (h : j < l.length) : l.getD j 0 ≤ l.getD (l.length - 1) 0 := by
  have c := up_to l g.2.2 (l.length - 1 - j) j (by have := g.1; omega)
  rw [show j + (l.length - 1 - j) = l.length - 1 by omega] at c
  exact c

theorem areStamped_ev (l : List Int) (g : Stamps l) (hi : Ev (fun k => impl_AreStamps.f k l) true) (a1 a2 : Int) : Ev (fun k => impl_areStamped.f k l a1 a2) (decide (1 ≤ a1 ∧ a1 ≤ 8) && decide (0 ≤ a2 ∧ a2 ≤ 4000)) := by
  unfold impl_areStamped.f
  refine Ev.bind hi ?_
  simp only [if_true, within_eq, Option.bind_some]
  cases h : decide (1 ≤ a1 ∧ a1 ≤ 8) with
  | true =>
    simp only [if_true, Bool.true_and]
    exact Ev.now _
  | false =>
    simp only [Bool.false_eq_true, if_false, Bool.false_and]
    exact Ev.now _
theorem areStamped_no (l : List Int) (hi : Ev (fun k => impl_AreStamps.f k l) false) (a1 a2 : Int) : Ev (fun k => impl_areStamped.f k l a1 a2) false := by
  unfold impl_areStamped.f
  refine Ev.bind hi ?_
  simp only [Bool.false_eq_true, if_false]
  exact Ev.now _

/-- What the two tables tell of one value: the same number, or each its word for none. -/
def Rel (m L : Int) (v : Nat) (a b : Int) : Prop := (a = b ∧ 0 ≤ a ∧ a ≤ v ∧ (v : Int) ≤ a * L) ∨ (0 < v ∧ a = m + 1 ∧ b = 1000000)
theorem least_eq (a b : Int) : spec_l1Least.f a b = some (mn a b) := by
  unfold spec_l1Least.f mn
  by_cases c : a < b
  · rw [if_pos c, if_neg (by omega)]
  · rw [if_neg c]
    by_cases d : b < a
    · rw [if_pos d]
    · rw [if_neg d]; congr 1; omega
theorem rel_step {m L : Int} {v : Nat} {a b a' b' : Int} (s : Int) (hs : 1 ≤ s) (hsL : s ≤ L) (hsv : s ≤ v) (hv : (v : Int) ≤ m) (hm : m ≤ 900000) (h : Rel m L v a b) (h' : Rel m L ((v : Int) - s).toNat a' b') :
    Rel m L v (mn a (wrap64 (a' + 1))) (mn b (wrap64 (b' + 1))) := by
  have e : ((((v : Int) - s).toNat : Nat) : Int) = (v : Int) - s := by omega
  unfold Rel at h h' ⊢
  rw [e] at h'
  have hL : (a' + 1) * L = a' * L + L := by rw [Int.add_mul, Int.one_mul]
  rcases h with ⟨h1, h2, h3, h4⟩ | ⟨h0, h1, h2⟩ <;> rcases h' with ⟨k1, k2, k3, k4⟩ | ⟨k0, k1, k2⟩
  · rw [wrap_id _ (by omega) (by omega), wrap_id _ (by omega) (by omega)]
    left
    unfold mn
    subst h1 k1
    refine ⟨rfl, ?_, ?_, ?_⟩
    · split <;> omega
    · split <;> omega
    · split
      · rw [hL]; omega
      · exact h4
  · rw [wrap_id _ (by omega) (by omega), wrap_id _ (by omega) (by omega)]
    left
    unfold mn
    rw [if_neg (by omega), if_neg (by omega)]
    exact ⟨h1, h2, h3, h4⟩
  · rw [wrap_id _ (by omega) (by omega), wrap_id _ (by omega) (by omega)]
    left
    unfold mn
    rw [if_pos (by omega), if_pos (by omega), hL]
    omega
  · rw [wrap_id _ (by omega) (by omega), wrap_id _ (by omega) (by omega)]
    right
    unfold mn
    rw [if_neg (by omega), if_neg (by omega)]
    exact ⟨h0, h1, h2⟩
theorem set_getD (t : List Int) (v j : Nat) (x : Int) (h : v < t.length) : (t.set v x).getD j 0 = if v = j then x else t.getD j 0 := by
  rw [List.getD_eq_getElem?_getD, List.getElem?_set, List.getD_eq_getElem?_getD]
  by_cases c : v = j
  · subst c; rw [if_pos rfl, if_pos h, if_pos rfl]; rfl
  · rw [if_neg c, if_neg c]
theorem few_inner (l : List Int) (g : Stamps l) (m : Int) (hm0 : 0 ≤ m) (hm : m ≤ 900000) (v : Nat) (hv1 : 1 ≤ v) (hv : (v : Int) ≤ m) : ∀ (d i : Nat) (t u : List Int), i + d = l.length → (t.length : Int) = m + 1 → (u.length : Int) = m + 1 →
    (∀ j, j ≤ v → Rel m (l.getD (l.length - 1) 0) j (t.getD j 0) (u.getD j 0)) →
    ∃ t' u' : List Int, (t'.length : Int) = m + 1 ∧ (u'.length : Int) = m + 1 ∧ (∀ j, j ≤ v → Rel m (l.getD (l.length - 1) 0) j (t'.getD j 0) (u'.getD j 0)) ∧
      (∀ r, Ev (fun k => impl_fewStamps.l0 k l m t' (wrap64 ((v : Int) + 1))) r → Ev (fun k => impl_fewStamps.l1 k l m t v l (l.length : Int) (i : Int)) r) ∧
      (∀ r, Ev (fun k => spec_stFew.l0 k l m u' (wrap64 ((v : Int) + 1))) r → Ev (fun k => spec_stFew.l1 k l m u v l (l.length : Int) (i : Int)) r)
  | 0, i, t, u, h, ht, hu, hr => by
    refine ⟨t, u, ht, hu, hr, fun r H => ?_, fun r H => ?_⟩
    · refine Ev.step (fun k => by rw [impl_fewStamps.l1]) ?_
      simp only [if_neg (show ¬ ((i : Int) < (l.length : Int)) by omega)]
      exact H
    · refine Ev.step (fun k => by rw [spec_stFew.l1]) ?_
      simp only [if_neg (show ¬ ((i : Int) < (l.length : Int)) by omega)]
      exact H
  | d + 1, i, t, u, h, ht, hu, hr => by
    have hs := g.2.1 i (by omega)
    have hL := g.last i (by omega)
    have e0 : rd l (i : Int) = l.getD i 0 := rfl
    by_cases c : rd l (i : Int) ≤ (v : Int)
    · have w : wrap64 ((v : Int) - rd l (i : Int)) = ((((v : Int) - l.getD i 0).toNat : Nat) : Int) := by rw [e0, wrap_id _ (by omega) (by omega)]; omega
      have lt : ((v : Int) - l.getD i 0).toNat < v := by omega
      generalize hq : ((v : Int) - l.getD i 0).toNat = q at w lt
      have st := rel_step (l.getD i 0) hs.1 hL (by omega) hv hm (hr v (Nat.le_refl _)) (by rw [hq]; exact hr q (by omega))
      obtain ⟨t', u', h1, h2, h3, h4, h5⟩ := few_inner l g m hm0 hm v hv1 hv d (i + 1) (t.set v (mn (t.getD v 0) (wrap64 (t.getD q 0 + 1)))) (u.set v (mn (u.getD v 0) (wrap64 (u.getD q 0 + 1)))) (by omega) (by simpa using ht) (by simpa using hu) (fun j hj => by
        rw [set_getD t v j _ (by omega), set_getD u v j _ (by omega)]
        by_cases e : v = j
        · subst e; rw [if_pos rfl, if_pos rfl]; exact st
        · rw [if_neg e, if_neg e]; exact hr j hj)
      refine ⟨t', u', h1, h2, h3, fun r H => ?_, fun r H => ?_⟩
      · have H2 := h4 r H
        refine Ev.step (fun k => by rw [impl_fewStamps.l1]) ?_
        simp only [if_pos (show (i : Int) < (l.length : Int) by omega), if_pos (show (0 : Int) ≤ (i : Int) by omega), if_pos c, w, if_pos (show (0 : Int) ≤ (v : Int) by omega), if_pos (show (v : Int) < (t.length : Int) by omega), if_pos (show (0 : Int) ≤ (q : Int) by omega), if_pos (show (q : Int) < (t.length : Int) by omega)]
        rw [wrap_succ i (by have := g.1; omega)]
        exact H2
      · have H2 := h5 r H
        refine Ev.step (fun k => by rw [spec_stFew.l1]) ?_
        simp only [if_pos (show (i : Int) < (l.length : Int) by omega), if_pos (show (0 : Int) ≤ (i : Int) by omega), if_pos c, w, if_pos (show (0 : Int) ≤ (v : Int) by omega), if_pos (show (v : Int) < (u.length : Int) by omega), if_pos (show (0 : Int) ≤ (q : Int) by omega), if_pos (show (q : Int) < (u.length : Int) by omega), least_eq, Option.bind_some]
        rw [wrap_succ i (by have := g.1; omega)]
        exact H2
    · obtain ⟨t', u', h1, h2, h3, h4, h5⟩ := few_inner l g m hm0 hm v hv1 hv d (i + 1) t u (by omega) ht hu hr
      refine ⟨t', u', h1, h2, h3, fun r H => ?_, fun r H => ?_⟩
      · have H2 := h4 r H
        refine Ev.step (fun k => by rw [impl_fewStamps.l1]) ?_
        simp only [if_pos (show (i : Int) < (l.length : Int) by omega), if_pos (show (0 : Int) ≤ (i : Int) by omega), if_neg c]
        rw [wrap_succ i (by have := g.1; omega)]
        exact H2
      · have H2 := h5 r H
        refine Ev.step (fun k => by rw [spec_stFew.l1]) ?_
        simp only [if_pos (show (i : Int) < (l.length : Int) by omega), if_pos (show (0 : Int) ≤ (i : Int) by omega), if_neg c]
        rw [wrap_succ i (by have := g.1; omega)]
        exact H2
theorem few_outer (l : List Int) (g : Stamps l) (m : Int) (hm0 : 0 ≤ m) (hm : m ≤ 900000) : ∀ (d v : Nat) (t u : List Int), 1 ≤ v → (v : Int) + d = m + 1 → (t.length : Int) = m + 1 → (u.length : Int) = m + 1 →
    (∀ j, j < v → Rel m (l.getD (l.length - 1) 0) j (t.getD j 0) (u.getD j 0)) →
    ∃ r s : List Int, (r.length : Int) = m + 1 ∧ (s.length : Int) = m + 1 ∧ (∀ j : Nat, (j : Int) ≤ m → Rel m (l.getD (l.length - 1) 0) j (r.getD j 0) (s.getD j 0)) ∧
      Ev (fun k => impl_fewStamps.l0 k l m t (v : Int)) r ∧ Ev (fun k => spec_stFew.l0 k l m u (v : Int)) s
  | 0, v, t, u, h0, h, ht, hu, hr => by
    refine ⟨t, u, ht, hu, fun j hj => hr j (by omega), ?_, ?_⟩
    · refine Ev.step (fun k => by rw [impl_fewStamps.l0]) ?_
      simp only [if_neg (show ¬ ((v : Int) ≤ m) by omega)]
      exact Ev.now _
    · refine Ev.step (fun k => by rw [spec_stFew.l0]) ?_
      simp only [if_neg (show ¬ ((v : Int) ≤ m) by omega)]
      exact Ev.now _
  | d + 1, v, t, u, h0, h, ht, hu, hr => by
    obtain ⟨t', u', h1, h2, h3, h4, h5⟩ := few_inner l g m hm0 hm v h0 (by omega) l.length 0 (t.set v (wrap64 (m + 1))) (u.set v 1000000) (by omega) (by simpa using ht) (by simpa using hu) (fun j hj => by
      rw [set_getD t v j _ (by omega), set_getD u v j _ (by omega)]
      by_cases e : v = j
      · subst e; rw [if_pos rfl, if_pos rfl]; exact .inr ⟨by omega, wrap_id _ (by omega) (by omega), rfl⟩
      · rw [if_neg e, if_neg e]; exact hr j (by omega))
    obtain ⟨r, s, k1, k2, k3, k4, k5⟩ := few_outer l g m hm0 hm d (v + 1) t' u' (by omega) (by omega) h1 h2 (fun j hj => h3 j (by omega))
    refine ⟨r, s, k1, k2, k3, ?_, ?_⟩
    · have H2 := h4 r (by rw [wrap_succ v (by omega)]; exact k4)
      refine Ev.step (fun k => by rw [impl_fewStamps.l0]) ?_
      simp only [if_pos (show ((v : Int) ≤ m) by omega), if_pos (show (0 : Int) ≤ (v : Int) by omega), if_pos (show (v : Int) < (t.length : Int) by omega)]
      exact H2
    · have H2 := h5 s (by rw [wrap_succ v (by omega)]; exact k5)
      refine Ev.step (fun k => by rw [spec_stFew.l0]) ?_
      simp only [if_pos (show ((v : Int) ≤ m) by omega), if_pos (show (0 : Int) ≤ (v : Int) by omega), if_pos (show (v : Int) < (u.length : Int) by omega)]
      exact H2
/-- The tables of the program and of the reference tell the same. -/
theorem few_ev (l : List Int) (g : Stamps l) (m : Int) (hm0 : 0 ≤ m) (hm : m ≤ 900000) :
    ∃ r s : List Int, (r.length : Int) = m + 1 ∧ (s.length : Int) = m + 1 ∧ (∀ j : Nat, (j : Int) ≤ m → Rel m (l.getD (l.length - 1) 0) j (r.getD j 0) (s.getD j 0)) ∧
      Ev (fun k => impl_fewStamps.f k l m) r ∧ Ev (fun k => spec_stFew.f k l m) s := by
  obtain ⟨r, s, h1, h2, h3, h4, h5⟩ := few_outer l g m hm0 hm m.toNat 1 (List.replicate (m + 1).toNat 0) (List.replicate (m + 1).toNat 0) (by omega) (by omega) (by simp; omega) (by simp; omega) (fun j hj => by
    have : j = 0 := by omega
    subst this
    have e : (List.replicate (m + 1).toNat (0 : Int)).getD 0 0 = 0 := by
      rw [List.getD_eq_getElem?_getD, List.getElem?_replicate, if_pos (by omega)]; rfl
    rw [e]
    exact .inl ⟨rfl, by simp⟩)
  refine ⟨r, s, h1, h2, h3, ?_, ?_⟩
  · unfold impl_fewStamps.f
    rw [wrap_id _ (by omega) (by omega)]
    simp only [if_pos (show 0 ≤ m + 1 by omega), if_pos (show (m + 1).toNat ≤ 35184372088832 by omega)]
    exact h4
  · unfold spec_stFew.f
    rw [wrap_id _ (by omega) (by omega)]
    simp only [if_pos (show 0 ≤ m + 1 by omega), if_pos (show (m + 1).toNat ≤ 35184372088832 by omega)]
    exact h5

theorem first_where (p : Nat → Prop) : ∀ n, (∃ i, i < n ∧ p i ∧ ∀ j, j < i → ¬ p j) ∨ ∀ j, j < n → ¬ p j
  | 0 => .inr (fun j h => by omega)
  | n + 1 => by
    rcases first_where p n with ⟨i, h1, h2, h3⟩ | h1
    · exact .inl ⟨i, by omega, h2, h3⟩
    · by_cases c : p n
      · exact .inl ⟨n, by omega, c, h1⟩
      · refine .inr (fun j hj => ?_)
        by_cases e : j = n
        · rw [e]; exact c
        · exact h1 j (by omega)
theorem stReach_loop (room : Int) (s : List Int) (j0 : Nat) (h0 : 1 ≤ j0) (hl : j0 < s.length) (hm : s.length ≤ 1099511627776) (hlt : ∀ j, j < j0 → s.getD j 0 ≤ room) (hj : ¬ s.getD j0 0 ≤ room) : ∀ (d p : Nat), p + d + 1 = j0 →
    Ev (fun k => spec_stReach.l0 k room s (p : Int)) ((j0 : Int) - 1)
  | 0, p, h => by
    refine Ev.step (fun k => by rw [spec_stReach.l0]) ?_
    rw [wrap_succ p (by omega)]
    have e : ¬ rd s ((p + 1 : Nat) : Int) ≤ room := by rw [show p + 1 = j0 by omega]; exact hj
    simp only [if_pos (show ((p + 1 : Nat) : Int) < (s.length : Int) by omega), if_pos (show (0 : Int) ≤ ((p + 1 : Nat) : Int) by omega), if_neg e]
    rw [show (j0 : Int) - 1 = (p : Int) by omega]
    exact Ev.now _
  | d + 1, p, h => by
    refine Ev.step (fun k => by rw [spec_stReach.l0]) ?_
    rw [wrap_succ p (by omega)]
    have e : rd s ((p + 1 : Nat) : Int) ≤ room := hlt (p + 1) (by omega)
    simp only [if_pos (show ((p + 1 : Nat) : Int) < (s.length : Int) by omega), if_pos (show (0 : Int) ≤ ((p + 1 : Nat) : Int) by omega), if_pos e]
    exact stReach_loop room s j0 h0 hl hm hlt hj d (p + 1) (by omega)
/-- The reach, as the program and as the reference tell it. -/
theorem reach_ev (l : List Int) (g : Stamps l) (room : Int) (h1 : 1 ≤ room) (h8 : room ≤ 8) :
    ∃ r, Ev (fun k => spec_stReach.f k l room) r ∧ Ev (fun k => impl_reach.f k l room) r ∧ 0 ≤ r ∧ r ≤ room * l.getD (l.length - 1) 0 := by
  have gl := g.1
  have gL := g.2.1 (l.length - 1) (by omega)
  have w : wrap64 ((l.length : Int) - 1) = ((l.length - 1 : Nat) : Int) := by rw [wrap_id _ (by omega) (by omega)]; omega
  have e0 : rd l ((l.length - 1 : Nat) : Int) = l.getD (l.length - 1) 0 := rfl
  obtain ⟨L, hL⟩ : ∃ L, l.getD (l.length - 1) 0 = L := ⟨_, rfl⟩
  rw [hL] at gL e0
  have b0 : 0 ≤ room * L := Int.mul_nonneg (by omega) (by omega)
  have b1 : room * L ≤ 8 * 500 := Int.mul_le_mul h8 gL.2 (by omega) (by omega)
  obtain ⟨r, s, k1, k2, k3, k4, k5⟩ := few_ev l g (room * L + 1) (by omega) (by omega)
  rw [hL] at k3
  have top : r.getD (room * L + 1).toNat 0 > room := by
    rcases k3 (room * L + 1).toNat (by omega) with ⟨q1, q2, q3, q4⟩ | ⟨q0, q1, q2⟩
    · rcases Int.lt_or_le room (r.getD (room * L + 1).toNat 0) with z | z
      · exact z
      · have := Int.mul_le_mul_of_nonneg_right z (show 0 ≤ L by omega)
        omega
    · have : room ≤ room * L := by have z := Int.mul_le_mul_of_nonneg_left (show (1 : Int) ≤ L by omega) (show 0 ≤ room by omega); rw [Int.mul_one] at z; exact z
      omega
  rcases first_where (fun j => r.getD j 0 > room) ((room * L + 1).toNat + 1) with ⟨j0, i1, i2, i3⟩ | no
  · have same : ∀ j : Nat, (j : Int) ≤ room * L + 1 → (s.getD j 0 ≤ room ↔ r.getD j 0 ≤ room) := by
      intro j hj
      have : room ≤ room * L := by have z := Int.mul_le_mul_of_nonneg_left (show (1 : Int) ≤ L by omega) (show 0 ≤ room by omega); rw [Int.mul_one] at z; exact z
      rcases k3 j hj with ⟨q1, q2, q3, q4⟩ | ⟨q0, q1, q2⟩ <;> omega
    have j1 : 1 ≤ j0 := by
      rcases Nat.eq_zero_or_pos j0 with z | z
      · subst z
        have h0 := k3 0 (by omega)
        have : room ≤ room * L := by have z := Int.mul_le_mul_of_nonneg_left (show (1 : Int) ≤ L by omega) (show 0 ≤ room by omega); rw [Int.mul_one] at z; exact z
        exfalso
        have ii : r.getD 0 0 > room := i2
        rcases h0 with ⟨q1, q2, q3, q4⟩ | ⟨q0, q1, q2⟩
        · omega
        · omega
      · exact z
    refine ⟨(j0 : Int) - 1, ?_, ?_, by omega, by rw [hL]; omega⟩
    · unfold spec_stReach.f
      rw [w]
      simp only [if_pos (show (0 : Int) ≤ ((l.length - 1 : Nat) : Int) by omega), if_pos (show ((l.length - 1 : Nat) : Int) < (l.length : Int) by omega), e0]
      rw [wrap_id (room * L) (by omega) (by omega), wrap_id (room * L + 1) (by omega) (by omega)]
      refine Ev.bind k5 ?_
      exact stReach_loop room s j0 j1 (by omega) (by omega) (fun j hj => (same j (by omega)).2 (by have : ¬ r.getD j 0 > room := i3 j hj; omega)) (fun h => by have := (same j0 (by omega)).1 h; have ii : r.getD j0 0 > room := i2; omega) (j0 - 1) 0 (by omega)
    · unfold impl_reach.f
      rw [w]
      simp only [if_pos (show (0 : Int) ≤ ((l.length - 1 : Nat) : Int) by omega), if_pos (show ((l.length - 1 : Nat) : Int) < (l.length : Int) by omega), e0]
      rw [wrap_id (room * L) (by omega) (by omega), wrap_id (room * L + 1) (by omega) (by omega)]
      refine Ev.bind k4 ?_
      have hx : hwIdx (fun x => decide (x > room)) r = (j0 : Int) := hwIdx_hit _ r j0 (by omega) (fun j hj => by have : ¬ r.getD j 0 > room := i3 j hj; exact decide_eq_false this) (decide_eq_true i2)
      simp only [if_pos (show r.length < 4611686018427387904 by omega), hx]
      rw [wrap_id _ (by omega) (by omega)]
      exact Ev.now _
  · exact absurd top (no _ (by omega))

theorem roomFor_loop (l : List Int) (g : Stamps l) (v : Int) : ∀ (d p : Nat), 1 ≤ p → p + d = 9 → ∃ r, Ev (fun k => spec_RoomFor.l0 k l v (p : Int)) r ∧ Ev (fun k => impl_RoomFor.l0 k l v (p : Int)) r
  | 0, p, h0, h => by
    refine ⟨(0, false), Ev.step (fun k => by rw [spec_RoomFor.l0]) ?_, Ev.step (fun k => by rw [impl_RoomFor.l0]) ?_⟩
    · simp only [if_neg (show ¬ (p : Int) ≤ 8 by omega)]; exact Ev.now _
    · simp only [if_neg (show ¬ (p : Int) ≤ 8 by omega)]; exact Ev.now _
  | d + 1, p, h0, h => by
    obtain ⟨x, x1, x2, _⟩ := reach_ev l g (p : Int) (by omega) (by omega)
    obtain ⟨r, r1, r2⟩ := roomFor_loop l g v d (p + 1) (by omega) (by omega)
    by_cases c : x ≥ v
    · refine ⟨((p : Int), true), Ev.step (fun k => by rw [spec_RoomFor.l0]) ?_, Ev.step (fun k => by rw [impl_RoomFor.l0]) ?_⟩
      · simp only [if_pos (show (p : Int) ≤ 8 by omega)]; exact Ev.bind x1 (by simp only [if_pos c]; exact Ev.now _)
      · simp only [if_pos (show (p : Int) ≤ 8 by omega)]; exact Ev.bind x2 (by simp only [if_pos c]; exact Ev.now _)
    · refine ⟨r, Ev.step (fun k => by rw [spec_RoomFor.l0]) ?_, Ev.step (fun k => by rw [impl_RoomFor.l0]) ?_⟩
      · simp only [if_pos (show (p : Int) ≤ 8 by omega)]; exact Ev.bind x1 (by simp only [if_neg c]; rw [wrap_succ p (by omega)]; exact r1)
      · simp only [if_pos (show (p : Int) ≤ 8 by omega)]; exact Ev.bind x2 (by simp only [if_neg c]; rw [wrap_succ p (by omega)]; exact r2)
theorem RoomFor_same (l : List Int) (v : Int) (hm : l.length ≤ 1099511627776) : ∃ r, Ev (fun k => spec_RoomFor.f k l v) r ∧ Ev (fun k => impl_RoomFor.f k l v) r := by
  obtain ⟨b, hs, hi, jb⟩ := stamps_same l hm
  unfold spec_RoomFor.f impl_RoomFor.f spec_stValue.f
  simp only [l1In_eq, Option.bind_some]
  cases b with
  | true =>
    have g := jb.1 rfl
    have hq := areStamped_ev l g hi 1 v
    rw [decide_eq_true (by omega), Bool.true_and] at hq
    by_cases c2 : 0 ≤ v ∧ v ≤ 4000
    · rw [decide_eq_true c2] at hq
      obtain ⟨r, r1, r2⟩ := roomFor_loop l g v 8 1 (by omega) (by omega)
      refine ⟨r, Ev.bind hs ?_, Ev.bind hq (by simp only [if_true]; exact r2)⟩
      simp only [if_true, decide_eq_true c2, Bool.not_true]
      refine Ev.step (fun k => by rw [spec_RoomFor.j0]) ?_
      simp only [Bool.false_eq_true, if_false]
      exact r1
    · rw [decide_eq_false c2] at hq
      refine ⟨(0, false), Ev.bind hs ?_, Ev.bind hq (by simp only [Bool.false_eq_true, if_false]; exact Ev.now _)⟩
      simp only [if_true, decide_eq_false c2, Bool.not_false]
      refine Ev.step (fun k => by rw [spec_RoomFor.j0]) ?_
      simp only [if_true]
      exact Ev.now _
  | false =>
    refine ⟨(0, false), Ev.bind hs ?_, Ev.bind (areStamped_no l hi 1 v) (by simp only [Bool.false_eq_true, if_false]; exact Ev.now _)⟩
    simp only [Bool.false_eq_true, if_false]
    refine Ev.step (fun k => by rw [spec_RoomFor.j0]) ?_
    simp only [if_true]
    exact Ev.now _
theorem FnExactRoomFor : laws_FnExactRoomFor.Pure := by
  intro l0 a1 h1 h2 h3 w_a1
  apply Ev.rounds
  unfold laws_FnExactRoomFor.f
  by_cases c : (l0.length : Int) > 1048576
  · simp only [if_pos c]; exact Ev.now _
  · simp only [if_neg c]
    have hm : l0.length ≤ 1099511627776 := by omega
    obtain ⟨⟨r1, r2⟩, hs, hi⟩ := RoomFor_same l0 a1 hm
    refine Ev.bind (toInt_ev l0 hm) ?_
    refine Ev.bind hs ?_
    refine Ev.bind (toInt_ev l0 hm) ?_
    refine Ev.bind hi ?_
    simp only [if_true, bne_self_eq_false, Bool.false_eq_true, if_false]
    refine Ev.step (fun k => by rw [laws_FnExactRoomFor.j0]) ?_
    simp only [Bool.false_eq_true, if_false]
    refine Ev.bind (toInt_ev l0 hm) ?_
    refine Ev.bind (eq_ev l0 hm) ?_
    exact Ev.now _

end Go.Proofs.Ytbabhmdncfffnaa.Pure
