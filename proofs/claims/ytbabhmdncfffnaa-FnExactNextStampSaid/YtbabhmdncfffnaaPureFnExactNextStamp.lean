/- For every list of whole numbers and every room, the program's NextStamp tells what the reference's tells, and the list reads as before. No conditions. -/
import Derived.Test.YtbabhmdncfffnaaPFnExactNextStampx5
namespace Go.Proofs.Ytbabhmdncfffnaa.Pure
open Go.RowKit Go.Proofs.Ytbabhmdncfffnaa.PFnExactNextStamp Go.Proofs.YtbabhmdncfffnaaW.PrintWords Go.Proofs.YtbabhmdncfffnaaW.PrintLast
set_option linter.unusedVariables false
set_option linter.unusedSimpArgs false

theorem wrap_id (x : Int) (h0 : -9223372036854775808 ≤ x) (h1 : x ≤ 9223372036854775807) : wrap64 x = x := by
  unfold wrap64; omega
theorem wrap_succ (i : Nat) (h : i < 4611686018427387904) : wrap64 ((i : Int) + 1) = ((i + 1 : Nat) : Int) := by
  rw [wrap_id _ (by omega) (by omega)]; rfl
theorem rd_nat (l : List Int) (i : Nat) : rd l (i : Int) = l.getD i 0 := rfl
theorem getD_some (l : List Int) (i : Nat) (h : i < l.length) : l[i]? = some (l.getD i 0) := by
  rw [List.getD_eq_getElem?_getD, List.getElem?_eq_getElem h]; rfl
theorem bool_same {b c : Bool} {P : Prop} (hb : b = true ↔ P) (hc : c = true ↔ P) : b = c := by
  cases b <;> cases c <;> simp_all

theorem eq_loop (a : List Int) (hm : a.length ≤ 1099511627776) : ∀ (d i : Nat), i + d = a.length → Ev (fun k => laws_eqIntS.l0 k a a (i : Int)) true
  | 0, i, h => by
    refine Ev.step (fun k => by rw [laws_eqIntS.l0]) ?_
    simp only [if_neg (show ¬ ((i : Int) < (a.length : Int)) by omega)]
    exact Ev.now _
  | d + 1, i, h => by
    refine Ev.step (fun k => by rw [laws_eqIntS.l0]) ?_
    simp only [if_pos (show (i : Int) < (a.length : Int) by omega), if_pos (show (0 : Int) ≤ (i : Int) by omega), if_true]
    rw [wrap_succ i (by omega)]
    exact eq_loop a hm d (i + 1) (by omega)
theorem eq_ev (a : List Int) (hm : a.length ≤ 1099511627776) : Ev (fun k => laws_eqIntS.f k a a) true := by
  unfold laws_eqIntS.f
  simp only [if_true]
  exact eq_loop a hm a.length 0 (by omega)

theorem toInt_loop (l : List Int) (hm : l.length ≤ 1099511627776) : ∀ (d i : Nat) (cur : List Int), i + d = l.length → cur.length = l.length → (∀ j, j < i → cur[j]? = l[j]?) → Ev (fun k => laws_toIntS.l0 k l cur (i : Int)) l
  | 0, i, cur, h, hc, hj => by
    refine Ev.step (fun k => by rw [laws_toIntS.l0]) ?_
    simp only [if_neg (show ¬ ((i : Int) < (l.length : Int)) by omega)]
    have e : cur = l := by
      apply List.ext_getElem?
      intro j
      by_cases c : j < i
      · exact hj j c
      · rw [List.getElem?_eq_none (by omega), List.getElem?_eq_none (by omega)]
    rw [e]
    exact Ev.now _
  | d + 1, i, cur, h, hc, hj => by
    refine Ev.step (fun k => by rw [laws_toIntS.l0]) ?_
    simp only [if_pos (show (i : Int) < (l.length : Int) by omega), if_pos (show (0 : Int) ≤ (i : Int) by omega), if_pos (show (i : Int) < (cur.length : Int) by omega)]
    rw [wrap_succ i (by omega), Int.toNat_natCast, rd_nat]
    refine toInt_loop l hm d (i + 1) _ (by omega) (by rw [List.length_set]; exact hc) ?_
    intro j hlt
    rw [List.getElem?_set]
    by_cases c : i = j
    · subst c
      rw [if_pos rfl, if_pos (by omega), getD_some l i (by omega)]
    · rw [if_neg c]
      exact hj j (by omega)
theorem toInt_ev (l : List Int) (hm : l.length ≤ 1099511627776) : Ev (fun k => laws_toIntS.f k l) l := by
  unfold laws_toIntS.f
  simp only [if_pos (show (0 : Int) ≤ (l.length : Int) by omega), if_pos (show ((l.length : Int)).toNat ≤ 35184372088832 by omega)]
  exact toInt_loop l hm l.length 0 _ (by omega) (by simp) (fun j hj => by omega)

theorem l1In_eq (x lo hi : Int) : spec_l1In.f x lo hi = some (decide (lo ≤ x ∧ x ≤ hi)) := by
  unfold spec_l1In.f
  by_cases c : x ≥ lo
  · rw [if_pos c]; congr 1; by_cases d : x ≤ hi
    · rw [decide_eq_true d, decide_eq_true ⟨c, d⟩]
    · rw [decide_eq_false d, decide_eq_false (fun h => d h.2)]
  · rw [if_neg c, decide_eq_false (fun h => c h.1)]

theorem l1Rising_loop (lo hi : Int) (l : List Int) (hm : l.length ≤ 1099511627776) : ∀ (d i : Nat), i + d = l.length →
    ∃ b, Ev (fun k => spec_l1Rising.l0 k l lo hi l (l.length : Int) (i : Int)) b ∧ (b = true ↔ ∀ j, i ≤ j → j < l.length → (lo ≤ l.getD j 0 ∧ l.getD j 0 ≤ hi) ∧ (0 < j → l.getD (j - 1) 0 < l.getD j 0))
  | 0, i, h => by
    refine ⟨true, ?_, by simp only [true_iff]; intro j h1 h2; omega⟩
    refine Ev.step (fun k => by rw [spec_l1Rising.l0]) ?_
    simp only [if_neg (show ¬ ((i : Int) < (l.length : Int)) by omega)]
    exact Ev.now _
  | d + 1, i, h => by
    have w : 0 < i → wrap64 ((i : Int) - 1) = ((i - 1 : Nat) : Int) := fun h => by rw [wrap_id _ (by omega) (by omega)]; omega
    by_cases c : (lo ≤ l.getD i 0 ∧ l.getD i 0 ≤ hi)
    · by_cases c2 : 0 < i → l.getD (i - 1) 0 < l.getD i 0
      · obtain ⟨b, hb, hj⟩ := l1Rising_loop lo hi l hm d (i + 1) (by omega)
        refine ⟨b, ?_, ?_⟩
        · refine Ev.step (fun k => by rw [spec_l1Rising.l0]) ?_
          simp only [if_pos (show (i : Int) < (l.length : Int) by omega), if_pos (show (0 : Int) ≤ (i : Int) by omega), l1In_eq, rd_nat, decide_eq_true c, Option.bind_some, if_true]
          rw [wrap_succ i (by omega)]
          by_cases p : 0 < i
          · have c3 := c2 p
            simp only [w p, rd_nat, if_pos (show (i : Int) > 0 by omega), if_pos (show (0 : Int) ≤ ((i - 1 : Nat) : Int) by omega), if_pos (show ((i - 1 : Nat) : Int) < (l.length : Int) by omega), if_neg (show ¬ (l.getD (i - 1) 0 ≥ l.getD i 0) by omega)]
            exact hb
          · simp only [if_neg (show ¬ ((i : Int) > 0) by omega)]
            exact hb
        · rw [hj]
          constructor
          · intro H j h1 h2
            by_cases e : j = i
            · rw [e]; exact ⟨c, c2⟩
            · exact H j (by omega) h2
          · intro H j h1 h2
            exact H j (by omega) h2
      · have p : 0 < i := by
          rcases Nat.eq_zero_or_pos i with z | z
          · exact absurd (fun hh => by omega) c2
          · exact z
        have c3 : ¬ l.getD (i - 1) 0 < l.getD i 0 := fun hh => c2 (fun _ => hh)
        refine ⟨false, ?_, ?_⟩
        · refine Ev.step (fun k => by rw [spec_l1Rising.l0]) ?_
          simp only [if_pos (show (i : Int) < (l.length : Int) by omega), if_pos (show (0 : Int) ≤ (i : Int) by omega), l1In_eq, rd_nat, decide_eq_true c, Option.bind_some, if_true]
          simp only [w p, rd_nat, if_pos (show (i : Int) > 0 by omega), if_pos (show (0 : Int) ≤ ((i - 1 : Nat) : Int) by omega), if_pos (show ((i - 1 : Nat) : Int) < (l.length : Int) by omega), if_pos (show (l.getD (i - 1) 0 ≥ l.getD i 0) by omega)]
          exact Ev.now _
        · exact ⟨fun H => (by cases H), fun H => absurd (H i (by omega) (by omega)).2 c2⟩
    · refine ⟨false, ?_, ?_⟩
      · refine Ev.step (fun k => by rw [spec_l1Rising.l0]) ?_
        simp only [if_pos (show (i : Int) < (l.length : Int) by omega), if_pos (show (0 : Int) ≤ (i : Int) by omega), l1In_eq, rd_nat, decide_eq_false c, Option.bind_some, Bool.false_eq_true, if_false]
        exact Ev.now _
      · exact ⟨fun H => (by cases H), fun H => absurd (H i (by omega) (by omega)).1 c⟩
theorem l1Rising_ev (lo hi : Int) (l : List Int) (hm : l.length ≤ 1099511627776) :
    ∃ b, Ev (fun k => spec_l1Rising.f k l lo hi) b ∧ (b = true ↔ ∀ j, j < l.length → (lo ≤ l.getD j 0 ∧ l.getD j 0 ≤ hi) ∧ (0 < j → l.getD (j - 1) 0 < l.getD j 0)) := by
  obtain ⟨b, hb, hj⟩ := l1Rising_loop lo hi l hm l.length 0 (by omega)
  exact ⟨b, hb, by rw [hj]; exact ⟨fun H j h => H j (by omega) h, fun H j _ h => H j h⟩⟩
theorem rises_loop (l : List Int) (hm : l.length ≤ 1099511627776) : ∀ (d i : Nat), 1 ≤ i → l.length ≤ i + d →
    ∃ b, Ev (fun k => impl_rises.l0 k l (i : Int)) b ∧ (b = true ↔ ∀ j, i ≤ j → j < l.length → l.getD (j - 1) 0 < l.getD j 0)
  | 0, i, h0, h => by
    refine ⟨true, ?_, by simp only [true_iff]; intro j h1 h2; omega⟩
    refine Ev.step (fun k => by rw [impl_rises.l0]) ?_
    simp only [if_neg (show ¬ ((i : Int) < (l.length : Int)) by omega)]
    exact Ev.now _
  | d + 1, i, h0, h => by
    by_cases hlt : i < l.length
    · have w : wrap64 ((i : Int) - 1) = ((i - 1 : Nat) : Int) := by rw [wrap_id _ (by omega) (by omega)]; omega
      by_cases c : l.getD (i - 1) 0 < l.getD i 0
      · obtain ⟨b, hb, hj⟩ := rises_loop l hm d (i + 1) (by omega) (by omega)
        refine ⟨b, ?_, ?_⟩
        · refine Ev.step (fun k => by rw [impl_rises.l0]) ?_
          simp only [w, rd_nat, if_pos (show (i : Int) < (l.length : Int) by omega), if_pos (show (0 : Int) ≤ (i : Int) by omega), if_pos (show (0 : Int) ≤ ((i - 1 : Nat) : Int) by omega), if_pos (show ((i - 1 : Nat) : Int) < (l.length : Int) by omega), if_neg (show ¬ (l.getD (i - 1) 0 ≥ l.getD i 0) by omega)]
          rw [wrap_succ i (by omega)]
          exact hb
        · rw [hj]
          constructor
          · intro H j h1 h2
            by_cases e : j = i
            · rw [e]; exact c
            · exact H j (by omega) h2
          · intro H j h1 h2
            exact H j (by omega) h2
      · refine ⟨false, ?_, ?_⟩
        · refine Ev.step (fun k => by rw [impl_rises.l0]) ?_
          simp only [w, rd_nat, if_pos (show (i : Int) < (l.length : Int) by omega), if_pos (show (0 : Int) ≤ (i : Int) by omega), if_pos (show (0 : Int) ≤ ((i - 1 : Nat) : Int) by omega), if_pos (show ((i - 1 : Nat) : Int) < (l.length : Int) by omega), if_pos (show (l.getD (i - 1) 0 ≥ l.getD i 0) by omega)]
          exact Ev.now _
        · exact ⟨fun H => (by cases H), fun H => absurd (H i (by omega) hlt) c⟩
    · exact rises_loop l hm 0 i h0 (by omega)
theorem rises_ev (l : List Int) (hm : l.length ≤ 1099511627776) :
    ∃ b, Ev (fun k => impl_rises.f k l) b ∧ (b = true ↔ ∀ j, 0 < j → j < l.length → l.getD (j - 1) 0 < l.getD j 0) :=
  rises_loop l hm l.length 1 (by omega) (by omega)

theorem up_to (l : List Int) (h : ∀ j, 0 < j → j < l.length → l.getD (j - 1) 0 < l.getD j 0) : ∀ (d i : Nat), i + d < l.length → l.getD i 0 ≤ l.getD (i + d) 0
  | 0, i, _ => by simp
  | d + 1, i, hd => by
    have a := up_to l h d i (by omega)
    have b := h (i + d + 1) (by omega) (by omega)
    rw [Nat.add_sub_cancel] at b
    rw [← Nat.add_assoc]
    omega

theorem areWithin_eq (l : List Int) (lo hi : Int) (hm : l.length ≤ 1099511627776) :
    ∃ b, impl_areWithin.f l lo hi = some b ∧ (b = true ↔ ∀ j, j < l.length → lo ≤ l.getD j 0 ∧ l.getD j 0 ≤ hi) := by
  refine ⟨_, by unfold impl_areWithin.f; rw [if_pos (by omega)], ?_⟩
  rw [Bool.not_eq_true', List.any_eq_false]
  constructor
  · intro H j hj
    have := H (l.getD j 0) (by rw [List.getD_eq_getElem?_getD, List.getElem?_eq_getElem hj]; exact List.getElem_mem hj)
    simpa using this
  · intro H x hx
    obtain ⟨j, hj, rfl⟩ := List.getElem_of_mem hx
    have := H j hj
    rw [List.getD_eq_getElem?_getD, List.getElem?_eq_getElem hj] at this
    simpa using this

theorem within_eq (x lo hi : Int) : impl_within.f x lo hi = some (decide (lo ≤ x ∧ x ≤ hi)) := by
  unfold impl_within.f
  by_cases c : lo ≤ x
  · rw [if_pos c]; congr 1; by_cases d : x ≤ hi
    · rw [decide_eq_true d, decide_eq_true ⟨c, d⟩]
    · rw [decide_eq_false d, decide_eq_false (fun h => d h.2)]
  · rw [if_neg c, decide_eq_false (fun h => c h.1)]

/-- What stamps are. -/
def Stamps (l : List Int) : Prop := (1 ≤ l.length ∧ l.length ≤ 6) ∧ (∀ j, j < l.length → 1 ≤ l.getD j 0 ∧ l.getD j 0 ≤ 500) ∧ ∀ j, 0 < j → j < l.length → l.getD (j - 1) 0 < l.getD j 0
theorem stGood_ev (l : List Int) (hm : l.length ≤ 1099511627776) : ∃ b, Ev (fun k => spec_stGood.f k l) b ∧ (b = true ↔ Stamps l) := by
  unfold spec_stGood.f
  simp only [l1In_eq, Option.bind_some]
  by_cases c : 1 ≤ (l.length : Int) ∧ (l.length : Int) ≤ 6
  · simp only [decide_eq_true c, if_true]
    obtain ⟨b, hb, jb⟩ := l1Rising_ev 1 500 l hm
    refine ⟨b, Ev.bind hb (Ev.now _), ?_⟩
    rw [jb]
    exact ⟨fun H => ⟨by omega, fun j h => (H j h).1, fun j h0 h => (H j h).2 h0⟩, fun H j h => ⟨H.2.1 j h, fun h0 => H.2.2 j h0 h⟩⟩
  · simp only [decide_eq_false c, Bool.false_eq_true, if_false]
    exact ⟨false, Ev.now _, fun H => (by cases H), fun H => absurd H.1 (by omega)⟩
theorem areStamps_ev (l : List Int) (hm : l.length ≤ 1099511627776) : ∃ b, Ev (fun k => impl_AreStamps.f k l) b ∧ (b = true ↔ Stamps l) := by
  unfold impl_AreStamps.f
  simp only [within_eq, Option.bind_some]
  by_cases c : 1 ≤ (l.length : Int) ∧ (l.length : Int) ≤ 6
  · simp only [decide_eq_true c, if_true]
    obtain ⟨a, ha, ja⟩ := areWithin_eq l 1 500 hm
    rw [ha]
    cases a with
    | true =>
      obtain ⟨b, hb, jb⟩ := rises_ev l hm
      refine ⟨b, ?_, ?_⟩
      · simp only [Option.bind_some, if_true]
        exact Ev.bind hb (Ev.now _)
      · rw [jb]
        exact ⟨fun H => ⟨by omega, ja.1 rfl, H⟩, fun H => H.2.2⟩
    | false =>
      refine ⟨false, ?_, fun H => (by cases H), fun H => ja.2 H.2.1⟩
      simp only [Option.bind_some, Bool.false_eq_true, if_false]
      exact Ev.now _
  · simp only [decide_eq_false c, Bool.false_eq_true, if_false]
    exact ⟨false, Ev.now _, fun H => (by cases H), fun H => absurd H.1 (by omega)⟩
theorem stamps_same (l : List Int) (hm : l.length ≤ 1099511627776) : ∃ b, Ev (fun k => spec_stGood.f k l) b ∧ Ev (fun k => impl_AreStamps.f k l) b ∧ (b = true ↔ Stamps l) := by
  obtain ⟨b, hb, jb⟩ := stGood_ev l hm
  obtain ⟨c, hc, jc⟩ := areStamps_ev l hm
  have e := bool_same jb jc
  subst e
  exact ⟨b, hb, hc, jb⟩
theorem Stamps.last {l : List Int} (g : Stamps l) (j : Nat) (h : j < l.length) : l.getD j 0 ≤ l.getD (l.length - 1) 0 := by
  have c := up_to l g.2.2 (l.length - 1 - j) j (by have := g.1; omega)
  rw [show j + (l.length - 1 - j) = l.length - 1 by omega] at c
  exact c

theorem areStamped_ev (l : List Int) (g : Stamps l) (hi : Ev (fun k => impl_AreStamps.f k l) true) (a1 a2 : Int) : Ev (fun k => impl_areStamped.f k l a1 a2) (decide (1 ≤ a1 ∧ a1 ≤ 8) && decide (0 ≤ a2 ∧ a2 ≤ 4000)) := by
  unfold impl_areStamped.f
  refine Ev.bind hi ?_
  simp only [if_true, within_eq, Option.bind_some]
  cases h : decide (1 ≤ a1 ∧ a1 ≤ 8) with
  | true =>
    simp only [if_true, Bool.true_and]
    exact Ev.now _
  | false =>
    simp only [Bool.false_eq_true, if_false, Bool.false_and]
    exact Ev.now _
theorem areStamped_no (l : List Int) (hi : Ev (fun k => impl_AreStamps.f k l) false) (a1 a2 : Int) : Ev (fun k => impl_areStamped.f k l a1 a2) false := by
  unfold impl_areStamped.f
  refine Ev.bind hi ?_
  simp only [Bool.false_eq_true, if_false]
  exact Ev.now _

theorem stRoom_ev (l : List Int) (b : Bool) (hs : Ev (fun k => spec_stGood.f k l) b) (a1 : Int) : Ev (fun k => spec_stRoom.f k l a1) (b && decide (1 ≤ a1 ∧ a1 ≤ 8)) := by
  unfold spec_stRoom.f
  refine Ev.bind hs ?_
  cases b with
  | true => simp only [if_true, l1In_eq, Option.bind_some, Bool.true_and]; exact Ev.now _
  | false => simp only [Bool.false_eq_true, if_false, Bool.false_and]; exact Ev.now _

/-- What the two tables tell of one value: the same number, or each its word for none. -/
def Rel (m L : Int) (v : Nat) (a b : Int) : Prop := (a = b ∧ 0 ≤ a ∧ a ≤ v ∧ (v : Int) ≤ a * L) ∨ (0 < v ∧ a = m + 1 ∧ b = 1000000)
theorem least_eq (a b : Int) : spec_l1Least.f a b = some (mn a b) := by
  unfold spec_l1Least.f mn
  by_cases c : a < b
  · rw [if_pos c, if_neg (by omega)]
  · rw [if_neg c]
    by_cases d : b < a
    · rw [if_pos d]
    · rw [if_neg d]; congr 1; omega
theorem rel_step {m L : Int} {v : Nat} {a b a' b' : Int} (s : Int) (hs : 1 ≤ s) (hsL : s ≤ L) (hsv : s ≤ v) (hv : (v : Int) ≤ m) (hm : m ≤ 900000) (h : Rel m L v a b) (h' : Rel m L ((v : Int) - s).toNat a' b') :
    Rel m L v (mn a (wrap64 (a' + 1))) (mn b (wrap64 (b' + 1))) := by
  have e : ((((v : Int) - s).toNat : Nat) : Int) = (v : Int) - s := by omega
  unfold Rel at h h' ⊢
  rw [e] at h'
  have hL : (a' + 1) * L = a' * L + L := by rw [Int.add_mul, Int.one_mul]
  rcases h with ⟨h1, h2, h3, h4⟩ | ⟨h0, h1, h2⟩ <;> rcases h' with ⟨k1, k2, k3, k4⟩ | ⟨k0, k1, k2⟩
  · rw [wrap_id _ (by omega) (by omega), wrap_id _ (by omega) (by omega)]
    left
    unfold mn
    subst h1 k1
    refine ⟨rfl, ?_, ?_, ?_⟩
    · split <;> omega
    · split <;> omega
    · split
      · rw [hL]; omega
      · exact h4
  · rw [wrap_id _ (by omega) (by omega), wrap_id _ (by omega) (by omega)]
    left
    unfold mn
    rw [if_neg (by omega), if_neg (by omega)]
    exact ⟨h1, h2, h3, h4⟩
  · rw [wrap_id _ (by omega) (by omega), wrap_id _ (by omega) (by omega)]
    left
    unfold mn
    rw [if_pos (by omega), if_pos (by omega), hL]
    omega
  · rw [wrap_id _ (by omega) (by omega), wrap_id _ (by omega) (by omega)]
    right
    unfold mn
    rw [if_neg (by omega), if_neg (by omega)]
    exact ⟨h0, h1, h2⟩
theorem set_getD (t : List Int) (v j : Nat) (x : Int) (h : v < t.length) : (t.set v x).getD j 0 = if v = j then x else t.getD j 0 := by
  rw [List.getD_eq_getElem?_getD, List.getElem?_set, List.getD_eq_getElem?_getD]
  by_cases c : v = j
  · subst c; rw [if_pos rfl, if_pos h, if_pos rfl]; rfl
  · rw [if_neg c, if_neg c]
theorem few_inner (l : List Int) (g : Stamps l) (m : Int) (hm0 : 0 ≤ m) (hm : m ≤ 900000) (v : Nat) (hv1 : 1 ≤ v) (hv : (v : Int) ≤ m) : ∀ (d i : Nat) (t u : List Int), i + d = l.length → (t.length : Int) = m + 1 → (u.length : Int) = m + 1 →
    (∀ j, j ≤ v → Rel m (l.getD (l.length - 1) 0) j (t.getD j 0) (u.getD j 0)) →
    ∃ t' u' : List Int, (t'.length : Int) = m + 1 ∧ (u'.length : Int) = m + 1 ∧ (∀ j, j ≤ v → Rel m (l.getD (l.length - 1) 0) j (t'.getD j 0) (u'.getD j 0)) ∧
      (∀ r, Ev (fun k => impl_fewStamps.l0 k l m t' (wrap64 ((v : Int) + 1))) r → Ev (fun k => impl_fewStamps.l1 k l m t v l (l.length : Int) (i : Int)) r) ∧
      (∀ r, Ev (fun k => spec_stFew.l0 k l m u' (wrap64 ((v : Int) + 1))) r → Ev (fun k => spec_stFew.l1 k l m u v l (l.length : Int) (i : Int)) r)
  | 0, i, t, u, h, ht, hu, hr => by
    refine ⟨t, u, ht, hu, hr, fun r H => ?_, fun r H => ?_⟩
    · refine Ev.step (fun k => by rw [impl_fewStamps.l1]) ?_
      simp only [if_neg (show ¬ ((i : Int) < (l.length : Int)) by omega)]
      exact H
    · refine Ev.step (fun k => by rw [spec_stFew.l1]) ?_
      simp only [if_neg (show ¬ ((i : Int) < (l.length : Int)) by omega)]
      exact H
  | d + 1, i, t, u, h, ht, hu, hr => by
    have hs := g.2.1 i (by omega)
    have hL := g.last i (by omega)
    have e0 : rd l (i : Int) = l.getD i 0 := rfl
    by_cases c : rd l (i : Int) ≤ (v : Int)
    · have w : wrap64 ((v : Int) - rd l (i : Int)) = ((((v : Int) - l.getD i 0).toNat : Nat) : Int) := by rw [e0, wrap_id _ (by omega) (by omega)]; omega
      have lt : ((v : Int) - l.getD i 0).toNat < v := by omega
      generalize hq : ((v : Int) - l.getD i 0).toNat = q at w lt
      have st := rel_step (l.getD i 0) hs.1 hL (by omega) hv hm (hr v (Nat.le_refl _)) (by rw [hq]; exact hr q (by omega))
      obtain ⟨t', u', h1, h2, h3, h4, h5⟩ := few_inner l g m hm0 hm v hv1 hv d (i + 1) (t.set v (mn (t.getD v 0) (wrap64 (t.getD q 0 + 1)))) (u.set v (mn (u.getD v 0) (wrap64 (u.getD q 0 + 1)))) (by omega) (by simpa using ht) (by simpa using hu) (fun j hj => by
        rw [set_getD t v j _ (by omega), set_getD u v j _ (by omega)]
        by_cases e : v = j
        · subst e; rw [if_pos rfl, if_pos rfl]; exact st
        · rw [if_neg e, if_neg e]; exact hr j hj)
      refine ⟨t', u', h1, h2, h3, fun r H => ?_, fun r H => ?_⟩
      · have H2 := h4 r H
        refine Ev.step (fun k => by rw [impl_fewStamps.l1]) ?_
        simp only [if_pos (show (i : Int) < (l.length : Int) by omega), if_pos (show (0 : Int) ≤ (i : Int) by omega), if_pos c, w, if_pos (show (0 : Int) ≤ (v : Int) by omega), if_pos (show (v : Int) < (t.length : Int) by omega), if_pos (show (0 : Int) ≤ (q : Int) by omega), if_pos (show (q : Int) < (t.length : Int) by omega)]
        rw [wrap_succ i (by have := g.1; omega)]
        exact H2
      · have H2 := h5 r H
        refine Ev.step (fun k => by rw [spec_stFew.l1]) ?_
        simp only [if_pos (show (i : Int) < (l.length : Int) by omega), if_pos (show (0 : Int) ≤ (i : Int) by omega), if_pos c, w, if_pos (show (0 : Int) ≤ (v : Int) by omega), if_pos (show (v : Int) < (u.length : Int) by omega), if_pos (show (0 : Int) ≤ (q : Int) by omega), if_pos (show (q : Int) < (u.length : Int) by omega), least_eq, Option.bind_some]
        rw [wrap_succ i (by have := g.1; omega)]
        exact H2
    · obtain ⟨t', u', h1, h2, h3, h4, h5⟩ := few_inner l g m hm0 hm v hv1 hv d (i + 1) t u (by omega) ht hu hr
      refine ⟨t', u', h1, h2, h3, fun r H => ?_, fun r H => ?_⟩
      · have H2 := h4 r H
        refine Ev.step (fun k => by rw [impl_fewStamps.l1]) ?_
        simp only [if_pos (show (i : Int) < (l.length : Int) by omega), if_pos (show (0 : Int) ≤ (i : Int) by omega), if_neg c]
        rw [wrap_succ i (by have := g.1; omega)]
        exact H2
      · have H2 := h5 r H
        refine Ev.step (fun k => by rw [spec_stFew.l1]) ?_
        simp only [if_pos (show (i : Int) < (l.length : Int) by omega), if_pos (show (0 : Int) ≤ (i : Int) by omega), if_neg c]
        rw [wrap_succ i (by have := g.1; omega)]
        exact H2
theorem few_outer (l : List Int) (g : Stamps l) (m : Int) (hm0 : 0 ≤ m) (hm : m ≤ 900000) : ∀ (d v : Nat) (t u : List Int), 1 ≤ v → (v : Int) + d = m + 1 → (t.length : Int) = m + 1 → (u.length : Int) = m + 1 →
    (∀ j, j < v → Rel m (l.getD (l.length - 1) 0) j (t.getD j 0) (u.getD j 0)) →
    ∃ r s : List Int, (r.length : Int) = m + 1 ∧ (s.length : Int) = m + 1 ∧ (∀ j : Nat, (j : Int) ≤ m → Rel m (l.getD (l.length - 1) 0) j (r.getD j 0) (s.getD j 0)) ∧
      Ev (fun k => impl_fewStamps.l0 k l m t (v : Int)) r ∧ Ev (fun k => spec_stFew.l0 k l m u (v : Int)) s
  | 0, v, t, u, h0, h, ht, hu, hr => by
    refine ⟨t, u, ht, hu, fun j hj => hr j (by omega), ?_, ?_⟩
    · refine Ev.step (fun k => by rw [impl_fewStamps.l0]) ?_
      simp only [if_neg (show ¬ ((v : Int) ≤ m) by omega)]
      exact Ev.now _
    · refine Ev.step (fun k => by rw [spec_stFew.l0]) ?_
      simp only [if_neg (show ¬ ((v : Int) ≤ m) by omega)]
      exact Ev.now _
  | d + 1, v, t, u, h0, h, ht, hu, hr => by
    obtain ⟨t', u', h1, h2, h3, h4, h5⟩ := few_inner l g m hm0 hm v h0 (by omega) l.length 0 (t.set v (wrap64 (m + 1))) (u.set v 1000000) (by omega) (by simpa using ht) (by simpa using hu) (fun j hj => by
      rw [set_getD t v j _ (by omega), set_getD u v j _ (by omega)]
      by_cases e : v = j
      · subst e; rw [if_pos rfl, if_pos rfl]; exact .inr ⟨by omega, wrap_id _ (by omega) (by omega), rfl⟩
      · rw [if_neg e, if_neg e]; exact hr j (by omega))
    obtain ⟨r, s, k1, k2, k3, k4, k5⟩ := few_outer l g m hm0 hm d (v + 1) t' u' (by omega) (by omega) h1 h2 (fun j hj => h3 j (by omega))
    refine ⟨r, s, k1, k2, k3, ?_, ?_⟩
    · have H2 := h4 r (by rw [wrap_succ v (by omega)]; exact k4)
      refine Ev.step (fun k => by rw [impl_fewStamps.l0]) ?_
      simp only [if_pos (show ((v : Int) ≤ m) by omega), if_pos (show (0 : Int) ≤ (v : Int) by omega), if_pos (show (v : Int) < (t.length : Int) by omega)]
      exact H2
    · have H2 := h5 s (by rw [wrap_succ v (by omega)]; exact k5)
      refine Ev.step (fun k => by rw [spec_stFew.l0]) ?_
      simp only [if_pos (show ((v : Int) ≤ m) by omega), if_pos (show (0 : Int) ≤ (v : Int) by omega), if_pos (show (v : Int) < (u.length : Int) by omega)]
      exact H2
/-- The tables of the program and of the reference tell the same. -/
theorem few_ev (l : List Int) (g : Stamps l) (m : Int) (hm0 : 0 ≤ m) (hm : m ≤ 900000) :
    ∃ r s : List Int, (r.length : Int) = m + 1 ∧ (s.length : Int) = m + 1 ∧ (∀ j : Nat, (j : Int) ≤ m → Rel m (l.getD (l.length - 1) 0) j (r.getD j 0) (s.getD j 0)) ∧
      Ev (fun k => impl_fewStamps.f k l m) r ∧ Ev (fun k => spec_stFew.f k l m) s := by
  obtain ⟨r, s, h1, h2, h3, h4, h5⟩ := few_outer l g m hm0 hm m.toNat 1 (List.replicate (m + 1).toNat 0) (List.replicate (m + 1).toNat 0) (by omega) (by omega) (by simp; omega) (by simp; omega) (fun j hj => by
    have : j = 0 := by omega
    subst this
    have e : (List.replicate (m + 1).toNat (0 : Int)).getD 0 0 = 0 := by
      rw [List.getD_eq_getElem?_getD, List.getElem?_replicate, if_pos (by omega)]; rfl
    rw [e]
    exact .inl ⟨rfl, by simp⟩)
  refine ⟨r, s, h1, h2, h3, ?_, ?_⟩
  · unfold impl_fewStamps.f
    rw [wrap_id _ (by omega) (by omega)]
    simp only [if_pos (show 0 ≤ m + 1 by omega), if_pos (show (m + 1).toNat ≤ 35184372088832 by omega)]
    exact h4
  · unfold spec_stFew.f
    rw [wrap_id _ (by omega) (by omega)]
    simp only [if_pos (show 0 ≤ m + 1 by omega), if_pos (show (m + 1).toNat ≤ 35184372088832 by omega)]
    exact h5

theorem first_where (p : Nat → Prop) : ∀ n, (∃ i, i < n ∧ p i ∧ ∀ j, j < i → ¬ p j) ∨ ∀ j, j < n → ¬ p j
  | 0 => .inr (fun j h => by omega)
  | n + 1 => by
    rcases first_where p n with ⟨i, h1, h2, h3⟩ | h1
    · exact .inl ⟨i, by omega, h2, h3⟩
    · by_cases c : p n
      · exact .inl ⟨n, by omega, c, h1⟩
      · refine .inr (fun j hj => ?_)
        by_cases e : j = n
        · rw [e]; exact c
        · exact h1 j (by omega)
theorem stReach_loop (room : Int) (s : List Int) (j0 : Nat) (h0 : 1 ≤ j0) (hl : j0 < s.length) (hm : s.length ≤ 1099511627776) (hlt : ∀ j, j < j0 → s.getD j 0 ≤ room) (hj : ¬ s.getD j0 0 ≤ room) : ∀ (d p : Nat), p + d + 1 = j0 →
    Ev (fun k => spec_stReach.l0 k room s (p : Int)) ((j0 : Int) - 1)
  | 0, p, h => by
    refine Ev.step (fun k => by rw [spec_stReach.l0]) ?_
    rw [wrap_succ p (by omega)]
    have e : ¬ rd s ((p + 1 : Nat) : Int) ≤ room := by rw [show p + 1 = j0 by omega]; exact hj
    simp only [if_pos (show ((p + 1 : Nat) : Int) < (s.length : Int) by omega), if_pos (show (0 : Int) ≤ ((p + 1 : Nat) : Int) by omega), if_neg e]
    rw [show (j0 : Int) - 1 = (p : Int) by omega]
    exact Ev.now _
  | d + 1, p, h => by
    refine Ev.step (fun k => by rw [spec_stReach.l0]) ?_
    rw [wrap_succ p (by omega)]
    have e : rd s ((p + 1 : Nat) : Int) ≤ room := hlt (p + 1) (by omega)
    simp only [if_pos (show ((p + 1 : Nat) : Int) < (s.length : Int) by omega), if_pos (show (0 : Int) ≤ ((p + 1 : Nat) : Int) by omega), if_pos e]
    exact stReach_loop room s j0 h0 hl hm hlt hj d (p + 1) (by omega)
/-- The reach, as the program and as the reference tell it. -/
theorem reach_ev (l : List Int) (g : Stamps l) (room : Int) (h1 : 1 ≤ room) (h8 : room ≤ 8) :
    ∃ r, Ev (fun k => spec_stReach.f k l room) r ∧ Ev (fun k => impl_reach.f k l room) r ∧ 0 ≤ r ∧ r ≤ room * l.getD (l.length - 1) 0 := by
  have gl := g.1
  have gL := g.2.1 (l.length - 1) (by omega)
  have w : wrap64 ((l.length : Int) - 1) = ((l.length - 1 : Nat) : Int) := by rw [wrap_id _ (by omega) (by omega)]; omega
  have e0 : rd l ((l.length - 1 : Nat) : Int) = l.getD (l.length - 1) 0 := rfl
  obtain ⟨L, hL⟩ : ∃ L, l.getD (l.length - 1) 0 = L := ⟨_, rfl⟩
  rw [hL] at gL e0
  have b0 : 0 ≤ room * L := Int.mul_nonneg (by omega) (by omega)
  have b1 : room * L ≤ 8 * 500 := Int.mul_le_mul h8 gL.2 (by omega) (by omega)
  obtain ⟨r, s, k1, k2, k3, k4, k5⟩ := few_ev l g (room * L + 1) (by omega) (by omega)
  rw [hL] at k3
  have top : r.getD (room * L + 1).toNat 0 > room := by
    rcases k3 (room * L + 1).toNat (by omega) with ⟨q1, q2, q3, q4⟩ | ⟨q0, q1, q2⟩
    · rcases Int.lt_or_le room (r.getD (room * L + 1).toNat 0) with z | z
      · exact z
      · have := Int.mul_le_mul_of_nonneg_right z (show 0 ≤ L by omega)
        omega
    · have : room ≤ room * L := by have z := Int.mul_le_mul_of_nonneg_left (show (1 : Int) ≤ L by omega) (show 0 ≤ room by omega); rw [Int.mul_one] at z; exact z
      omega
  rcases first_where (fun j => r.getD j 0 > room) ((room * L + 1).toNat + 1) with ⟨j0, i1, i2, i3⟩ | no
  · have same : ∀ j : Nat, (j : Int) ≤ room * L + 1 → (s.getD j 0 ≤ room ↔ r.getD j 0 ≤ room) := by
      intro j hj
      have : room ≤ room * L := by have z := Int.mul_le_mul_of_nonneg_left (show (1 : Int) ≤ L by omega) (show 0 ≤ room by omega); rw [Int.mul_one] at z; exact z
      rcases k3 j hj with ⟨q1, q2, q3, q4⟩ | ⟨q0, q1, q2⟩ <;> omega
    have j1 : 1 ≤ j0 := by
      rcases Nat.eq_zero_or_pos j0 with z | z
      · subst z
        have h0 := k3 0 (by omega)
        have : room ≤ room * L := by have z := Int.mul_le_mul_of_nonneg_left (show (1 : Int) ≤ L by omega) (show 0 ≤ room by omega); rw [Int.mul_one] at z; exact z
        exfalso
        have ii : r.getD 0 0 > room := i2
        rcases h0 with ⟨q1, q2, q3, q4⟩ | ⟨q0, q1, q2⟩
        · omega
        · omega
      · exact z
    refine ⟨(j0 : Int) - 1, ?_, ?_, by omega, by rw [hL]; omega⟩
    · unfold spec_stReach.f
      rw [w]
      simp only [if_pos (show (0 : Int) ≤ ((l.length - 1 : Nat) : Int) by omega), if_pos (show ((l.length - 1 : Nat) : Int) < (l.length : Int) by omega), e0]
      rw [wrap_id (room * L) (by omega) (by omega), wrap_id (room * L + 1) (by omega) (by omega)]
      refine Ev.bind k5 ?_
      exact stReach_loop room s j0 j1 (by omega) (by omega) (fun j hj => (same j (by omega)).2 (by have : ¬ r.getD j 0 > room := i3 j hj; omega)) (fun h => by have := (same j0 (by omega)).1 h; have ii : r.getD j0 0 > room := i2; omega) (j0 - 1) 0 (by omega)
    · unfold impl_reach.f
      rw [w]
      simp only [if_pos (show (0 : Int) ≤ ((l.length - 1 : Nat) : Int) by omega), if_pos (show ((l.length - 1 : Nat) : Int) < (l.length : Int) by omega), e0]
      rw [wrap_id (room * L) (by omega) (by omega), wrap_id (room * L + 1) (by omega) (by omega)]
      refine Ev.bind k4 ?_
      have hx : hwIdx (fun x => decide (x > room)) r = (j0 : Int) := hwIdx_hit _ r j0 (by omega) (fun j hj => by have : ¬ r.getD j 0 > room := i3 j hj; exact decide_eq_false this) (decide_eq_true i2)
      simp only [if_pos (show r.length < 4611686018427387904 by omega), hx]
      rw [wrap_id _ (by omega) (by omega)]
      exact Ev.now _
  · exact absurd top (no _ (by omega))

theorem own_eq (l : List Int) (h : l.length < 17592186044416) : spec_l1Own.f l = some l := by
  unfold spec_l1Own.f
  show (if (List.length ([] : List Int)) + l.length < 17592186044416 then some ([] ++ l) else none) = some l
  rw [if_pos (by rw [List.length_nil, Nat.zero_add]; exact h), List.nil_append]
theorem clone_eq (l : List Int) (h : l.length < 17592186044416) : slices_Clone_int_int.f l = some l := by
  unfold slices_Clone_int_int.f
  rw [if_pos h]
theorem stamps_snoc (l : List Int) (g : Stamps l) (h : l.length < 6) (v : Int) (h1 : l.getD (l.length - 1) 0 < v) (h2 : v ≤ 500) : Stamps (l ++ [v]) := by
  have gl := g.1
  have gL := g.2.1 (l.length - 1) (by omega)
  have at1 : ∀ j, j < l.length → (l ++ [v]).getD j 0 = l.getD j 0 := by
    intro j hj
    rw [List.getD_eq_getElem?_getD, List.getElem?_append_left hj, List.getD_eq_getElem?_getD]
  have at2 : (l ++ [v]).getD l.length 0 = v := by
    rw [List.getD_eq_getElem?_getD, List.getElem?_append_right (Nat.le_refl _), Nat.sub_self]; rfl
  refine ⟨by simp; omega, ?_, ?_⟩
  · intro j hj
    rw [List.length_append, List.length_singleton] at hj
    by_cases c : j < l.length
    · rw [at1 j c]; exact g.2.1 j c
    · have e : j = l.length := by omega
      subst e
      rw [at2]; omega
  · intro j h0 hj
    rw [List.length_append, List.length_singleton] at hj
    by_cases c : j < l.length
    · rw [at1 j c, at1 (j - 1) (by omega)]; exact g.2.2 j h0 c
    · have e : j = l.length := by omega
      subst e
      rw [at2, at1 _ (by omega)]; exact h1
theorem least_mn (a b : Int) : spec_l1Least.f a b = some (mn a b) := least_eq a b
theorem next_loop (l : List Int) (g : Stamps l) (hl : l.length < 6) (room : Int) (q1 : 1 ≤ room) (q8 : room ≤ 8) : ∀ (d : Nat) (v b m : Int), l.getD (l.length - 1) 0 < v → 501 ≤ v + d → v ≤ 501 → (b = 0 ∨ 0 < b) →
    ∃ r, Ev (fun k => spec_NextStamp.l0 k l room b m v) r ∧ Ev (fun k => impl_NextStamp.l0 k l room b m v) r := by
  have gl := g.1
  have gL := g.2.1 (l.length - 1) (by omega)
  obtain ⟨x, x1, x2, x3, x4⟩ := reach_ev l g room q1 q8
  have b1 : room * l.getD (l.length - 1) 0 ≤ 8 * 500 := Int.mul_le_mul q8 gL.2 (by omega) (by omega)
  have stop : ∀ v b m, (b = 0 ∨ 0 < b) → ¬ v ≤ mn (x + 1) 500 → ∃ r, Ev (fun k => spec_NextStamp.l0 k l room b m v) r ∧ Ev (fun k => impl_NextStamp.l0 k l room b m v) r := by
    intro v b m hb c
    refine ⟨if b = 0 then (0, false) else (b, true), Ev.step (fun k => by rw [spec_NextStamp.l0]) ?_, Ev.step (fun k => by rw [impl_NextStamp.l0]) ?_⟩
    · refine Ev.bind x1 ?_
      rw [wrap_id (x + 1) (by omega) (by omega), least_mn]
      simp only [Option.bind_some, if_neg c]
      by_cases e : b = 0
      · simp only [if_pos e]; exact Ev.now _
      · simp only [if_neg e]; exact Ev.now _
    · refine Ev.bind x2 ?_
      rw [wrap_id (x + 1) (by omega) (by omega)]
      simp only [if_neg c]
      by_cases e : b = 0
      · subst e; exact Ev.now _
      · simp only [if_neg e]
        rw [decide_eq_true (show b > 0 by omega)]
        exact Ev.now _
  intro d
  induction d with
  | zero =>
    intro v b m hv hd hv2 hb
    exact stop v b m hb (by unfold mn; split <;> omega)
  | succ d ih =>
    intro v b m hv hd hv2 hb
    by_cases c : v ≤ mn (x + 1) 500
    · have c5 : v ≤ 500 := by unfold mn at c; split at c <;> omega
      have g2 := stamps_snoc l g hl v hv c5
      obtain ⟨y, y1, y2, y3, y4⟩ := reach_ev (l ++ [v]) g2 room q1 q8
      by_cases e : y > m
      · obtain ⟨r, r1, r2⟩ := ih (v + 1) v y (by omega) (by omega) (by omega) (by omega)
        refine ⟨r, Ev.step (fun k => by rw [spec_NextStamp.l0]) ?_, Ev.step (fun k => by rw [impl_NextStamp.l0]) ?_⟩
        · refine Ev.bind x1 ?_
          rw [wrap_id (x + 1) (by omega) (by omega), least_mn]
          simp only [Option.bind_some, if_pos c]
          refine Ev.bind (a := l) (by rw [own_eq l (by omega)]; exact Ev.now _) ?_
          simp only [if_pos (show l.length < 17592186044416 by omega)]
          refine Ev.bind y1 ?_
          simp only [if_pos e]
          rw [wrap_id (v + 1) (by omega) (by omega)]
          exact r1
        · refine Ev.bind x2 ?_
          rw [wrap_id (x + 1) (by omega) (by omega)]
          simp only [if_pos c]
          refine Ev.bind (a := l) (by rw [clone_eq l (by omega)]; exact Ev.now _) ?_
          simp only [if_pos (show l.length < 17592186044416 by omega)]
          refine Ev.bind y2 ?_
          simp only [if_pos e]
          rw [wrap_id (v + 1) (by omega) (by omega)]
          exact r2
      · obtain ⟨r, r1, r2⟩ := ih (v + 1) b m (by omega) (by omega) (by omega) hb
        refine ⟨r, Ev.step (fun k => by rw [spec_NextStamp.l0]) ?_, Ev.step (fun k => by rw [impl_NextStamp.l0]) ?_⟩
        · refine Ev.bind x1 ?_
          rw [wrap_id (x + 1) (by omega) (by omega), least_mn]
          simp only [Option.bind_some, if_pos c]
          refine Ev.bind (a := l) (by rw [own_eq l (by omega)]; exact Ev.now _) ?_
          simp only [if_pos (show l.length < 17592186044416 by omega)]
          refine Ev.bind y1 ?_
          simp only [if_neg e]
          rw [wrap_id (v + 1) (by omega) (by omega)]
          exact r1
        · refine Ev.bind x2 ?_
          rw [wrap_id (x + 1) (by omega) (by omega)]
          simp only [if_pos c]
          refine Ev.bind (a := l) (by rw [clone_eq l (by omega)]; exact Ev.now _) ?_
          simp only [if_pos (show l.length < 17592186044416 by omega)]
          refine Ev.bind y2 ?_
          simp only [if_neg e]
          rw [wrap_id (v + 1) (by omega) (by omega)]
          exact r2
    · exact stop v b m hb c
theorem NextStamp_same (l : List Int) (a : Int) (hm : l.length ≤ 1099511627776) : ∃ r, Ev (fun k => spec_NextStamp.f k l a) r ∧ Ev (fun k => impl_NextStamp.f k l a) r := by
  obtain ⟨b, hs, hi, jb⟩ := stamps_same l hm
  have hr := stRoom_ev l b hs a
  have no1 : ∀ k, spec_NextStamp.j0 (k + 1) l a true = some (0, false) := fun k => by rw [spec_NextStamp.j0]; rfl
  have no2 : ∀ k, impl_NextStamp.j0 (k + 1) l a true = some (0, false) := fun k => by rw [impl_NextStamp.j0]; rfl
  unfold spec_NextStamp.f impl_NextStamp.f
  cases b with
  | true =>
    have g := jb.1 rfl
    have gl := g.1
    have hq := areStamped_ev l g hi a 0
    rw [decide_eq_true (show (0 : Int) ≤ 0 ∧ (0 : Int) ≤ 4000 by omega), Bool.and_true] at hq
    rw [Bool.true_and] at hr
    by_cases c : 1 ≤ a ∧ a ≤ 8
    · rw [decide_eq_true c] at hr hq
      by_cases s : (l.length : Int) = 6
      · refine ⟨(0, false), Ev.bind hr ?_, Ev.bind hq ?_⟩
        · simp only [if_true, s, beq_self_eq_true]
          exact Ev.step no1 (Ev.now _)
        · simp only [if_true, s, beq_self_eq_true]
          exact Ev.step no2 (Ev.now _)
      · have gL := g.2.1 (l.length - 1) (by omega)
        have w : wrap64 ((l.length : Int) - 1) = ((l.length - 1 : Nat) : Int) := by rw [wrap_id _ (by omega) (by omega)]; omega
        have e0 : rd l ((l.length - 1 : Nat) : Int) = l.getD (l.length - 1) 0 := rfl
        obtain ⟨r, r1, r2⟩ := next_loop l g (by omega) a c.1 c.2 501 (l.getD (l.length - 1) 0 + 1) 0 (-1) (by omega) (by omega) (by omega) (.inl rfl)
        refine ⟨r, Ev.bind hr ?_, Ev.bind hq ?_⟩
        · simp only [if_true, beq_eq_false_iff_ne.mpr s]
          refine Ev.step (fun k => by rw [spec_NextStamp.j0]) ?_
          rw [w]
          simp only [Bool.false_eq_true, if_false, if_pos (show (0 : Int) ≤ ((l.length - 1 : Nat) : Int) by omega), if_pos (show ((l.length - 1 : Nat) : Int) < (l.length : Int) by omega), e0]
          rw [wrap_id (l.getD (l.length - 1) 0 + 1) (by omega) (by omega)]
          exact r1
        · simp only [if_true, beq_eq_false_iff_ne.mpr s]
          refine Ev.step (fun k => by rw [impl_NextStamp.j0]) ?_
          rw [w]
          simp only [Bool.false_eq_true, if_false, if_pos (show (0 : Int) ≤ ((l.length - 1 : Nat) : Int) by omega), if_pos (show ((l.length - 1 : Nat) : Int) < (l.length : Int) by omega), e0]
          rw [wrap_id (l.getD (l.length - 1) 0 + 1) (by omega) (by omega)]
          exact r2
    · rw [decide_eq_false c] at hr hq
      refine ⟨(0, false), Ev.bind hr ?_, Ev.bind hq ?_⟩
      · simp only [Bool.false_eq_true, if_false]
        exact Ev.step no1 (Ev.now _)
      · simp only [Bool.false_eq_true, if_false]
        exact Ev.step no2 (Ev.now _)
  | false =>
    rw [Bool.false_and] at hr
    refine ⟨(0, false), Ev.bind hr ?_, Ev.bind (areStamped_no l hi a 0) ?_⟩
    · simp only [Bool.false_eq_true, if_false]
      exact Ev.step no1 (Ev.now _)
    · simp only [Bool.false_eq_true, if_false]
      exact Ev.step no2 (Ev.now _)
theorem FnExactNextStamp : laws_FnExactNextStamp.Pure := by
  intro l0 a1 h1 h2 h3 w_a1
  apply Ev.rounds
  unfold laws_FnExactNextStamp.f
  by_cases c : (l0.length : Int) > 1048576
  · simp only [if_pos c]; exact Ev.now _
  · simp only [if_neg c]
    have hm : l0.length ≤ 1099511627776 := by omega
    obtain ⟨⟨r1, r2⟩, hs, hi⟩ := NextStamp_same l0 a1 hm
    refine Ev.bind (toInt_ev l0 hm) ?_
    refine Ev.bind hs ?_
    refine Ev.bind (toInt_ev l0 hm) ?_
    refine Ev.bind hi ?_
    simp only [if_true, bne_self_eq_false, Bool.false_eq_true, if_false]
    refine Ev.step (fun k => by rw [laws_FnExactNextStamp.j0]) ?_
    simp only [Bool.false_eq_true, if_false]
    refine Ev.bind (toInt_ev l0 hm) ?_
    refine Ev.bind (eq_ev l0 hm) ?_
    exact Ev.now _

end Go.Proofs.Ytbabhmdncfffnaa.Pure
