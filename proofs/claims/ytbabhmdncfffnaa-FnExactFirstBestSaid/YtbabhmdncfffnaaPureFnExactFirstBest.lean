/- For every number of kinds and every room, the program's FirstBest tells what the reference's tells, in new memory. No conditions. -/
import Derived.Test.YtbabhmdncfffnaaPFnExactFirstBestx4
namespace Go.Proofs.Ytbabhmdncfffnaa.Pure
open Go.RowKit Go.Proofs.Ytbabhmdncfffnaa.PFnExactFirstBest Go.Proofs.YtbabhmdncfffnaaW.PrintWords Go.Proofs.YtbabhmdncfffnaaW.PrintLast
set_option linter.unusedVariables false
set_option linter.unusedSimpArgs false

theorem wrap_id (x : Int) (h0 : -9223372036854775808 ≤ x) (h1 : x ≤ 9223372036854775807) : wrap64 x = x := by
  unfold wrap64; omega
theorem wrap_succ (i : Nat) (h : i < 4611686018427387904) : wrap64 ((i : Int) + 1) = ((i + 1 : Nat) : Int) := by
  rw [wrap_id _ (by omega) (by omega)]; rfl
theorem rd_nat (l : List Int) (i : Nat) : rd l (i : Int) = l.getD i 0 := rfl
theorem getD_some (l : List Int) (i : Nat) (h : i < l.length) : l[i]? = some (l.getD i 0) := by
  rw [List.getD_eq_getElem?_getD, List.getElem?_eq_getElem h]; rfl
theorem bool_same {b c : Bool} {P : Prop} (hb : b = true ↔ P) (hc : c = true ↔ P) : b = c := by
  cases b <;> cases c <;> simp_all

theorem up_to (l : List Int) (h : ∀ j, 0 < j → j < l.length → l.getD (j - 1) 0 < l.getD j 0) : ∀ (d i : Nat), i + d < l.length → l.getD i 0 ≤ l.getD (i + d) 0
  | 0, i, _ => by simp
  | d + 1, i, hd => by
    have a := up_to l h d i (by omega)
    have b := h (i + d + 1) (by omega) (by omega)
    rw [Nat.add_sub_cancel] at b
    rw [← Nat.add_assoc]
    omega

/-- What stamps are. -/
def Stamps (l : List Int) : Prop := (1 ≤ l.length ∧ l.length ≤ 6) ∧ (∀ j, j < l.length → 1 ≤ l.getD j 0 ∧ l.getD j 0 ≤ 500) ∧ ∀ j, 0 < j → j < l.length → l.getD (j - 1) 0 < l.getD j 0
theorem Stamps.last {l : List Int} (g : Stamps l) (j : Nat) (h : j < l.length) : l.getD j 0 ≤ l.getD (l.length - 1) 0 := by
  have c := up_to l g.2.2 (l.length - 1 - j) j (by have := g.1; omega)
  rw [show j + (l.length - 1 - j) = l.length - 1 by omega] at c
  exact c

theorem least_eq (a b : Int) : spec_l1Least.f a b = some (mn a b) := by
  unfold spec_l1Least.f mn
  by_cases c : a < b
  · rw [if_pos c, if_neg (by omega)]
  · rw [if_neg c]
    by_cases d : b < a
    · rw [if_pos d]
    · rw [if_neg d]; congr 1; omega
theorem set_getD (t : List Int) (v j : Nat) (x : Int) (h : v < t.length) : (t.set v x).getD j 0 = if v = j then x else t.getD j 0 := by
  rw [List.getD_eq_getElem?_getD, List.getElem?_set, List.getD_eq_getElem?_getD]
  by_cases c : v = j
  · subst c; rw [if_pos rfl, if_pos h, if_pos rfl]; rfl
  · rw [if_neg c, if_neg c]

/-- What the two tables tell of one value: the same number, or each its word for none. -/
def Rel (m L : Int) (v : Nat) (a b : Int) : Prop := (a = b ∧ 0 ≤ a ∧ a ≤ v ∧ (v : Int) ≤ a * L) ∨ (0 < v ∧ a = m + 1 ∧ b = 1000000)
theorem rel_step {m L : Int} {v : Nat} {a b a' b' : Int} (s : Int) (hs : 1 ≤ s) (hsL : s ≤ L) (hsv : s ≤ v) (hv : (v : Int) ≤ m) (hm : m ≤ 900000) (h : Rel m L v a b) (h' : Rel m L ((v : Int) - s).toNat a' b') :
    Rel m L v (mn a (wrap64 (a' + 1))) (mn b (wrap64 (b' + 1))) := by
  have e : ((((v : Int) - s).toNat : Nat) : Int) = (v : Int) - s := by omega
  unfold Rel at h h' ⊢
  rw [e] at h'
  have hL : (a' + 1) * L = a' * L + L := by rw [Int.add_mul, Int.one_mul]
  rcases h with ⟨h1, h2, h3, h4⟩ | ⟨h0, h1, h2⟩ <;> rcases h' with ⟨k1, k2, k3, k4⟩ | ⟨k0, k1, k2⟩
  · rw [wrap_id _ (by omega) (by omega), wrap_id _ (by omega) (by omega)]
    left
    unfold mn
    subst h1 k1
    refine ⟨rfl, ?_, ?_, ?_⟩
    · split <;> omega
    · split <;> omega
    · split
      · rw [hL]; omega
      · exact h4
  · rw [wrap_id _ (by omega) (by omega), wrap_id _ (by omega) (by omega)]
    left
    unfold mn
    rw [if_neg (by omega), if_neg (by omega)]
    exact ⟨h1, h2, h3, h4⟩
  · rw [wrap_id _ (by omega) (by omega), wrap_id _ (by omega) (by omega)]
    left
    unfold mn
    rw [if_pos (by omega), if_pos (by omega), hL]
    omega
  · rw [wrap_id _ (by omega) (by omega), wrap_id _ (by omega) (by omega)]
    right
    unfold mn
    rw [if_neg (by omega), if_neg (by omega)]
    exact ⟨h0, h1, h2⟩
theorem few_inner (l : List Int) (g : Stamps l) (m : Int) (hm0 : 0 ≤ m) (hm : m ≤ 900000) (v : Nat) (hv1 : 1 ≤ v) (hv : (v : Int) ≤ m) : ∀ (d i : Nat) (t u : List Int), i + d = l.length → (t.length : Int) = m + 1 → (u.length : Int) = m + 1 →
    (∀ j, j ≤ v → Rel m (l.getD (l.length - 1) 0) j (t.getD j 0) (u.getD j 0)) →
    ∃ t' u' : List Int, (t'.length : Int) = m + 1 ∧ (u'.length : Int) = m + 1 ∧ (∀ j, j ≤ v → Rel m (l.getD (l.length - 1) 0) j (t'.getD j 0) (u'.getD j 0)) ∧
      (∀ r, Ev (fun k => impl_fewStamps.l0 k l m t' (wrap64 ((v : Int) + 1))) r → Ev (fun k => impl_fewStamps.l1 k l m t v l (l.length : Int) (i : Int)) r) ∧
      (∀ r, Ev (fun k => spec_stFew.l0 k l m u' (wrap64 ((v : Int) + 1))) r → Ev (fun k => spec_stFew.l1 k l m u v l (l.length : Int) (i : Int)) r)
  | 0, i, t, u, h, ht, hu, hr => by
    refine ⟨t, u, ht, hu, hr, fun r H => ?_, fun r H => ?_⟩
    · refine Ev.step (fun k => by rw [impl_fewStamps.l1]) ?_
      simp only [if_neg (show ¬ ((i : Int) < (l.length : Int)) by omega)]
      exact H
    · refine Ev.step (fun k => by rw [spec_stFew.l1]) ?_
      simp only [if_neg (show ¬ ((i : Int) < (l.length : Int)) by omega)]
      exact H
  | d + 1, i, t, u, h, ht, hu, hr => by
    have hs := g.2.1 i (by omega)
    have hL := g.last i (by omega)
    have e0 : rd l (i : Int) = l.getD i 0 := rfl
    by_cases c : rd l (i : Int) ≤ (v : Int)
    · have w : wrap64 ((v : Int) - rd l (i : Int)) = ((((v : Int) - l.getD i 0).toNat : Nat) : Int) := by rw [e0, wrap_id _ (by omega) (by omega)]; omega
      have lt : ((v : Int) - l.getD i 0).toNat < v := by omega
      generalize hq : ((v : Int) - l.getD i 0).toNat = q at w lt
      have st := rel_step (l.getD i 0) hs.1 hL (by omega) hv hm (hr v (Nat.le_refl _)) (by rw [hq]; exact hr q (by omega))
      obtain ⟨t', u', h1, h2, h3, h4, h5⟩ := few_inner l g m hm0 hm v hv1 hv d (i + 1) (t.set v (mn (t.getD v 0) (wrap64 (t.getD q 0 + 1)))) (u.set v (mn (u.getD v 0) (wrap64 (u.getD q 0 + 1)))) (by omega) (by simpa using ht) (by simpa using hu) (fun j hj => by
        rw [set_getD t v j _ (by omega), set_getD u v j _ (by omega)]
        by_cases e : v = j
        · subst e; rw [if_pos rfl, if_pos rfl]; exact st
        · rw [if_neg e, if_neg e]; exact hr j hj)
      refine ⟨t', u', h1, h2, h3, fun r H => ?_, fun r H => ?_⟩
      · have H2 := h4 r H
        refine Ev.step (fun k => by rw [impl_fewStamps.l1]) ?_
        simp only [if_pos (show (i : Int) < (l.length : Int) by omega), if_pos (show (0 : Int) ≤ (i : Int) by omega), if_pos c, w, if_pos (show (0 : Int) ≤ (v : Int) by omega), if_pos (show (v : Int) < (t.length : Int) by omega), if_pos (show (0 : Int) ≤ (q : Int) by omega), if_pos (show (q : Int) < (t.length : Int) by omega)]
        rw [wrap_succ i (by have := g.1; omega)]
        exact H2
      · have H2 := h5 r H
        refine Ev.step (fun k => by rw [spec_stFew.l1]) ?_
        simp only [if_pos (show (i : Int) < (l.length : Int) by omega), if_pos (show (0 : Int) ≤ (i : Int) by omega), if_pos c, w, if_pos (show (0 : Int) ≤ (v : Int) by omega), if_pos (show (v : Int) < (u.length : Int) by omega), if_pos (show (0 : Int) ≤ (q : Int) by omega), if_pos (show (q : Int) < (u.length : Int) by omega), least_eq, Option.bind_some]
        rw [wrap_succ i (by have := g.1; omega)]
        exact H2
    · obtain ⟨t', u', h1, h2, h3, h4, h5⟩ := few_inner l g m hm0 hm v hv1 hv d (i + 1) t u (by omega) ht hu hr
      refine ⟨t', u', h1, h2, h3, fun r H => ?_, fun r H => ?_⟩
      · have H2 := h4 r H
        refine Ev.step (fun k => by rw [impl_fewStamps.l1]) ?_
        simp only [if_pos (show (i : Int) < (l.length : Int) by omega), if_pos (show (0 : Int) ≤ (i : Int) by omega), if_neg c]
        rw [wrap_succ i (by have := g.1; omega)]
        exact H2
      · have H2 := h5 r H
        refine Ev.step (fun k => by rw [spec_stFew.l1]) ?_
        simp only [if_pos (show (i : Int) < (l.length : Int) by omega), if_pos (show (0 : Int) ≤ (i : Int) by omega), if_neg c]
        rw [wrap_succ i (by have := g.1; omega)]
        exact H2
theorem few_outer (l : List Int) (g : Stamps l) (m : Int) (hm0 : 0 ≤ m) (hm : m ≤ 900000) : ∀ (d v : Nat) (t u : List Int), 1 ≤ v → (v : Int) + d = m + 1 → (t.length : Int) = m + 1 → (u.length : Int) = m + 1 →
    (∀ j, j < v → Rel m (l.getD (l.length - 1) 0) j (t.getD j 0) (u.getD j 0)) →
    ∃ r s : List Int, (r.length : Int) = m + 1 ∧ (s.length : Int) = m + 1 ∧ (∀ j : Nat, (j : Int) ≤ m → Rel m (l.getD (l.length - 1) 0) j (r.getD j 0) (s.getD j 0)) ∧
      Ev (fun k => impl_fewStamps.l0 k l m t (v : Int)) r ∧ Ev (fun k => spec_stFew.l0 k l m u (v : Int)) s
  | 0, v, t, u, h0, h, ht, hu, hr => by
    refine ⟨t, u, ht, hu, fun j hj => hr j (by omega), ?_, ?_⟩
    · refine Ev.step (fun k => by rw [impl_fewStamps.l0]) ?_
      simp only [if_neg (show ¬ ((v : Int) ≤ m) by omega)]
      exact Ev.now _
    · refine Ev.step (fun k => by rw [spec_stFew.l0]) ?_
      simp only [if_neg (show ¬ ((v : Int) ≤ m) by omega)]
      exact Ev.now _
  | d + 1, v, t, u, h0, h, ht, hu, hr => by
    obtain ⟨t', u', h1, h2, h3, h4, h5⟩ := few_inner l g m hm0 hm v h0 (by omega) l.length 0 (t.set v (wrap64 (m + 1))) (u.set v 1000000) (by omega) (by simpa using ht) (by simpa using hu) (fun j hj => by
      rw [set_getD t v j _ (by omega), set_getD u v j _ (by omega)]
      by_cases e : v = j
      · subst e; rw [if_pos rfl, if_pos rfl]; exact .inr ⟨by omega, wrap_id _ (by omega) (by omega), rfl⟩
      · rw [if_neg e, if_neg e]; exact hr j (by omega))
    obtain ⟨r, s, k1, k2, k3, k4, k5⟩ := few_outer l g m hm0 hm d (v + 1) t' u' (by omega) (by omega) h1 h2 (fun j hj => h3 j (by omega))
    refine ⟨r, s, k1, k2, k3, ?_, ?_⟩
    · have H2 := h4 r (by rw [wrap_succ v (by omega)]; exact k4)
      refine Ev.step (fun k => by rw [impl_fewStamps.l0]) ?_
      simp only [if_pos (show ((v : Int) ≤ m) by omega), if_pos (show (0 : Int) ≤ (v : Int) by omega), if_pos (show (v : Int) < (t.length : Int) by omega)]
      exact H2
    · have H2 := h5 s (by rw [wrap_succ v (by omega)]; exact k5)
      refine Ev.step (fun k => by rw [spec_stFew.l0]) ?_
      simp only [if_pos (show ((v : Int) ≤ m) by omega), if_pos (show (0 : Int) ≤ (v : Int) by omega), if_pos (show (v : Int) < (u.length : Int) by omega)]
      exact H2
/-- The tables of the program and of the reference tell the same. -/
theorem few_ev (l : List Int) (g : Stamps l) (m : Int) (hm0 : 0 ≤ m) (hm : m ≤ 900000) :
    ∃ r s : List Int, (r.length : Int) = m + 1 ∧ (s.length : Int) = m + 1 ∧ (∀ j : Nat, (j : Int) ≤ m → Rel m (l.getD (l.length - 1) 0) j (r.getD j 0) (s.getD j 0)) ∧
      Ev (fun k => impl_fewStamps.f k l m) r ∧ Ev (fun k => spec_stFew.f k l m) s := by
  obtain ⟨r, s, h1, h2, h3, h4, h5⟩ := few_outer l g m hm0 hm m.toNat 1 (List.replicate (m + 1).toNat 0) (List.replicate (m + 1).toNat 0) (by omega) (by omega) (by simp; omega) (by simp; omega) (fun j hj => by
    have : j = 0 := by omega
    subst this
    have e : (List.replicate (m + 1).toNat (0 : Int)).getD 0 0 = 0 := by
      rw [List.getD_eq_getElem?_getD, List.getElem?_replicate, if_pos (by omega)]; rfl
    rw [e]
    exact .inl ⟨rfl, by simp⟩)
  refine ⟨r, s, h1, h2, h3, ?_, ?_⟩
  · unfold impl_fewStamps.f
    rw [wrap_id _ (by omega) (by omega)]
    simp only [if_pos (show 0 ≤ m + 1 by omega), if_pos (show (m + 1).toNat ≤ 35184372088832 by omega)]
    exact h4
  · unfold spec_stFew.f
    rw [wrap_id _ (by omega) (by omega)]
    simp only [if_pos (show 0 ≤ m + 1 by omega), if_pos (show (m + 1).toNat ≤ 35184372088832 by omega)]
    exact h5

theorem first_where (p : Nat → Prop) : ∀ n, (∃ i, i < n ∧ p i ∧ ∀ j, j < i → ¬ p j) ∨ ∀ j, j < n → ¬ p j
  | 0 => .inr (fun j h => by omega)
  | n + 1 => by
    rcases first_where p n with ⟨i, h1, h2, h3⟩ | h1
    · exact .inl ⟨i, by omega, h2, h3⟩
    · by_cases c : p n
      · exact .inl ⟨n, by omega, c, h1⟩
      · refine .inr (fun j hj => ?_)
        by_cases e : j = n
        · rw [e]; exact c
        · exact h1 j (by omega)
theorem stReach_loop (room : Int) (s : List Int) (j0 : Nat) (h0 : 1 ≤ j0) (hl : j0 < s.length) (hm : s.length ≤ 1099511627776) (hlt : ∀ j, j < j0 → s.getD j 0 ≤ room) (hj : ¬ s.getD j0 0 ≤ room) : ∀ (d p : Nat), p + d + 1 = j0 →
    Ev (fun k => spec_stReach.l0 k room s (p : Int)) ((j0 : Int) - 1)
  | 0, p, h => by
    refine Ev.step (fun k => by rw [spec_stReach.l0]) ?_
    rw [wrap_succ p (by omega)]
    have e : ¬ rd s ((p + 1 : Nat) : Int) ≤ room := by rw [show p + 1 = j0 by omega]; exact hj
    simp only [if_pos (show ((p + 1 : Nat) : Int) < (s.length : Int) by omega), if_pos (show (0 : Int) ≤ ((p + 1 : Nat) : Int) by omega), if_neg e]
    rw [show (j0 : Int) - 1 = (p : Int) by omega]
    exact Ev.now _
  | d + 1, p, h => by
    refine Ev.step (fun k => by rw [spec_stReach.l0]) ?_
    rw [wrap_succ p (by omega)]
    have e : rd s ((p + 1 : Nat) : Int) ≤ room := hlt (p + 1) (by omega)
    simp only [if_pos (show ((p + 1 : Nat) : Int) < (s.length : Int) by omega), if_pos (show (0 : Int) ≤ ((p + 1 : Nat) : Int) by omega), if_pos e]
    exact stReach_loop room s j0 h0 hl hm hlt hj d (p + 1) (by omega)
/-- The reach, as the program and as the reference tell it. -/
theorem reach_ev (l : List Int) (g : Stamps l) (room : Int) (h1 : 1 ≤ room) (h8 : room ≤ 8) :
    ∃ r, Ev (fun k => spec_stReach.f k l room) r ∧ Ev (fun k => impl_reach.f k l room) r ∧ 0 ≤ r ∧ r ≤ room * l.getD (l.length - 1) 0 := by
  have gl := g.1
  have gL := g.2.1 (l.length - 1) (by omega)
  have w : wrap64 ((l.length : Int) - 1) = ((l.length - 1 : Nat) : Int) := by rw [wrap_id _ (by omega) (by omega)]; omega
  have e0 : rd l ((l.length - 1 : Nat) : Int) = l.getD (l.length - 1) 0 := rfl
  obtain ⟨L, hL⟩ : ∃ L, l.getD (l.length - 1) 0 = L := ⟨_, rfl⟩
  rw [hL] at gL e0
  have b0 : 0 ≤ room * L := Int.mul_nonneg (by omega) (by omega)
  have b1 : room * L ≤ 8 * 500 := Int.mul_le_mul h8 gL.2 (by omega) (by omega)
  obtain ⟨r, s, k1, k2, k3, k4, k5⟩ := few_ev l g (room * L + 1) (by omega) (by omega)
  rw [hL] at k3
  have top : r.getD (room * L + 1).toNat 0 > room := by
    rcases k3 (room * L + 1).toNat (by omega) with ⟨q1, q2, q3, q4⟩ | ⟨q0, q1, q2⟩
    · rcases Int.lt_or_le room (r.getD (room * L + 1).toNat 0) with z | z
      · exact z
      · have := Int.mul_le_mul_of_nonneg_right z (show 0 ≤ L by omega)
        omega
    · have : room ≤ room * L := by have z := Int.mul_le_mul_of_nonneg_left (show (1 : Int) ≤ L by omega) (show 0 ≤ room by omega); rw [Int.mul_one] at z; exact z
      omega
  rcases first_where (fun j => r.getD j 0 > room) ((room * L + 1).toNat + 1) with ⟨j0, i1, i2, i3⟩ | no
  · have same : ∀ j : Nat, (j : Int) ≤ room * L + 1 → (s.getD j 0 ≤ room ↔ r.getD j 0 ≤ room) := by
      intro j hj
      have : room ≤ room * L := by have z := Int.mul_le_mul_of_nonneg_left (show (1 : Int) ≤ L by omega) (show 0 ≤ room by omega); rw [Int.mul_one] at z; exact z
      rcases k3 j hj with ⟨q1, q2, q3, q4⟩ | ⟨q0, q1, q2⟩ <;> omega
    have j1 : 1 ≤ j0 := by
      rcases Nat.eq_zero_or_pos j0 with z | z
      · subst z
        have h0 := k3 0 (by omega)
        have : room ≤ room * L := by have z := Int.mul_le_mul_of_nonneg_left (show (1 : Int) ≤ L by omega) (show 0 ≤ room by omega); rw [Int.mul_one] at z; exact z
        exfalso
        have ii : r.getD 0 0 > room := i2
        rcases h0 with ⟨q1, q2, q3, q4⟩ | ⟨q0, q1, q2⟩
        · omega
        · omega
      · exact z
    refine ⟨(j0 : Int) - 1, ?_, ?_, by omega, by rw [hL]; omega⟩
    · unfold spec_stReach.f
      rw [w]
      simp only [if_pos (show (0 : Int) ≤ ((l.length - 1 : Nat) : Int) by omega), if_pos (show ((l.length - 1 : Nat) : Int) < (l.length : Int) by omega), e0]
      rw [wrap_id (room * L) (by omega) (by omega), wrap_id (room * L + 1) (by omega) (by omega)]
      refine Ev.bind k5 ?_
      exact stReach_loop room s j0 j1 (by omega) (by omega) (fun j hj => (same j (by omega)).2 (by have : ¬ r.getD j 0 > room := i3 j hj; omega)) (fun h => by have := (same j0 (by omega)).1 h; have ii : r.getD j0 0 > room := i2; omega) (j0 - 1) 0 (by omega)
    · unfold impl_reach.f
      rw [w]
      simp only [if_pos (show (0 : Int) ≤ ((l.length - 1 : Nat) : Int) by omega), if_pos (show ((l.length - 1 : Nat) : Int) < (l.length : Int) by omega), e0]
      rw [wrap_id (room * L) (by omega) (by omega), wrap_id (room * L + 1) (by omega) (by omega)]
      refine Ev.bind k4 ?_
      have hx : hwIdx (fun x => decide (x > room)) r = (j0 : Int) := hwIdx_hit _ r j0 (by omega) (fun j hj => by have : ¬ r.getD j 0 > room := i3 j hj; exact decide_eq_false this) (decide_eq_true i2)
      simp only [if_pos (show r.length < 4611686018427387904 by omega), hx]
      rw [wrap_id _ (by omega) (by omega)]
      exact Ev.now _
  · exact absurd top (no _ (by omega))

theorem own_eq (l : List Int) (h : l.length < 17592186044416) : spec_l1Own.f l = some l := by
  unfold spec_l1Own.f
  show (if (List.length ([] : List Int)) + l.length < 17592186044416 then some ([] ++ l) else none) = some l
  rw [if_pos (by rw [List.length_nil, Nat.zero_add]; exact h), List.nil_append]

/-- What a search of the reference hands on to the state of the program's. -/
def joinSt (s : hwSt) (f : List (List Int)) (far : Int) : hwSt := if s.2 < far then (f, far) else if far = s.2 then (s.1 ++ f, s.2) else s
theorem joinSt_assoc (s g h : hwSt) : joinSt (joinSt s g.1 g.2) h.1 h.2 = joinSt s (joinSt g h.1 h.2).1 (joinSt g h.1 h.2).2 := by
  obtain ⟨a, x⟩ := s
  obtain ⟨b, y⟩ := g
  obtain ⟨c, z⟩ := h
  unfold joinSt
  dsimp only
  split <;> split <;> (try split) <;> (try split) <;> (try split) <;> first | omega | (simp_all; done) | (simp_all; omega) | grind
/-- Either nothing was found, or something with a reach. -/
def Fnd (f : hwSt) (n : Nat) : Prop := ((f.2 = -1 ∧ f.1 = []) ∨ (0 ≤ f.2 ∧ f.1 ≠ [])) ∧ f.1.length ≤ n
theorem joinSt_nil (s : hwSt) (h : -1 ≤ s.2) : joinSt s [] (-1) = s := by
  unfold joinSt
  rw [if_neg (by omega)]
  split
  · rw [List.append_nil]
  · rfl
theorem Fnd.join {f g : hwSt} {n m : Nat} (hf : Fnd f n) (hg : Fnd g m) : Fnd (joinSt f g.1 g.2) (n + m) := by
  obtain ⟨h1, h2⟩ := hf
  obtain ⟨k1, k2⟩ := hg
  unfold joinSt
  split
  · exact ⟨k1, by dsimp only; omega⟩
  · split
    · refine ⟨?_, by simp only [List.length_append]; omega⟩
      rcases h1 with ⟨e1, e2⟩ | ⟨e1, e2⟩
      · rcases k1 with ⟨e3, e4⟩ | ⟨e3, e4⟩
        · exact .inl ⟨e1, by simp [e2, e4]⟩
        · omega
      · exact .inr ⟨e1, by simp [e2]⟩
    · exact ⟨h1, by omega⟩
theorem Stamps.snoc {st : List Int} (g : Stamps st) (hl : st.length ≤ 5) (v : Int) (h0 : st.getD (st.length - 1) 0 < v) (h1 : v ≤ 500) : Stamps (st ++ [v]) := by
  have e : ∀ j, j < st.length → (st ++ [v]).getD j 0 = st.getD j 0 := by
    intro j hj
    rw [List.getD_eq_getElem?_getD, List.getElem?_append_left hj, List.getD_eq_getElem?_getD]
  have e2 : (st ++ [v]).getD st.length 0 = v := by
    rw [List.getD_eq_getElem?_getD, List.getElem?_append_right (Nat.le_refl _), Nat.sub_self]
    rfl
  have g1 := g.1
  have gl := g.2.1 (st.length - 1) (by omega)
  refine ⟨⟨by rw [List.length_append]; simp, by rw [List.length_append]; simp; omega⟩, fun j hj => ?_, fun j h0 hj => ?_⟩
  · rw [List.length_append, List.length_singleton] at hj
    by_cases c : j < st.length
    · rw [e j c]; exact g.2.1 j c
    · rw [show j = st.length by omega, e2]; omega
  · rw [List.length_append, List.length_singleton] at hj
    by_cases c : j < st.length
    · rw [e j c, e (j - 1) (by omega)]; exact g.2.2 j h0 c
    · rw [show j = st.length by omega, e2, e _ (by omega)]; omega

/-- Each first branch goes on. -/
def hwHas (room : Int) : Nat → List Int → Prop
  | 0, _ => True
  | d + 1, st => (∃ K r0, impl_reach.f K st room = some r0 ∧ st.getD (st.length - 1) 0 ≤ r0) ∧ hwHas room d (st ++ [st.getD (st.length - 1) 0 + 1])
theorem Ev.same {α : Type} {g : Nat → Option α} {a b : α} (h : Ev g a) (k : Ev g b) : a = b := by
  obtain ⟨K1, h1⟩ := h
  obtain ⟨K2, h2⟩ := k
  have e1 := h1 (K1 + K2) (by omega)
  have e2 := h2 (K1 + K2) (by omega)
  exact Option.some.inj (e1.symm.trans e2)
theorem best_ev (kinds room : Int) (hr1 : 1 ≤ room) (hr5 : room ≤ 5) : ∀ (d : Nat) (st : List Int), Stamps st → (st.length : Int) + d = kinds → st.length + d ≤ 3 → st.getD (st.length - 1) 0 * 6 ^ d ≤ 216 →
    ∃ f : hwSt, Fnd f (216 ^ d) ∧ Ev (fun k => spec_stBest.f k st kinds room) (f.1.headD [], f.2, (f.1.length : Int)) ∧ (∀ s : hwSt, -1 ≤ s.2 → s.1.length + 216 ^ d ≤ 1000000 → Ev (fun k => hwAdd k room d st s) (joinSt s f.1 f.2)) ∧ (hwHas room d st → f.1 ≠ [])
  | 0, st, g, hk, h3, hL => by
    obtain ⟨r, e1, e2, e3, e4⟩ := reach_ev st g room hr1 (by omega)
    refine ⟨([st], r), ⟨.inr ⟨e3, by simp⟩, by simp⟩, ?_, fun s hs hl => ?_, fun _ => by simp⟩
    · refine Ev.step (fun k => by rw [spec_stBest.f]) ?_
      simp only [if_pos (show (st.length : Int) = kinds by omega)]
      exact Ev.bind e1 (Ev.now _)
    · unfold hwAdd
      refine Ev.bind e2 ?_
      simp only [if_pos (show s.1.length < 1000000 by have : 216 ^ 0 = 1 := rfl; omega)]
      exact Ev.now _
  | d + 1, st, g, hk, h3, hL => by
    have gl := g.1
    obtain ⟨r, e1, e2, e3, e4⟩ := reach_ev st g room hr1 (by omega)
    obtain ⟨last, hlast⟩ : ∃ last, st.getD (st.length - 1) 0 = last := ⟨_, rfl⟩
    have gL := g.2.1 (st.length - 1) (by omega)
    rw [hlast] at gL hL e4
    have hlast5 : room * last ≤ 5 * last := Int.mul_le_mul_of_nonneg_right hr5 (by omega)
    have hp1 : 1 ≤ 6 ^ d := Nat.pow_pos (by omega)
    have hpi : (1 : Int) ≤ ((6 ^ d : Nat) : Int) := by omega
    have hcast : ((6 : Int) ^ d) = ((6 ^ d : Nat) : Int) := by simp
    have hL2 : last * 6 * ((6 ^ d : Nat) : Int) ≤ 216 := by
      have : (6 : Int) ^ (d + 1) = 6 * ((6 ^ d : Nat) : Int) := by rw [Int.pow_succ, hcast, Int.mul_comm]
      rw [this, ← Int.mul_assoc] at hL
      exact hL
    have hl36 : last * 6 ≤ 216 := by
      have := Int.mul_le_mul_of_nonneg_left hpi (show 0 ≤ last * 6 by omega)
      omega
    have loop : ∀ (n : Nat) (v : Int), last < v → (v + n = r + 2 ∨ (n = 0 ∧ r + 1 < v)) → ∃ f : hwSt, Fnd f (n * 216 ^ d) ∧
        (∀ (acc : hwSt) (m : Nat), Fnd acc m → m + n * 216 ^ d ≤ 1000000 → Ev (fun k => spec_stBest.l0 k st kinds room (acc.1.headD []) acc.2 (acc.1.length : Int) v) ((joinSt acc f.1 f.2).1.headD [], (joinSt acc f.1 f.2).2, ((joinSt acc f.1 f.2).1.length : Int))) ∧
        (∀ s : hwSt, -1 ≤ s.2 → s.1.length + n * 216 ^ d ≤ 1000000 → Ev (fun k => hwFor (fun v s => hwAdd k room d (st ++ [v]) s) n v s) (joinSt s f.1 f.2)) ∧ (1 ≤ n → hwHas room d (st ++ [v]) → f.1 ≠ []) := by
      intro n
      induction n with
      | zero =>
        intro v hv hvn
        have hge : ∀ {acc : hwSt} {m : Nat}, Fnd acc m → -1 ≤ acc.2 := fun h => by rcases h.1 with ⟨e, _⟩ | ⟨e, _⟩ <;> omega
        refine ⟨([], -1), ⟨.inl ⟨rfl, rfl⟩, by simp⟩, fun acc m ha _ => ?_, fun s hs _ => ?_, fun h => absurd h (by omega)⟩
        · rw [joinSt_nil acc (hge ha)]
          refine Ev.step (fun k => by rw [spec_stBest.l0]) ?_
          refine Ev.bind e1 ?_
          rw [wrap_id (r + 1) (by omega) (by omega)]
          simp only [if_neg (show ¬ v ≤ r + 1 by omega)]
          exact Ev.now _
        · rw [joinSt_nil s hs]
          exact Ev.now _
      | succ n ih =>
        intro v hv hvn
        have hv2 : v + ((n + 1 : Nat) : Int) = r + 2 := by rcases hvn with h | ⟨h, _⟩ <;> omega
        have hv6 : v ≤ last * 6 := by omega
        have gs := g.snoc (by omega) v (by rw [hlast]; exact hv) (by omega)
        have elast : (st ++ [v]).getD ((st ++ [v]).length - 1) 0 = v := by
          rw [List.length_append, List.length_singleton, Nat.add_sub_cancel, List.getD_eq_getElem?_getD, List.getElem?_append_right (Nat.le_refl _), Nat.sub_self]
          rfl
        obtain ⟨fc, c1, c2, c3, c4⟩ := best_ev kinds room hr1 hr5 d (st ++ [v]) gs (by rw [List.length_append, List.length_singleton]; omega) (by rw [List.length_append, List.length_singleton]; omega) (by
          rw [elast, hcast]
          exact Int.le_trans (Int.mul_le_mul_of_nonneg_right hv6 (by omega)) hL2)
        obtain ⟨fr, d1, d2, d3, _⟩ := ih (v + 1) (by omega) (by omega)
        have hmul : (n + 1) * 216 ^ d = 216 ^ d + n * 216 ^ d := by rw [Nat.succ_mul, Nat.add_comm]
        refine ⟨joinSt fc fr.1 fr.2, by rw [hmul]; exact c1.join d1, fun acc m ha hm => ?_, fun s hs hl => ?_, fun _ hh => ?_⟩
        · rw [hmul] at hm
          have hj := d2 (joinSt acc fc.1 fc.2) (m + 216 ^ d) (ha.join c1) (by omega)
          rw [joinSt_assoc] at hj
          have hcl := c1.2
          have hal := ha.2
          refine Ev.step (fun k => by rw [spec_stBest.l0]) ?_
          refine Ev.bind e1 ?_
          rw [wrap_id (r + 1) (by omega) (by omega)]
          simp only [if_pos (show v ≤ r + 1 by omega)]
          refine Ev.bind (a := st) (by rw [own_eq st (by omega)]; exact Ev.now _) ?_
          simp only [if_pos (show st.length < 17592186044416 by omega)]
          refine Ev.bind c2 ?_
          rw [wrap_id (v + 1) (by omega) (by omega)]
          by_cases p : fc.2 > acc.2
          · simp only [if_pos p, if_true]
            rw [wrap_id (0 + (fc.1.length : Int)) (by omega) (by omega), Int.zero_add]
            have e : joinSt acc fc.1 fc.2 = fc := by unfold joinSt; rw [if_pos p]
            rw [e] at hj
            exact hj
          · simp only [if_neg p]
            by_cases q : fc.2 = acc.2
            · simp only [if_pos q]
              rw [wrap_id ((acc.1.length : Int) + (fc.1.length : Int)) (by omega) (by omega)]
              have e : joinSt acc fc.1 fc.2 = (acc.1 ++ fc.1, acc.2) := by unfold joinSt; rw [if_neg p, if_pos q]
              rw [e] at hj
              have eh : (acc.1 ++ fc.1).headD [] = acc.1.headD [] := by
                rcases ha.1 with ⟨x1, x2⟩ | ⟨x1, x2⟩
                · rcases c1.1 with ⟨y1, y2⟩ | ⟨y1, y2⟩
                  · rw [x2, y2]; rfl
                  · omega
                · cases h : acc.1 with
                  | nil => exact absurd h x2
                  | cons a tl => first | rfl | (simp [h]; done) | (rw [h]; rfl)
              simp only [eh, List.length_append, Int.natCast_add] at hj
              exact hj
            · simp only [if_neg q]
              have e : joinSt acc fc.1 fc.2 = acc := by unfold joinSt; rw [if_neg p, if_neg q]
              rw [e] at hj
              exact hj
        · rw [hmul] at hl
          have hcl := c1.2
          have h1 := c3 s hs (by omega)
          have hs2 : -1 ≤ (joinSt s fc.1 fc.2).2 := by
            unfold joinSt
            split
            · dsimp only; omega
            · split
              · exact hs
              · exact hs
          have hl2 : (joinSt s fc.1 fc.2).1.length + n * 216 ^ d ≤ 1000000 := by
            unfold joinSt
            split
            · dsimp only; omega
            · split
              · rw [List.length_append]; omega
              · omega
          have h2 := d3 (joinSt s fc.1 fc.2) hs2 hl2
          rw [joinSt_assoc] at h2
          exact Ev.bind h1 h2
        · have hne := c4 hh
          have hc0 : 0 ≤ fc.2 := by rcases c1.1 with ⟨_, z⟩ | ⟨z, _⟩; exact absurd z hne; exact z
          unfold joinSt
          split
          · rename_i z
            rcases d1.1 with ⟨y, _⟩ | ⟨_, y⟩
            · omega
            · exact y
          · split
            · simp [hne]
            · exact hne
    obtain ⟨N, hN⟩ : ∃ N : Nat, (r + 1 - last).toNat = N := ⟨_, rfl⟩
    obtain ⟨f, f1, f2, f3, f4⟩ := loop N (last + 1) (by omega) (by omega)
    have hN216 : N ≤ 216 := by omega
    have hNm : N * 216 ^ d ≤ 216 ^ (d + 1) := by
      rw [Nat.pow_succ, Nat.mul_comm (216 ^ d) 216]
      exact Nat.mul_le_mul_right _ hN216
    have hd2 : 216 ^ (d + 1) ≤ 1000000 := by
      have : 216 ^ (d + 1) ≤ 216 ^ 2 := Nat.pow_le_pow_right (by omega) (by omega)
      have e : 216 ^ 2 = 46656 := rfl
      omega
    refine ⟨f, ⟨f1.1, Nat.le_trans f1.2 hNm⟩, ?_, fun s hs hl => ?_, fun hh => ?_⟩
    · have h0 := f2 ([], -1) 0 ⟨.inl ⟨rfl, rfl⟩, by simp⟩ (by omega)
      have ef : joinSt (([], -1) : hwSt) f.1 f.2 = f := by
        unfold joinSt
        rcases f1.1 with ⟨x1, x2⟩ | ⟨x1, x2⟩
        · rw [if_neg (by dsimp only; omega), if_pos (by dsimp only; omega)]
          obtain ⟨a, b⟩ := f
          simp only at x1 x2 ⊢
          rw [x1, x2]
          rfl
        · rw [if_pos (by dsimp only; omega)]
      rw [ef] at h0
      have w : wrap64 ((st.length : Int) - 1) = ((st.length - 1 : Nat) : Int) := by rw [wrap_id _ (by omega) (by omega)]; omega
      have e0 : rd st ((st.length - 1 : Nat) : Int) = last := hlast
      refine Ev.step (fun k => by rw [spec_stBest.f]) ?_
      rw [w, e0, wrap_id (last + 1) (by omega) (by omega)]
      simp only [if_neg (show ¬ (st.length : Int) = kinds by omega), if_pos (show (0 : Int) ≤ ((st.length - 1 : Nat) : Int) by omega), if_pos (show ((st.length - 1 : Nat) : Int) < (st.length : Int) by omega)]
      exact h0
    · have h0 := f3 s hs (by omega)
      unfold hwAdd
      refine Ev.bind e2 ?_
      rw [hlast, hN]
      simp only [if_pos (show 0 ≤ last ∧ last ≤ 1000000 ∧ 0 ≤ r ∧ r ≤ 1000000 ∧ st.length ≤ 1000000 by omega)]
      exact h0
    · obtain ⟨⟨K, r0, q1, q2⟩, q3⟩ := hh
      rw [hlast] at q2 q3
      have := Ev.same e2 (Ev.of (fun k => impl_reach.mono st room k) q1)
      exact f4 (by omega) q3

theorem within_eq (x lo hi : Int) : impl_within.f x lo hi = some (decide (lo ≤ x ∧ x ≤ hi)) := by
  unfold impl_within.f
  by_cases c : lo ≤ x
  · rw [if_pos c]; congr 1; by_cases d : x ≤ hi
    · rw [decide_eq_true d, decide_eq_true ⟨c, d⟩]
    · rw [decide_eq_false d, decide_eq_false (fun h => d h.2)]
  · rw [if_neg c, decide_eq_false (fun h => c h.1)]

theorem l1In_eq (x lo hi : Int) : spec_l1In.f x lo hi = some (decide (lo ≤ x ∧ x ≤ hi)) := by
  unfold spec_l1In.f
  by_cases c : x ≥ lo
  · rw [if_pos c]; congr 1; by_cases d : x ≤ hi
    · rw [decide_eq_true d, decide_eq_true ⟨c, d⟩]
    · rw [decide_eq_false d, decide_eq_false (fun h => d h.2)]
  · rw [if_neg c, decide_eq_false (fun h => c h.1)]

theorem best_one : Stamps [1] := ⟨⟨by simp, by simp⟩, fun j hj => by obtain rfl : j = 0 := by simpa using hj
                                                                     exact ⟨by decide, by decide⟩, fun j h0 hj => by have : j < 1 := by simpa using hj
                                                                                                                     omega⟩
theorem hwFor_inv {f : Int → hwSt → Option hwSt} {P : hwSt → Prop} (h : ∀ v s s', P s → f v s = some s' → P s') : ∀ n v s s', P s → hwFor f n v s = some s' → P s'
  | 0, v, s, s', hp, e => by
    rw [hwFor] at e
    obtain rfl := Option.some.inj e
    exact hp
  | n + 1, v, s, s', hp, e => by
    rw [hwFor] at e
    obtain ⟨s1, e1, e2⟩ := Option.bind_eq_some_iff.mp e
    exact hwFor_inv h n _ _ _ (h _ _ _ hp e1) e2
theorem hwAdd_len (k : Nat) (room : Int) (L : Nat) : ∀ d st s s', st.length + d ≤ L → (∀ x ∈ s.1, x.length ≤ L) → hwAdd k room d st s = some s' → ∀ x ∈ s'.1, x.length ≤ L
  | 0, st, s, s', hl, hs, e => by
    unfold hwAdd at e
    obtain ⟨r, _, e⟩ := Option.bind_eq_some_iff.mp e
    split at e
    · obtain rfl := Option.some.inj e
      unfold hwLeaf
      split
      · intro x hx
        obtain rfl := List.mem_singleton.mp hx
        omega
      · split
        · intro x hx
          rcases List.mem_append.mp hx with z | z
          · exact hs x z
          · obtain rfl := List.mem_singleton.mp z
            omega
        · exact hs
    · exact absurd e (by simp)
  | d + 1, st, s, s', hl, hs, e => by
    unfold hwAdd at e
    obtain ⟨r, _, e⟩ := Option.bind_eq_some_iff.mp e
    split at e
    · exact hwFor_inv (P := fun s => ∀ x ∈ s.1, x.length ≤ L) (fun v s s' hp e => hwAdd_len k room L d _ s s' (by rw [List.length_append, List.length_singleton]; omega) hp e) _ _ _ _ hs e
    · exact absurd e (by simp)
theorem joinSt_first (f : hwSt) {n : Nat} (h : Fnd f n) : joinSt (([], -1) : hwSt) f.1 f.2 = f := by
  unfold joinSt
  rcases h.1 with ⟨x1, x2⟩ | ⟨x1, x2⟩
  · rw [if_neg (by dsimp only; omega), if_pos (by dsimp only; omega)]
    obtain ⟨a, b⟩ := f
    simp only at x1 x2 ⊢
    rw [x1, x2]
    rfl
  · rw [if_pos (by dsimp only; omega)]
theorem has_one : ∀ room : Nat, room < 6 → 1 ≤ room → (impl_reach.f 60 [1] room = some (room : Int)) ∧ ∃ r, impl_reach.f 60 [1, 2] room = some r ∧ 2 ≤ r := by
  intro room h1 h2
  have e : room = 1 ∨ room = 2 ∨ room = 3 ∨ room = 4 ∨ room = 5 := by omega
  rcases e with rfl | rfl | rfl | rfl | rfl
  · exact ⟨by decide +kernel, 2, by decide +kernel, by decide⟩
  · exact ⟨by decide +kernel, 4, by decide +kernel, by decide⟩
  · exact ⟨by decide +kernel, 6, by decide +kernel, by decide⟩
  · exact ⟨by decide +kernel, 8, by decide +kernel, by decide⟩
  · exact ⟨by decide +kernel, 10, by decide +kernel, by decide⟩
theorem has_few (room : Int) (h1 : 1 ≤ room) (h2 : room ≤ 5) (d : Nat) (hd : d ≤ 2) : hwHas room d [1] := by
  obtain ⟨p1, r, p2, p3⟩ := has_one room.toNat (by omega) (by omega)
  rw [show ((room.toNat : Nat) : Int) = room by omega] at p1 p2
  have e : d = 0 ∨ d = 1 ∨ d = 2 := by omega
  rcases e with rfl | rfl | rfl
  · exact trivial
  · exact ⟨⟨60, room, p1, h1⟩, trivial⟩
  · exact ⟨⟨60, room, p1, h1⟩, ⟨60, r, p2, p3⟩, trivial⟩
/-- The sets with the greatest reach, as the program and as the reference find them. -/
theorem hwBest_ev (kinds room : Int) :
    (∃ s : hwSt, (1 ≤ kinds ∧ kinds ≤ 3) ∧ (1 ≤ room ∧ room ≤ 5) ∧ s.1 ≠ [] ∧ (∀ x ∈ s.1, x.length ≤ 3) ∧ s.1.length ≤ 1000000 ∧ Ev (fun k => hwBest k kinds room) (s, true) ∧ Ev (fun k => spec_stBest.f k [1] kinds room) (s.1.headD [], s.2, (s.1.length : Int))) ∨
    (¬ ((1 ≤ kinds ∧ kinds ≤ 3) ∧ (1 ≤ room ∧ room ≤ 5)) ∧ Ev (fun k => hwBest k kinds room) (([], 0), false)) := by
  unfold hwBest
  simp only [within_eq, Option.bind_some]
  by_cases c1 : 1 ≤ kinds ∧ kinds ≤ 3
  · simp only [decide_eq_true c1, if_true]
    by_cases c2 : 1 ≤ room ∧ room ≤ 5
    · simp only [decide_eq_true c2, if_true, if_pos c1.1]
      left
      have hp : 6 ^ (kinds - 1).toNat ≤ 6 ^ 2 := Nat.pow_le_pow_right (by omega) (by omega)
      have hp2 : 216 ^ (kinds - 1).toNat ≤ 216 ^ 2 := Nat.pow_le_pow_right (by omega) (by omega)
      have hx : 6 ^ 2 = 36 := rfl
      have hy : 216 ^ 2 = 46656 := rfl
      have hl : ([1] : List Int).length = 1 := rfl
      obtain ⟨f, f1, f2, f3, f4⟩ := best_ev kinds room c2.1 c2.2 (kinds - 1).toNat [1] best_one (by rw [hl]; omega) (by rw [hl]; omega) (by
        have : ([1] : List Int).getD (([1] : List Int).length - 1) 0 = 1 := rfl
        rw [this]
        have hc : ((6 : Int) ^ (kinds - 1).toNat) = ((6 ^ (kinds - 1).toNat : Nat) : Int) := by simp
        rw [hc]
        omega)
      have h0 := f3 ([], -1) (by decide) (by simp only [List.length_nil]; omega)
      rw [joinSt_first f f1] at h0
      refine ⟨f, c1, c2, f4 (has_few room c2.1 c2.2 _ (by omega)), ?_, by have := f1.2; omega, Ev.bind h0 (Ev.now _), f2⟩
      obtain ⟨K, hK⟩ := h0
      exact hwAdd_len K room 3 _ _ _ _ (by rw [hl]; omega) (by simp) (hK K (Nat.le_refl _))
    · simp only [decide_eq_false c2, Bool.false_eq_true, if_false]
      exact .inr ⟨fun h => c2 h.2, Ev.now _⟩
  · simp only [decide_eq_false c1, Bool.false_eq_true, if_false]
    exact .inr ⟨fun h => c1 h.1, Ev.now _⟩

theorem eq_loop (a : List Int) (hm : a.length ≤ 1099511627776) : ∀ (d i : Nat), i + d = a.length → Ev (fun k => laws_eqIntS.l0 k a a (i : Int)) true
  | 0, i, h => by
    refine Ev.step (fun k => by rw [laws_eqIntS.l0]) ?_
    simp only [if_neg (show ¬ ((i : Int) < (a.length : Int)) by omega)]
    exact Ev.now _
  | d + 1, i, h => by
    refine Ev.step (fun k => by rw [laws_eqIntS.l0]) ?_
    simp only [if_pos (show (i : Int) < (a.length : Int) by omega), if_pos (show (0 : Int) ≤ (i : Int) by omega), if_true]
    rw [wrap_succ i (by omega)]
    exact eq_loop a hm d (i + 1) (by omega)
theorem eq_ev (a : List Int) (hm : a.length ≤ 1099511627776) : Ev (fun k => laws_eqIntS.f k a a) true := by
  unfold laws_eqIntS.f
  simp only [if_true]
  exact eq_loop a hm a.length 0 (by omega)

theorem mark_loop : ∀ (d i : Nat) (cur : List Int), i + d = cur.length → cur.length ≤ 1099511627776 → (∀ j, j < i → cur[j]? = some ((j : Int) + 1)) →
    ∃ m : List Int, m.length = cur.length ∧ (∀ j, j < m.length → m[j]? = some ((j : Int) + 1)) ∧ Ev (fun k => laws_markIntS.l0 k cur ((i : Int) + 1) (i : Int)) ((cur.length : Int) + 1, m)
  | 0, i, cur, h, hm, hj => by
    refine ⟨cur, rfl, fun j hlt => hj j (by omega), ?_⟩
    refine Ev.step (fun k => by rw [laws_markIntS.l0]) ?_
    simp only [if_neg (show ¬ ((i : Int) < (cur.length : Int)) by omega)]
    rw [show ((cur.length : Int) + 1) = ((i : Int) + 1) by omega]
    exact Ev.now _
  | d + 1, i, cur, h, hm, hj => by
    obtain ⟨m, h1, h2, h3⟩ := mark_loop d (i + 1) (cur.set i ((i : Int) + 1)) (by simp; omega) (by simpa using hm) (fun j hlt => by
      rw [List.getElem?_set]
      by_cases c : i = j
      · subst c; rw [if_pos rfl, if_pos (by omega)]
      · rw [if_neg c]; exact hj j (by omega))
    rw [List.length_set] at h1 h3
    refine ⟨m, h1, h2, ?_⟩
    refine Ev.step (fun k => by rw [laws_markIntS.l0]) ?_
    simp only [if_pos (show (i : Int) < (cur.length : Int) by omega), if_pos (show (0 : Int) ≤ (i : Int) by omega)]
    rw [wrap_succ i (by omega), Int.toNat_natCast, show wrap64 ((i : Int) + 1 + 1) = ((i + 1 : Nat) : Int) + 1 by rw [wrap_id _ (by omega) (by omega)]; omega]
    exact h3
theorem held_loop (m : List Int) (hm : m.length ≤ 1099511627776) (hj : ∀ j, j < m.length → m[j]? = some ((j : Int) + 1)) : ∀ (d i : Nat), i + d = m.length →
    Ev (fun k => laws_heldIntS.l0 k m ((i : Int) + 1) (i : Int)) ((m.length : Int) + 1)
  | 0, i, h => by
    refine Ev.step (fun k => by rw [laws_heldIntS.l0]) ?_
    simp only [if_neg (show ¬ ((i : Int) < (m.length : Int)) by omega)]
    rw [show ((m.length : Int) + 1) = ((i : Int) + 1) by omega]
    exact Ev.now _
  | d + 1, i, h => by
    refine Ev.step (fun k => by rw [laws_heldIntS.l0]) ?_
    have e : rd m (i : Int) = (i : Int) + 1 := by
      rw [rd_nat, List.getD_eq_getElem?_getD, hj i (by omega)]; rfl
    simp only [if_pos (show (i : Int) < (m.length : Int) by omega), if_pos (show (0 : Int) ≤ (i : Int) by omega), e, if_true]
    rw [wrap_succ i (by omega), show wrap64 ((i : Int) + 1 + 1) = ((i + 1 : Nat) : Int) + 1 by rw [wrap_id _ (by omega) (by omega)]; omega]
    exact held_loop m hm hj d (i + 1) (by omega)
theorem mark_ev (l : List Int) (hm : l.length ≤ 1099511627776) : ∃ m : List Int, Ev (fun k => laws_markIntS.f k l 1) ((l.length : Int) + 1, m) ∧ Ev (fun k => laws_heldIntS.f k m 1) ((l.length : Int) + 1) := by
  obtain ⟨m, h1, h2, h3⟩ := mark_loop l.length 0 l (by omega) hm (fun j h => by omega)
  refine ⟨m, h3, ?_⟩
  rw [← h1]
  exact held_loop m (by omega) h2 m.length 0 (by omega)

theorem best_same (a b : Int) : ∃ r : List Int × Bool, r.1.length ≤ 1099511627776 ∧ Ev (fun k => spec_FirstBest.f k a b) r ∧ Ev (fun k => impl_FirstBest.f k a b) r := by
  unfold spec_FirstBest.f spec_stFewKinds.f impl_FirstBest.f
  simp only [l1In_eq, Option.bind_some]
  rcases hwBest_ev a b with ⟨s, c1, c2, c3, c4, _, e1, e2⟩ | ⟨c, e1⟩
  · simp only [decide_eq_true c1, decide_eq_true c2, if_true, Option.bind_some]
    have hl : (s.1.headD []).length ≤ 3 := by
      cases h : s.1 with
      | nil => exact absurd h c3
      | cons x t => exact c4 x (by rw [h]; exact List.mem_cons_self)
    have hp : 0 < s.1.length := List.length_pos_iff.mpr c3
    refine ⟨(s.1.headD [], true), by dsimp only; omega, Ev.bind e2 (Ev.now _), Ev.bind e1 ?_⟩
    simp only [if_true, if_pos hp]
    exact Ev.now _
  · refine ⟨([], false), by simp, ?_, Ev.bind e1 ?_⟩
    · by_cases c1 : 1 ≤ a ∧ a ≤ 3
      · simp only [decide_eq_true c1, if_true, decide_eq_false (show ¬ (1 ≤ b ∧ b ≤ 5) from fun h => c ⟨c1, h⟩), Option.bind_some, Bool.false_eq_true, if_false]
        exact Ev.now _
      · simp only [decide_eq_false c1, Bool.false_eq_true, if_false, Option.bind_some]
        exact Ev.now _
    · simp only [Bool.false_eq_true, if_false]
      exact Ev.now _
theorem FnExactFirstBest : laws_FnExactFirstBest.Pure := by
  intro a b _ _
  apply Ev.rounds
  unfold laws_FnExactFirstBest.f
  obtain ⟨⟨r1, r2⟩, hr, hs, hi⟩ := best_same a b
  replace hr : r1.length ≤ 1099511627776 := hr
  obtain ⟨m2, hm2, hm3⟩ := mark_ev r1 hr
  refine Ev.bind hs ?_
  refine Ev.bind hi ?_
  refine Ev.bind (eq_ev r1 hr) ?_
  simp only [if_true, bne_self_eq_false]
  refine Ev.step (fun k => by rw [laws_FnExactFirstBest.j0]) ?_
  simp only [Bool.false_eq_true, if_false]
  refine Ev.bind hm2 ?_
  refine Ev.bind hm3 ?_
  simp only [if_neg (show ¬ ((r1.length : Int) + 1 < 0) by omega), if_true]
  refine Ev.bind hi ?_
  refine Ev.bind (eq_ev r1 hr) ?_
  simp only [if_true, bne_self_eq_false]
  refine Ev.step (fun k => by rw [laws_FnExactFirstBest.j1]) ?_
  simp only [Bool.false_eq_true, if_false]
  refine Ev.bind hm3 ?_
  simp only [if_neg (show ¬ ((r1.length : Int) + 1 < 0) by omega), if_true]
  exact Ev.now _

end Go.Proofs.Ytbabhmdncfffnaa.Pure
