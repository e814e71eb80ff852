/- For every list of whole numbers, every number of days and every rate, the program's CountPlans tells what the reference's tells, and the list reads as before. No conditions. -/
import Derived.Test.YtfldgimmdeijjaaPFnExactCountPlansx6
namespace Go.Proofs.Ytfldgimmdeijjaa.Pure
open Go.RowKit Go.Proofs.Ytfldgimmdeijjaa.PFnExactCountPlans Go.Proofs.YtfldgimmdeijjaaW.PrintWords Go.Proofs.YtfldgimmdeijjaaW.PrintLast
set_option linter.unusedVariables false
set_option linter.unusedSimpArgs false

theorem wrap_id (x : Int) (h0 : -9223372036854775808 ≤ x) (h1 : x ≤ 9223372036854775807) : wrap64 x = x := by
  unfold wrap64; omega
theorem wrap_succ (i : Nat) (h : i < 4611686018427387904) : wrap64 ((i : Int) + 1) = ((i + 1 : Nat) : Int) := by
  rw [wrap_id _ (by omega) (by omega)]; rfl
theorem rd_nat (l : List Int) (i : Nat) : rd l (i : Int) = l.getD i 0 := rfl
theorem getD_some (l : List Int) (i : Nat) (h : i < l.length) : l[i]? = some (l.getD i 0) := by
  rw [List.getD_eq_getElem?_getD, List.getElem?_eq_getElem h]; rfl
theorem bool_same {b c : Bool} {P : Prop} (hb : b = true ↔ P) (hc : c = true ↔ P) : b = c := by
  cases b <;> cases c <;> simp_all

theorem within_eq (x lo hi : Int) : impl_within.f x lo hi = some (decide (lo ≤ x ∧ x ≤ hi)) := by
  unfold impl_within.f
  by_cases c : lo ≤ x
  · rw [if_pos c]; congr 1; by_cases d : x ≤ hi
    · rw [decide_eq_true d, decide_eq_true ⟨c, d⟩]
    · rw [decide_eq_false d, decide_eq_false (fun h => d h.2)]
  · rw [if_neg c, decide_eq_false (fun h => c h.1)]

/-- The sum of the pieces of a set. -/
def ssum (l : List Int) (x : Int) : Int := ((hwIdx8 x).map fun i => l.getD i.toNat 0).sum
def idxOk (n x : Nat) : Bool := (hwIdx8 (x : Int)).all fun i => decide (0 ≤ i ∧ i < (n : Int))
theorem idx_all : (List.range 9).all (fun n => (List.range (2 ^ n)).all (idxOk n)) = true := by decide +kernel
theorem idx_in (n : Nat) (hn : n ≤ 8) (x : Nat) (hx : x < 2 ^ n) (i : Int) (hi : i ∈ hwIdx8 (x : Int)) : 0 ≤ i ∧ i < (n : Int) :=
  of_decide_eq_true (List.all_eq_true.mp (List.all_eq_true.mp (List.all_eq_true.mp idx_all n (List.mem_range.mpr (by omega))) x (List.mem_range.mpr hx)) i hi)
def idxUp (i x : Nat) : Bool := decide (hwIdx8 ((2 ^ i + x : Nat) : Int) = hwIdx8 (x : Int) ++ [(i : Int)])
theorem idx_up_all : (List.range 8).all (fun i => (List.range (2 ^ i)).all (idxUp i)) = true := by decide +kernel
theorem idx_up (i : Nat) (hi : i < 8) (x : Nat) (hx : x < 2 ^ i) : hwIdx8 ((2 ^ i + x : Nat) : Int) = hwIdx8 (x : Int) ++ [(i : Int)] :=
  of_decide_eq_true (List.all_eq_true.mp (List.all_eq_true.mp idx_up_all i (List.mem_range.mpr hi)) x (List.mem_range.mpr hx))
theorem ssum_up (l : List Int) (i : Nat) (hi : i < 8) (x : Nat) (hx : x < 2 ^ i) : ssum l ((2 ^ i + x : Nat) : Int) = ssum l (x : Int) + l.getD i 0 := by
  unfold ssum
  rw [idx_up i hi x hx, List.map_append, List.sum_append]
  simp
theorem shl_pow (n : Nat) (hn : n ≤ 8) : shl .i64 1 (n : Int) = ((2 ^ n : Nat) : Int) := by
  have e : n = 0 ∨ n = 1 ∨ n = 2 ∨ n = 3 ∨ n = 4 ∨ n = 5 ∨ n = 6 ∨ n = 7 ∨ n = 8 := by omega
  rcases e with rfl | rfl | rfl | rfl | rfl | rfl | rfl | rfl | rfl <;> decide
theorem indices_loop (x : Int) : ∀ (d i : Nat), i + d = 8 → Ev (fun k => impl_indices.l0 k x (hwIdxTo x i) (i : Int)) (hwIdx8 x)
  | 0, i, h => by
    obtain rfl : i = 8 := by omega
    refine Ev.step (fun k => by rw [impl_indices.l0]) ?_
    simp only [if_neg (show ¬ (((8 : Nat) : Int) < 8) by omega)]
    exact Ev.now _
  | d + 1, i, h => by
    have hl := hwIdxTo_len x i
    refine Ev.step (fun k => by rw [impl_indices.l0]) ?_
    rw [wrap_succ i (by omega)]
    simp only [if_pos (show (i : Int) < 8 by omega), if_pos (show (0 : Int) ≤ (i : Int) by omega)]
    by_cases c : Go.bits .and .i64 (shr .i64 x (i : Int)) 1 = 1
    · simp only [if_pos c, if_pos (show (hwIdxTo x i).length < 17592186044416 by omega)]
      rw [← hwIdxTo_yes x i c]
      exact indices_loop x d (i + 1) (by omega)
    · simp only [if_neg c]
      rw [← hwIdxTo_no x i c]
      exact indices_loop x d (i + 1) (by omega)
theorem indices_ev (x : Int) : Ev (fun k => impl_indices.f k x) (hwIdx8 x) := indices_loop x 8 0 (by omega)
theorem sumAt_loop (l : List Int) (hv : ∀ j, j < l.length → 0 ≤ l.getD j 0 ∧ l.getD j 0 ≤ 10000) (xs : List Int) (hx : xs.length ≤ 8) (hi : ∀ i ∈ xs, 0 ≤ i ∧ i < (l.length : Int)) : ∀ (d i : Nat) (s : Int), i + d = xs.length → 0 ≤ s → s ≤ 10000 * i →
    Ev (fun k => impl_sumAt.l0 k l s xs (xs.length : Int) (i : Int)) (s + ((xs.drop i).map fun i => l.getD i.toNat 0).sum)
  | 0, i, s, h, h0, h1 => by
    refine Ev.step (fun k => by rw [impl_sumAt.l0]) ?_
    simp only [if_neg (show ¬ ((i : Int) < (xs.length : Int)) by omega)]
    rw [List.drop_of_length_le (by omega)]
    simp only [List.map_nil, List.sum_nil, Int.add_zero]
    exact Ev.now _
  | d + 1, i, s, h, h0, h1 => by
    have hl : i < xs.length := by omega
    have ex : xs.drop i = rd xs (i : Int) :: xs.drop (i + 1) := by
      rw [List.drop_eq_getElem_cons hl]
      congr 1
      show xs[i] = xs.getD i 0
      rw [List.getD_eq_getElem?_getD, List.getElem?_eq_getElem hl]
      rfl
    have hm : rd xs (i : Int) ∈ xs := by
      have : xs.getD i 0 = xs[i] := by rw [List.getD_eq_getElem?_getD, List.getElem?_eq_getElem hl]; rfl
      show xs.getD i 0 ∈ xs
      rw [this]
      exact List.getElem_mem hl
    have hb := hi _ hm
    have hw := hv (rd xs (i : Int)).toNat (by omega)
    have e0 : rd l (rd xs (i : Int)) = l.getD (rd xs (i : Int)).toNat 0 := rfl
    refine Ev.step (fun k => by rw [impl_sumAt.l0]) ?_
    simp only [if_pos (show (i : Int) < (xs.length : Int) by omega), if_pos (show (0 : Int) ≤ (i : Int) by omega), if_pos hb.1, if_pos hb.2, e0]
    rw [wrap_succ i (by omega), wrap_id _ (by omega) (by omega), ex, List.map_cons, List.sum_cons, ← Int.add_assoc]
    exact sumAt_loop l hv xs hx hi d (i + 1) _ (by omega) (by omega) (by omega)
theorem sumAt_ev (l : List Int) (hv : ∀ j, j < l.length → 0 ≤ l.getD j 0 ∧ l.getD j 0 ≤ 10000) (hn : l.length ≤ 8) (x : Nat) (hx : x < 2 ^ l.length) : Ev (fun k => impl_sumAt.f k l (hwIdx8 (x : Int))) (ssum l (x : Int)) := by
  have := sumAt_loop l hv (hwIdx8 (x : Int)) (hwIdx8_len _) (fun i hi => idx_in l.length hn x hx i hi) (hwIdx8 (x : Int)).length 0 0 (by omega) (by omega) (by omega)
  show Ev (fun k => impl_sumAt.l0 k l 0 (hwIdx8 (x : Int)) ((hwIdx8 (x : Int)).length : Int) 0) _
  simpa [ssum] using this
theorem ssum_nonneg (l : List Int) (hv : ∀ j, j < l.length → 0 ≤ l.getD j 0 ∧ l.getD j 0 ≤ 10000) (x : Int) : 0 ≤ ssum l x ∧ ssum l x ≤ 80000 := by
  unfold ssum
  have hl := hwIdx8_len x
  have : ∀ xs : List Int, 0 ≤ (xs.map fun i => l.getD i.toNat 0).sum ∧ (xs.map fun i => l.getD i.toNat 0).sum ≤ 10000 * xs.length := by
    intro xs
    induction xs with
    | nil => simp
    | cons a xs ih =>
      rw [List.map_cons, List.sum_cons, List.length_cons]
      have h1 : 0 ≤ l.getD a.toNat 0 ∧ l.getD a.toNat 0 ≤ 10000 := by
        rcases Nat.lt_or_ge a.toNat l.length with z | z
        · exact hv _ z
        · rw [List.getD_eq_getElem?_getD, List.getElem?_eq_none z]
          simp
      omega
  have := this (hwIdx8 x)
  omega

/-- The sets below x that pay day d + 1. -/
def rowOf (l : List Int) (rate : Int) (x d : Nat) : List Int := ((List.range x).filter fun (y : Nat) => decide (ssum l (y : Int) = ((d : Int) + 1) * rate)).map fun (y : Nat) => (y : Int)
theorem rowOf_len (l : List Int) (rate : Int) (x d : Nat) : (rowOf l rate x d).length ≤ x := by
  unfold rowOf
  rw [List.length_map]
  exact Nat.le_trans (List.length_filter_le _ _) (by simp)
theorem rowOf_yes (l : List Int) (rate : Int) (x d : Nat) (h : ssum l (x : Int) = ((d : Int) + 1) * rate) : rowOf l rate (x + 1) d = rowOf l rate x d ++ [(x : Int)] := by
  unfold rowOf
  rw [List.range_succ, List.filter_append, List.map_append]
  congr 1
  simp [h]
theorem rowOf_no (l : List Int) (rate : Int) (x d : Nat) (h : ¬ ssum l (x : Int) = ((d : Int) + 1) * rate) : rowOf l rate (x + 1) d = rowOf l rate x d := by
  unfold rowOf
  rw [List.range_succ, List.filter_append, List.map_append]
  simp [h]
def rowsOf (l : List Int) (rate : Int) (x D : Nat) : List (List Int) := (List.range D).map (rowOf l rate x)
theorem rowsOf_len (l : List Int) (rate : Int) (x D : Nat) : (rowsOf l rate x D).length = D := by simp [rowsOf]
theorem rowsOf_at (l : List Int) (rate : Int) (x D d : Nat) (h : d < D) : rd_L1 (rowsOf l rate x D) (d : Int) = rowOf l rate x d := by
  show (rowsOf l rate x D).getD d [] = _
  rw [List.getD_eq_getElem?_getD]
  simp [rowsOf, h]
theorem rowsOf_none (l : List Int) (rate : Int) (x D : Nat) (h : ∀ d, d < D → ¬ ssum l (x : Int) = ((d : Int) + 1) * rate) : rowsOf l rate (x + 1) D = rowsOf l rate x D := by
  unfold rowsOf
  exact List.map_congr_left (fun d hd => rowOf_no l rate x d (h d (List.mem_range.mp hd)))
theorem rowsOf_set (l : List Int) (rate : Int) (hr : 1 ≤ rate) (x D d : Nat) (hd : d < D) (h : ssum l (x : Int) = ((d : Int) + 1) * rate) : (rowsOf l rate x D).set d (rowOf l rate x d ++ [(x : Int)]) = rowsOf l rate (x + 1) D := by
  apply List.ext_getElem?
  intro j
  rw [List.getElem?_set, rowsOf_len]
  by_cases e : d = j
  · subst e
    rw [if_pos rfl, if_pos hd]
    simp [rowsOf, hd, rowOf_yes l rate x d h]
  · rw [if_neg e]
    unfold rowsOf
    rw [List.getElem?_map, List.getElem?_map]
    rcases Nat.lt_or_ge j D with z | z
    · rw [List.getElem?_range z, Option.map_some, Option.map_some, rowOf_no l rate x j (fun h2 => e ?_)]
      have : ((d : Int) + 1) * rate = ((j : Int) + 1) * rate := h.symm.trans h2
      have := Int.eq_of_mul_eq_mul_right (by omega) this
      omega
    · rw [List.getElem?_eq_none (by simpa using z)]
      rfl
theorem rowsOf_zero (l : List Int) (rate : Int) (D : Nat) : rowsOf l rate 0 D = List.replicate D [] := by
  apply List.ext_getElem?
  intro j
  rcases Nat.lt_or_ge j D with z | z
  · simp [rowsOf, rowOf, List.getElem?_replicate, z]
  · rw [List.getElem?_eq_none (by simpa [rowsOf] using z), List.getElem?_eq_none (by simpa using z)]
/-- The sets that pay day d + 1, in order. -/
def payRow (l : List Int) (rate : Int) (d : Nat) : List Int := (rowOf l rate (2 ^ l.length) d).mergeSort hwLe
def payRows (l : List Int) (rate : Int) (D : Nat) : List (List Int) := (List.range D).map (payRow l rate)
theorem payRows_len (l : List Int) (rate : Int) (D : Nat) : (payRows l rate D).length = D := by simp [payRows]
theorem payRows_at (l : List Int) (rate : Int) (D d : Nat) (h : d < D) : rd_L1 (payRows l rate D) (d : Int) = payRow l rate d := by
  show (payRows l rate D).getD d [] = _
  rw [List.getD_eq_getElem?_getD]
  simp [payRows, h]
theorem payRow_len (l : List Int) (rate : Int) (d : Nat) : (payRow l rate d).length = (rowOf l rate (2 ^ l.length) d).length := List.length_mergeSort _
theorem pow_le_256 (n : Nat) (hn : n ≤ 8) : 2 ^ n ≤ 256 := Nat.pow_le_pow_right (by omega) hn
theorem sort_ev (l : List Int) (hn : l.length ≤ 8) (rate : Int) (d : Nat) : hwSortSets (rowOf l rate (2 ^ l.length) d) = some (payRow l rate d) := by
  have hp := pow_le_256 l.length hn
  have hl := rowOf_len l rate (2 ^ l.length) d
  unfold hwSortSets
  rw [if_pos, if_pos (by omega)]
  · rfl
  · rw [List.all_eq_true]
    intro x hx
    unfold rowOf at hx
    obtain ⟨y, hy, rfl⟩ := List.mem_map.mp hx
    have := List.mem_range.mp (List.mem_filter.mp hy).1
    exact decide_eq_true (by omega)
theorem sort_loop (l : List Int) (hn : l.length ≤ 8) (rate : Int) (D : Nat) (hD : D ≤ 60) : ∀ (d i : Nat), i + d = D →
    Ev (fun k => impl_paying.l1 k (payRows l rate i ++ ((List.range' i d).map (rowOf l rate (2 ^ l.length)))) (i : Int)) (payRows l rate D)
  | 0, i, h => by
    obtain rfl : i = D := by omega
    refine Ev.step (fun k => by rw [impl_paying.l1]) ?_
    simp only [List.range'_zero, List.map_nil, List.append_nil, payRows_len, if_neg (show ¬ ((i : Int) < (i : Int)) by omega)]
    exact Ev.now _
  | d + 1, i, h => by
    have e1 : (payRows l rate i ++ ((List.range' i (d + 1)).map (rowOf l rate (2 ^ l.length)))).length = D := by simp [payRows_len]; omega
    have e2 : rd_L1 (payRows l rate i ++ ((List.range' i (d + 1)).map (rowOf l rate (2 ^ l.length)))) (i : Int) = rowOf l rate (2 ^ l.length) i := by
      show (payRows l rate i ++ ((List.range' i (d + 1)).map (rowOf l rate (2 ^ l.length)))).getD i [] = _
      rw [List.getD_eq_getElem?_getD, List.getElem?_append_right (by rw [payRows_len]; exact Nat.le_refl _), payRows_len, Nat.sub_self]
      simp [List.range'_succ]
    have e3 : (payRows l rate i ++ ((List.range' i (d + 1)).map (rowOf l rate (2 ^ l.length)))).set (i : Int).toNat (payRow l rate i) = payRows l rate (i + 1) ++ ((List.range' (i + 1) d).map (rowOf l rate (2 ^ l.length))) := by
      rw [Int.toNat_natCast, List.range'_succ, List.map_cons, List.set_append_right _ _ (by rw [payRows_len]; exact Nat.le_refl _), payRows_len, Nat.sub_self, List.set_cons_zero]
      unfold payRows
      rw [List.range_succ, List.map_append, List.append_assoc]
      rfl
    refine Ev.step (fun k => by rw [impl_paying.l1]) ?_
    rw [wrap_succ i (by omega)]
    simp only [e1, if_pos (show (i : Int) < (D : Int) by omega), if_pos (show (0 : Int) ≤ (i : Int) by omega), e2, sort_ev l hn rate i, Option.bind_some, e3]
    exact sort_loop l hn rate D hD d (i + 1) (by omega)
theorem fill_loop (l : List Int) (hv : ∀ j, j < l.length → 0 ≤ l.getD j 0 ∧ l.getD j 0 ≤ 10000) (hn : l.length ≤ 8) (days rate : Int) (h0 : 0 ≤ days) (h60 : days ≤ 60) (hr1 : 1 ≤ rate) (hr2 : rate ≤ 100) : ∀ (d x : Nat), x + d = 2 ^ l.length →
    Ev (fun k => impl_paying.l0 k l days rate (rowsOf l rate x days.toNat) ((2 ^ l.length : Nat) : Int) (x : Int)) (payRows l rate days.toNat)
  | 0, x, h => by
    obtain rfl : x = 2 ^ l.length := by omega
    refine Ev.step (fun k => by rw [impl_paying.l0]) ?_
    simp only [if_neg (show ¬ (((2 ^ l.length : Nat) : Int) < ((2 ^ l.length : Nat) : Int)) by omega)]
    have := sort_loop l hn rate days.toNat (by omega) days.toNat 0 (by omega)
    have e : payRows l rate 0 ++ ((List.range' 0 days.toNat).map (rowOf l rate (2 ^ l.length))) = rowsOf l rate (2 ^ l.length) days.toNat := by
      simp [payRows, rowsOf, List.range_eq_range']
    rw [e] at this
    exact this
  | d + 1, x, h => by
    have hp := pow_le_256 l.length hn
    have hs := ssum_nonneg l hv (x : Int)
    have hx : x < 2 ^ l.length := by omega
    obtain ⟨t, ht⟩ : ∃ t, ssum l (x : Int) = t := ⟨_, rfl⟩
    rw [ht] at hs
    refine Ev.step (fun k => by rw [impl_paying.l0]) ?_
    simp only [if_pos (show (x : Int) < ((2 ^ l.length : Nat) : Int) by omega)]
    refine Ev.bind (indices_ev (x : Int)) ?_
    refine Ev.bind (sumAt_ev l hv hn x hx) ?_
    rw [ht, wrap_succ x (by omega), Int.tmod_eq_emod_of_nonneg hs.1, Int.tdiv_eq_ediv_of_nonneg hs.1]
    simp only [if_neg (show ¬ rate = 0 by omega)]
    have hq0 : 0 ≤ t / rate := Int.ediv_nonneg hs.1 (by omega)
    have hq1 : t / rate ≤ t := Int.ediv_le_self rate hs.1
    have hdm := Int.emod_add_mul_ediv t rate
    by_cases c : t % rate = 0
    · have htq : t = rate * (t / rate) := by omega
      simp only [if_pos c]
      rw [wrap_id (t / rate) (by omega) (by omega), wrap_id (t / rate - 1) (by omega) (by omega), wrap_id (days - 1) (by omega) (by omega), within_eq]
      by_cases q : 0 ≤ t / rate - 1 ∧ t / rate - 1 ≤ days - 1
      · obtain ⟨m, hm⟩ : ∃ m : Nat, t / rate - 1 = (m : Int) := ⟨(t / rate - 1).toNat, by omega⟩
        have hmD : m < days.toNat := by omega
        have hsum : ssum l (x : Int) = ((m : Int) + 1) * rate := by
          rw [ht, htq, show t / rate = (m : Int) + 1 by omega, Int.mul_comm]
        have hrl := rowOf_len l rate x m
        simp only [decide_eq_true (show 0 ≤ (m : Int) ∧ (m : Int) ≤ days - 1 by omega), Option.bind_some, if_true, hm, rowsOf_len, rowsOf_at l rate x days.toNat m hmD, if_pos (show (0 : Int) ≤ (m : Int) by omega), if_pos (show (m : Int) < (days.toNat : Int) by omega), if_pos (show (rowOf l rate x m).length < 17592186044416 by omega), Int.toNat_natCast]
        rw [rowsOf_set l rate hr1 x days.toNat m hmD hsum]
        exact fill_loop l hv hn days rate h0 h60 hr1 hr2 d (x + 1) (by omega)
      · simp only [decide_eq_false q, Option.bind_some, Bool.false_eq_true, if_false]
        rw [← rowsOf_none l rate x days.toNat (fun j hj e => q (by
          rw [ht] at e
          have : t / rate = (j : Int) + 1 := by rw [e]; exact Int.mul_ediv_cancel _ (by omega)
          omega))]
        exact fill_loop l hv hn days rate h0 h60 hr1 hr2 d (x + 1) (by omega)
    · simp only [if_neg c]
      rw [← rowsOf_none l rate x days.toNat (fun j hj e => c (by
        rw [ht] at e
        rw [e]
        exact Int.mul_emod_left _ _))]
      exact fill_loop l hv hn days rate h0 h60 hr1 hr2 d (x + 1) (by omega)
theorem paying_ev (l : List Int) (hv : ∀ j, j < l.length → 0 ≤ l.getD j 0 ∧ l.getD j 0 ≤ 10000) (hn : l.length ≤ 8) (days rate : Int) (h0 : 0 ≤ days) (h60 : days ≤ 60) (hr1 : 1 ≤ rate) (hr2 : rate ≤ 100) :
    Ev (fun k => impl_paying.f k l days rate) (payRows l rate days.toNat) := by
  unfold impl_paying.f
  simp only [if_pos h0, if_pos (show days.toNat ≤ 11728124029610 by omega), shl_pow l.length hn]
  have := fill_loop l hv hn days rate h0 h60 hr1 hr2 (2 ^ l.length) 0 (by omega)
  rw [rowsOf_zero] at this
  exact this

/-- In how many ways some of the numbers make a sum. -/
def cnt : List Int → Int → Int
  | [], s => if s = 0 then 1 else 0
  | n :: l, s => cnt l s + cnt l (s - n)

theorem cnt_snoc (l : List Int) (n : Int) : ∀ s, cnt (l ++ [n]) s = cnt l s + cnt l (s - n) := by
  induction l with
  | nil => intro s; rfl
  | cons m l ih =>
    intro s
    simp only [List.cons_append, cnt, ih]
    rw [show s - m - n = s - n - m by omega]
    omega

theorem cnt_nonneg (l : List Int) : ∀ s, 0 ≤ cnt l s := by
  induction l with
  | nil => intro s; unfold cnt; split <;> omega
  | cons m l ih => intro s; have a := ih s; have b := ih (s - m); unfold cnt; omega

theorem cnt_neg (l : List Int) (hl : ∀ x ∈ l, 0 ≤ x) : ∀ s, s < 0 → cnt l s = 0 := by
  induction l with
  | nil => intro s h; unfold cnt; rw [if_neg (by omega)]
  | cons m l ih =>
    intro s h
    have hm := hl m (by simp)
    have i := ih (fun x hx => hl x (by simp [hx]))
    unfold cnt
    rw [i s h, i (s - m) (by omega)]; rfl

theorem cnt_big (l : List Int) (hl : ∀ x ∈ l, 0 ≤ x) : ∀ s, l.sum < s → cnt l s = 0 := by
  induction l with
  | nil => intro s h; unfold cnt; rw [if_neg (by simp at h; omega)]
  | cons m l ih =>
    intro s h
    have hm := hl m (by simp)
    have i := ih (fun x hx => hl x (by simp [hx]))
    simp only [List.sum_cons] at h
    unfold cnt
    rw [i s (by omega), i (s - m) (by omega)]; rfl

theorem cnt_le (l : List Int) : ∀ s, cnt l s ≤ 2 ^ l.length := by
  induction l with
  | nil => intro s; unfold cnt; split <;> simp
  | cons m l ih =>
    intro s
    have a := ih s
    have b := ih (s - m)
    unfold cnt
    rw [List.length_cons, Int.pow_succ]
    omega

theorem cnt_small (l : List Int) (h : l.length ≤ 20) (s : Int) : cnt l s ≤ 1048576 := by
  have a := cnt_le l s
  have b : (2 : Int) ^ l.length ≤ 2 ^ 20 := by
    have := Nat.pow_le_pow_right (n := 2) (by omega) h
    exact_mod_cast this
  have c : (2 : Int) ^ 20 = 1048576 := by decide
  omega

theorem take_one (l : List Int) (i : Nat) (h : i < l.length) : l.take (i + 1) = l.take i ++ [l.getD i 0] := by
  rw [List.take_succ_eq_append_getElem h, List.getD_eq_getElem?_getD, List.getElem?_eq_getElem h]; rfl
theorem sets_cnt (l : List Int) (hn : l.length ≤ 8) : ∀ (i : Nat), i ≤ l.length → ∀ s : Int, (((List.range (2 ^ i)).filter fun (y : Nat) => decide (ssum l (y : Int) = s)).length : Int) = cnt (l.take i) s
  | 0, _, s => by
    have e : ssum l ((0 : Nat) : Int) = 0 := by
      unfold ssum
      rw [show hwIdx8 ((0 : Nat) : Int) = [] by decide]
      rfl
    rw [List.take_zero, cnt]
    simp only [Nat.pow_zero, List.range_one, List.filter_cons, List.filter_nil, e]
    by_cases h : s = 0
    · subst h; simp
    · rw [if_neg h]
      simp [show ¬ (0 : Int) = s from fun e => h e.symm]
  | i + 1, h, s => by
    have ih := sets_cnt l hn i (by omega)
    have er : List.range (2 ^ (i + 1)) = List.range (2 ^ i) ++ (List.range (2 ^ i)).map (2 ^ i + ·) := by
      rw [Nat.pow_succ, Nat.mul_two, List.range_add]
    rw [take_one l i (by omega), cnt_snoc, ← ih s, ← ih (s - l.getD i 0), er, List.filter_append, List.length_append, List.filter_map, List.length_map]
    have ef : (List.range (2 ^ i)).filter ((fun (y : Nat) => decide (ssum l (y : Int) = s)) ∘ (2 ^ i + ·)) = (List.range (2 ^ i)).filter fun (y : Nat) => decide (ssum l (y : Int) = s - l.getD i 0) := by
      apply List.filter_congr
      intro y hy
      have := ssum_up l i (by omega) y (List.mem_range.mp hy)
      show decide (ssum l ((2 ^ i + y : Nat) : Int) = s) = _
      rw [this]
      congr 1
      exact propext ⟨fun e => by omega, fun e => by omega⟩
    rw [ef]
    omega
theorem payRow_cnt (l : List Int) (hn : l.length ≤ 8) (rate : Int) (d : Nat) : ((payRow l rate d).length : Int) = cnt l (((d : Int) + 1) * rate) := by
  rw [payRow_len]
  unfold rowOf
  rw [List.length_map]
  have := sets_cnt l hn l.length (Nat.le_refl _) (((d : Int) + 1) * rate)
  rw [List.take_length] at this
  exact this

theorem eq_loop (a : List Int) (hm : a.length ≤ 1099511627776) : ∀ (d i : Nat), i + d = a.length → Ev (fun k => laws_eqIntS.l0 k a a (i : Int)) true
  | 0, i, h => by
    refine Ev.step (fun k => by rw [laws_eqIntS.l0]) ?_
    simp only [if_neg (show ¬ ((i : Int) < (a.length : Int)) by omega)]
    exact Ev.now _
  | d + 1, i, h => by
    refine Ev.step (fun k => by rw [laws_eqIntS.l0]) ?_
    simp only [if_pos (show (i : Int) < (a.length : Int) by omega), if_pos (show (0 : Int) ≤ (i : Int) by omega), if_true]
    rw [wrap_succ i (by omega)]
    exact eq_loop a hm d (i + 1) (by omega)
theorem eq_ev (a : List Int) (hm : a.length ≤ 1099511627776) : Ev (fun k => laws_eqIntS.f k a a) true := by
  unfold laws_eqIntS.f
  simp only [if_true]
  exact eq_loop a hm a.length 0 (by omega)

theorem l1In_eq (x lo hi : Int) : spec_l1In.f x lo hi = some (decide (lo ≤ x ∧ x ≤ hi)) := by
  unfold spec_l1In.f
  by_cases c : x ≥ lo
  · rw [if_pos c]; congr 1; by_cases d : x ≤ hi
    · rw [decide_eq_true d, decide_eq_true ⟨c, d⟩]
    · rw [decide_eq_false d, decide_eq_false (fun h => d h.2)]
  · rw [if_neg c, decide_eq_false (fun h => c h.1)]

theorem l1All_loop (lo hi : Int) (l : List Int) (hm : l.length ≤ 1099511627776) : ∀ (d i : Nat), i + d = l.length →
    ∃ b, Ev (fun k => spec_l1All.l0 k lo hi l (l.length : Int) (i : Int)) b ∧ (b = true ↔ ∀ j, i ≤ j → j < l.length → lo ≤ l.getD j 0 ∧ l.getD j 0 ≤ hi)
  | 0, i, h => by
    refine ⟨true, ?_, by simp only [true_iff]; intro j h1 h2; omega⟩
    refine Ev.step (fun k => by rw [spec_l1All.l0]) ?_
    simp only [if_neg (show ¬ ((i : Int) < (l.length : Int)) by omega)]
    exact Ev.now _
  | d + 1, i, h => by
    by_cases c : lo ≤ l.getD i 0 ∧ l.getD i 0 ≤ hi
    · obtain ⟨b, hb, hj⟩ := l1All_loop lo hi l hm d (i + 1) (by omega)
      refine ⟨b, ?_, ?_⟩
      · refine Ev.step (fun k => by rw [spec_l1All.l0]) ?_
        simp only [if_pos (show (i : Int) < (l.length : Int) by omega), if_pos (show (0 : Int) ≤ (i : Int) by omega), l1In_eq, rd_nat, decide_eq_true c, Option.bind_some, if_true]
        rw [wrap_succ i (by omega)]
        exact hb
      · rw [hj]
        constructor
        · intro H j h1 h2
          by_cases e : j = i
          · rw [e]; exact c
          · exact H j (by omega) h2
        · intro H j h1 h2
          exact H j (by omega) h2
    · refine ⟨false, ?_, ?_⟩
      · refine Ev.step (fun k => by rw [spec_l1All.l0]) ?_
        simp only [if_pos (show (i : Int) < (l.length : Int) by omega), if_pos (show (0 : Int) ≤ (i : Int) by omega), l1In_eq, rd_nat, decide_eq_false c, Option.bind_some, Bool.false_eq_true, if_false]
        exact Ev.now _
      · constructor
        · intro H; cases H
        · intro H; exact absurd (H i (by omega) (by omega)) c
theorem l1All_ev (lo hi : Int) (l : List Int) (hm : l.length ≤ 1099511627776) :
    ∃ b, Ev (fun k => spec_l1All.f k l lo hi) b ∧ (b = true ↔ ∀ j, j < l.length → lo ≤ l.getD j 0 ∧ l.getD j 0 ≤ hi) := by
  obtain ⟨b, hb, hj⟩ := l1All_loop lo hi l hm l.length 0 (by omega)
  exact ⟨b, hb, by rw [hj]; exact ⟨fun H j h => H j (by omega) h, fun H j _ h => H j h⟩⟩

/-- What pieces are. -/
def Good (l : List Int) : Prop := l.length ≤ 20 ∧ (∀ j, j < l.length → 1 ≤ l.getD j 0 ∧ l.getD j 0 ≤ 10000) ∧ (∀ j, 1 ≤ j → j < l.length → l.getD (j - 1) 0 ≤ l.getD j 0)

theorem piGood_loop (l : List Int) (hm : l.length ≤ 1099511627776) : ∀ (d i : Nat), 1 ≤ i → l.length ≤ i + d →
    ∃ b, Ev (fun k => spec_piGood.l0 k l (i : Int)) b ∧ (b = true ↔ ∀ j, i ≤ j → j < l.length → l.getD (j - 1) 0 ≤ l.getD j 0)
  | 0, i, h0, h => by
    refine ⟨true, ?_, by simp only [true_iff]; intro j h1 h2; omega⟩
    refine Ev.step (fun k => by rw [spec_piGood.l0]) ?_
    simp only [if_neg (show ¬ ((i : Int) < (l.length : Int)) by omega)]
    exact Ev.now _
  | d + 1, i, h0, h => by
    by_cases hlt : i < l.length
    · have w : wrap64 ((i : Int) - 1) = ((i - 1 : Nat) : Int) := by rw [wrap_id _ (by omega) (by omega)]; omega
      by_cases c : l.getD (i - 1) 0 ≤ l.getD i 0
      · obtain ⟨b, hb, hj⟩ := piGood_loop l hm d (i + 1) (by omega) (by omega)
        refine ⟨b, ?_, ?_⟩
        · refine Ev.step (fun k => by rw [spec_piGood.l0]) ?_
          simp only [w, rd_nat, if_pos (show (i : Int) < (l.length : Int) by omega), if_pos (show (0 : Int) ≤ (i : Int) by omega), if_pos (show (0 : Int) ≤ ((i - 1 : Nat) : Int) by omega), if_pos (show ((i - 1 : Nat) : Int) < (l.length : Int) by omega), if_neg (show ¬ (l.getD (i - 1) 0 > l.getD i 0) by omega)]
          rw [wrap_succ i (by omega)]
          exact hb
        · rw [hj]
          constructor
          · intro H j h1 h2
            by_cases e : j = i
            · rw [e]; exact c
            · exact H j (by omega) h2
          · intro H j h1 h2
            exact H j (by omega) h2
      · refine ⟨false, ?_, ?_⟩
        · refine Ev.step (fun k => by rw [spec_piGood.l0]) ?_
          simp only [w, rd_nat, if_pos (show (i : Int) < (l.length : Int) by omega), if_pos (show (0 : Int) ≤ (i : Int) by omega), if_pos (show (0 : Int) ≤ ((i - 1 : Nat) : Int) by omega), if_pos (show ((i - 1 : Nat) : Int) < (l.length : Int) by omega), if_pos (show (l.getD (i - 1) 0 > l.getD i 0) by omega)]
          exact Ev.now _
        · constructor
          · intro H; cases H
          · intro H; exact absurd (H i (by omega) hlt) c
    · exact piGood_loop l hm 0 i h0 (by omega)
theorem piGood_ev (l : List Int) (hm : l.length ≤ 1099511627776) : ∃ b, Ev (fun k => spec_piGood.f k l) b ∧ (b = true ↔ Good l) := by
  by_cases c : l.length ≤ 20
  · obtain ⟨a, ha, ja⟩ := l1All_ev 1 10000 l hm
    cases a with
    | true =>
      obtain ⟨b, hb, jb⟩ := piGood_loop l hm l.length 1 (by omega) (by omega)
      refine ⟨b, ?_, ?_⟩
      · unfold spec_piGood.f
        simp only [if_neg (show ¬ ((l.length : Int) > 20) by omega)]
        refine Ev.bind ha ?_
        refine Ev.step (fun k => by rw [spec_piGood.j0]) ?_
        simp only [Bool.not_true, Bool.false_eq_true, if_false]
        exact hb
      · rw [jb]
        exact ⟨fun H => ⟨c, ja.1 rfl, H⟩, fun H => H.2.2⟩
    | false =>
      refine ⟨false, ?_, ?_⟩
      · unfold spec_piGood.f
        simp only [if_neg (show ¬ ((l.length : Int) > 20) by omega)]
        refine Ev.bind ha ?_
        refine Ev.step (fun k => by rw [spec_piGood.j0]) ?_
        simp only [Bool.not_false, if_true]
        exact Ev.now _
      · exact ⟨fun H => (by cases H), fun H => ja.2 H.2.1⟩
  · refine ⟨false, ?_, ?_⟩
    · unfold spec_piGood.f
      simp only [if_pos (show ((l.length : Int) > 20) by omega)]
      refine Ev.step (fun k => by rw [spec_piGood.j0]) ?_
      simp only [if_true]
      exact Ev.now _
    · exact ⟨fun H => (by cases H), fun H => absurd H.1 c⟩

theorem sum_take_succ (l : List Int) (i : Nat) (h : i < l.length) : (l.take (i + 1)).sum = (l.take i).sum + l.getD i 0 := by
  rw [List.take_succ_eq_append_getElem h, List.sum_append, List.getD_eq_getElem?_getD, List.getElem?_eq_getElem h]; simp
theorem Good.at {l : List Int} (g : Good l) (j : Nat) (h : j < l.length) : 1 ≤ l.getD j 0 ∧ l.getD j 0 ≤ 10000 := g.2.1 j h
theorem Good.sums {l : List Int} (g : Good l) : ∀ i, i ≤ l.length → 0 ≤ (l.take i).sum ∧ (l.take i).sum ≤ 10000 * i
  | 0, _ => by simp
  | i + 1, h => by
    have ih := Good.sums g i (by omega)
    have a := g.at i (by omega)
    rw [sum_take_succ l i (by omega)]
    omega
theorem Good.sum {l : List Int} (g : Good l) : 0 ≤ l.sum ∧ l.sum ≤ 200000 := by
  have h := g.sums l.length (Nat.le_refl _)
  rw [List.take_length] at h
  have := g.1
  omega
theorem Good.mem {l : List Int} (g : Good l) (x : Int) (h : x ∈ l) : 1 ≤ x ∧ x ≤ 10000 := by
  obtain ⟨j, hj, rfl⟩ := List.getElem_of_mem h
  have := g.at j hj
  rw [List.getD_eq_getElem?_getD, List.getElem?_eq_getElem hj] at this
  simpa using this
theorem piSum_loop (l : List Int) (g : Good l) : ∀ (d i : Nat), i + d = l.length → Ev (fun k => spec_piSum.l0 k (l.take i).sum l (l.length : Int) (i : Int)) l.sum
  | 0, i, h => by
    refine Ev.step (fun k => by rw [spec_piSum.l0]) ?_
    simp only [if_neg (show ¬ ((i : Int) < (l.length : Int)) by omega)]
    rw [List.take_of_length_le (by omega)]
    exact Ev.now _
  | d + 1, i, h => by
    refine Ev.step (fun k => by rw [spec_piSum.l0]) ?_
    have gs := g.sums (i + 1) (by omega)
    have g1 := g.1
    simp only [if_pos (show (i : Int) < (l.length : Int) by omega), if_pos (show (0 : Int) ≤ (i : Int) by omega), rd_nat]
    rw [wrap_succ i (by omega), ← sum_take_succ l i (by omega), wrap_id _ (by omega) (by omega)]
    exact piSum_loop l g d (i + 1) (by omega)
theorem piSum_ev (l : List Int) (g : Good l) : Ev (fun k => spec_piSum.f k l) l.sum := piSum_loop l g l.length 0 (by omega)

/-- A table of a function's values. -/
def tabf (N : Nat) (f : Nat → Int) : List Int := (List.range N).map f
theorem tabf_length (N : Nat) (f : Nat → Int) : (tabf N f).length = N := by simp [tabf]
theorem tabf_get? (N : Nat) (f : Nat → Int) (j : Nat) : (tabf N f)[j]? = if j < N then some (f j) else none := by
  unfold tabf
  rw [List.getElem?_map]
  by_cases c : j < N
  · rw [if_pos c, List.getElem?_range c]; rfl
  · rw [if_neg c, List.getElem?_eq_none (by simpa using c)]; rfl
theorem tabf_getD (N : Nat) (f : Nat → Int) (j : Nat) (h : j < N) : (tabf N f).getD j 0 = f j := by
  rw [List.getD_eq_getElem?_getD, tabf_get?, if_pos h]; rfl
theorem tabf_ext (N : Nat) (f g : Nat → Int) (h : ∀ j, j < N → f j = g j) : tabf N f = tabf N g := by
  apply List.ext_getElem?
  intro j
  rw [tabf_get?, tabf_get?]
  by_cases c : j < N
  · rw [if_pos c, if_pos c, h j c]
  · rw [if_neg c, if_neg c]
theorem tabf_set (N : Nat) (f g : Nat → Int) (s : Nat) (v : Int) (hs : s < N) (hv : v = g s) (h : ∀ j, j < N → j ≠ s → f j = g j) : (tabf N f).set s v = tabf N g := by
  apply List.ext_getElem?
  intro j
  rw [List.getElem?_set, tabf_length, tabf_get?, tabf_get?]
  by_cases c : s = j
  · subst c
    rw [if_pos rfl, if_pos hs, if_pos hs, hv]
  · rw [if_neg c]
    by_cases d : j < N
    · rw [if_pos d, if_pos d, h j d (fun e => c e.symm)]
    · rw [if_neg d, if_neg d]
theorem replicate_tabf (N : Nat) (v : Int) : List.replicate N v = tabf N (fun _ => v) := by
  apply List.ext_getElem?
  intro j
  rw [tabf_get?, List.getElem?_replicate]

theorem take_snoc (l : List Int) (i : Nat) (h : i < l.length) : l.take (i + 1) = l.take i ++ [l.getD i 0] := by
  rw [List.take_succ_eq_append_getElem h, List.getD_eq_getElem?_getD, List.getElem?_eq_getElem h]; rfl
theorem ways_inner (p : List Int) (n : Int) (hn : 1 ≤ n) (hp : p.length ≤ 20) (hp0 : ∀ x ∈ p, 0 ≤ x) (N : Nat) (hN : N ≤ 1099511627776) (x13 : List Int) (x14 x15 : Int) (r : List Int)
    (K : Ev (fun k => spec_piWays.l0 k (tabf N (fun j => cnt (p ++ [n]) j)) x13 x14 (wrap64 (x15 + 1))) r) :
    ∀ s : Nat, s ≤ N → Ev (fun k => spec_piWays.l1 k (tabf N (fun j => if s ≤ j then cnt (p ++ [n]) j else cnt p j)) n ((s : Int) - 1) x13 x14 x15) r
  | 0, _ => by
    refine Ev.step (fun k => by rw [spec_piWays.l1]) ?_
    simp only [if_neg (show ¬ (((0 : Nat) : Int) - 1 ≥ n) by omega), Nat.zero_le, if_true]
    exact K
  | s + 1, hs => by
    have e0 : ((s + 1 : Nat) : Int) - 1 = (s : Int) := by omega
    refine Ev.step (fun k => by rw [spec_piWays.l1]) ?_
    rw [e0]
    by_cases c : (s : Int) ≥ n
    · have w : wrap64 ((s : Int) - n) = ((s - n.toNat : Nat) : Int) := by rw [wrap_id _ (by omega) (by omega)]; omega
      have e1 : ((s - n.toNat : Nat) : Int) = (s : Int) - n := by omega
      have a1 := cnt_nonneg p s
      have a2 := cnt_small p hp s
      have a3 := cnt_nonneg p ((s : Int) - n)
      have a4 := cnt_small p hp ((s : Int) - n)
      have v : wrap64 (cnt p s + cnt p ((s - n.toNat : Nat) : Int)) = cnt (p ++ [n]) s := by
        rw [cnt_snoc, e1, wrap_id _ (by omega) (by omega)]
      simp only [if_pos c, w, if_pos (show (0 : Int) ≤ (s : Int) by omega), tabf_length, if_pos (show (s : Int) < (N : Int) by omega), if_pos (show (0 : Int) ≤ ((s - n.toNat : Nat) : Int) by omega), if_pos (show ((s - n.toNat : Nat) : Int) < (N : Int) by omega), rd_nat]
      rw [tabf_getD N _ s (by omega), tabf_getD N _ (s - n.toNat) (by omega), if_neg (by omega), if_neg (by omega), v, wrap_id ((s : Int) - 1) (by omega) (by omega), Int.toNat_natCast,
        tabf_set N _ (fun j => if s ≤ j then cnt (p ++ [n]) j else cnt p j) s _ (by omega) (by rw [if_pos (Nat.le_refl _)]) (fun j hj hne => by
          by_cases d : s ≤ j
          · rw [if_pos (by omega), if_pos d]
          · rw [if_neg (by omega), if_neg d])]
      exact ways_inner p n hn hp hp0 N hN x13 x14 x15 r K s (by omega)
    · simp only [if_neg c]
      rw [tabf_ext N _ (fun j => cnt (p ++ [n]) j) (fun j hj => by
        by_cases d : s + 1 ≤ j
        · rw [if_pos d]
        · rw [if_neg d, cnt_snoc, cnt_neg p hp0 ((j : Int) - n) (by omega)]; omega)]
      exact K
theorem ways_outer (l : List Int) (g : Good l) (N : Nat) (hN : N ≤ 1099511627776) : ∀ (d i : Nat), i + d = l.length →
    Ev (fun k => spec_piWays.l0 k (tabf N (fun j => cnt (l.take i) j)) l (l.length : Int) (i : Int)) (tabf N (fun j => cnt l j))
  | 0, i, h => by
    refine Ev.step (fun k => by rw [spec_piWays.l0]) ?_
    simp only [if_neg (show ¬ ((i : Int) < (l.length : Int)) by omega)]
    rw [List.take_of_length_le (by omega)]
    exact Ev.now _
  | d + 1, i, h => by
    have g1 := g.1
    refine Ev.step (fun k => by rw [spec_piWays.l0]) ?_
    simp only [if_pos (show (i : Int) < (l.length : Int) by omega), if_pos (show (0 : Int) ≤ (i : Int) by omega), rd_nat, tabf_length]
    rw [wrap_id ((N : Int) - 1) (by omega) (by omega)]
    have hi := ways_inner (l.take i) (l.getD i 0) (g.at i (by omega)).1 (by rw [List.length_take]; omega) (fun x hx => by have := g.mem x (List.mem_of_mem_take hx); omega) N hN l (l.length : Int) (i : Int) (tabf N (fun j => cnt l j))
      (by rw [wrap_succ i (by omega), ← take_snoc l i (by omega)]; exact ways_outer l g N hN d (i + 1) (by omega)) N (Nat.le_refl _)
    rw [tabf_ext N (fun j => if N ≤ j then cnt (l.take i ++ [l.getD i 0]) j else cnt (l.take i) j) (fun j => cnt (l.take i) j) (fun j hj => if_neg (by omega))] at hi
    exact hi
theorem ways_ev (l : List Int) (g : Good l) : Ev (fun k => spec_piWays.f k l) (tabf (l.sum + 1).toNat (fun j => cnt l j)) := by
  unfold spec_piWays.f
  have gs := g.sum
  refine Ev.bind (piSum_ev l g) ?_
  rw [wrap_id _ (by omega) (by omega)]
  simp only [if_pos (show 0 ≤ l.sum + 1 by omega), if_pos (show (l.sum + 1).toNat ≤ 35184372088832 by omega), Option.bind_some, replicate_tabf, tabf_length, if_pos (show (0 : Int) < ((l.sum + 1).toNat : Int) by omega)]
  rw [show (0 : Int).toNat = 0 from rfl, tabf_set _ _ (fun j => cnt (l.take 0) j) 0 1 (by omega) (by simp [cnt]) (fun j _ hj => by simp only [List.take_zero, cnt]; rw [if_neg (by omega)])]
  exact ways_outer l g _ (by omega) l.length 0 (by omega)

theorem Good.nonneg {l : List Int} (g : Good l) : ∀ x ∈ l, 0 ≤ x := fun x hx => by have := g.mem x hx; omega
theorem piMake_ev (l : List Int) (g : Good l) (s : Int) (h0 : 0 ≤ s) : Ev (fun k => spec_piMake.f k l s) (cnt l s) := by
  have gs := g.sum
  unfold spec_piMake.f
  refine Ev.bind (ways_ev l g) ?_
  simp only [tabf_length]
  by_cases c : s ≥ ((l.sum + 1).toNat : Int)
  · simp only [if_pos c]
    rw [cnt_big l g.nonneg s (by omega)]
    exact Ev.now _
  · simp only [if_neg c, if_pos h0, if_pos (show s < ((l.sum + 1).toNat : Int) by omega)]
    have e : rd (tabf (l.sum + 1).toNat (fun j => cnt l j)) s = cnt l s := by
      show (tabf _ _).getD s.toNat 0 = _
      rw [tabf_getD _ _ _ (by omega)]
      rw [Int.toNat_of_nonneg h0]
    rw [e]
    exact Ev.now _

theorem toInt_loop (l : List Int) (hm : l.length ≤ 1099511627776) : ∀ (d i : Nat) (cur : List Int), i + d = l.length → cur.length = l.length → (∀ j, j < i → cur[j]? = l[j]?) → Ev (fun k => laws_toIntS.l0 k l cur (i : Int)) l
  | 0, i, cur, h, hc, hj => by
    refine Ev.step (fun k => by rw [laws_toIntS.l0]) ?_
    simp only [if_neg (show ¬ ((i : Int) < (l.length : Int)) by omega)]
    have e : cur = l := by
      apply List.ext_getElem?
      intro j
      by_cases c : j < i
      · exact hj j c
      · rw [List.getElem?_eq_none (by omega), List.getElem?_eq_none (by omega)]
    rw [e]
    exact Ev.now _
  | d + 1, i, cur, h, hc, hj => by
    refine Ev.step (fun k => by rw [laws_toIntS.l0]) ?_
    simp only [if_pos (show (i : Int) < (l.length : Int) by omega), if_pos (show (0 : Int) ≤ (i : Int) by omega), if_pos (show (i : Int) < (cur.length : Int) by omega)]
    rw [wrap_succ i (by omega), Int.toNat_natCast, rd_nat]
    refine toInt_loop l hm d (i + 1) _ (by omega) (by rw [List.length_set]; exact hc) ?_
    intro j hlt
    rw [List.getElem?_set]
    by_cases c : i = j
    · subst c
      rw [if_pos rfl, if_pos (by omega), getD_some l i (by omega)]
    · rw [if_neg c]
      exact hj j (by omega)
theorem toInt_ev (l : List Int) (hm : l.length ≤ 1099511627776) : Ev (fun k => laws_toIntS.f k l) l := by
  unfold laws_toIntS.f
  simp only [if_pos (show (0 : Int) ≤ (l.length : Int) by omega), if_pos (show ((l.length : Int)).toNat ≤ 35184372088832 by omega)]
  exact toInt_loop l hm l.length 0 _ (by omega) (by simp) (fun j hj => by omega)

theorem areWithin_eq (l : List Int) (lo hi : Int) (hm : l.length ≤ 1099511627776) :
    ∃ b, impl_areWithin.f l lo hi = some b ∧ (b = true ↔ ∀ j, j < l.length → lo ≤ l.getD j 0 ∧ l.getD j 0 ≤ hi) := by
  refine ⟨_, by unfold impl_areWithin.f; rw [if_pos (by omega)], ?_⟩
  rw [Bool.not_eq_true', List.any_eq_false]
  constructor
  · intro H j hj
    have := H (l.getD j 0) (by rw [List.getD_eq_getElem?_getD, List.getElem?_eq_getElem hj]; exact List.getElem_mem hj)
    simpa using this
  · intro H x hx
    obtain ⟨j, hj, rfl⟩ := List.getElem_of_mem hx
    have := H j hj
    rw [List.getD_eq_getElem?_getD, List.getElem?_eq_getElem hj] at this
    simpa using this

theorem less_eq (a b : Int) : cmp_Less_int.f a b = some (decide (a < b)) := by
  unfold cmp_Less_int.f cmp_isNaN_int.f
  simp
theorem isSorted_loop (l : List Int) (hm : l.length ≤ 1099511627776) : ∀ (i : Nat), i < l.length →
    ∃ b, Ev (fun k => slices_IsSorted_int_int.l0 k l (i : Int)) b ∧ (b = true ↔ ∀ j, 1 ≤ j → j ≤ i → l.getD (j - 1) 0 ≤ l.getD j 0)
  | 0, h => by
    refine ⟨true, ?_, by simp only [true_iff]; intro j h1 h2; omega⟩
    refine Ev.step (fun k => by rw [slices_IsSorted_int_int.l0]) ?_
    simp only [if_neg (show ¬ (((0 : Nat) : Int) > 0) by omega)]
    exact Ev.now _
  | i + 1, h => by
    have w : wrap64 (((i + 1 : Nat) : Int) - 1) = (i : Int) := by rw [wrap_id _ (by omega) (by omega)]; omega
    by_cases c : l.getD i 0 ≤ l.getD (i + 1) 0
    · obtain ⟨b, hb, hj⟩ := isSorted_loop l hm i (by omega)
      refine ⟨b, ?_, ?_⟩
      · refine Ev.step (fun k => by rw [slices_IsSorted_int_int.l0]) ?_
        simp only [w, rd_nat, less_eq, if_pos (show ((i + 1 : Nat) : Int) > 0 by omega), if_pos (show (0 : Int) ≤ ((i + 1 : Nat) : Int) by omega), if_pos (show ((i + 1 : Nat) : Int) < (l.length : Int) by omega), if_pos (show (0 : Int) ≤ (i : Int) by omega), if_pos (show (i : Int) < (l.length : Int) by omega), Option.bind_some, decide_eq_false (show ¬ (l.getD (i + 1) 0 < l.getD i 0) by omega), Bool.false_eq_true, if_false]
        exact hb
      · rw [hj]
        constructor
        · intro H j h1 h2
          by_cases e : j = i + 1
          · subst e; exact c
          · exact H j h1 (by omega)
        · intro H j h1 h2
          exact H j h1 (by omega)
    · refine ⟨false, ?_, ?_⟩
      · refine Ev.step (fun k => by rw [slices_IsSorted_int_int.l0]) ?_
        simp only [w, rd_nat, less_eq, if_pos (show ((i + 1 : Nat) : Int) > 0 by omega), if_pos (show (0 : Int) ≤ ((i + 1 : Nat) : Int) by omega), if_pos (show ((i + 1 : Nat) : Int) < (l.length : Int) by omega), if_pos (show (0 : Int) ≤ (i : Int) by omega), if_pos (show (i : Int) < (l.length : Int) by omega), Option.bind_some, decide_eq_true (show (l.getD (i + 1) 0 < l.getD i 0) by omega), if_true]
        exact Ev.now _
      · constructor
        · intro H; cases H
        · intro H; exact absurd (H (i + 1) (by omega) (by omega)) c
theorem isSorted_ev (l : List Int) (hm : l.length ≤ 1099511627776) :
    ∃ b, Ev (fun k => slices_IsSorted_int_int.f k l) b ∧ (b = true ↔ ∀ j, 1 ≤ j → j < l.length → l.getD (j - 1) 0 ≤ l.getD j 0) := by
  unfold slices_IsSorted_int_int.f
  by_cases c : l.length = 0
  · refine ⟨true, ?_, by simp only [true_iff]; intro j h1 h2; omega⟩
    rw [c, wrap_id _ (by omega) (by omega)]
    refine Ev.step (fun k => by rw [slices_IsSorted_int_int.l0]) ?_
    simp only [if_neg (show ¬ (((0 : Nat) : Int) - 1 > 0) by omega)]
    exact Ev.now _
  · obtain ⟨b, hb, hj⟩ := isSorted_loop l hm (l.length - 1) (by omega)
    refine ⟨b, ?_, ?_⟩
    · rw [wrap_id _ (by omega) (by omega), show ((l.length : Int) - 1) = ((l.length - 1 : Nat) : Int) by omega]
      exact hb
    · rw [hj]
      exact ⟨fun H j h1 h2 => H j h1 (by omega), fun H j h1 h2 => H j h1 (by omega)⟩

theorem arePieces_ev (l : List Int) (hm : l.length ≤ 1099511627776) : ∃ b, Ev (fun k => impl_ArePieces.f k l) b ∧ (b = true ↔ Good l) := by
  unfold impl_ArePieces.f
  by_cases c : l.length ≤ 20
  · simp only [if_pos (show ((l.length : Int) ≤ 20) by omega)]
    obtain ⟨a, ha, ja⟩ := areWithin_eq l 1 10000 hm
    rw [ha]
    cases a with
    | true =>
      obtain ⟨b, hb, jb⟩ := isSorted_ev l hm
      refine ⟨b, ?_, ?_⟩
      · simp only [Option.bind_some, if_true]
        refine Ev.bind hb ?_
        exact Ev.now _
      · rw [jb]
        exact ⟨fun H => ⟨c, ja.1 rfl, H⟩, fun H => H.2.2⟩
    | false =>
      refine ⟨false, ?_, ?_⟩
      · simp only [Option.bind_some, Bool.false_eq_true, if_false]
        exact Ev.now _
      · exact ⟨fun H => (by cases H), fun H => ja.2 H.2.1⟩
  · refine ⟨false, ?_, ?_⟩
    · simp only [if_neg (show ¬ ((l.length : Int) ≤ 20) by omega)]
      exact Ev.now _
    · exact ⟨fun H => (by cases H), fun H => absurd H.1 c⟩
theorem good_same (l : List Int) (hm : l.length ≤ 1099511627776) : ∃ b, Ev (fun k => spec_piGood.f k l) b ∧ Ev (fun k => impl_ArePieces.f k l) b ∧ (b = true ↔ Good l) := by
  obtain ⟨b, hb, jb⟩ := piGood_ev l hm
  obtain ⟨c, hc, jc⟩ := arePieces_ev l hm
  have e := bool_same jb jc
  subst e
  exact ⟨b, hb, hc, jb⟩

theorem fewPaid_same (l : List Int) (hm : l.length ≤ 1099511627776) : ∃ b, Ev (fun k => spec_paFew.f k l) b ∧ Ev (fun k => impl_arePaid.f k l) b ∧ (b = true → Good l ∧ l.length ≤ 8) := by
  obtain ⟨b, hs, hi, jb⟩ := good_same l hm
  unfold spec_paFew.f impl_arePaid.f
  cases b with
  | true =>
    refine ⟨decide ((l.length : Int) ≤ 8), Ev.bind hs ?_, Ev.bind hi ?_, ?_⟩
    · simp only [if_true]; exact Ev.now _
    · simp only [if_true]; exact Ev.now _
    · rw [decide_eq_true_eq]
      exact fun h => ⟨jb.1 rfl, by omega⟩
  | false =>
    refine ⟨false, Ev.bind hs ?_, Ev.bind hi ?_, fun h => by cases h⟩
    · simp only [Bool.false_eq_true, if_false]; exact Ev.now _
    · simp only [Bool.false_eq_true, if_false]; exact Ev.now _
theorem arePay_ev (l : List Int) (b : Bool) (hi : Ev (fun k => impl_arePaid.f k l) b) (a1 a2 : Int) : Ev (fun k => impl_arePayments.f k l a1 a2) (b && (decide (0 ≤ a1 ∧ a1 ≤ 60) && decide (1 ≤ a2 ∧ a2 ≤ 100))) := by
  unfold impl_arePayments.f
  refine Ev.bind hi ?_
  cases b with
  | false => simp only [Bool.false_eq_true, if_false, Bool.false_and]; exact Ev.now _
  | true =>
    simp only [if_true, within_eq, Option.bind_some, Bool.true_and]
    cases h : decide (0 ≤ a1 ∧ a1 ≤ 60) with
    | true => simp only [if_true, Bool.true_and]; exact Ev.now _
    | false => simp only [Bool.false_eq_true, if_false, Bool.false_and]; exact Ev.now _

theorem asked_ev (l : List Int) (b : Bool) (hs : Ev (fun k => spec_paFew.f k l) b) (a1 a2 : Int) : Ev (fun k => spec_paAsked.f k l a1 a2) (b && (decide (0 ≤ a1 ∧ a1 ≤ 60) && decide (1 ≤ a2 ∧ a2 ≤ 100))) := by
  unfold spec_paAsked.f
  refine Ev.bind hs ?_
  cases b with
  | false => simp only [Bool.false_eq_true, if_false, Bool.false_and]; exact Ev.now _
  | true =>
    simp only [if_true, l1In_eq, Option.bind_some, Bool.true_and]
    cases h : decide (0 ≤ a1 ∧ a1 ≤ 60) with
    | true => simp only [if_true, Bool.true_and]; exact Ev.now _
    | false => simp only [Bool.false_eq_true, if_false, Bool.false_and]; exact Ev.now _

/-- Does each day from i on, so many, have a way? -/
def AllPaid (l : List Int) (rate : Int) (i d : Nat) : Prop := ∀ j, i ≤ j → j < i + d → cnt l (((j : Int) + 1) * rate) ≠ 0
theorem find_ev (l : List Int) (hn : l.length ≤ 8) (rate : Int) : ∀ (d i : Nat), ∃ r : Int, hwFind hwEQ ((List.range' i d).map (payRow l rate)) = some r ∧ (0 ≤ r ↔ ¬ AllPaid l rate i d)
  | 0, i => ⟨-1, rfl, ⟨fun h => absurd h (by omega), fun h => absurd (fun j h1 h2 => absurd h2 (by omega)) h⟩⟩
  | d + 1, i => by
    have hc := payRow_cnt l hn rate i
    rw [List.range'_succ, List.map_cons, hwFind]
    by_cases z : (payRow l rate i).length = 0
    · refine ⟨0, ?_, ⟨fun _ h => h i (Nat.le_refl _) (by omega) (by omega), fun _ => Int.le_refl _⟩⟩
      unfold hwEQ
      rw [z, Option.bind_some, if_pos (by rfl)]
    · obtain ⟨r, h1, h2⟩ := find_ev l hn rate d (i + 1)
      refine ⟨if r < 0 then -1 else r + 1, ?_, ?_⟩
      · unfold hwEQ
        rw [Option.bind_some, if_neg (by simpa using z)]
        unfold hwEQ at h1
        rw [h1, Option.bind_some]
      · have e : (0 ≤ (if r < 0 then (-1 : Int) else r + 1)) ↔ 0 ≤ r := by split <;> omega
        rw [e, h2]
        constructor
        · intro h H
          exact h (fun j j1 j2 => H j (by omega) (by omega))
        · intro h H
          apply h
          intro j j1 j2
          by_cases q : j = i
          · subst q; omega
          · exact H j (by omega) (by omega)
theorem later_ev (l : List Int) (g : Good l) (days rate : Int) (h60 : days ≤ 60) (hr1 : 1 ≤ rate) (hr2 : rate ≤ 100) : ∀ (d i : Nat), (i : Int) + d = days →
    (AllPaid l rate i d → Ev (fun k => spec_CountPlans.l1 k l days rate ((i : Int) + 1)) (0, false)) ∧ (¬ AllPaid l rate i d → Ev (fun k => spec_CountPlans.l1 k l days rate ((i : Int) + 1)) (0, true))
  | 0, i, h => by
    refine ⟨fun _ => ?_, fun H => absurd (fun j j1 j2 => absurd j2 (by omega)) H⟩
    refine Ev.step (fun k => by rw [spec_CountPlans.l1]) ?_
    simp only [if_neg (show ¬ ((i : Int) + 1 ≤ days) by omega)]
    exact Ev.now _
  | d + 1, i, h => by
    have hm := Int.mul_le_mul_of_nonneg_left hr2 (show (0 : Int) ≤ (i : Int) + 1 by omega)
    have hm0 : 0 ≤ ((i : Int) + 1) * rate := Int.mul_nonneg (by omega) (by omega)
    have hmk := piMake_ev l g (((i : Int) + 1) * rate) hm0
    obtain ⟨q1, q2⟩ := later_ev l g days rate h60 hr1 hr2 d (i + 1) (by omega)
    have go : ∀ r, cnt l (((i : Int) + 1) * rate) ≠ 0 → Ev (fun k => spec_CountPlans.l1 k l days rate (((i + 1 : Nat) : Int) + 1)) r → Ev (fun k => spec_CountPlans.l1 k l days rate ((i : Int) + 1)) r := by
      intro r hz hr
      refine Ev.step (fun k => by rw [spec_CountPlans.l1]) ?_
      simp only [if_pos (show (i : Int) + 1 ≤ days by omega)]
      rw [wrap_id _ (by omega) (by omega), wrap_id ((i : Int) + 1 + 1) (by omega) (by omega)]
      refine Ev.bind hmk ?_
      simp only [if_neg hz]
      exact hr
    by_cases z : cnt l (((i : Int) + 1) * rate) = 0
    · refine ⟨fun H => absurd z (H i (Nat.le_refl _) (by omega)), fun _ => ?_⟩
      refine Ev.step (fun k => by rw [spec_CountPlans.l1]) ?_
      simp only [if_pos (show (i : Int) + 1 ≤ days by omega)]
      rw [wrap_id _ (by omega) (by omega)]
      refine Ev.bind hmk ?_
      simp only [if_pos z]
      exact Ev.now _
    · refine ⟨fun H => go _ z (q1 (fun j j1 j2 => H j (by omega) (by omega))), fun H => go _ z (q2 (fun H2 => H (fun j j1 j2 => ?_)))⟩
      by_cases e : j = i
      · subst e; exact z
      · exact H2 j (by omega) (by omega)
theorem plans_loop (l : List Int) (g : Good l) (hn : l.length ≤ 8) (days rate : Int) (h60 : days ≤ 60) (hr1 : 1 ≤ rate) (hr2 : rate ≤ 100) : ∀ (d i : Nat) (m : Int), (i : Int) + d = days → 0 ≤ m → m ≤ 1000000000 → ∃ r : Int × Bool,
    (AllPaid l rate i d → Ev (fun k => impl_CountPlans.l0 k m (payRows l rate days.toNat) (i : Int)) r ∧ Ev (fun k => spec_CountPlans.l0 k l days rate m ((i : Int) + 1)) r) ∧ (¬ AllPaid l rate i d → Ev (fun k => spec_CountPlans.l0 k l days rate m ((i : Int) + 1)) (0, true))
  | 0, i, m, h, h0, h1 => by
    refine ⟨(m, true), fun _ => ⟨?_, ?_⟩, fun H => absurd (fun j j1 j2 => absurd j2 (by omega)) H⟩
    · refine Ev.step (fun k => by rw [impl_CountPlans.l0]) ?_
      simp only [payRows_len, if_neg (show ¬ ((i : Int) < (days.toNat : Int)) by omega)]
      exact Ev.now _
    · refine Ev.step (fun k => by rw [spec_CountPlans.l0]) ?_
      simp only [if_neg (show ¬ ((i : Int) + 1 ≤ days) by omega)]
      exact Ev.now _
  | d + 1, i, m, h, h0, h1 => by
    have hm := Int.mul_le_mul_of_nonneg_left hr2 (show (0 : Int) ≤ (i : Int) + 1 by omega)
    have hm0 : 0 ≤ ((i : Int) + 1) * rate := Int.mul_nonneg (by omega) (by omega)
    have hmk := piMake_ev l g (((i : Int) + 1) * rate) hm0
    have hc := payRow_cnt l hn rate i
    obtain ⟨c, hcc⟩ : ∃ c, cnt l (((i : Int) + 1) * rate) = c := ⟨_, rfl⟩
    rw [hcc] at hmk hc
    have c0 := cnt_nonneg l (((i : Int) + 1) * rate)
    have c1 := cnt_small l g.1 (((i : Int) + 1) * rate)
    rw [hcc] at c0 c1
    have mc0 : 0 ≤ m * c := Int.mul_nonneg h0 c0
    have mc1 : m * c ≤ 1000000000 * 1048576 := Int.mul_le_mul h1 c1 c0 (by omega)
    have stepI : ∀ r, (¬ m * c > 1000000000 → Ev (fun k => impl_CountPlans.l0 k (m * c) (payRows l rate days.toNat) (((i + 1 : Nat) : Int))) r) → (m * c > 1000000000 → r = (0, false)) → Ev (fun k => impl_CountPlans.l0 k m (payRows l rate days.toNat) (i : Int)) r := by
      intro r hr1 hr2
      refine Ev.step (fun k => by rw [impl_CountPlans.l0]) ?_
      simp only [payRows_len, if_pos (show (i : Int) < (days.toNat : Int) by omega), if_pos (show (0 : Int) ≤ (i : Int) by omega), payRows_at l rate days.toNat i (by omega), hc]
      rw [wrap_id (m * c) (by omega) (by omega), wrap_succ i (by omega)]
      by_cases q : m * c > 1000000000
      · simp only [if_pos q]
        rw [hr2 q]
        exact Ev.now _
      · simp only [if_neg q]
        exact hr1 q
    have stepS : ∀ r, (¬ m * c > 1000000000 → Ev (fun k => spec_CountPlans.l0 k l days rate (m * c) (((i + 1 : Nat) : Int) + 1)) r) → (m * c > 1000000000 → Ev (fun k => spec_CountPlans.l1 k l days rate (((i + 1 : Nat) : Int) + 1)) r) → Ev (fun k => spec_CountPlans.l0 k l days rate m ((i : Int) + 1)) r := by
      intro r hr1 hr2
      refine Ev.step (fun k => by rw [spec_CountPlans.l0]) ?_
      simp only [if_pos (show (i : Int) + 1 ≤ days by omega)]
      rw [wrap_id (((i : Int) + 1) * rate) (by omega) (by omega)]
      refine Ev.bind hmk ?_
      rw [wrap_id (m * c) (by omega) (by omega), wrap_id ((i : Int) + 1 + 1) (by omega) (by omega)]
      by_cases q : m * c > 1000000000
      · simp only [if_pos q]
        exact hr2 q
      · simp only [if_neg q]
        exact hr1 q
    obtain ⟨t1, t2⟩ := later_ev l g days rate h60 hr1 hr2 d (i + 1) (by omega)
    by_cases q : m * c > 1000000000
    · have hcz : c ≠ 0 := by intro z; rw [z] at q; omega
      refine ⟨(0, false), fun H => ⟨stepI _ (fun n => absurd q n) (fun _ => rfl), stepS _ (fun n => absurd q n) (fun _ => t1 (fun j j1 j2 => H j (by omega) (by omega)))⟩, fun H => stepS _ (fun n => absurd q n) (fun _ => t2 (fun H2 => H (fun j j1 j2 => ?_)))⟩
      by_cases e : j = i
      · subst e; rw [hcc]; exact hcz
      · exact H2 j (by omega) (by omega)
    · obtain ⟨r, u1, u2⟩ := plans_loop l g hn days rate h60 hr1 hr2 d (i + 1) (m * c) (by omega) mc0 (by omega)
      refine ⟨r, fun H => ?_, fun H => ?_⟩
      · have := u1 (fun j j1 j2 => H j (by omega) (by omega))
        exact ⟨stepI _ (fun _ => this.1) (fun n => absurd n q), stepS _ (fun _ => this.2) (fun n => absurd n q)⟩
      · by_cases A : AllPaid l rate (i + 1) d
        · -- then this very day has none: the product is 0 from here on
          have hz : c = 0 := by
            rcases Int.lt_trichotomy c 0 with z | z | z
            · omega
            · exact z
            · exact absurd (fun j j1 j2 => by
                by_cases e : j = i
                · subst e; rw [hcc]; omega
                · exact A j (by omega) (by omega)) H
          refine stepS _ (fun _ => ?_) (fun n => absurd n q)
          rw [hz, Int.mul_zero]
          exact zero_loop l g days rate h60 hr1 hr2 d (i + 1) (by omega)
        · exact stepS _ (fun _ => u2 A) (fun n => absurd n q)
where
  zero_loop (l : List Int) (g : Good l) (days rate : Int) (h60 : days ≤ 60) (hr1 : 1 ≤ rate) (hr2 : rate ≤ 100) : ∀ (d i : Nat), (i : Int) + d = days → Ev (fun k => spec_CountPlans.l0 k l days rate 0 ((i : Int) + 1)) (0, true)
  | 0, i, h => by
    refine Ev.step (fun k => by rw [spec_CountPlans.l0]) ?_
    simp only [if_neg (show ¬ ((i : Int) + 1 ≤ days) by omega)]
    exact Ev.now _
  | d + 1, i, h => by
    have hm := Int.mul_le_mul_of_nonneg_left hr2 (show (0 : Int) ≤ (i : Int) + 1 by omega)
    have hm0 : 0 ≤ ((i : Int) + 1) * rate := Int.mul_nonneg (by omega) (by omega)
    refine Ev.step (fun k => by rw [spec_CountPlans.l0]) ?_
    simp only [if_pos (show (i : Int) + 1 ≤ days by omega)]
    rw [wrap_id (((i : Int) + 1) * rate) (by omega) (by omega)]
    refine Ev.bind (piMake_ev l g (((i : Int) + 1) * rate) hm0) ?_
    rw [Int.zero_mul, wrap_id 0 (by omega) (by omega), wrap_id ((i : Int) + 1 + 1) (by omega) (by omega)]
    simp only [if_neg (show ¬ ((0 : Int) > 1000000000) by omega)]
    exact zero_loop l g days rate h60 hr1 hr2 d (i + 1) (by omega)
theorem CountPlans_same (l : List Int) (days rate : Int) (hm : l.length ≤ 1099511627776) : ∃ r, Ev (fun k => spec_CountPlans.f k l days rate) r ∧ Ev (fun k => impl_CountPlans.f k l days rate) r := by
  obtain ⟨b, hs, hi, jb⟩ := fewPaid_same l hm
  have hs2 := asked_ev l b hs days rate
  have hi2 := arePay_ev l b hi days rate
  unfold spec_CountPlans.f impl_CountPlans.f
  cases hc : (b && (decide ((0 : Int) ≤ days ∧ days ≤ 60) && decide (1 ≤ rate ∧ rate ≤ 100))) with
  | false =>
    rw [hc] at hs2 hi2
    exact ⟨(0, false), Ev.bind hs2 (by simp only [Bool.false_eq_true, if_false]; exact Ev.now _), Ev.bind hi2 (by simp only [Bool.false_eq_true, if_false]; exact Ev.now _)⟩
  | true =>
    rw [hc] at hs2 hi2
    rw [Bool.and_eq_true, Bool.and_eq_true] at hc
    obtain ⟨c1, c2, c3⟩ := hc
    obtain ⟨g, hn⟩ := jb c1
    have hr := of_decide_eq_true c3
    have hd := of_decide_eq_true c2
    have hv : ∀ j, j < l.length → 0 ≤ l.getD j 0 ∧ l.getD j 0 ≤ 10000 := fun j hj => by have := g.2.1 j hj; omega
    obtain ⟨f, f1, f2⟩ := find_ev l hn rate days.toNat 0
    obtain ⟨r, r1, r2⟩ := plans_loop l g hn days rate hd.2 hr.1 hr.2 days.toNat 0 1 (by omega) (by omega) (by omega)
    have hl := payRows_len l rate days.toNat
    have e : payRows l rate days.toNat = (List.range' 0 days.toNat).map (payRow l rate) := by
      unfold payRows
      rw [List.range_eq_range']
    rw [← e] at f1
    by_cases A : AllPaid l rate 0 days.toNat
    · obtain ⟨u1, u2⟩ := r1 A
      refine ⟨r, Ev.bind hs2 (by simp only [if_true]; exact u2), Ev.bind hi2 ?_⟩
      simp only [if_true]
      refine Ev.bind (paying_ev l hv hn days rate hd.1 hd.2 hr.1 hr.2) ?_
      simp only [if_pos (show (payRows l rate days.toNat).length < 4611686018427387904 by rw [hl]; omega), f1, Option.bind_some, if_neg (show ¬ 0 ≤ f from fun h => f2.1 h A)]
      exact u1
    · refine ⟨(0, true), Ev.bind hs2 (by simp only [if_true]; exact r2 A), Ev.bind hi2 ?_⟩
      simp only [if_true]
      refine Ev.bind (paying_ev l hv hn days rate hd.1 hd.2 hr.1 hr.2) ?_
      simp only [if_pos (show (payRows l rate days.toNat).length < 4611686018427387904 by rw [hl]; omega), f1, Option.bind_some, if_pos (f2.2 A)]
      exact Ev.now _
theorem FnExactCountPlans : laws_FnExactCountPlans.Pure := by
  intro l0 a1 a2 h1 h2 h3 w_a1 w_a2
  apply Ev.rounds
  unfold laws_FnExactCountPlans.f
  by_cases c : (l0.length : Int) > 1048576
  · simp only [if_pos c]; exact Ev.now _
  · simp only [if_neg c]
    have hm : l0.length ≤ 1099511627776 := by omega
    obtain ⟨⟨r1, r2⟩, hs, hi⟩ := CountPlans_same l0 a1 a2 hm
    refine Ev.bind (toInt_ev l0 hm) ?_
    refine Ev.bind hs ?_
    refine Ev.bind (toInt_ev l0 hm) ?_
    refine Ev.bind hi ?_
    simp only [if_true, bne_self_eq_false, Bool.false_eq_true, if_false]
    refine Ev.step (fun k => by rw [laws_FnExactCountPlans.j0]) ?_
    simp only [Bool.false_eq_true, if_false]
    refine Ev.bind (toInt_ev l0 hm) ?_
    refine Ev.bind (eq_ev l0 hm) ?_
    exact Ev.now _

end Go.Proofs.Ytfldgimmdeijjaa.Pure
