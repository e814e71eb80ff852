/- For every list of whole numbers, the program's PiecesText tells what the reference's tells, and the list reads as before. No conditions beside the tied tables of Go's library, which the card ties to the (pruned) program's text. -/
import Derived.Test.YthoimcoaclnflaaDoorPFnExactPiecesTextx3
namespace Go.Proofs.YthoimcoaclnflaaDoor.Pure
open Go.RowKit Go.Proofs.YthoimcoaclnflaaDoor.PFnExactPiecesText Go.Proofs.YthoimcoaclnflaaDoorW.PrintWords Go.Proofs.YthoimcoaclnflaaDoorW.PrintLast
set_option linter.unusedVariables false
set_option linter.unusedSimpArgs false

theorem wrap_id (x : Int) (h0 : -9223372036854775808 ≤ x) (h1 : x ≤ 9223372036854775807) : wrap64 x = x := by
  unfold wrap64; omega
theorem wrap_succ (i : Nat) (h : i < 4611686018427387904) : wrap64 ((i : Int) + 1) = ((i + 1 : Nat) : Int) := by
  rw [wrap_id _ (by omega) (by omega)]; rfl
theorem rd_nat (l : List Int) (i : Nat) : rd l (i : Int) = l.getD i 0 := rfl
theorem getD_some (l : List Int) (i : Nat) (h : i < l.length) : l[i]? = some (l.getD i 0) := by
  rw [List.getD_eq_getElem?_getD, List.getElem?_eq_getElem h]; rfl
theorem bool_same {b c : Bool} {P : Prop} (hb : b = true ↔ P) (hc : c = true ↔ P) : b = c := by
  cases b <;> cases c <;> simp_all

theorem eq_loop (a : List Int) (hm : a.length ≤ 1099511627776) : ∀ (d i : Nat), i + d = a.length → Ev (fun k => laws_eqIntS.l0 k a a (i : Int)) true
  | 0, i, h => by
    refine Ev.step (fun k => by rw [laws_eqIntS.l0]) ?_
    simp only [if_neg (show ¬ ((i : Int) < (a.length : Int)) by omega)]
    exact Ev.now _
  | d + 1, i, h => by
    refine Ev.step (fun k => by rw [laws_eqIntS.l0]) ?_
    simp only [if_pos (show (i : Int) < (a.length : Int) by omega), if_pos (show (0 : Int) ≤ (i : Int) by omega), if_true]
    rw [wrap_succ i (by omega)]
    exact eq_loop a hm d (i + 1) (by omega)
theorem eq_ev (a : List Int) (hm : a.length ≤ 1099511627776) : Ev (fun k => laws_eqIntS.f k a a) true := by
  unfold laws_eqIntS.f
  simp only [if_true]
  exact eq_loop a hm a.length 0 (by omega)

theorem toInt_loop (l : List Int) (hm : l.length ≤ 1099511627776) : ∀ (d i : Nat) (cur : List Int), i + d = l.length → cur.length = l.length → (∀ j, j < i → cur[j]? = l[j]?) → Ev (fun k => laws_toIntS.l0 k l cur (i : Int)) l
  | 0, i, cur, h, hc, hj => by
    refine Ev.step (fun k => by rw [laws_toIntS.l0]) ?_
    simp only [if_neg (show ¬ ((i : Int) < (l.length : Int)) by omega)]
    have e : cur = l := by
      apply List.ext_getElem?
      intro j
      by_cases c : j < i
      · exact hj j c
      · rw [List.getElem?_eq_none (by omega), List.getElem?_eq_none (by omega)]
    rw [e]
    exact Ev.now _
  | d + 1, i, cur, h, hc, hj => by
    refine Ev.step (fun k => by rw [laws_toIntS.l0]) ?_
    simp only [if_pos (show (i : Int) < (l.length : Int) by omega), if_pos (show (0 : Int) ≤ (i : Int) by omega), if_pos (show (i : Int) < (cur.length : Int) by omega)]
    rw [wrap_succ i (by omega), Int.toNat_natCast, rd_nat]
    refine toInt_loop l hm d (i + 1) _ (by omega) (by rw [List.length_set]; exact hc) ?_
    intro j hlt
    rw [List.getElem?_set]
    by_cases c : i = j
    · subst c
      rw [if_pos rfl, if_pos (by omega), getD_some l i (by omega)]
    · rw [if_neg c]
      exact hj j (by omega)
theorem toInt_ev (l : List Int) (hm : l.length ≤ 1099511627776) : Ev (fun k => laws_toIntS.f k l) l := by
  unfold laws_toIntS.f
  simp only [if_pos (show (0 : Int) ≤ (l.length : Int) by omega), if_pos (show ((l.length : Int)).toNat ≤ 35184372088832 by omega)]
  exact toInt_loop l hm l.length 0 _ (by omega) (by simp) (fun j hj => by omega)

theorem l1In_eq (x lo hi : Int) : spec_l1In.f x lo hi = some (decide (lo ≤ x ∧ x ≤ hi)) := by
  unfold spec_l1In.f
  by_cases c : x ≥ lo
  · rw [if_pos c]; congr 1; by_cases d : x ≤ hi
    · rw [decide_eq_true d, decide_eq_true ⟨c, d⟩]
    · rw [decide_eq_false d, decide_eq_false (fun h => d h.2)]
  · rw [if_neg c, decide_eq_false (fun h => c h.1)]

theorem l1All_loop (lo hi : Int) (l : List Int) (hm : l.length ≤ 1099511627776) : ∀ (d i : Nat), i + d = l.length →
    ∃ b, Ev (fun k => spec_l1All.l0 k lo hi l (l.length : Int) (i : Int)) b ∧ (b = true ↔ ∀ j, i ≤ j → j < l.length → lo ≤ l.getD j 0 ∧ l.getD j 0 ≤ hi)
  | 0, i, h => by
    refine ⟨true, ?_, by simp only [true_iff]; intro j h1 h2; omega⟩
    refine Ev.step (fun k => by rw [spec_l1All.l0]) ?_
    simp only [if_neg (show ¬ ((i : Int) < (l.length : Int)) by omega)]
    exact Ev.now _
  | d + 1, i, h => by
    by_cases c : lo ≤ l.getD i 0 ∧ l.getD i 0 ≤ hi
    · obtain ⟨b, hb, hj⟩ := l1All_loop lo hi l hm d (i + 1) (by omega)
      refine ⟨b, ?_, ?_⟩
      · refine Ev.step (fun k => by rw [spec_l1All.l0]) ?_
        simp only [if_pos (show (i : Int) < (l.length : Int) by omega), if_pos (show (0 : Int) ≤ (i : Int) by omega), l1In_eq, rd_nat, decide_eq_true c, Option.bind_some, if_true]
        rw [wrap_succ i (by omega)]
        exact hb
      · rw [hj]
        constructor
        · intro H j h1 h2
          by_cases e : j = i
          · rw [e]; exact c
          · exact H j (by omega) h2
        · intro H j h1 h2
          exact H j (by omega) h2
    · refine ⟨false, ?_, ?_⟩
      · refine Ev.step (fun k => by rw [spec_l1All.l0]) ?_
        simp only [if_pos (show (i : Int) < (l.length : Int) by omega), if_pos (show (0 : Int) ≤ (i : Int) by omega), l1In_eq, rd_nat, decide_eq_false c, Option.bind_some, Bool.false_eq_true, if_false]
        exact Ev.now _
      · constructor
        · intro H; cases H
        · intro H; exact absurd (H i (by omega) (by omega)) c
theorem l1All_ev (lo hi : Int) (l : List Int) (hm : l.length ≤ 1099511627776) :
    ∃ b, Ev (fun k => spec_l1All.f k l lo hi) b ∧ (b = true ↔ ∀ j, j < l.length → lo ≤ l.getD j 0 ∧ l.getD j 0 ≤ hi) := by
  obtain ⟨b, hb, hj⟩ := l1All_loop lo hi l hm l.length 0 (by omega)
  exact ⟨b, hb, by rw [hj]; exact ⟨fun H j h => H j (by omega) h, fun H j _ h => H j h⟩⟩

/-- What pieces are. -/
def Good (l : List Int) : Prop := l.length ≤ 20 ∧ (∀ j, j < l.length → 1 ≤ l.getD j 0 ∧ l.getD j 0 ≤ 10000) ∧ (∀ j, 1 ≤ j → j < l.length → l.getD (j - 1) 0 ≤ l.getD j 0)

theorem piGood_loop (l : List Int) (hm : l.length ≤ 1099511627776) : ∀ (d i : Nat), 1 ≤ i → l.length ≤ i + d →
    ∃ b, Ev (fun k => spec_piGood.l0 k l (i : Int)) b ∧ (b = true ↔ ∀ j, i ≤ j → j < l.length → l.getD (j - 1) 0 ≤ l.getD j 0)
  | 0, i, h0, h => by
    refine ⟨true, ?_, by simp only [true_iff]; intro j h1 h2; omega⟩
    refine Ev.step (fun k => by rw [spec_piGood.l0]) ?_
    simp only [if_neg (show ¬ ((i : Int) < (l.length : Int)) by omega)]
    exact Ev.now _
  | d + 1, i, h0, h => by
    by_cases hlt : i < l.length
    · have w : wrap64 ((i : Int) - 1) = ((i - 1 : Nat) : Int) := by rw [wrap_id _ (by omega) (by omega)]; omega
      by_cases c : l.getD (i - 1) 0 ≤ l.getD i 0
      · obtain ⟨b, hb, hj⟩ := piGood_loop l hm d (i + 1) (by omega) (by omega)
        refine ⟨b, ?_, ?_⟩
        · refine Ev.step (fun k => by rw [spec_piGood.l0]) ?_
          simp only [w, rd_nat, if_pos (show (i : Int) < (l.length : Int) by omega), if_pos (show (0 : Int) ≤ (i : Int) by omega), if_pos (show (0 : Int) ≤ ((i - 1 : Nat) : Int) by omega), if_pos (show ((i - 1 : Nat) : Int) < (l.length : Int) by omega), if_neg (show ¬ (l.getD (i - 1) 0 > l.getD i 0) by omega)]
          rw [wrap_succ i (by omega)]
          exact hb
        · rw [hj]
          constructor
          · intro H j h1 h2
            by_cases e : j = i
            · rw [e]; exact c
            · exact H j (by omega) h2
          · intro H j h1 h2
            exact H j (by omega) h2
      · refine ⟨false, ?_, ?_⟩
        · refine Ev.step (fun k => by rw [spec_piGood.l0]) ?_
          simp only [w, rd_nat, if_pos (show (i : Int) < (l.length : Int) by omega), if_pos (show (0 : Int) ≤ (i : Int) by omega), if_pos (show (0 : Int) ≤ ((i - 1 : Nat) : Int) by omega), if_pos (show ((i - 1 : Nat) : Int) < (l.length : Int) by omega), if_pos (show (l.getD (i - 1) 0 > l.getD i 0) by omega)]
          exact Ev.now _
        · constructor
          · intro H; cases H
          · intro H; exact absurd (H i (by omega) hlt) c
    · exact piGood_loop l hm 0 i h0 (by omega)
theorem piGood_ev (l : List Int) (hm : l.length ≤ 1099511627776) : ∃ b, Ev (fun k => spec_piGood.f k l) b ∧ (b = true ↔ Good l) := by
  by_cases c : l.length ≤ 20
  · obtain ⟨a, ha, ja⟩ := l1All_ev 1 10000 l hm
    cases a with
    | true =>
      obtain ⟨b, hb, jb⟩ := piGood_loop l hm l.length 1 (by omega) (by omega)
      refine ⟨b, ?_, ?_⟩
      · unfold spec_piGood.f
        simp only [if_neg (show ¬ ((l.length : Int) > 20) by omega)]
        refine Ev.bind ha ?_
        refine Ev.step (fun k => by rw [spec_piGood.j0]) ?_
        simp only [Bool.not_true, Bool.false_eq_true, if_false]
        exact hb
      · rw [jb]
        exact ⟨fun H => ⟨c, ja.1 rfl, H⟩, fun H => H.2.2⟩
    | false =>
      refine ⟨false, ?_, ?_⟩
      · unfold spec_piGood.f
        simp only [if_neg (show ¬ ((l.length : Int) > 20) by omega)]
        refine Ev.bind ha ?_
        refine Ev.step (fun k => by rw [spec_piGood.j0]) ?_
        simp only [Bool.not_false, if_true]
        exact Ev.now _
      · exact ⟨fun H => (by cases H), fun H => ja.2 H.2.1⟩
  · refine ⟨false, ?_, ?_⟩
    · unfold spec_piGood.f
      simp only [if_pos (show ((l.length : Int) > 20) by omega)]
      refine Ev.step (fun k => by rw [spec_piGood.j0]) ?_
      simp only [if_true]
      exact Ev.now _
    · exact ⟨fun H => (by cases H), fun H => absurd H.1 c⟩

theorem areWithin_eq (l : List Int) (lo hi : Int) (hm : l.length ≤ 1099511627776) :
    ∃ b, impl_areWithin.f l lo hi = some b ∧ (b = true ↔ ∀ j, j < l.length → lo ≤ l.getD j 0 ∧ l.getD j 0 ≤ hi) := by
  refine ⟨_, by unfold impl_areWithin.f; rw [if_pos (by omega)], ?_⟩
  rw [Bool.not_eq_true', List.any_eq_false]
  constructor
  · intro H j hj
    have := H (l.getD j 0) (by rw [List.getD_eq_getElem?_getD, List.getElem?_eq_getElem hj]; exact List.getElem_mem hj)
    simpa using this
  · intro H x hx
    obtain ⟨j, hj, rfl⟩ := List.getElem_of_mem hx
    have := H j hj
    rw [List.getD_eq_getElem?_getD, List.getElem?_eq_getElem hj] at this
    simpa using this

theorem less_eq (a b : Int) : cmp_Less_int.f a b = some (decide (a < b)) := by
  unfold cmp_Less_int.f cmp_isNaN_int.f
  simp
theorem isSorted_loop (l : List Int) (hm : l.length ≤ 1099511627776) : ∀ (i : Nat), i < l.length →
    ∃ b, Ev (fun k => slices_IsSorted_int_int.l0 k l (i : Int)) b ∧ (b = true ↔ ∀ j, 1 ≤ j → j ≤ i → l.getD (j - 1) 0 ≤ l.getD j 0)
  | 0, h => by
    refine ⟨true, ?_, by simp only [true_iff]; intro j h1 h2; omega⟩
    refine Ev.step (fun k => by rw [slices_IsSorted_int_int.l0]) ?_
    simp only [if_neg (show ¬ (((0 : Nat) : Int) > 0) by omega)]
    exact Ev.now _
  | i + 1, h => by
    have w : wrap64 (((i + 1 : Nat) : Int) - 1) = (i : Int) := by rw [wrap_id _ (by omega) (by omega)]; omega
    by_cases c : l.getD i 0 ≤ l.getD (i + 1) 0
    · obtain ⟨b, hb, hj⟩ := isSorted_loop l hm i (by omega)
      refine ⟨b, ?_, ?_⟩
      · refine Ev.step (fun k => by rw [slices_IsSorted_int_int.l0]) ?_
        simp only [w, rd_nat, less_eq, if_pos (show ((i + 1 : Nat) : Int) > 0 by omega), if_pos (show (0 : Int) ≤ ((i + 1 : Nat) : Int) by omega), if_pos (show ((i + 1 : Nat) : Int) < (l.length : Int) by omega), if_pos (show (0 : Int) ≤ (i : Int) by omega), if_pos (show (i : Int) < (l.length : Int) by omega), Option.bind_some, decide_eq_false (show ¬ (l.getD (i + 1) 0 < l.getD i 0) by omega), Bool.false_eq_true, if_false]
        exact hb
      · rw [hj]
        constructor
        · intro H j h1 h2
          by_cases e : j = i + 1
          · subst e; exact c
          · exact H j h1 (by omega)
        · intro H j h1 h2
          exact H j h1 (by omega)
    · refine ⟨false, ?_, ?_⟩
      · refine Ev.step (fun k => by rw [slices_IsSorted_int_int.l0]) ?_
        simp only [w, rd_nat, less_eq, if_pos (show ((i + 1 : Nat) : Int) > 0 by omega), if_pos (show (0 : Int) ≤ ((i + 1 : Nat) : Int) by omega), if_pos (show ((i + 1 : Nat) : Int) < (l.length : Int) by omega), if_pos (show (0 : Int) ≤ (i : Int) by omega), if_pos (show (i : Int) < (l.length : Int) by omega), Option.bind_some, decide_eq_true (show (l.getD (i + 1) 0 < l.getD i 0) by omega), if_true]
        exact Ev.now _
      · constructor
        · intro H; cases H
        · intro H; exact absurd (H (i + 1) (by omega) (by omega)) c
theorem isSorted_ev (l : List Int) (hm : l.length ≤ 1099511627776) :
    ∃ b, Ev (fun k => slices_IsSorted_int_int.f k l) b ∧ (b = true ↔ ∀ j, 1 ≤ j → j < l.length → l.getD (j - 1) 0 ≤ l.getD j 0) := by
  unfold slices_IsSorted_int_int.f
  by_cases c : l.length = 0
  · refine ⟨true, ?_, by simp only [true_iff]; intro j h1 h2; omega⟩
    rw [c, wrap_id _ (by omega) (by omega)]
    refine Ev.step (fun k => by rw [slices_IsSorted_int_int.l0]) ?_
    simp only [if_neg (show ¬ (((0 : Nat) : Int) - 1 > 0) by omega)]
    exact Ev.now _
  · obtain ⟨b, hb, hj⟩ := isSorted_loop l hm (l.length - 1) (by omega)
    refine ⟨b, ?_, ?_⟩
    · rw [wrap_id _ (by omega) (by omega), show ((l.length : Int) - 1) = ((l.length - 1 : Nat) : Int) by omega]
      exact hb
    · rw [hj]
      exact ⟨fun H j h1 h2 => H j h1 (by omega), fun H j h1 h2 => H j h1 (by omega)⟩

theorem arePieces_ev (l : List Int) (hm : l.length ≤ 1099511627776) : ∃ b, Ev (fun k => impl_ArePieces.f k l) b ∧ (b = true ↔ Good l) := by
  unfold impl_ArePieces.f
  by_cases c : l.length ≤ 20
  · simp only [if_pos (show ((l.length : Int) ≤ 20) by omega)]
    obtain ⟨a, ha, ja⟩ := areWithin_eq l 1 10000 hm
    rw [ha]
    cases a with
    | true =>
      obtain ⟨b, hb, jb⟩ := isSorted_ev l hm
      refine ⟨b, ?_, ?_⟩
      · simp only [Option.bind_some, if_true]
        refine Ev.bind hb ?_
        exact Ev.now _
      · rw [jb]
        exact ⟨fun H => ⟨c, ja.1 rfl, H⟩, fun H => H.2.2⟩
    | false =>
      refine ⟨false, ?_, ?_⟩
      · simp only [Option.bind_some, Bool.false_eq_true, if_false]
        exact Ev.now _
      · exact ⟨fun H => (by cases H), fun H => ja.2 H.2.1⟩
  · refine ⟨false, ?_, ?_⟩
    · simp only [if_neg (show ¬ ((l.length : Int) ≤ 20) by omega)]
      exact Ev.now _
    · exact ⟨fun H => (by cases H), fun H => absurd H.1 c⟩
theorem good_same (l : List Int) (hm : l.length ≤ 1099511627776) : ∃ b, Ev (fun k => spec_piGood.f k l) b ∧ Ev (fun k => impl_ArePieces.f k l) b ∧ (b = true ↔ Good l) := by
  obtain ⟨b, hb, jb⟩ := piGood_ev l hm
  obtain ⟨c, hc, jc⟩ := arePieces_ev l hm
  have e := bool_same jb jc
  subst e
  exact ⟨b, hb, hc, jb⟩

/-- Bytes, as a text. -/
def mkT (l : List UInt8) : ByteArray := ⟨l.toArray⟩
theorem mkT_append (a b : List UInt8) : mkT a ++ mkT b = mkT (a ++ b) := by
  ext1
  simp [mkT]
theorem mkT_size (a : List UInt8) : (mkT a).size = a.length := by
  simp [mkT, ByteArray.size]
theorem mkT_data (a : List UInt8) : (mkT a).data.toList = a := by simp [mkT]
theorem mkT_eta (x : ByteArray) : mkT x.data.toList = x := by
  ext1
  simp [mkT]
theorem digits_len (u : Nat) : (Lib.decDigits u).length ≤ u + 1 := by
  induction u using Nat.strongRecOn with
  | _ u ih =>
    rw [Lib.decDigits]
    split
    · simp
    · rename_i h
      have := ih (u / 10) (by omega)
      rw [List.length_append, List.length_singleton]
      omega
theorem strNums_one (n : Nat) (h : n < 256) : strOfNums [(n : Int)] = mkT [UInt8.ofNat n] := by
  unfold strOfNums mkT
  simp
/-- A number's decimal text, digit by digit. -/
theorem l1Num_ev (u : Nat) (hu : u ≤ 1000000) : Ev (fun k => spec_l1Num.f k (u : Int)) (mkT (Lib.decDigits u)) := by
  induction u using Nat.strongRecOn with
  | _ u ih =>
    refine Ev.step (fun k => by rw [spec_l1Num.f]) ?_
    rw [Lib.decDigits]
    by_cases c : u < 10
    · simp only [if_pos (show (u : Int) < 10 by omega), dif_pos c]
      rw [show wrap64 (48 + (u : Int)) % 256 = ((48 + u : Nat) : Int) by rw [wrap_id _ (by omega) (by omega)]; omega, strNums_one _ (by omega)]
      exact Ev.now _
    · simp only [if_neg (show ¬ (u : Int) < 10 by omega), dif_neg c]
      have e1 : wrap64 (Int.tdiv (u : Int) 10) = ((u / 10 : Nat) : Int) := by
        rw [Int.tdiv_eq_ediv_of_nonneg (by omega), wrap_id _ (by omega) (by omega)]
        omega
      have e2 : wrap64 (48 + Int.tmod (u : Int) 10) % 256 = ((48 + u % 10 : Nat) : Int) := by
        rw [Int.tmod_eq_emod_of_nonneg (by omega), wrap_id _ (by omega) (by omega)]
        omega
      have hl := digits_len (u / 10)
      rw [e1]
      refine Ev.bind (ih (u / 10) (by omega) (by omega)) ?_
      simp only [Option.bind_some, e2]
      rw [strNums_one _ (by omega)]
      simp only [mkT_size, List.length_singleton, if_pos (show (Lib.decDigits (u / 10)).length + 1 ≤ 9223372036854775807 by omega), mkT_append]
      exact Ev.now _
theorem itoa_nat (u : Nat) : Lib.itoa (u : Int) = Lib.decDigits u := by
  unfold Lib.itoa
  rw [if_neg (by omega)]
  rfl
theorem num_ev (x : Int) (h0 : 0 ≤ x) (h1 : x ≤ 1000000) : Ev (fun k => spec_l1Num.f k x) (mkT (Lib.itoa x)) ∧ strconv_Itoa.f x = some (mkT (Lib.itoa x)) ∧ (Lib.itoa x).length ≤ 1000001 := by
  obtain ⟨u, rfl⟩ : ∃ u : Nat, x = (u : Int) := ⟨x.toNat, by omega⟩
  have hl := digits_len u
  refine ⟨?_, ?_, ?_⟩
  · rw [itoa_nat]
    exact l1Num_ev u (by omega)
  · unfold strconv_Itoa.f
    rw [if_pos (by omega), if_pos (by omega)]
    rfl
  · rw [itoa_nat]
    omega
/-- Texts joined, one more at the end. -/
theorem join_snoc (ts : List (List UInt8)) (t sep : List UInt8) : Lib.join (ts ++ [t]) sep = if ts = [] then t else Lib.join ts sep ++ sep ++ t := by
  cases ts with
  | nil => rw [if_pos rfl]; exact Lib.join_one t sep
  | cons x r =>
    rw [if_neg (by simp), List.cons_append, Lib.join_cons, Lib.join_cons]
    unfold Lib.joinTail
    simp [List.append_assoc]
theorem join_len (n : Nat) (sep : List UInt8) (hs : sep.length = 1) : ∀ (ts : List (List UInt8)), (∀ t ∈ ts, t.length ≤ n) → (Lib.join ts sep).length ≤ ts.length * (n + 1)
  | [], _ => by rw [Lib.join_nil]; simp
  | x :: r, h => by
    rw [Lib.join_cons, List.length_append, Lib.joinTail_length, hs, List.length_cons]
    have h1 := h x List.mem_cons_self
    have h2 : ∀ (r : List (List UInt8)), (∀ t ∈ r, t.length ≤ n) → Lib.lens r ≤ r.length * n := by
      intro r
      induction r with
      | nil => intro _; simp [Lib.lens]
      | cons y r ih =>
        intro h
        have := ih (fun t ht => h t (List.mem_cons_of_mem _ ht))
        have := h y List.mem_cons_self
        simp only [Lib.lens, List.map_cons, List.sum_cons, List.length_cons] at *
        rw [Nat.add_mul]
        omega
    have h3 := h2 r (fun t ht => h t (List.mem_cons_of_mem _ ht))
    rw [Nat.add_mul, Nat.mul_add]
    omega

/-- The pieces' lengths, so many. -/
def numsL (l : List Int) (i : Nat) : List (List UInt8) := (List.range i).map fun j => Lib.itoa (l.getD j 0)
theorem numsL_len (l : List Int) (i : Nat) : (numsL l i).length = i := by simp [numsL]
theorem numsL_snoc (l : List Int) (i : Nat) : numsL l (i + 1) = numsL l i ++ [Lib.itoa (l.getD i 0)] := by
  unfold numsL
  rw [List.range_succ, List.map_append]
  rfl
theorem nums_len {l : List Int} (g : Good l) (i : Nat) (h : i ≤ l.length) : (Lib.join (numsL l i) [43]).length ≤ 1000000000 := by
  have h20 := g.1
  have hj := join_len 1000001 [43] rfl (numsL l i) (fun t ht => by
    unfold numsL at ht
    obtain ⟨j, hj, rfl⟩ := List.mem_map.mp ht
    have hj := List.mem_range.mp hj
    have hv := g.2.1 j (by omega)
    exact (num_ev (l.getD j 0) (by omega) (by omega)).2.2)
  rw [numsL_len] at hj
  omega
theorem piText_loop {l : List Int} (g : Good l) : ∀ (c i : Nat), i + c = l.length → Ev (fun k => spec_piText.l0 k (mkT (Lib.join (numsL l i) [43])) l (l.length : Int) (i : Int)) (mkT (Lib.join (numsL l l.length) [43]))
  | 0, i, h => by
    obtain rfl : i = l.length := by omega
    refine Ev.step (fun k => by rw [spec_piText.l0]) ?_
    simp only [if_neg (show ¬ ((l.length : Int) < (l.length : Int)) by omega)]
    exact Ev.now _
  | c + 1, i, h => by
    have hi : i < l.length := by omega
    have h20 := g.1
    have hv := g.2.1 i hi
    have hlen := nums_len g i (by omega)
    obtain ⟨n1, n2, n3⟩ := num_ev (l.getD i 0) (by omega) (by omega)
    have e43 : (⟨#[43]⟩ : ByteArray) = mkT [43] := rfl
    have IH := piText_loop g c (i + 1) (by omega)
    rw [numsL_snoc, join_snoc] at IH
    refine Ev.step (fun k => by rw [spec_piText.l0]) ?_
    rw [wrap_succ i (by omega)]
    simp only [if_pos (show (i : Int) < (l.length : Int) by omega), if_pos (show (0 : Int) ≤ (i : Int) by omega), rd_nat]
    by_cases z : i = 0
    · subst z
      simp only [if_neg (show ¬ ((0 : Nat) : Int) > 0 by omega)]
      rw [if_pos (show numsL l 0 = [] from rfl)] at IH
      refine Ev.bind n1 ?_
      have s1 : (Lib.join (numsL l 0) [43]).length + (Lib.itoa (l.getD 0 0)).length ≤ 9223372036854775807 := by omega
      simp only [mkT_append, mkT_size, if_pos s1]
      exact IH
    · have s1 : (Lib.join (numsL l i) [43]).length + 1 ≤ 9223372036854775807 := by omega
      have s2 : (Lib.join (numsL l i) [43] ++ [43]).length + (Lib.itoa (l.getD i 0)).length ≤ 9223372036854775807 := by rw [List.length_append, List.length_singleton]; omega
      simp only [if_pos (show (i : Int) > 0 by omega), e43, mkT_append, mkT_size, if_pos s1]
      refine Ev.bind n1 ?_
      simp only [mkT_append, mkT_size, if_pos s2]
      rw [if_neg (show ¬ numsL l i = [] from fun h => by have := congrArg List.length h; rw [numsL_len] at this; exact z this)] at IH
      exact IH
theorem joined_loop {l : List Int} (g : Good l) : ∀ (c i : Nat), i + c = l.length → Ev (fun k => impl_joined.l0 k (⟨#[43]⟩ : ByteArray) ((numsL l i).map mkT) l (l.length : Int) (i : Int)) (mkT (Lib.join (numsL l l.length) [43]))
  | 0, i, h => by
    obtain rfl : i = l.length := by omega
    have h20 := g.1
    have hlen := nums_len g l.length (Nat.le_refl _)
    have e43 : (⟨#[43]⟩ : ByteArray) = mkT [43] := rfl
    have em : ((numsL l l.length).map mkT).map (·.data.toList) = numsL l l.length := by
      rw [List.map_map]
      conv => rhs; rw [← List.map_id (numsL l l.length)]
      exact List.map_congr_left (fun x _ => mkT_data x)
    have ej : strings_Join.f ((numsL l l.length).map mkT) (⟨#[43]⟩ : ByteArray) = some (mkT (Lib.join (numsL l l.length) [43])) := by
      unfold strings_Join.f
      rw [em, e43, mkT_data, if_pos (by rw [List.length_map, numsL_len]; omega), if_pos (by omega)]
      rfl
    refine Ev.step (fun k => by rw [impl_joined.l0]) ?_
    simp only [if_neg (show ¬ ((l.length : Int) < (l.length : Int)) by omega), ej, Option.bind_some]
    exact Ev.now _
  | c + 1, i, h => by
    have hi : i < l.length := by omega
    have h20 := g.1
    have hv := g.2.1 i hi
    obtain ⟨n1, n2, n3⟩ := num_ev (l.getD i 0) (by omega) (by omega)
    have IH := joined_loop g c (i + 1) (by omega)
    rw [numsL_snoc, List.map_append, List.map_singleton] at IH
    have hL : ((numsL l i).map mkT).length < 8796093022208 := by rw [List.length_map, numsL_len]; omega
    refine Ev.step (fun k => by rw [impl_joined.l0]) ?_
    rw [wrap_succ i (by omega)]
    simp only [if_pos (show (i : Int) < (l.length : Int) by omega), if_pos (show (0 : Int) ≤ (i : Int) by omega), rd_nat, n2, Option.bind_some, if_pos hL]
    exact IH
theorem PiecesText_same (l : List Int) (hm : l.length ≤ 1099511627776) : ∃ r, Ev (fun k => spec_PiecesText.f k l) r ∧ Ev (fun k => impl_PiecesText.f k l) r := by
  obtain ⟨b, hs, hi, hg⟩ := good_same l hm
  unfold spec_PiecesText.f impl_PiecesText.f
  cases b with
  | false =>
    refine ⟨((⟨#[]⟩ : ByteArray), false), Ev.bind hs ?_, Ev.bind hi ?_⟩ <;>
    · simp only [Bool.false_eq_true, if_false]
      exact Ev.now _
  | true =>
    have g := hg.1 rfl
    by_cases z : (l.length : Int) = 0
    · refine ⟨((⟨#[48]⟩ : ByteArray), true), Ev.bind hs ?_, Ev.bind hi ?_⟩
      · simp only [if_true]
        unfold spec_piText.f
        simp only [if_pos z, Option.bind_some]
        exact Ev.now _
      · simp only [if_true]
        unfold impl_piecesText.f
        simp only [if_pos z, Option.bind_some]
        exact Ev.now _
    · have h1 := piText_loop g l.length 0 (by omega)
      have h2 := joined_loop g l.length 0 (by omega)
      refine ⟨(mkT (Lib.join (numsL l l.length) [43]), true), Ev.bind hs ?_, Ev.bind hi ?_⟩
      · simp only [if_true]
        refine Ev.bind (a := mkT (Lib.join (numsL l l.length) [43])) ?_ (Ev.now _)
        unfold spec_piText.f
        simp only [if_neg z]
        exact h1
      · simp only [if_true]
        refine Ev.bind (a := mkT (Lib.join (numsL l l.length) [43])) ?_ (Ev.now _)
        unfold impl_piecesText.f
        simp only [if_neg z]
        exact Ev.bind (a := mkT (Lib.join (numsL l l.length) [43])) h2 (Ev.now _)
theorem FnExactPiecesText : laws_FnExactPiecesText.Pure := by
  intro l0 h1 h2 h3
  apply Ev.rounds
  unfold laws_FnExactPiecesText.f
  by_cases c : (l0.length : Int) > 1048576
  · simp only [if_pos c]; exact Ev.now _
  · simp only [if_neg c]
    have hm : l0.length ≤ 1099511627776 := by omega
    obtain ⟨⟨r1, r2⟩, hs, hi⟩ := PiecesText_same l0 hm
    refine Ev.bind (toInt_ev l0 hm) ?_
    refine Ev.bind hs ?_
    refine Ev.bind (toInt_ev l0 hm) ?_
    refine Ev.bind hi ?_
    simp only [if_true, bne_self_eq_false, Bool.false_eq_true, if_false]
    refine Ev.step (fun k => by rw [laws_FnExactPiecesText.j0]) ?_
    simp only [Bool.false_eq_true, if_false]
    refine Ev.bind (toInt_ev l0 hm) ?_
    refine Ev.bind (eq_ev l0 hm) ?_
    exact Ev.now _

end Go.Proofs.YthoimcoaclnflaaDoor.Pure
