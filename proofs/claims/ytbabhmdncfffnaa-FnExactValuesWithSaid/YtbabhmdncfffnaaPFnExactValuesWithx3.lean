-- Laid by this session by the help of the print: contracts proved by hand beside printed ones.
import Derived.Test.YtbabhmdncfffnaaPFnExactValuesWithx0
import Derived.Test.YtbabhmdncfffnaaPFnExactValuesWithx2
namespace Go.Proofs.Ytbabhmdncfffnaa.PFnExactValuesWith
open Go.RowKit Go.Proofs.YtbabhmdncfffnaaW.PrintWords Go.Proofs.YtbabhmdncfffnaaW.PrintLast Go.Proofs.YtbabhmdncfffnaaW.PrintMore
attribute [local go_sem] max2_int min2_int max_two min_two max_three min_three max_four min_four   -- for this text's walks alone
set_option linter.unusedVariables false
set_option linter.unusedSimpArgs false

/-! ### impl_rises: function 52 -/
def impl_rises.l0 : Nat → List Int → Int → Option (Bool)
  | 0, _, _ => none
  | k + 1, x0, x3 => if x3 < (x0.length : Int) then (if 0 ≤ (wrap64 (x3 - 1)) then (if (wrap64 (x3 - 1)) < (x0.length : Int) then (if 0 ≤ x3 then (if (rd x0 (wrap64 (x3 - 1))) ≥ (rd x0 x3) then (some false) else (impl_rises.l0 k x0 (wrap64 (x3 + 1)))) else (none)) else (none)) else (none)) else (some true)
def impl_rises.f (k : Nat) (l0 : List Int) : Option (Bool) := impl_rises.l0 k l0 1
theorem impl_rises.mono_l : ∀ k, (∀ y0 y1, LeO (impl_rises.l0 k y0 y1) (impl_rises.l0 (k + 1) y0 y1))
  | 0 => fun _ _ r h => by simp [impl_rises.l0] at h
  | k + 1 => by
    have ih0 := impl_rises.mono_l k
    · intro y0 y1
      unfold impl_rises.l0
      repeat' first
      | (with_reducible exact ih0 _ _)
      | (with_reducible exact LeO.refl _)
      | (with_reducible exact LeO.none _)
      | (with_reducible refine LeO.ite ?_ ?_)
      | (with_reducible refine LeO.bind ?_ (fun _ => ?_))
      | exact ih0 _ _
      | exact LeO.none _
      | refine LeO.ite ?_ ?_
      | refine LeO.bind ?_ (fun _ => ?_)
theorem impl_rises.mono : ∀ a0 k, LeO (impl_rises.f k a0) (impl_rises.f (k + 1) a0) := by
  intro a0 k
  have ih0 := impl_rises.mono_l k
  unfold impl_rises.f
  repeat' first
      | (with_reducible exact ih0 _ _)
      | (with_reducible exact LeO.refl _)
      | (with_reducible exact LeO.none _)
      | (with_reducible refine LeO.ite ?_ ?_)
      | (with_reducible refine LeO.bind ?_ (fun _ => ?_))
      | exact ih0 _ _
      | exact LeO.none _
      | refine LeO.ite ?_ ?_
      | refine LeO.bind ?_ (fun _ => ?_)
set_option maxHeartbeats 8000000 in
set_option maxRecDepth 100000 in
theorem impl_rises.calls (k : Nat) (A0 : Option Addr) (c0 : Nat) (l0 : List Int) (r : Bool) (w : World) (hr0 : Kd.C (Kd.int .i64) w A0 l0.length l0) (hc0 : l0.length ≤ c0) (h : impl_rises.f k l0 = some r) :
    Calls Try.prog 52 #[.slice A0 l0.length c0] w fun e w' => e = .returned (.bool r) ∧ Drawn0 w w' := by
  have HR0 := Aside0.mk hr0
  have HC0 := Aside0.mk hc0
  clear hr0 hc0
  have H : (impl_rises.l0 k l0 1) = some r := h
  clear h
  have H' := Aside0.mk H
  clear H
  go_enter Try.func52, Try.ntmps52
  go_wp2
  repeat (go_quiet (fail); try go_wp2)
  go_loopg [3] k (fun kq v3 w' => ∃ (x3_1 : Int), v3 = .int .i64 x3_1 ∧ Aside0 (impl_rises.l0 kq l0 x3_1 = some r) ∧ Aside0 (kq ≤ k) ∧ Drawn0 w w')
  case atStart => exact ⟨(1), (by first | rfl | (simp; done) | (simp [*]; done)), H', ⟨Nat.le_refl _⟩, by repeat (first | exact Drawn0.refl _ | apply Drawn0.step)⟩
  case round =>
    clear H'
    obtain ⟨x3_1, rfl, HA, HK1, ⟨m1, rfl⟩⟩ := hrel
    cases gk with
    | zero => exact absurd HA.out (by simp [impl_rises.l0])
    | succ k1 =>
      have H := HA.out
      clear HA
      simp only [impl_rises.l0] at H
      by_cases c2 : x3_1 < (l0.length : Int)
      · rw [if_pos c2] at H
        have c2b0 : decide (x3_1 < (l0.length : Int)) = true := decide_eq_true c2
        clear c2
        obtain ⟨ji3, hji3⟩ : ∃ j_ : Int, (wrap64 (x3_1 - 1)) = j_ := ⟨_, rfl⟩
        replace H : (if 0 ≤ (ji3) then (if (ji3) < (l0.length : Int) then (if 0 ≤ x3_1 then (if (rd l0 (ji3)) ≥ (rd l0 x3_1) then (some false) else (impl_rises.l0 k1 l0 (wrap64 (x3_1 + 1)))) else (none)) else (none)) else (none)) = some r := by first | (rw [hji3] at H; exact H) | (simp only [hji3] at H ⊢; exact H)
        have hji3w : (IntKind.i64.wrap (x3_1 - 1)) = ji3 := (i64_w _).trans hji3
        by_cases c4 : 0 ≤ (ji3)
        · rw [if_pos c4] at H
          have c4b0 : decide (0 ≤ (ji3)) = true := decide_eq_true c4
          clear c4
          by_cases c5 : (ji3) < (l0.length : Int)
          · rw [if_pos c5] at H
            have c5b0 : decide ((ji3) < (l0.length : Int)) = true := decide_eq_true c5
            clear c5
            by_cases c6 : 0 ≤ x3_1
            · rw [if_pos c6] at H
              have c6b0 : decide (0 ≤ x3_1) = true := decide_eq_true c6
              clear c6
              by_cases c7 : (rd l0 (ji3)) ≥ (rd l0 x3_1)
              · rw [if_pos c7] at H
                have c7b0 : decide ((rd l0 x3_1) ≤ (rd l0 (ji3))) = true := decide_eq_true c7
                clear c7
                obtain rfl := Option.some.inj H
                have p131 : 0 ≤ ((ji3) : Int) := of_decide_eq_true (by first | (with_reducible assumption) | assumption)
                have q131 : (ji3) < (l0.length : Int) := of_decide_eq_true (by first | (with_reducible assumption) | assumption)
                obtain ⟨ad131, e131, hx131_0⟩ := Kd.at_int HR0.out (ji3) p131 q131
                cases e131
                replace p131 := eq_true p131
                replace q131 := eq_true q131
                have p132 : 0 ≤ (x3_1 : Int) := of_decide_eq_true (by first | (with_reducible assumption) | assumption)
                have q132 : x3_1 < (l0.length : Int) := of_decide_eq_true (by first | (with_reducible assumption) | assumption)
                obtain ⟨ad132, e132, hx132_0⟩ := Kd.at_int HR0.out x3_1 p132 q132
                obtain rfl : ad131 = ad132 := (by injection e132)
                replace p132 := eq_true p132
                replace q132 := eq_true q132
                go_wp2
                repeat (go_quiet (fail); try go_wp2)
                go_ret
                exact ⟨by first | rfl | (simp; done) | (simp only [← hji3] <;> (first | rfl | simp)) | (simp [*]; done), by repeat (first | exact Drawn0.refl _ | apply Drawn0.step)⟩
              · rw [if_neg c7] at H
                have c7b0 : decide ((rd l0 x3_1) ≤ (rd l0 (ji3))) = false := decide_eq_false c7
                clear c7
                have H' := Aside0.mk H
                clear H
                have p131 : 0 ≤ ((ji3) : Int) := of_decide_eq_true (by first | (with_reducible assumption) | assumption)
                have q131 : (ji3) < (l0.length : Int) := of_decide_eq_true (by first | (with_reducible assumption) | assumption)
                obtain ⟨ad131, e131, hx131_0⟩ := Kd.at_int HR0.out (ji3) p131 q131
                cases e131
                replace p131 := eq_true p131
                replace q131 := eq_true q131
                have p132 : 0 ≤ (x3_1 : Int) := of_decide_eq_true (by first | (with_reducible assumption) | assumption)
                have q132 : x3_1 < (l0.length : Int) := of_decide_eq_true (by first | (with_reducible assumption) | assumption)
                obtain ⟨ad132, e132, hx132_0⟩ := Kd.at_int HR0.out x3_1 p132 q132
                obtain rfl : ad131 = ad132 := (by injection e132)
                replace p132 := eq_true p132
                replace q132 := eq_true q132
                go_wp2
                repeat (go_quiet (fail); try go_wp2)
                go_roundg k1
                case measure => have := HK1.out; omega
                case rel => exact ⟨(wrap64 (x3_1 + 1)), (by first | rfl | (simp; done) | (simp [*]; done)), H', ⟨by have := HK1.out; omega⟩, by repeat (first | exact Drawn0.refl _ | apply Drawn0.step)⟩
            · rw [if_neg c6] at H
              exact absurd H (by simp)
          · rw [if_neg c5] at H
            exact absurd H (by simp)
        · rw [if_neg c4] at H
          exact absurd H (by simp)
      · rw [if_neg c2] at H
        have c2b0 : decide (x3_1 < (l0.length : Int)) = false := decide_eq_false c2
        clear c2
        obtain rfl := Option.some.inj H
        go_wp2
        repeat (go_quiet (fail); try go_wp2)
        go_ret
        exact ⟨by first | rfl | (simp; done) | (simp [*]; done), by repeat (first | exact Drawn0.refl _ | apply Drawn0.step)⟩

/-! ### impl_AreStamps: function 19 -/
def impl_AreStamps.f (k : Nat) (l0 : List Int) : Option (Bool) := (impl_within.f (l0.length : Int) 1 6).bind fun t133 => (if t133 = true then ((impl_areWithin.f l0 1 500).bind fun t134 => (if t134 = true then ((impl_rises.f k l0).bind fun t135 => (some t135)) else (some false))) else (some false))
theorem impl_AreStamps.mono : ∀ a0 k, LeO (impl_AreStamps.f k a0) (impl_AreStamps.f (k + 1) a0) := by
  intro a0 k
  unfold impl_AreStamps.f
  repeat' first
      | (with_reducible exact impl_rises.mono _ _)
      | (with_reducible exact LeO.refl _)
      | (with_reducible exact LeO.none _)
      | (with_reducible refine LeO.ite ?_ ?_)
      | (with_reducible refine LeO.bind ?_ (fun _ => ?_))
      | exact impl_rises.mono _ _
      | exact LeO.none _
      | refine LeO.ite ?_ ?_
      | refine LeO.bind ?_ (fun _ => ?_)
set_option maxHeartbeats 8000000 in
set_option maxRecDepth 100000 in
theorem impl_AreStamps.calls (k : Nat) (A0 : Option Addr) (c0 : Nat) (l0 : List Int) (r : Bool) (w : World) (hr0 : Kd.C (Kd.int .i64) w A0 l0.length l0) (hc0 : l0.length ≤ c0) (h : impl_AreStamps.f k l0 = some r) :
    Calls Try.prog 19 #[.slice A0 l0.length c0] w fun e w' => e = .returned (.bool r) ∧ Below w.heap.size w w' := by
  have HR0 := Aside0.mk hr0
  have HC0 := Aside0.mk hc0
  clear hr0 hc0
  have HB := Aside0.mk (Below.refl w.heap.size w)
  have H : ((impl_within.f (l0.length : Int) 1 6).bind fun t133 => (if t133 = true then ((impl_areWithin.f l0 1 500).bind fun t134 => (if t134 = true then ((impl_rises.f k l0).bind fun t135 => (some t135)) else (some false))) else (some false))) = some r := h
  clear h
  replace H := Option.bind_eq_some_iff.mp H
  obtain ⟨t133, A20, H⟩ := H
  replace H : (if t133 = true then ((impl_areWithin.f l0 1 500).bind fun t134 => (if t134 = true then ((impl_rises.f k l0).bind fun t135 => (some t135)) else (some false))) else (some false)) = some r := H
  have A2 := Aside0.mk A20
  clear A20
  by_cases c3 : t133 = true
  · subst c3
    have H1 : ((impl_areWithin.f l0 1 500).bind fun t134 => (if t134 = true then ((impl_rises.f k l0).bind fun t135 => (some t135)) else (some false))) = some r := by rw [if_pos rfl] at H; exact H
    clear H
    have H := H1
    clear H1
    replace H := Option.bind_eq_some_iff.mp H
    obtain ⟨t134, A40, H⟩ := H
    replace H : (if t134 = true then ((impl_rises.f k l0).bind fun t135 => (some t135)) else (some false)) = some r := H
    have A4 := Aside0.mk A40
    clear A40
    by_cases c5 : t134 = true
    · subst c5
      have H1 : ((impl_rises.f k l0).bind fun t135 => (some t135)) = some r := by rw [if_pos rfl] at H; exact H
      clear H
      have H := H1
      clear H1
      replace H := Option.bind_eq_some_iff.mp H
      obtain ⟨t135, A60, H⟩ := H
      replace H : (some t135) = some r := H
      have A6 := Aside0.mk A60
      clear A60
      obtain rfl := Option.some.inj H
      go_enter Try.func19, Try.ntmps19
      go_wp2_with (first | ((with_reducible refine gate_callee (f := 50) rfl ?_); refine goesL_ (some 5) rfl rfl Try.func50 (by kernel_rfl) rfl #[.int .i64 (l0.length : Int), .int .i64 1, .int .i64 6] rfl (by (try simp only [List.map_toArray, List.map_cons, List.map_nil]); first | done | rfl | (simp only [List.length_drop, List.length_take]; rfl)) ?_; (with_reducible refine (impl_within.calls (l0.length : Int) 1 6 true _ A2.out).mono ?_); rintro e w' ⟨rfl, ⟨nd, rfl⟩⟩; refine ⟨_, rfl, ?_⟩) | (go_at_call 51; (with_reducible refine (impl_areWithin.calls _ _ l0 1 500 true _ ?side1 ?side2 A4.out).mono ?_); (case side1 => repeat (first | exact HR0.out | (with_reducible refine Kd.C_alloc ?_ _) | (with_reducible refine Kd.C_drewN ?_ _) | (with_reducible refine Kd.C_drew ?_))); (case side2 => exact HC0.out); rintro e w7 ⟨rfl, hb⟩; have n0_ := Aside0.mk (below_step (by repeat (first | (with_reducible first | exact HB.out | apply below_alloc | apply pw_below_drewN | apply below_drew1) | exact HB.out)) hb); clear HB; have HB := n0_; clear n0_; (try clear hb); (try clear hb2); (try clear hk); (try clear hi)) | (go_at_call 52; (with_reducible refine (impl_rises.calls k _ _ l0 t135 _ ?side1 ?side2 A6.out).mono ?_); (case side1 => repeat (first | exact (Kd.C_below HR0.out HB.out) | (with_reducible refine Kd.C_alloc ?_ _) | (with_reducible refine Kd.C_drewN ?_ _) | (with_reducible refine Kd.C_drew ?_))); (case side2 => exact HC0.out); rintro e w' ⟨rfl, ⟨nd, rfl⟩⟩))
      go_ret
      exact ⟨by first | rfl | (simp [errW_none, errW_some] <;> rfl) | (simp [*, errW_none, errW_some] <;> rfl), by repeat (first | (with_reducible first | exact HB.out | apply below_alloc | apply pw_below_drewN | apply below_drew1) | exact HB.out)⟩
    · replace c5 := Bool.eq_false_iff.mpr c5
      subst c5
      have H1 : (some false) = some r := by rw [if_neg (show ¬ (false = true) by decide)] at H; exact H
      clear H
      have H := H1
      clear H1
      obtain rfl := Option.some.inj H
      go_enter Try.func19, Try.ntmps19
      go_wp2_with (first | ((with_reducible refine gate_callee (f := 50) rfl ?_); refine goesL_ (some 5) rfl rfl Try.func50 (by kernel_rfl) rfl #[.int .i64 (l0.length : Int), .int .i64 1, .int .i64 6] rfl (by (try simp only [List.map_toArray, List.map_cons, List.map_nil]); first | done | rfl | (simp only [List.length_drop, List.length_take]; rfl)) ?_; (with_reducible refine (impl_within.calls (l0.length : Int) 1 6 true _ A2.out).mono ?_); rintro e w' ⟨rfl, ⟨nd, rfl⟩⟩; refine ⟨_, rfl, ?_⟩) | (go_at_call 51; (with_reducible refine (impl_areWithin.calls _ _ l0 1 500 false _ ?side1 ?side2 A4.out).mono ?_); (case side1 => repeat (first | exact HR0.out | (with_reducible refine Kd.C_alloc ?_ _) | (with_reducible refine Kd.C_drewN ?_ _) | (with_reducible refine Kd.C_drew ?_))); (case side2 => exact HC0.out); rintro e w8 ⟨rfl, hb⟩; have n0_ := Aside0.mk (below_step (by repeat (first | (with_reducible first | exact HB.out | apply below_alloc | apply pw_below_drewN | apply below_drew1) | exact HB.out)) hb); clear HB; have HB := n0_; clear n0_; (try clear hb); (try clear hb2); (try clear hk); (try clear hi)))
      go_ret
      exact ⟨by first | rfl | (simp [errW_none, errW_some] <;> rfl) | (simp [*, errW_none, errW_some] <;> rfl), by repeat (first | (with_reducible first | exact HB.out | apply below_alloc | apply pw_below_drewN | apply below_drew1) | exact HB.out)⟩
  · replace c3 := Bool.eq_false_iff.mpr c3
    subst c3
    have H1 : (some false) = some r := by rw [if_neg (show ¬ (false = true) by decide)] at H; exact H
    clear H
    have H := H1
    clear H1
    obtain rfl := Option.some.inj H
    go_enter Try.func19, Try.ntmps19
    go_wp2_with (first | ((with_reducible refine gate_callee (f := 50) rfl ?_); refine goesL_ (some 5) rfl rfl Try.func50 (by kernel_rfl) rfl #[.int .i64 (l0.length : Int), .int .i64 1, .int .i64 6] rfl (by (try simp only [List.map_toArray, List.map_cons, List.map_nil]); first | done | rfl | (simp only [List.length_drop, List.length_take]; rfl)) ?_; (with_reducible refine (impl_within.calls (l0.length : Int) 1 6 false _ A2.out).mono ?_); rintro e w' ⟨rfl, ⟨nd, rfl⟩⟩; refine ⟨_, rfl, ?_⟩))
    go_ret
    exact ⟨by first | rfl | (simp [errW_none, errW_some] <;> rfl) | (simp [*, errW_none, errW_some] <;> rfl), by repeat (first | (with_reducible first | exact HB.out | apply below_alloc | apply pw_below_drewN | apply below_drew1) | exact HB.out)⟩

/-! ### slices_Clone_int_int: function 62 -/
/-- A list's clone. -/
def slices_Clone_int_int.f (l0 : List Int) : Option (List Int) := if l0.length < 17592186044416 then (some l0) else (none)
set_option maxHeartbeats 4000000 in
theorem slices_Clone_int_int.calls (A0 : Option Addr) (c0 : Nat) (l0 : List Int) (r : List Int) (w : World) (hr0 : Kd.C (Kd.int .i64) w A0 l0.length l0) (hc0 : l0.length ≤ c0) (h : slices_Clone_int_int.f l0 = some r) :
    Calls Try.prog 62 #[.slice A0 l0.length c0] w fun e w' => ∃ v0_ : Value, e = .returned (v0_) ∧ Kd.R (Kd.int .i64) 3 w' w.heap.size (fun _ => True) v0_ r ∧ Below w.heap.size w w' := by
  unfold slices_Clone_int_int.f at h
  by_cases c2 : l0.length < 17592186044416
  · rw [if_pos c2] at h
    obtain rfl := Option.some.inj h
    clear h
    have LMc2 := Aside0.mk c2
    clear c2
    have HR0 := Aside0.mk hr0
    have HC0 := Aside0.mk hc0
    clear hr0 hc0
    have HB := Aside0.mk (Below.refl w.heap.size w)
    have hnil := fun (W : World) (a : Option Addr) (n c : Nat) => Lib.run_eql_slice_nil (P := Try.prog) W 22 3 a n c 0 0 Try.underlying22
    cases A0 with
    | none =>
      have e0 : l0 = [] := by
        cases l0 with
        | nil => rfl
        | cons x l =>
          obtain ⟨ad, e, _⟩ := Kd.at_int HR0.out (0 : Int) (by omega) (by simp)
          cases e
      subst e0
      go_enter Try.func62, Try.ntmps62
      go_wp2
      go_ret
      exact ⟨_, rfl, Kd.R_nil _ _ _ _ _, by repeat (first | exact Below.refl _ _ | apply below_alloc | apply pw_below_drewN | apply below_drew1)⟩
    | some ad =>
      go_enter Try.func62, Try.ntmps62
      go_wp2_with (first | ((with_reducible refine gate_dst (N := 5) rfl ?_); refine Kd.R_lit (Kd.int .i64) _ 3 ?hg (N := 5) ?hd (xs := ([] : List Int)) (inner := []) (ok := fun _ => True) (okp := fun _ => True) ?hr ?hp (fun _ hk => hk) trivial (Below.refl _ _) (Nat.le_refl _) (by simp) ?_; (case hd => rfl); (case hg => rfl); (case hr => first | (go_simp; done) | (go_simp; rfl)); (case hp => exact (Reps.none _ _)); intro v116 w3 ho4 hb hg_ hnew_; clear hg_ hnew_; have n0_ := Aside0.mk (Kd.R_lower ho4 (below_size (by repeat (first | (with_reducible first | exact HB.out | apply below_alloc | apply pw_below_drewN | apply below_drew1) | exact HB.out)))); have n1_ := Aside0.mk (below_step (by repeat (first | (with_reducible first | exact HB.out | apply below_alloc | apply pw_below_drewN | apply below_drew1) | exact HB.out)) hb); clear HB; have HO117 := n0_; have HB := n1_; clear n0_ n1_; clear hb ho4) | ((with_reducible refine gate_builtin (b := .append) (xs := #[.tmp 5, .tmp 6]) rfl ?_); at_builtin; refine Kd.R_append_rows (Kd.int .i64) (w0 := w) w.heap.size rfl (.tmp 5) (.tmp 6) 22 3 (.int .i64 0) 8 rfl Try.underlying22 info3 rfl (by decide) (by omega) v116 ([] : List Int) l0 _ _ _ (fun _ => True) (fun _ => False) rfl rfl ?aO ?aR (fun _ _ h => h) (fun _ h => h.elim) ?aF ?aB ?aS ?aL ?_; (case aR => repeat (first | exact (Kd.C_below HR0.out HB.out) | (with_reducible refine Kd.C_alloc ?_ _) | (with_reducible refine Kd.C_drewN ?_ _) | (with_reducible refine Kd.C_drew ?_))); (case aB => exact (by repeat (first | (with_reducible first | exact HB.out | apply below_alloc | apply pw_below_drewN | apply below_drew1) | exact HB.out))); (case aF => exact (fun _ _ => trivial)); (case aO => exact (by (with_reducible repeat (first | apply Kd.R_alloc | apply Kd.R_drewN | apply Kd.R_drew)); exact HO117.out)); (case aS => exact (below_size (by repeat (first | (with_reducible first | exact HB.out | apply below_alloc | apply pw_below_drewN | apply below_drew1) | exact HB.out)))); (case aL => have := LMc2.out; simp; omega); intro v119 w5 ho hb hg hat; have n0_ := Aside0.mk (hb); have n1_ := Aside0.mk (show Kd.R (Kd.int .i64) 3 w5 w.heap.size (fun _ => True) v119 l0 from ho); clear HB; clear HO117; have HB := n0_; have HO120 := n1_; clear n0_ n1_; clear ho hb hg hat))
      go_ret
      exact ⟨_, by first | rfl | (simp; done), by (with_reducible repeat (first | apply Kd.R_alloc | apply Kd.R_drewN | apply Kd.R_drew)); exact HO120.out, by repeat (first | (with_reducible first | exact HB.out | apply below_alloc | apply pw_below_drewN | apply below_drew1) | exact HB.out)⟩
  · rw [if_neg c2] at h
    exact absurd h (by simp)

/-! ### impl_ValuesWith: function 46 -/
/-- The ways to take at most so many stamps, in order: the way, its value, the room that is left. -/
def swE : List Int → Int → List (List Int × Int × Int)
  | [], r => [([], 0, r)]
  | s :: rest, r => (List.range (r + 1).toNat).flatMap fun n : Nat => (swE rest (r - (n : Int))).map fun p => ((n : Int) :: p.1, (n : Int) * s + p.2.1, p.2.2)
/-- The same behind a way that is begun. -/
def swAt (way : List Int) (v : Int) (l : List Int) (r : Int) : List (List Int × Int × Int) := (swE l r).map fun p => (way ++ p.1, v + p.2.1, p.2.2)
/-- What has come when n rounds are over. -/
def swPart (way : List Int) (v s : Int) (rest : List Int) (r : Int) (n : Nat) : List (List Int × Int × Int) := (List.range n).flatMap fun i : Nat => swAt (way ++ [(i : Int)]) (v + (i : Int) * s) rest (r - (i : Int))
theorem swPart_succ (way : List Int) (v s : Int) (rest : List Int) (r : Int) (n : Nat) : swPart way v s rest r (n + 1) = swPart way v s rest r n ++ swAt (way ++ [(n : Int)]) (v + (n : Int) * s) rest (r - (n : Int)) := by
  unfold swPart
  rw [List.range_succ, List.flatMap_append]
  simp
theorem swAt_cons (way : List Int) (v s : Int) (rest : List Int) (r : Int) : swAt way v (s :: rest) r = swPart way v s rest r (r + 1).toNat := by
  unfold swAt swPart swAt
  rw [swE, List.map_flatMap]
  congr 1
  funext n
  rw [List.map_map]
  congr 1
  funext p
  simp only [Function.comp]
  rw [List.append_assoc, Int.add_assoc]
  rfl
theorem swAt_nil (way : List Int) (v r : Int) : swAt way v [] r = [(way, v, r)] := by simp [swAt, swE]
theorem hwE_len : ∀ (l : List Int) (r : Int), r ≤ 8 → (swE l r).length ≤ 9 ^ l.length
  | [], r, h => by simp [swE]
  | s :: rest, r, h => by
    rw [swE, List.length_flatMap]
    have hb : ∀ n, n < (r + 1).toNat → ((swE rest (r - (n : Int))).map fun p => ((n : Int) :: p.1, (n : Int) * s + p.2.1, p.2.2)).length ≤ 9 ^ rest.length := by
      intro n hn
      rw [List.length_map]
      exact hwE_len rest (r - n) (by omega)
    have hs : ∀ (m : Nat), m ≤ (r + 1).toNat → ((List.range m).map fun n : Nat => ((swE rest (r - (n : Int))).map fun p => ((n : Int) :: p.1, (n : Int) * s + p.2.1, p.2.2)).length).sum ≤ m * 9 ^ rest.length := by
      intro m
      induction m with
      | zero => intro _; simp
      | succ m ih =>
        intro hm
        rw [List.range_succ, List.map_append, List.sum_append, Nat.succ_mul]
        have := hb m (by omega)
        have := ih (by omega)
        simp only [List.map_cons, List.map_nil, List.sum_cons, List.sum_nil, Nat.add_zero]
        omega
    have h1 := hs (r + 1).toNat (Nat.le_refl _)
    have h2 : (r + 1).toNat * 9 ^ rest.length ≤ 9 * 9 ^ rest.length := Nat.mul_le_mul_right _ (by omega)
    rw [List.length_cons, Nat.pow_succ, Nat.mul_comm (9 ^ rest.length) 9]
    exact Nat.le_trans h1 h2
theorem hwE_small (l : List Int) (r : Int) (hl : l.length ≤ 6) (hr : r ≤ 8) : (swE l r).length ≤ 531441 := by
  have h := hwE_len l r hr
  have : 9 ^ l.length ≤ 9 ^ 6 := Nat.pow_le_pow_right (by omega) hl
  omega
theorem swPart_le (way : List Int) (v s : Int) (rest : List Int) (r : Int) (n : Nat) : ∀ d, (swPart way v s rest r n).length ≤ (swPart way v s rest r (n + d)).length
  | 0 => Nat.le_refl _
  | d + 1 => by
    have := swPart_le way v s rest r n d
    rw [← Nat.add_assoc, swPart_succ, List.length_append]
    omega
/-- What is asked of the function that is called for each way: J tells what holds when some have come, own which blocks are its own. -/
structure hwEach (n0 L : Nat) (J : (Nat → Prop) → List (List Int × Int × Int) → World → Prop) (g : Nat) (lb : Array Value) : Prop where
  enters : ∀ args w, (callFunc g args).run Try.prog w = .ok (.enter g args) w
  bound : ∀ own pre W, J own pre W → ∀ k, own k → n0 ≤ k ∧ k < W.heap.size
  move : ∀ own pre W W', J own pre W → (∀ k, own k → W'.heap[k]? = W.heap[k]?) → W.heap.size ≤ W'.heap.size → J own pre W'
  call : ∀ own pre W way v r u, J own pre W → n0 ≤ W.heap.size → way.length = L → pre.length < 1000000 → Kd.R (Kd.int .i64) 3 W n0 (fun k => ¬ own k) u way →
    Calls Try.prog g (#[u, .int .i64 v, .int .i64 r] ++ lb) W fun e W' => e = .returned (.tuple #[]) ∧ Below n0 W W' ∧ Kept W W' own ∧
      ∃ own', J own' (pre ++ [(way, v, r)]) W' ∧ ∀ k, own' k → own k ∨ u.ownBlock = some k ∨ W.heap.size ≤ k
/-- The variables of stampWays. -/
structure hwSW (n0 bS bE bT : Nat) (AS : Option Addr) (cS : Nat) (stamps : List Int) (g : Nat) (lb : Array Value) (own : Nat → Prop) (W : World) : Prop where
  s : W.heap[bS]? = some (.cells #[.slice AS stamps.length cS] 22 (0, 0))
  e : W.heap[bE]? = some (.cells #[.func (.func g) #[] lb] 46 (0, 0))
  t : W.heap[bT]? = some (.cells #[.func (.func 81) #[] #[.pointer (some ⟨bS, 0, none⟩), .pointer (some ⟨bE, 0, none⟩), .pointer (some ⟨bT, 0, none⟩)]] 46 (0, 0))
  c : ∀ i, i < stamps.length → ∃ ad, AS = some ad ∧ ad.block < n0 ∧ W.cell? (ad.add i) = some (.int .i64 (stamps.getD i 0))
  ns : ¬ own bS
  ne : ¬ own bE
  nt : ¬ own bT
  size : n0 ≤ W.heap.size
theorem hwSW.step {n0 bS bE bT : Nat} {AS : Option Addr} {cS : Nat} {stamps : List Int} {g : Nat} {lb : Array Value} {own own' S : Nat → Prop} {W W' : World} (h : hwSW n0 bS bE bT AS cS stamps g lb own W) (hB : Below n0 W W') (hK : Kept W W' S) (hS : ∀ k, S k → own k)
    (ho : ∀ k, own' k → own k ∨ (∃ cells, W.heap[k]? = some (.cells cells 3 (0, 0))) ∨ W.heap.size ≤ k) : hwSW n0 bS bE bT AS cS stamps g lb own' W' := by
  have k1 := blk_lt h.s
  have k2 := blk_lt h.e
  have k3 := blk_lt h.t
  refine ⟨(hK.2 bS k1 (fun z => h.ns (hS _ z))).trans h.s, (hK.2 bE k2 (fun z => h.ne (hS _ z))).trans h.e, (hK.2 bT k3 (fun z => h.nt (hS _ z))).trans h.t, fun i hi => ?_, fun z => ?_, fun z => ?_, fun z => ?_, Nat.le_trans h.size hB.size⟩
  · obtain ⟨ad, e, hb, hc⟩ := h.c i hi
    exact ⟨ad, e, hb, (hB.cell (p := ad.add i) (by rw [add_block]; exact hb)).trans hc⟩
  · rcases ho _ z with z | ⟨cells, z⟩ | z
    · exact h.ns z
    · rw [h.s] at z; injection z with z; injection z with _ z; revert z; decide
    · omega
  · rcases ho _ z with z | ⟨cells, z⟩ | z
    · exact h.ne z
    · rw [h.e] at z; injection z with z; injection z with _ z; revert z; decide
    · omega
  · rcases ho _ z with z | ⟨cells, z⟩ | z
    · exact h.nt z
    · rw [h.t] at z; injection z with z; injection z with _ z; revert z; decide
    · omega
theorem hwSW.cells {n0 bS bE bT : Nat} {ad : Addr} {cS : Nat} {stamps : List Int} {g : Nat} {lb : Array Value} {own : Nat → Prop} {W : World} (h : hwSW n0 bS bE bT (some ad) cS stamps g lb own W) (i : Nat) (hi : i < stamps.length) :
    W.cell? ⟨bT, 0, none⟩ = some (.func (.func 81) #[] #[.pointer (some ⟨bS, 0, none⟩), .pointer (some ⟨bE, 0, none⟩), .pointer (some ⟨bT, 0, none⟩)]) ∧ W.cell? ⟨bS, 0, none⟩ = some (.slice (some ad) stamps.length cS) ∧ W.cell? (ad.add i) = some (.int .i64 (stamps.getD i 0)) := by
  obtain ⟨ad', e, _, hc⟩ := h.c i hi
  cases e
  exact ⟨by simp [World.cell?, h.t], by simp [World.cell?, h.s], hc⟩
theorem hwSW.below {n0 bS bE bT : Nat} {AS : Option Addr} {cS : Nat} {stamps : List Int} {g : Nat} {lb : Array Value} {own : Nat → Prop} {W W' : World} (h : hwSW n0 bS bE bT AS cS stamps g lb own W) (hB : Below W.heap.size W W') : hwSW n0 bS bE bT AS cS stamps g lb own W' :=
  h.step (S := fun _ => False) (hB.mono h.size) (Kept.of_below hB _) (fun _ z => z.elim) (fun _ z => .inl z)
theorem hwEach.below {n0 L : Nat} {J : (Nat → Prop) → List (List Int × Int × Int) → World → Prop} {g : Nat} {lb : Array Value} (hE : hwEach n0 L J g lb) {own : Nat → Prop} {pre : List (List Int × Int × Int)} {W W' : World} (h : J own pre W) (hB : Below W.heap.size W W') : J own pre W' :=
  hE.move own pre W W' h (fun k hk => hB.block k (hE.bound own pre W h k hk).2) hB.size
theorem hwEach.fresh {n0 L : Nat} {J : (Nat → Prop) → List (List Int × Int × Int) → World → Prop} {g : Nat} {lb : Array Value} (hE : hwEach n0 L J g lb) {own : Nat → Prop} {pre : List (List Int × Int × Int)} {W W' : World} {ok : Nat → Prop} {v : Value} {xs : List Int} (h : J own pre W) (hn : n0 ≤ W.heap.size) (hR : Kd.R (Kd.int .i64) 3 W' W.heap.size ok v xs) : Kd.R (Kd.int .i64) 3 W' n0 (fun k => ¬ own k) v xs :=
  Kd.R_lower (Kd.R_mono (Kd.R_bound hR) (fun k hk z => by have := (hE.bound own pre W h k z).2; omega)) hn
theorem hw_one {w : World} {b : Nat} {x : Int} (h : w.cell? ⟨b, 0, none⟩ = some (.int .i64 x)) : ReadsRow (fun (y : Int) (cs : List Value) => cs = [.int .i64 y]) 1 w (some ⟨b, 0, none⟩) 1 [x] := by
  refine ⟨rfl, by omega, fun _ => ⟨_, rfl, fun j p hj => ?_⟩⟩
  cases j with
  | zero =>
    have e : x = p := by simpa using hj
    subst e
    refine ⟨_, rfl, rfl, fun i u hu => ?_⟩
    cases i with
    | zero => have e : Value.int .i64 x = u := by simpa using hu
              subst e
              rw [add_plain]; exact h
    | succ i => simp at hu
  | succ j => simp at hj
theorem hw_wrap (x : Int) (h0 : -9223372036854775808 ≤ x) (h1 : x ≤ 9223372036854775807) : IntKind.i64.wrap x = x := by rw [i64_w]; unfold wrap64; omega
set_option maxRecDepth 100000 in
set_option maxHeartbeats 8000000 in
theorem hw_take (n0 bS bE bT : Nat) (AS : Option Addr) (cS : Nat) (stamps : List Int) (g : Nat) (lb : Array Value) (J : (Nat → Prop) → List (List Int × Int × Int) → World → Prop) (hE : hwEach n0 stamps.length J g lb) (hst : ∀ i, i < stamps.length → 0 ≤ stamps.getD i 0 ∧ stamps.getD i 0 ≤ 500) (hsl : stamps.length ≤ 6) :
    ∀ (d : Nat) (way : List Int) (v r : Int) (own : Nat → Prop) (pre : List (List Int × Int × Int)) (W : World) (u : Value), way.length + d = stamps.length → 0 ≤ r → r ≤ 8 → 0 ≤ v → v + r * 500 ≤ 1000000 → pre.length + (swAt way v (stamps.drop way.length) r).length ≤ 1000000 → J own pre W → hwSW n0 bS bE bT AS cS stamps g lb own W → Kd.R (Kd.int .i64) 3 W n0 (fun k => ¬ own k) u way →
      Calls Try.prog 81 #[u, .int .i64 v, .int .i64 r, .pointer (some ⟨bS, 0, none⟩), .pointer (some ⟨bE, 0, none⟩), .pointer (some ⟨bT, 0, none⟩)] W fun e W' => e = .returned (.tuple #[]) ∧ Below n0 W W' ∧ Kept W W' own ∧
        ∃ own', J own' (pre ++ swAt way v (stamps.drop way.length) r) W' ∧ ∀ k, own' k → own k ∨ u.ownBlock = some k ∨ W.heap.size ≤ k
  | 0, way, v, r, own, pre, W, u, hd, hr0, hr1, hv0, hv1, hlen, hJ, hV, hu => by
    rw [List.drop_of_length_le (by omega), swAt_nil, List.length_singleton] at hlen
    obtain ⟨A, c, rfl⟩ := Kd.R_slice hu
    have HC := Aside0.mk (hE.call own pre W way v r _ hJ hV.size (by omega) (by omega) hu)
    have eg := hE.enters
    have hcS : W.cell? ⟨bS, 0, none⟩ = some (.slice AS stamps.length cS) := by simp [World.cell?, hV.s]
    have hcE : W.cell? ⟨bE, 0, none⟩ = some (.func (.func g) #[] lb) := by simp [World.cell?, hV.e]
    have hl : (way.length : Int) = (stamps.length : Int) := by omega
    have hlb : ((way.length : Int) == (stamps.length : Int)) = true := beq_iff_eq.mpr hl
    have hlb2 : (way.length == stamps.length) = true := beq_iff_eq.mpr (by omega)
    have hX := Aside0.mk (show pre ++ swAt way v (stamps.drop way.length) r = pre ++ [(way, v, r)] by rw [List.drop_of_length_le (by omega), swAt_nil])
    clear hJ hV hu hl hd hlen
    go_enter Try.func81, Try.ntmps81
    go_wp2_with (go_at_fn g; refine HC.out.mono ?_; rintro e W' ⟨rfl, hB, hK, hO⟩; have HB := Aside0.mk hB; have HK := Aside0.mk hK; have HO := Aside0.mk hO; clear hB hK hO)
    refine bodyPost_ret (results_none rfl _ _ _) rfl ?_
    exact ⟨rfl, HB.out, HK.out, by rw [hX.out]; exact HO.out⟩
  | d + 1, way, v, r, own, pre, W, u, hd, hr0, hr1, hv0, hv1, hlen, hJ, hV, hu => by
    obtain ⟨A, c, rfl⟩ := Kd.R_slice hu
    have ih := hw_take n0 bS bE bT AS cS stamps g lb J hE hst hsl d
    have IH := Aside0.mk ih
    clear ih
    have hkl : way.length < stamps.length := by omega
    have eg81 : ∀ args w, (callFunc 81 args).run Try.prog w = .ok (.enter 81 args) w := enters_of Try.func81 (by kernel_rfl) rfl
    have hcS : W.cell? ⟨bS, 0, none⟩ = some (.slice AS stamps.length cS) := by simp [World.cell?, hV.s]
    have hlb : ((way.length : Int) == (stamps.length : Int)) = false := beq_eq_false_iff_ne.mpr (by omega)
    obtain ⟨s, hs⟩ : ∃ s, stamps.getD way.length 0 = s := ⟨_, rfl⟩
    have hsr := hst way.length hkl
    rw [hs] at hsr
    have hX := Aside0.mk (show swAt way v (stamps.drop way.length) r = swPart way v s (stamps.drop (way.length + 1)) r (r + 1).toNat by
      rw [List.drop_eq_getElem_cons hkl, swAt_cons]
      rw [show stamps[way.length] = s by rw [← hs, List.getD_eq_getElem?_getD, List.getElem?_eq_getElem hkl]; rfl])
    have HL := Aside0.mk (show pre.length + (swPart way v s (stamps.drop (way.length + 1)) r (r + 1).toNat).length ≤ 1000000 by rw [← hX.out]; exact hlen)
    clear hlen
    have HS := Aside0.mk hs
    have HV := Aside0.mk hV
    have HJ := Aside0.mk hJ
    have HU := Aside0.mk hu
    clear hs hV hJ hu
    obtain ⟨m, hm⟩ : ∃ m : Nat, (m : Int) = r := ⟨r.toNat, by omega⟩
    subst hm
    go_enter Try.func81, Try.ntmps81
    go_wp2
    go_loopg [10, 24] (m + 1) (fun gg _ s24 wr => ∃ n : Nat, n ≤ m + 1 ∧ m + 1 - n ≤ gg ∧ s24 = .int .i64 n ∧ Aside0 (Below n0 W wr) ∧ Aside0 (Kept W wr own) ∧
      Aside0 (∃ own1, J own1 (pre ++ swPart way v s (stamps.drop (way.length + 1)) (m : Int) n) wr ∧ ∀ k, own1 k → own k ∨ W.heap.size ≤ k))
    case atStart => exact ⟨0, Nat.zero_le _, by omega, rfl, ⟨Below.refl _ _⟩, ⟨Kept.refl _ _⟩, ⟨own, by simpa [swPart] using HJ.out, fun k hk => .inl hk⟩⟩
    case round =>
      obtain ⟨n, hn, hg, rfl, HB, HK, HO⟩ := hrel
      by_cases hlt : n < m + 1
      · have hltz : (n : Int) < (m : Int) + 1 := by omega
        obtain ⟨own1, hJ1, ho1⟩ := HO.out
        have hV1 := HV.out.step HB.out HK.out (fun _ h => h) (fun k hk => (ho1 k hk).imp id .inr)
        have hu1 : Kd.R (Kd.int .i64) 3 wr n0 (fun k => ¬ own k ∧ k < W.heap.size) (.slice A way.length c) way := Kd.R_kept (Kd.R_mono (Kd.R_bound HU.out) (fun k hk => ⟨hk.1, hk.2.2.1⟩)) HK.out (fun k hk => hk.1)
        have hu2 := (Kd.R_reads' hu1).2
        obtain ⟨ad, eA, hadb, hcs⟩ := hV1.c way.length hkl
        rw [HS.out] at hcs
        subst eA
        have hcS1 : wr.cell? ⟨bS, 0, none⟩ = some (.slice (some ad) stamps.length cS) := by simp [World.cell?, hV1.s]
        have hcT1 : wr.cell? ⟨bT, 0, none⟩ = some (.func (.func 81) #[] #[.pointer (some ⟨bS, 0, none⟩), .pointer (some ⟨bE, 0, none⟩), .pointer (some ⟨bT, 0, none⟩)]) := by simp [World.cell?, hV1.t]
        have HU1 := Aside0.mk hu1
        have HU2 := Aside0.mk hu2
        have HV1 := Aside0.mk hV1
        have HJ1 := Aside0.mk hJ1
        have HO1 := Aside0.mk ho1
        clear hu1 hu2 hV1 hJ1 ho1 HO
        have hcl : slices_Clone_int_int.f way = some way := by unfold slices_Clone_int_int.f; rw [if_pos (by omega)]
        have HCl := Aside0.mk (fun (W' : World) (hW : Below wr.heap.size wr W') => slices_Clone_int_int.calls A c way way W' (Kd.C_below HU2.out.2 hW) HU2.out.1 hcl)
        have hp0 := Int.mul_nonneg (show 0 ≤ (n : Int) by omega) hsr.1
        have hp1 := Int.mul_le_mul_of_nonneg_left hsr.2 (show 0 ≤ (n : Int) by omega)
        have hw1 : IntKind.i64.wrap ((n : Int) * s) = (n : Int) * s := hw_wrap _ (by omega) (by omega)
        have hw2 : IntKind.i64.wrap (v + (n : Int) * s) = v + (n : Int) * s := hw_wrap _ (by omega) (by omega)
        have hw3 : IntKind.i64.wrap ((m : Int) - (n : Int)) = (m : Int) - (n : Int) := hw_wrap _ (by omega) (by omega)
        have HP := Aside0.mk (show 0 ≤ (n : Int) * s ∧ (n : Int) * s ≤ (n : Int) * 500 from ⟨hp0, hp1⟩)
        have HLn := Aside0.mk (show (pre ++ swPart way v s (stamps.drop (way.length + 1)) (m : Int) n).length + (swAt (way ++ [(n : Int)]) (v + (n : Int) * s) (stamps.drop (way ++ [(n : Int)]).length) ((m : Int) - (n : Int))).length ≤ 1000000 by
          have z1 := HL.out
          have z2 := swPart_le way v s (stamps.drop (way.length + 1)) (m : Int) (n + 1) (m - n)
          rw [show n + 1 + (m - n) = m + 1 by omega, swPart_succ, List.length_append] at z2
          rw [show ((m : Int) + 1).toNat = m + 1 by omega] at z1
          rw [List.length_append, List.length_append]
          simp only [List.length_cons, List.length_nil, Nat.zero_add]
          omega)
        clear hp0 hp1
        clear hcl
        go_wp2
        go_region_held3 (fun w' => w'.cell? ⟨bT, 0, none⟩ = some (.func (.func 81) #[] #[.pointer (some ⟨bS, 0, none⟩), .pointer (some ⟨bE, 0, none⟩), .pointer (some ⟨bT, 0, none⟩)]) ∧ w'.cell? ⟨bS, 0, none⟩ = some (.slice (some ad) stamps.length cS) ∧ w'.cell? (ad.add way.length) = some (.int .i64 s))
          (first | exact ⟨by assumption, by assumption, by assumption⟩ | go_keep)
          (first
            | (go_at_call 62; (with_reducible refine (HCl.out ((wr.alloc (.cells #[.int .i64 (n : Int)] 3)).drew) ?sb).mono ?_); (case sb => repeat (first | exact Below.refl _ _ | apply below_alloc | apply pw_below_drewN | apply below_drew1)); rintro e w1 ⟨v1, rfl, ho, hb⟩; have HB1 := Aside0.mk (show Below wr.heap.size wr w1 from below_step (by repeat (first | exact Below.refl _ _ | apply below_alloc | apply pw_below_drewN | apply below_drew1)) hb); have HV2 := Aside0.mk (HV1.out.below HB1.out); obtain ⟨q1, q2, q3⟩ := HV2.out.cells way.length hkl; rw [HS.out] at q3; have HOa := Aside0.mk (show Kd.R (Kd.int .i64) 3 w1 wr.heap.size (fun _ => True) v1 way from Kd.R_lower ho (below_size (by repeat (first | exact Below.refl _ _ | apply below_alloc | apply pw_below_drewN | apply below_drew1)))); have hcn : w1.cell? ⟨wr.heap.size, 0, none⟩ = some (.int .i64 (n : Int)) := (hb.cell (p := ⟨wr.heap.size, 0, none⟩) (by simp)).trans (by simp); clear ho hb)
            | (go_at_call 62; refine (HCl.out _ (by repeat (first | exact Below.refl _ _ | apply below_alloc | apply pw_below_drewN | apply below_drew1))).mono ?_; rintro e w1 ⟨v1, rfl, ho, hb⟩; have HB1 := Aside0.mk (show Below wr.heap.size wr w1 from below_step (by repeat (first | exact Below.refl _ _ | apply below_alloc | apply pw_below_drewN | apply below_drew1)) hb); have HV2 := Aside0.mk (HV1.out.below HB1.out); obtain ⟨q1, q2, q3⟩ := HV2.out.cells way.length hkl; rw [HS.out] at q3; have HOa := Aside0.mk (show Kd.R (Kd.int .i64) 3 w1 wr.heap.size (fun _ => True) v1 way from Kd.R_lower ho (below_size (by repeat (first | exact Below.refl _ _ | apply below_alloc | apply pw_below_drewN | apply below_drew1)))); clear ho hb)
            | (refine Kd.R_append_step (Kd.int .i64) (w0 := wr) wr.heap.size (by rfl) (.tmp 29) (.tmp 31) 22 3 (.int .i64 0) 8 (by rfl) Try.underlying22 info3 rfl (by decide) (by decide) v1 way (n : Int) [.int .i64 (n : Int)] (fun _ => True) (fun _ => False) (by rfl) (by rfl) rfl (fun _ h => h.elim) (fun _ _ => trivial) HOa.out HB1.out HB1.out.size (by omega) ?_; intro v2 w2 ho2 hb2 hg2 hat2; have HB2 := Aside0.mk hb2; have HV3 := Aside0.mk (HV1.out.below hb2); obtain ⟨q4, q5, q6⟩ := HV3.out.cells way.length hkl; rw [HS.out] at q6; have HOb := Aside0.mk ho2; clear ho2 hb2 hg2 hat2)
            | (refine Kd.R_append_rows_step (Kd.int .i64) (Rr := fun (y : Int) (cs : List Value) => cs = [.int .i64 y]) (w0 := wr) wr.heap.size (by rfl) (.tmp 29) (.tmp 31) 22 3 (.int .i64 0) 8 (by rfl) Try.underlying22 info3 rfl (by decide) (by decide) v1 way [(n : Int)] (some ⟨wr.heap.size, 0, none⟩) 1 1 (fun _ => True) (fun _ => False) (by rfl) (by rfl) HOa.out (hw_one hcn) (fun _ _ h => h) (fun _ h => h.elim) (fun _ _ => trivial) HB1.out HB1.out.size (by omega) ?_; intro v2 w2 ho2 hb2 hg2 hat2; have HB2 := Aside0.mk hb2; have HV3 := Aside0.mk (HV1.out.below hb2); obtain ⟨q4, q5, q6⟩ := HV3.out.cells way.length hkl; rw [HS.out] at q6; have HOb := Aside0.mk ho2; clear ho2 hb2 hg2 hat2)
            | (go_at_call 81; refine (IH.out (way ++ [(n : Int)]) (v + (n : Int) * s) ((m : Int) - (n : Int)) own1 (pre ++ swPart way v s (stamps.drop (way.length + 1)) (m : Int) n) w2 v2 (by rw [List.length_append]; simp; omega) (by omega) (by omega) (by have := HP.out; omega) (by have := HP.out; omega) HLn.out (hE.below HJ1.out HB2.out) HV3.out (hE.fresh HJ1.out HV1.out.size HOb.out)).mono ?_; rintro e w3 ⟨rfl, hB3, hK3, hO3⟩; have HB3 := Aside0.mk hB3; have HK3 := Aside0.mk hK3; have HO3 := Aside0.mk hO3; have HV4 := Aside0.mk (HV3.out.step hB3 hK3 (fun _ z => z) (fun _ z => .inl z)); obtain ⟨q7, q8, q9⟩ := HV4.out.cells way.length hkl; rw [HS.out] at q9; clear hB3 hK3 hO3))
        all_goals
          have hBw := Aside0.mk (HB.out.trans ((HB2.out.mono HV1.out.size).trans HB3.out))
          have hKw := Aside0.mk (Kept.then_ (Kept.then_ HK.out (Kept.of_below HB2.out (fun _ => False)) (fun _ z => z.elim)) HK3.out (fun k hk => HO1.out k hk))
          have hJw := Aside0.mk (show ∃ own2, J own2 (pre ++ swPart way v s (stamps.drop (way.length + 1)) (m : Int) (n + 1)) w3 ∧ ∀ k, own2 k → own k ∨ W.heap.size ≤ k by
            obtain ⟨own2, j1, j2⟩ := HO3.out
            refine ⟨own2, ?_, fun k hk => ?_⟩
            · rw [swPart_succ, ← List.append_assoc]
              rw [List.length_append] at j1
              exact j1
            · have z1 := HB.out.size
              have z2 := HB2.out.size
              rcases j2 k hk with z | z | z
              · exact HO1.out k z
              · have := Kd.R_base HOb.out k z; exact .inr (Nat.le_trans (Nat.le_trans (show W.heap.size ≤ wr.heap.size from z1) this) (Nat.le_refl _))
              · exact .inr (by omega))
          clear HO3 HK3 HB3 HOb HB2 HV3 HV4 HOa HB1 HV2 q1 q2 q3 q4 q5 q6 q7 q8 q9
          go_wp2
          go_roundg (m + 1 - (n + 1))
          case measure => omega
          case rel => exact ⟨n + 1, by omega, by omega, by go_num, hBw, hKw, hJw⟩
      · have hltz : n = m + 1 := by omega
        subst hltz
        clear hlt hn hg
        go_wp2
        go_end0
        refine ⟨rfl, HB.out, HK.out, ?_⟩
        obtain ⟨own1, hJ1, ho1⟩ := HO.out
        refine ⟨own1, ?_, fun k hk => (ho1 k hk).imp id .inr⟩
        rw [hX.out, show ((m : Int) + 1).toNat = m + 1 by omega]
        exact hJ1
theorem blk_new2 (W : World) (B C : Obj) : ((W.alloc B).alloc C).heap[W.heap.size + 1]? = some C := by
  have := blk_new (W.alloc B) C
  rwa [World.size_alloc] at this
theorem blk_new3 (W : World) (B C D : Obj) : (((W.alloc B).alloc C).alloc D).heap[W.heap.size + 2]? = some D := by
  have := blk_new ((W.alloc B).alloc C) D
  rwa [World.size_alloc, World.size_alloc] at this
set_option maxRecDepth 100000 in
set_option maxHeartbeats 4000000 in
theorem hw_stampWays (n0 : Nat) (A : Option Addr) (c : Nat) (stamps : List Int) (room : Int) (g : Nat) (lb : Array Value) (J : (Nat → Prop) → List (List Int × Int × Int) → World → Prop) (hE : hwEach n0 stamps.length J g lb)
    (hst : ∀ i, i < stamps.length → 0 ≤ stamps.getD i 0 ∧ stamps.getD i 0 ≤ 500) (hsl : stamps.length ≤ 6) (hr0 : 0 ≤ room) (hr1 : room ≤ 8) (own : Nat → Prop) (W : World) (hn : n0 ≤ W.heap.size) (hJ : J own [] W)
    (hC : ∀ i, i < stamps.length → ∃ ad, A = some ad ∧ ad.block < n0 ∧ W.cell? (ad.add i) = some (.int .i64 (stamps.getD i 0))) :
    Calls Try.prog 65 #[.slice A stamps.length c, .int .i64 room, .func (.func g) #[] lb] W fun e W' => e = .returned (.tuple #[]) ∧ Below n0 W W' ∧ Kept W W' own ∧
      ∃ own', J own' (swE stamps room) W' ∧ ∀ k, own' k → own k ∨ W.heap.size ≤ k := by
  have hown := hE.bound own [] W hJ
  have eg81 : ∀ args w, (callFunc 81 args).run Try.prog w = .ok (.enter 81 args) w := enters_of Try.func81 (by kernel_rfl) rfl
  have hcall := fun (W3 : World) (hB : Below W.heap.size W W3) (h1 : W3.heap[W.heap.size]? = some (.cells #[.slice A stamps.length c] 22 (0, 0))) (h2 : W3.heap[W.heap.size + 1]? = some (.cells #[.func (.func g) #[] lb] 46 (0, 0)))
      (h3 : W3.heap[W.heap.size + 2]? = some (.cells #[.func (.func 81) #[] #[.pointer (some ⟨W.heap.size, 0, none⟩), .pointer (some ⟨W.heap.size + 1, 0, none⟩), .pointer (some ⟨W.heap.size + 2, 0, none⟩)]] 46 (0, 0))) =>
    hw_take n0 W.heap.size (W.heap.size + 1) (W.heap.size + 2) A c stamps g lb J hE hst hsl stamps.length [] 0 room own [] W3 (.slice none 0 0) (by simp) hr0 hr1 (Int.le_refl _) (by omega) (by have := hwE_small stamps room hsl hr1; unfold swAt; simp; omega) (hE.below hJ hB)
      { s := h1, e := h2, t := h3, ns := fun z => by have := (hown _ z).2; omega, ne := fun z => by have := (hown _ z).2; omega, nt := fun z => by have := (hown _ z).2; omega, size := Nat.le_trans hn hB.size
        c := fun i hi => by obtain ⟨ad, e, hb, hc⟩ := hC i hi; exact ⟨ad, e, hb, (hB.cell (p := ad.add i) (by rw [add_block]; omega)).trans hc⟩ } (Kd.R_nil _ _ _ _ _)
  have HC := Aside0.mk hcall
  have HB := Aside0.mk (Below.refl W.heap.size W)
  clear hcall hC hJ hown
  have hX := Aside0.mk (show swAt [] 0 (stamps.drop ([] : List Int).length) room = swE stamps room by unfold swAt; simp)
  go_enter Try.func65, Try.ntmps65
  go_wp2_with (go_at_fn 81; refine (HC.out _ (by repeat (first | exact HB.out | apply below_alloc)) ?h1 ?h2 ?h3).mono ?_; (case h1 => exact blk_alloc (blk_alloc (blk_new W _) _) _); (case h2 => exact blk_alloc (blk_new2 W _ _) _); (case h3 => exact blk_new3 W _ _ _); rintro e w' ⟨rfl, hb, hk, ho⟩; have HB2 := Aside0.mk hb; have HK2 := Aside0.mk hk; have HO2 := Aside0.mk ho; clear hb hk ho)
  refine bodyPost_end (w := w') (results_none rfl _ _ _) (Eq.refl _) ?_
  refine ⟨rfl, ?_, ?_, ?_⟩
  · exact (((HB.out.mono hn).alloc hn _).alloc (by simp; omega) _ |>.alloc (by simp; omega) _).trans HB2.out
  · exact Kept.then_ (Kept.of_below (by repeat (first | exact HB.out | apply below_alloc)) own) HK2.out (fun k hk => .inl hk)
  · obtain ⟨own', j1, j2⟩ := HO2.out
    rw [hX.out, List.nil_append] at j1
    refine ⟨own', j1, fun k hk => ?_⟩
    rcases j2 k hk with z | z | z
    · exact .inl z
    · simp [Value.ownBlock] at z
    · simp at z; exact .inr (by omega)
/-- A list that is sorted in its own place, the empty one too. -/
theorem hw_sortR (P0_ : Nat → Prop) (u9000_ : Value) (l0 : List Int) (w0 w : World) (hB : Below w0.heap.size w0 w) (ho0 : Kd.R (Kd.int .i64) 3 w w0.heap.size P0_ u9000_ l0) (c2 : l0.length < 17592186044416) :
    Calls Try.prog 84 #[u9000_] w fun e w' => e = .returned (.tuple #[]) ∧ Kd.R (Kd.int .i64) 3 w' w0.heap.size (fun k_ => (P0_ k_ ∨ w.heap.size ≤ k_)) u9000_ (l0.mergeSort fun x y => decide (x ≤ y)) ∧ Below w0.heap.size w0 w' ∧ Kept w w' (fun k_ => P0_ k_) := by
  have hown := Kd.own_of_R ho0
  have hok := ho0.1
  rcases hown.2 with ⟨hv, h0⟩ | ⟨g, cap, cur, hv, hg, hb, h1, h2, h3, h4⟩
  · subst hv
    obtain rfl : l0 = [] := List.eq_nil_of_length_eq_zero h0
    refine (Try.slices_Sort_int_none none 0 w).mono ?_
    rintro e w' ⟨rfl, rfl⟩
    refine ⟨rfl, ?_, hB, Kept.refl _ _⟩
    rw [show ([] : List Int).mergeSort (fun x y => decide (x ≤ y)) = [] by simp]
    exact Kd.R_mono ho0 (fun k hk => .inl hk)
  · subst hv
    have hl : (l0.mergeSort fun x y => decide (x ≤ y)).length = l0.length := List.length_mergeSort _
    have hH : Go.Sort.Holds (Value.int .i64) w g 0 l0.toArray := Go.holds_of_blockI hb (by rw [Nat.mul_one] at h4; exact h4)
    refine (Try.slices_Sort_int g 0 cap l0 w hH (Array.getElem?_eq_some_iff.1 hb).1 (by omega)).mono ?_
    rintro e w' ⟨rfl, n, os, rfl⟩
    have gr := Go.grownBy_sortedI (w := w) (g := g) (n := n) (os := os) (l0.mergeSort fun x y => decide (x ≤ y)).toArray
    have own2 := Go.ownsRow_sortedI (n := n) (os := os) hl hg hb h1 h2 h3
    refine ⟨rfl, ?_, ?_, ?_⟩
    · exact Kd.R_of_own (by rw [hl]; exact own2) (fun k hk => .inl (hok k hk))
    · obtain ⟨g1, g2, g3, g4, g5⟩ := gr
      exact below_weaken hB (Nat.le_refl _) ⟨g1, g2, g3, g4, fun k hk => g5 k (Nat.lt_of_lt_of_le hk hB.size) (fun e_ => by injection e_ with e_; omega)⟩
    · exact Kept.of_grown gr (Kept.refl w _) (fun k e_ => by injection e_ with e_; subst e_; exact .inl (hok _ rfl))
theorem hw_compact_le (zs : List Int) : (Go.Lib.compact zs).length ≤ zs.length := by
  unfold Go.Lib.compact Go.Lib.compactUpTo
  rw [List.length_map]
  exact Nat.le_trans (List.length_filter_le _ _) (by simp)
/-- A list of which the runs are made one. -/
theorem hw_compactR (P0_ : Nat → Prop) (u9000_ : Value) (l0 : List Int) (w0 w : World) (hB : Below w0.heap.size w0 w) (ho0 : Kd.R (Kd.int .i64) 3 w w0.heap.size P0_ u9000_ l0) (c1 : 0 < l0.length) (c2 : l0.length < 17592186044416) :
    Calls Try.prog 85 #[u9000_] w fun e w' => ∃ v : Value, e = .returned v ∧ Kd.R (Kd.int .i64) 3 w' w0.heap.size P0_ v (Go.Lib.compact l0) ∧ Below w0.heap.size w0 w' := by
  have hown := Kd.own_of_R ho0
  have hok := ho0.1
  rcases hown.2 with ⟨hv, h0⟩ | ⟨g, cap, cur, hv, hg, hb, h1, h2, h3, h4⟩
  · omega
  · subst hv
    have hH : Go.Sort.Holds (Value.int .i64) w g 0 l0.toArray := Go.holds_of_blockI hb (by rw [Nat.mul_one] at h4; exact h4)
    refine (Try.slices_Compact_int g 0 cap l0 w hH (by omega) h1).mono ?_
    rintro e w' ⟨rfl, n, rfl⟩
    have gr := Go.grownBy_sortedI (w := w) (g := g) (n := n) (os := #[]) (Go.Lib.compact l0 ++ List.replicate (l0.length - (Go.Lib.compact l0).length) 0).toArray
    have hp := Go.heap_sortedI (n := n) (os := #[]) (Go.Lib.compact l0 ++ List.replicate (l0.length - (Go.Lib.compact l0).length) 0).toArray hb
    rw [Go.Sort.grow_empty] at gr hp
    have hcl := hw_compact_le l0
    refine ⟨_, rfl, ?_, ?_⟩
    · refine Kd.R_of_own ?_ (fun k hk => hok k (by simpa [Value.ownBlock] using hk))
      refine ⟨by simp [encs], .inr ⟨g, cap, _, rfl, hg, hp, Nat.le_trans hcl h1, h2, by simp [Go.Sort.putCells, h3], ?_⟩⟩
      have tk := Go.take_putCellsI cur (Go.Lib.compact l0 ++ List.replicate (l0.length - (Go.Lib.compact l0).length) 0) (by simp; omega)
      rw [Nat.mul_one]
      have t2 := congrArg (List.take (Go.Lib.compact l0).length) tk
      rw [List.take_take, Nat.min_eq_left (by simp)] at t2
      rw [t2, List.map_append, List.take_left' (by simp)]
      rfl
    · obtain ⟨g1, g2, g3, g4, g5⟩ := gr
      exact below_weaken hB (Nat.le_refl _) ⟨g1, g2, g3, g4, fun k hk => g5 k (Nat.lt_of_lt_of_le hk hB.size) (fun e_ => by injection e_ with e_; omega)⟩
theorem hw_narrow {w : World} {n0 : Nat} {ok : Nat → Prop} {v : Value} {xs : List Int} (h : Kd.R (Kd.int .i64) 3 w n0 ok v xs) : Kd.R (Kd.int .i64) 3 w n0 (fun k => v.ownBlock = some k) v xs :=
  Kd.R_of_own (Kd.own_of_R h) (fun _ hk => hk)
/-- The values of the ways that are taken. -/
def hwVals (fits : Int → Bool) (p : List (List Int × Int × Int)) : List Int := (p.filter fun x => fits x.2.2).map fun x => x.2.1
theorem hwVals_yes (fits : Int → Bool) (p : List (List Int × Int × Int)) (x : List Int × Int × Int) (h : fits x.2.2 = true) : hwVals fits (p ++ [x]) = hwVals fits p ++ [x.2.1] := by simp [hwVals, List.filter_append, h]
theorem hwVals_no (fits : Int → Bool) (p : List (List Int × Int × Int)) (x : List Int × Int × Int) (h : fits x.2.2 = false) : hwVals fits (p ++ [x]) = hwVals fits p := by simp [hwVals, List.filter_append, h]
theorem hwVals_le (fits : Int → Bool) (p : List (List Int × Int × Int)) : (hwVals fits p).length ≤ p.length := by
  unfold hwVals
  rw [List.length_map]
  exact List.length_filter_le _ _
def hwJV (n0 bF bO gF : Nat) (fits : Int → Bool) (own : Nat → Prop) (pre : List (List Int × Int × Int)) (W : World) : Prop :=
  ∃ v : Value, own = (fun k => k = bF ∨ k = bO ∨ v.ownBlock = some k) ∧ n0 ≤ bF ∧ n0 ≤ bO ∧ bF ≠ bO ∧ W.heap[bF]? = some (.cells #[.func (.func gF) #[] #[]] 41 (0, 0)) ∧ W.heap[bO]? = some (.cells #[v] 22 (0, 0)) ∧
    Kd.R (Kd.int .i64) 3 W n0 (fun k => v.ownBlock = some k) v (hwVals fits pre)
set_option maxRecDepth 100000 in
set_option maxHeartbeats 4000000 in
theorem hw_eachVal (n0 L bF bO gF : Nat) (fits : Int → Bool) (eg : ∀ args w, (callFunc gF args).run Try.prog w = .ok (.enter gF args) w)
    (hfit : ∀ (r : Int) (W : World), Calls Try.prog gF #[.int .i64 r] W fun e W' => e = .returned (.bool (fits r)) ∧ W' = W) : hwEach n0 L (hwJV n0 bF bO gF fits) 83 #[.pointer (some ⟨bF, 0, none⟩), .pointer (some ⟨bO, 0, none⟩)] where
  enters := enters_of Try.func83 (by kernel_rfl) rfl
  bound := by
    rintro own pre W ⟨v, rfl, h1, h2, _, h3, h4, h5⟩ k (rfl | rfl | hk)
    · exact ⟨h1, blk_lt h3⟩
    · exact ⟨h2, blk_lt h4⟩
    · exact ⟨Kd.R_base h5 k hk, Kd.R_lt h5 k hk⟩
  move := by
    rintro own pre W W' ⟨v, rfl, h1, h2, hne, h3, h4, h5⟩ hk _
    exact ⟨v, rfl, h1, h2, hne, (hk _ (.inl rfl)).trans h3, (hk _ (.inr (.inl rfl))).trans h4, Kd.R_move h5 (fun k hk' => hk k (.inr (.inr hk')))⟩
  call := by
    rintro own pre W way v r u ⟨vO, rfl, h1, h2, hne, h3, h4, h5⟩ hn hl hlen hR
    obtain ⟨A, cu, rfl⟩ := Kd.R_slice hR
    have c3 : W.cell? ⟨bF, 0, none⟩ = some (.func (.func gF) #[] #[]) := by simp [World.cell?, h3]
    have c4 : W.cell? ⟨bO, 0, none⟩ = some vO := by simp [World.cell?, h4]
    have hlv := hwVals_le fits pre
    have H3 := Aside0.mk h3
    have H4 := Aside0.mk h4
    have H5 := Aside0.mk h5
    have HF := Aside0.mk (hfit r)
    have HL := Aside0.mk (show ((hwVals fits pre).length + 1) * 8 ≤ 140737488355328 by omega)
    clear hR h3 h4 h5 hl hlen hlv hfit
    cases hf : fits r with
    | false =>
      have HS := Aside0.mk (hwVals_no fits pre (way, v, r) hf)
      rw [hf] at HF
      clear hf
      simp only [List.push_toArray, List.append_toArray, List.cons_append, List.nil_append]
      go_enter Try.func83, Try.ntmps83
      go_wp2_with (go_at_fn gF; refine (HF.out _).mono ?_; rintro e W' ⟨rfl, hW⟩; obtain rfl := hW.symm)
      refine bodyPost_end (w := W) (results_none rfl _ _ _) (Eq.refl _) ?_
      refine ⟨rfl, Below.refl _ _, Kept.refl _ _, _, ⟨vO, rfl, h1, h2, hne, H3.out, H4.out, ?_⟩, fun k hk => .inl hk⟩
      rw [HS.out]
      exact H5.out
    | true =>
      have HS := Aside0.mk (hwVals_yes fits pre (way, v, r) hf)
      rw [hf] at HF
      clear hf
      simp only [List.push_toArray, List.append_toArray, List.cons_append, List.nil_append]
      go_enter Try.func83, Try.ntmps83
      go_wp2_with (first
        | ((with_reducible refine gate_builtin (b := .append) (xs := #[.tmp 11, .tmp 13]) rfl ?_); at_builtin; refine Kd.R_append (Kd.int .i64) (w0 := W) n0 rfl (.tmp 11) (.tmp 13) 22 3 (.int .i64 0) 8 rfl Try.underlying22 info3 rfl (by decide) (by decide) vO (hwVals fits pre) v [.int .i64 v] (fun _ => True) (fun _ => False) rfl rfl rfl (fun _ hk => hk.elim) (fun _ _ => trivial) (Kd.R_mono H5.out (fun _ _ => trivial)) (Below.refl _ _) hn HL.out ?_; intro v1 w1 ho1 hb1 hg1 hat1; obtain ⟨A1, c1, n1, rfl⟩ : ∃ (A1 : Option Addr) (c1 n1 : Nat), v1 = .slice A1 n1 c1 := by { obtain ⟨a, b, e⟩ := Kd.R_slice ho1; exact ⟨a, b, _, e⟩ }; have h4a := blk_grown H4.out hg1 (Kd.R_ne H5.out H4.out (by decide)); have h3a := blk_grown H3.out hg1 (Kd.R_ne H5.out H3.out (by decide)); have c5 : w1.cell? ⟨bO, 0, none⟩ = some vO := blk_cell h4a 0; have f5 : w1.frozen? ⟨bO, 0, none⟩ = false := blk_frozen h4a 0; have H4A := Aside0.mk h4a; have H3A := Aside0.mk h3a; have HO1 := Aside0.mk ho1; have HB1 := Aside0.mk hb1; have HG1 := Aside0.mk hg1; have HA1 := Aside0.mk hat1; clear h4a h3a ho1 hb1 hg1 hat1)
        | (go_at_fn gF; refine (HF.out _).mono ?_; rintro e W' ⟨rfl, hW⟩; obtain rfl := hW.symm))
      refine bodyPost_end (w := w1.setCell ⟨bO, 0, none⟩ _) (results_none rfl _ _ _) (Eq.refl _) ?_
      refine ⟨rfl, HB1.out.setCell h2 _, Kept.setCell (Kept.of_grown HG1.out (Kept.refl _ _) (fun k hk => .inl (.inr (.inr hk)))) (.inl (.inr (.inl rfl))) _, _, ⟨_, rfl, h1, h2, hne, blk_far H3A.out (fun e => hne e) _, blk_put H4A.out 0 _ rfl, ?_⟩, fun k hk => ?_⟩
      · rw [HS.out]
        exact Kd.R_far (hw_narrow HO1.out) (p := ⟨bO, 0, none⟩) (fun k hk e => Kd.R_ne HO1.out H4A.out (by decide) (by rw [hk, e])) _
      · rcases hk with hk | hk | hk
        · exact .inl (.inl hk)
        · exact .inl (.inr (.inl hk))
        · rcases HA1.out with e | ⟨b, e, hb⟩
          · exact .inl (.inr (.inr (by rw [← e]; exact hk)))
          · exact .inr (.inr (by rw [e] at hk; injection hk with hk; omega))
set_option maxRecDepth 100000 in
set_option maxHeartbeats 4000000 in
theorem hw_values (A : Option Addr) (c : Nat) (stamps : List Int) (room : Int) (gF : Nat) (fits : Int → Bool) (eg : ∀ args w, (callFunc gF args).run Try.prog w = .ok (.enter gF args) w)
    (hfit : ∀ (r : Int) (W : World), Calls Try.prog gF #[.int .i64 r] W fun e W' => e = .returned (.bool (fits r)) ∧ W' = W)
    (hst : ∀ i, i < stamps.length → 0 ≤ stamps.getD i 0 ∧ stamps.getD i 0 ≤ 500) (hsl : stamps.length ≤ 6) (hr0 : 0 ≤ room) (hr1 : room ≤ 8) (W : World)
    (hC : ∀ i, i < stamps.length → ∃ ad, A = some ad ∧ ad.block < W.heap.size ∧ W.cell? (ad.add i) = some (.int .i64 (stamps.getD i 0))) (hpos : 0 < (hwVals fits (swE stamps room)).length) :
    Calls Try.prog 72 #[.slice A stamps.length c, .int .i64 room, .func (.func gF) #[] #[]] W fun e W' => ∃ v : Value, e = .returned v ∧ Kd.R (Kd.int .i64) 3 W' W.heap.size (fun _ => True) v (Go.Lib.compact ((hwVals fits (swE stamps room)).mergeSort fun x y => decide (x ≤ y))) ∧ Below W.heap.size W W' := by
  have hsm := Nat.le_trans (hwVals_le fits (swE stamps room)) (hwE_small stamps room hsl hr1)
  have hlm : ((hwVals fits (swE stamps room)).mergeSort fun x y => decide (x ≤ y)).length = (hwVals fits (swE stamps room)).length := List.length_mergeSort _
  have HS := Aside0.mk (fun (W3 : World) (hB : Below W.heap.size W W3) (h1 : W3.heap[W.heap.size]? = some (.cells #[.func (.func gF) #[] #[]] 41 (0, 0))) (h2 : W3.heap[W.heap.size + 2]? = some (.cells #[.slice (some ⟨W.heap.size + 1, 0, none⟩) 0 0] 22 (0, 0)))
      (hR : Kd.R (Kd.int .i64) 3 W3 W.heap.size (fun k => (Value.slice (some ⟨W.heap.size + 1, 0, none⟩) 0 0).ownBlock = some k) (.slice (some ⟨W.heap.size + 1, 0, none⟩) 0 0) []) =>
    hw_stampWays W.heap.size A c stamps room 83 #[.pointer (some ⟨W.heap.size, 0, none⟩), .pointer (some ⟨W.heap.size + 2, 0, none⟩)] (hwJV W.heap.size W.heap.size (W.heap.size + 2) gF fits) (hw_eachVal W.heap.size stamps.length W.heap.size (W.heap.size + 2) gF fits eg hfit) hst hsl hr0 hr1 _ W3 hB.size
      ⟨_, rfl, Nat.le_refl _, by omega, by omega, h1, h2, hR⟩ (fun i hi => by obtain ⟨ad, e, hb, hc⟩ := hC i hi; exact ⟨ad, e, hb, (hB.cell (p := ad.add i) (by rw [add_block]; exact hb)).trans hc⟩))
  have HL := Aside0.mk (And.intro hsm (And.intro hlm hpos))
  have own0 : ((W.alloc (.cells #[.func (.func gF) #[] #[]] 41)).alloc (.cells #[] 3)).ownsRow W.heap.size 3 1 (.slice (some ⟨W.heap.size + 1, 0, none⟩) 0 0) 0 [] := by
    have := own_lit (W.alloc (.cells #[.func (.func gF) #[] #[]] 41)) W.heap.size 3 .i64 [] (by simp) (by simp)
    simpa [nums] using this
  have HO := Aside0.mk (show Kd.R (Kd.int .i64) 3 (((W.alloc (.cells #[.func (.func gF) #[] #[]] 41)).alloc (.cells #[] 3)).alloc (.cells #[.slice (some ⟨W.heap.size + 1, 0, none⟩) 0 0] 22)) W.heap.size (fun k => (Value.slice (some ⟨W.heap.size + 1, 0, none⟩) 0 0).ownBlock = some k) (.slice (some ⟨W.heap.size + 1, 0, none⟩) 0 0) [] from
    Kd.R_of_own (own0.alloc _) (fun _ hk => hk))
  clear own0 hC hst hsl hr0 hr1 hsm hlm hpos hfit eg
  go_enter Try.func72, Try.ntmps72
  go_wp2_with (first
    | (go_at_call 65; refine (HS.out _ (by repeat (first | exact Below.refl _ _ | apply below_alloc)) (blk_alloc (blk_alloc (blk_new W _) _) _) (blk_new3 W _ _ _) HO.out).mono ?_; rintro e w2 ⟨rfl, hB2, hK2, own', ⟨vF, e1, e2, e3, e4, e5, e6, e7⟩, _⟩; obtain ⟨A1, c1, n1, rfl⟩ : ∃ (A1 : Option Addr) (c1 n1 : Nat), vF = .slice A1 n1 c1 := by { obtain ⟨a, b, e⟩ := Kd.R_slice e7; exact ⟨a, b, _, e⟩ }; have HB2 := Aside0.mk (show Below W.heap.size W w2 from (show Below W.heap.size W _ by repeat (first | exact Below.refl _ _ | apply below_alloc)).trans hB2); have hc2 : w2.cell? ⟨W.heap.size + 2, 0, none⟩ = some (.slice A1 n1 c1) := (blk_cell e6 0); have HN := Aside0.mk (Kd.R_ne e7 e6 (by decide)); have HH := Aside0.mk e6; have HR2 := Aside0.mk e7; clear hB2 hK2 e1 e2 e3 e4 e5 e6 e7)
    | (go_at_call 84; refine (hw_sortR _ _ _ W w2 HB2.out HR2.out (by have := HL.out.1; omega)).mono ?_; rintro e w3 ⟨rfl, hR3, hB3, hK3⟩; have hh3 := blk_kept HH.out hK3 (fun z => HN.out z.symm); have hc3 : w3.cell? ⟨W.heap.size + 2, 0, none⟩ = some (.slice A1 n1 c1) := (blk_cell hh3 0); have HR3 := Aside0.mk hR3; have HB3 := Aside0.mk hB3; clear hR3 hB3 hK3 hh3)
    | (go_at_call 85; refine (hw_compactR _ _ _ W w3 HB3.out HR3.out (by have := HL.out.2; omega) (by have := HL.out; omega)).mono ?_; rintro e w4 ⟨v4, rfl, hR4, hB4⟩; have HR4 := Aside0.mk hR4; have HB4 := Aside0.mk hB4; clear hR4 hB4))
  go_ret
  exact ⟨_, rfl, Kd.R_mono HR4.out (fun _ _ => trivial), HB4.out⟩
/-- The bounds that hold behind the check. -/
def hwFit (l : List Int) (room : Int) : Bool := decide (l.length ≤ 6) && l.all (fun s => decide (0 ≤ s ∧ s ≤ 500)) && decide (0 ≤ room ∧ room ≤ 8)
theorem hwFit_out {l : List Int} {room : Int} (h : hwFit l room = true) : l.length ≤ 6 ∧ (∀ i, i < l.length → 0 ≤ l.getD i 0 ∧ l.getD i 0 ≤ 500) ∧ 0 ≤ room ∧ room ≤ 8 := by
  unfold hwFit at h
  simp only [Bool.and_eq_true, decide_eq_true_eq, List.all_eq_true] at h
  refine ⟨h.1.1, fun i hi => ?_, h.2.1, h.2.2⟩
  rw [List.getD_eq_getElem?_getD, List.getElem?_eq_getElem hi]
  exact h.1.2 _ (List.getElem_mem hi)
theorem hw_cells {w : World} {A : Option Addr} {l : List Int} (h : Kd.C (Kd.int .i64) w A l.length l) (i : Nat) (hi : i < l.length) : ∃ ad, A = some ad ∧ ad.block < w.heap.size ∧ w.cell? (ad.add i) = some (.int .i64 (l.getD i 0)) := by
  obtain ⟨ad, rfl, hc⟩ := Kd.at_int h i (by omega) (by omega)
  rw [Int.toNat_natCast] at hc
  have hb := World.block_lt_of_cell? w _ hc
  rw [add_block] at hb
  refine ⟨ad, rfl, hb, ?_⟩
  rw [hc]
  simp [rd]
/-- The values of just so many stamps, increasing. -/
def impl_ValuesWith.f (k : Nat) (l0 : List Int) (a1 : Int) : Option (List Int × Bool) := (impl_AreStamps.f k l0).bind fun t => (if t = true then ((impl_within.f a1 0 8).bind fun t2 => (if t2 = true then (if hwFit l0 a1 = true ∧ 0 < (hwVals (fun r => r == 0) (swE l0 a1)).length then some (Go.Lib.compact ((hwVals (fun r => r == 0) (swE l0 a1)).mergeSort fun x y => decide (x ≤ y)), true) else none) else (some ([], false)))) else (some ([], false)))
theorem impl_ValuesWith.mono : ∀ a0 a1 k, LeO (impl_ValuesWith.f k a0 a1) (impl_ValuesWith.f (k + 1) a0 a1) := by
  intro a0 a1 k
  unfold impl_ValuesWith.f
  exact LeO.bind (impl_AreStamps.mono _ _) (fun _ => LeO.refl _)
theorem hw_fitWith (r : Int) (W : World) : Calls Try.prog 73 #[.int .i64 r] W fun e W' => e = .returned (.bool ((fun r : Int => r == 0) r)) ∧ W' = W := by
  go_enter Try.func73, Try.ntmps73
  go_wp2
  go_ret
  exact ⟨rfl, rfl⟩
set_option maxRecDepth 100000 in
set_option maxHeartbeats 4000000 in
theorem impl_ValuesWith.calls (k : Nat) (A0 : Option Addr) (c0 : Nat) (l0 : List Int) (a1 : Int) (r1 : List Int) (r2 : Bool) (w : World) (hr0 : Kd.C (Kd.int .i64) w A0 l0.length l0) (hc0 : l0.length ≤ c0) (h : impl_ValuesWith.f k l0 a1 = some (r1, r2)) :
    Calls Try.prog 46 #[.slice A0 l0.length c0, .int .i64 a1] w fun e w' => ∃ v0_ : Value, e = .returned (.tuple #[v0_, .bool r2]) ∧ Kd.R (Kd.int .i64) 3 w' w.heap.size (fun _ => True) v0_ r1 ∧ Below w.heap.size w w' := by
  unfold impl_ValuesWith.f at h
  obtain ⟨t, h1, h⟩ := Option.bind_eq_some_iff.mp h
  have HA := Aside0.mk (impl_AreStamps.calls k A0 c0 l0 t w hr0 hc0 h1)
  clear h1
  cases t with
  | true =>
    rw [if_pos rfl] at h
    obtain ⟨t2, h2, h⟩ := Option.bind_eq_some_iff.mp h
    have HW := Aside0.mk (fun W => impl_within.calls a1 0 8 t2 W h2)
    clear h2
    cases t2 with
    | true =>
      rw [if_pos rfl] at h
      by_cases c : hwFit l0 a1 = true ∧ 0 < (hwVals (fun r => r == 0) (swE l0 a1)).length
      · rw [if_pos c] at h
        obtain ⟨rfl, rfl⟩ := Prod.mk.inj (Option.some.inj h)
        obtain ⟨g1, g2, g3, g4⟩ := hwFit_out c.1
        have HS := Aside0.mk (fun (W3 : World) (hB : Below w.heap.size w W3) => hw_values A0 c0 l0 a1 73 (fun r => r == 0) (enters_of Try.func73 (by kernel_rfl) rfl) hw_fitWith g2 g1 g3 g4 W3 (hw_cells (Kd.C_below hr0 hB)) c.2)
        clear h c g1 g2 g3 g4 hr0 hc0
        generalize Go.Lib.compact ((hwVals (fun r => r == 0) (swE l0 a1)).mergeSort fun x y => decide (x ≤ y)) = rr at HS ⊢
        go_enter Try.func46, Try.ntmps46
        go_wp2_with (first
          | (go_at_call 19; refine HA.out.mono ?_; rintro e w1 ⟨rfl, hb1⟩; have HB1 := Aside0.mk hb1; clear hb1)
          | (go_at_call 50; refine (HW.out _).mono ?_; rintro e w1b ⟨rfl, ⟨q, rfl⟩⟩)
          | (go_at_call 72; refine (HS.out _ (by repeat (first | exact HB1.out | apply pw_below_drewN | apply below_drew1))).mono ?_; rintro e w2 ⟨v2, rfl, hR2, hB2⟩; have HR2 := Aside0.mk (Kd.R_lower hR2 (below_size (by repeat (first | exact HB1.out | apply pw_below_drewN | apply below_drew1)))); have HB2 := Aside0.mk (below_step (by repeat (first | exact HB1.out | apply pw_below_drewN | apply below_drew1)) hB2); clear hR2 hB2))
        go_ret2
        exact ⟨_, rfl, HR2.out, HB2.out⟩
      · rw [if_neg c] at h
        exact absurd h (by simp)
    | false =>
      rw [if_neg (by decide)] at h
      obtain ⟨rfl, rfl⟩ := Prod.mk.inj (Option.some.inj h)
      clear h hr0
      go_enter Try.func46, Try.ntmps46
      go_wp2_with (first
        | (go_at_call 19; refine HA.out.mono ?_; rintro e w1 ⟨rfl, hb1⟩)
        | (go_at_call 50; refine (HW.out _).mono ?_; rintro e w1b ⟨rfl, ⟨q, rfl⟩⟩))
      go_ret2
      exact ⟨_, rfl, Kd.R_nil _ _ _ _ _, by repeat (first | exact hb1 | apply pw_below_drewN | apply below_drew1)⟩
  | false =>
    rw [if_neg (by decide)] at h
    obtain ⟨rfl, rfl⟩ := Prod.mk.inj (Option.some.inj h)
    clear h hr0
    go_enter Try.func46, Try.ntmps46
    go_wp2_with (go_at_call 19; refine HA.out.mono ?_; rintro e w1 ⟨rfl, hb1⟩)
    go_ret2
    exact ⟨_, rfl, Kd.R_nil _ _ _ _ _, hb1⟩

end Go.Proofs.Ytbabhmdncfffnaa.PFnExactValuesWith
