-- Laid by this session by the help of the print: contracts proved by hand beside printed ones.
import Derived.Test.YtfldgimmdeijjaaPFnExactCountPlansx0
import Derived.Test.YtfldgimmdeijjaaPFnExactCountPlansx1
import Derived.Test.YtfldgimmdeijjaaPFnExactCountPlansx2
import Derived.Test.YtfldgimmdeijjaaPFnExactCountPlansx3
import Derived.Test.YtfldgimmdeijjaaPFnExactCountPlansx5
namespace Go.Proofs.Ytfldgimmdeijjaa.PFnExactCountPlans
open Go.RowKit Go.Proofs.YtfldgimmdeijjaaW.PrintWords Go.Proofs.YtfldgimmdeijjaaW.PrintLast Go.Proofs.YtfldgimmdeijjaaW.PrintMore
attribute [local go_sem] max2_int min2_int max_two min_two max_three min_three max_four min_four   -- for this text's walks alone
set_option linter.unusedVariables false
set_option linter.unusedSimpArgs false

/-! ### impl_CountPlans: function 46 -/
/-- Where something is first found among rows, or -1. -/
def hwFind (q : List Int → Option Bool) : List (List Int) → Option Int
  | [] => some (-1)
  | x :: l => (q x).bind fun b => if b = true then some 0 else (hwFind q l).bind fun r => some (if r < 0 then -1 else r + 1)
theorem hwFind_ge (q : List Int → Option Bool) : ∀ (l : List (List Int)) (r : Int), hwFind q l = some r → -1 ≤ r
  | [], r, h => by simp [hwFind] at h; omega
  | x :: l, r, h => by
    simp only [hwFind] at h
    obtain ⟨b, hb, h⟩ := Option.bind_eq_some_iff.mp h
    cases b with
    | true => simp at h; omega
    | false =>
      simp only [Bool.false_eq_true, if_false] at h
      obtain ⟨s, hs, h⟩ := Option.bind_eq_some_iff.mp h
      have := hwFind_ge q l s hs
      have h' := Option.some.inj h
      split at h' <;> omega
theorem hwFind_at (q : List Int → Option Bool) (l : List (List Int)) (kk : Nat) (hk : kk < l.length) (r : Int) (h : ∃ s, hwFind q (l.drop kk) = some s ∧ r = if s < 0 then -1 else s + kk) :
    ∃ b, q (l.getD kk []) = some b ∧ (b = true → r = kk) ∧ (b = false → ∃ s, hwFind q (l.drop (kk + 1)) = some s ∧ r = if s < 0 then -1 else s + (kk + 1 : Nat)) := by
  obtain ⟨s, hs, hr⟩ := h
  rw [List.drop_eq_getElem_cons hk] at hs
  simp only [hwFind] at hs
  obtain ⟨b, hb, hs⟩ := Option.bind_eq_some_iff.mp hs
  refine ⟨b, by rw [List.getD_eq_getElem?_getD, List.getElem?_eq_getElem hk]; exact hb, fun e => ?_, fun e => ?_⟩
  · subst e
    simp at hs
    subst hs
    rw [hr, if_neg (by omega)]; omega
  · subst e
    simp only [Bool.false_eq_true, if_false] at hs
    obtain ⟨s2, h2, hs⟩ := Option.bind_eq_some_iff.mp hs
    refine ⟨s2, h2, ?_⟩
    have e := Option.some.inj hs
    have := hwFind_ge q _ _ h2
    rw [hr, ← e]
    by_cases c : s2 < 0
    · rw [if_pos c, if_pos (by omega), if_pos c]
    · rw [if_neg c, if_neg (by omega), if_neg c]; omega
theorem hwFind_end (q : List Int → Option Bool) (l : List (List Int)) (r : Int) (h : ∃ s, hwFind q (l.drop l.length) = some s ∧ r = if s < 0 then -1 else s + (l.length : Int)) : r = -1 := by
  obtain ⟨s, hs, hr⟩ := h
  rw [List.drop_length] at hs
  have : (-1 : Int) = s := by simpa [hwFind] using hs
  subst this
  simpa using hr
theorem hw_atSS {w : World} {A : Option Addr} {l : List (List Int)} (h : Kd.C (Kd.slice 3 (Kd.int .i64)) w A l.length l) (kk : Nat) (hk : kk < l.length) :
    ∃ ad A' c', A = some ad ∧ w.cell? (ad.add kk) = some (.slice A' (l.getD kk []).length c') ∧ (l.getD kk []).length ≤ c' ∧ Kd.C (Kd.int .i64) w A' (l.getD kk []).length (l.getD kk []) := by
  obtain ⟨ad, c, e, _, ⟨A', c', rfl, hl, hC⟩, hcell⟩ := Kd.C_get h [] (kk : Int) (by omega) (by omega)
  have h0 := hcell 0 _ rfl
  have e1 : (Kd.slice 3 (Kd.int .i64)).sz = 1 := rfl
  rw [e1, Nat.mul_one, Nat.add_zero, Int.toNat_natCast] at h0
  rw [Int.toNat_natCast] at hl hC
  exact ⟨ad, A', c', e, h0, hl, hC⟩
set_option maxHeartbeats 2000000 in
theorem hw_findSS (q : List Int → Option Bool) (g : Nat) (lb : Array Value) (eg : ∀ args w, (callFunc g args).run Try.prog w = .ok (.enter g args) w) (A : Option Addr) (c : Nat) (l : List (List Int)) (r : Int) (w : World)
    (hr : Kd.C (Kd.slice 3 (Kd.int .i64)) w A l.length l) (hlen : l.length < 4611686018427387904)
    (hpAt : ∀ (x : List Int) (b : Bool) (A' : Option Addr) (c' : Nat) (W : World), Below w.heap.size w W → q x = some b → Kd.C (Kd.int .i64) W A' x.length x → x.length ≤ c' →
      Calls Try.prog g (#[.slice A' x.length c'] ++ lb) W fun e W' => e = .returned (.bool b) ∧ Below W.heap.size W W')
    (h : hwFind q l = some r) :
    Calls Try.prog 79 #[.slice A l.length c, .func (.func g) #[] lb] w fun e w' => e = .returned (.int .i64 r) ∧ Below w.heap.size w w' := by
  have HR := Aside0.mk hr
  have HP := Aside0.mk hpAt
  have H0 := Aside0.mk (show ∃ s, hwFind q (l.drop 0) = some s ∧ r = if s < 0 then -1 else s + ((0 : Nat) : Int) from ⟨r, h, by have := hwFind_ge q l r h; split <;> omega⟩)
  clear hr hpAt h
  go_enter Try.func79, Try.ntmps79
  go_wp2
  go_loopg [5, 8] l.length (fun gg _ s8 wr => ∃ kk : Nat, kk ≤ l.length ∧ l.length - kk ≤ gg ∧ s8 = .int .i64 kk ∧ Aside0 (Below w.heap.size w wr) ∧ Aside0 (∃ s, hwFind q (l.drop kk) = some s ∧ r = if s < 0 then -1 else s + (kk : Int)))
  case atStart => exact ⟨0, Nat.zero_le _, by omega, rfl, ⟨Below.refl _ _⟩, H0⟩
  case round =>
    clear H0
    obtain ⟨kk, hkk, hg, rfl, HB, HF⟩ := hrel
    by_cases hlt : kk < l.length
    · have hltz : (kk : Int) < (l.length : Int) := by omega
      obtain ⟨ad, A', c', e1, hcell, hl', hC⟩ := hw_atSS (Kd.C_below HR.out HB.out) kk hlt
      cases e1
      obtain ⟨b, hb, ht, hf⟩ := hwFind_at q l kk hlt r HF.out
      have hcall := HP.out _ _ _ _ _ HB.out hb hC hl'
      clear hC hl' hb
      generalize l.getD kk [] = x at hcell hcall
      cases b with
      | true =>
        have e := ht rfl
        subst e
        clear ht hf HF
        go_wp2_with (go_at_fn g; refine hcall.mono ?_; rintro e w' ⟨rfl, hb⟩)
        go_ret
        exact ⟨rfl, below_step HB.out hb⟩
      | false =>
        have HF2 := Aside0.mk (hf rfl)
        clear ht hf HF
        go_wp2_with (go_at_fn g; refine hcall.mono ?_; rintro e w' ⟨rfl, hb⟩)
        go_roundg (l.length - (kk + 1))
        case measure => omega
        case rel => exact ⟨kk + 1, by omega, by omega, by go_num, ⟨below_step HB.out hb⟩, HF2⟩
    · have hltz : kk = l.length := by omega
      subst hltz
      have e := hwFind_end q l r HF.out
      subst e
      clear hlt hkk hg HF
      go_wp2
      go_ret
      exact ⟨rfl, HB.out⟩
set_option maxHeartbeats 2000000 in
theorem hw_containsSS (q : List Int → Option Bool) (g : Nat) (lb : Array Value) (eg : ∀ args w, (callFunc g args).run Try.prog w = .ok (.enter g args) w) (A : Option Addr) (c : Nat) (l : List (List Int)) (r : Int) (w : World)
    (hr : Kd.C (Kd.slice 3 (Kd.int .i64)) w A l.length l) (hlen : l.length < 4611686018427387904)
    (hpAt : ∀ (x : List Int) (b : Bool) (A' : Option Addr) (c' : Nat) (W : World), Below w.heap.size w W → q x = some b → Kd.C (Kd.int .i64) W A' x.length x → x.length ≤ c' →
      Calls Try.prog g (#[.slice A' x.length c'] ++ lb) W fun e W' => e = .returned (.bool b) ∧ Below W.heap.size W W')
    (h : hwFind q l = some r) :
    Calls Try.prog 55 #[.slice A l.length c, .func (.func g) #[] lb] w fun e w' => e = .returned (.bool (decide (0 ≤ r))) ∧ Below w.heap.size w w' := by
  have hc := hw_findSS q g lb eg A c l r w hr hlen hpAt h
  clear hr hpAt h
  go_enter Try.func55, Try.ntmps55
  go_wp2_with (go_at_call 79; refine hc.mono ?_; rintro e w' ⟨rfl, hb⟩)
  go_ret
  exact ⟨rfl, hb⟩
/-- Is nothing in a list? -/
def hwEQ (x : List Int) : Option Bool := some ((x.length : Int) == 0)
set_option maxHeartbeats 1000000 in
theorem hw_emptyLit (x : List Int) (b : Bool) (A' : Option Addr) (c' : Nat) (W : World) (hq : hwEQ x = some b) :
    Calls Try.prog 82 (#[.slice A' x.length c'] ++ #[]) W fun e W' => e = .returned (.bool b) ∧ Below W.heap.size W W' := by
  obtain rfl := Option.some.inj hq
  simp only [List.push_toArray, List.append_toArray, List.cons_append, List.nil_append, Array.append_empty]
  clear hq
  go_enter Try.func82, Try.ntmps82
  go_wp2
  go_ret
  exact ⟨rfl, Below.refl _ _⟩
theorem hw_emptyAt (A : Option Addr) (c : Nat) (l : List (List Int)) (r : Int) (w : World) (hr : Kd.C (Kd.slice 3 (Kd.int .i64)) w A l.length l) (hlen : l.length < 4611686018427387904) (h : hwFind hwEQ l = some r) :
    Calls Try.prog 55 #[.slice A l.length c, .func (.func 82) #[] #[]] w fun e w' => e = .returned (.bool (decide (0 ≤ r))) ∧ Below w.heap.size w w' :=
  hw_containsSS hwEQ 82 #[] (enters_of Try.func82 (by kernel_rfl) rfl) A c l r w hr hlen (fun x b A' c' W _ hq _ _ => hw_emptyLit x b A' c' W hq) h
/-- So many plans from a day on. -/
def impl_CountPlans.l0 : Nat → Int → List (List Int) → Int → Option (Int × Bool)
  | 0, _, _, _ => none
  | k + 1, x9, x24, x26 => if x26 < (x24.length : Int) then (if 0 ≤ x26 then (if (wrap64 (x9 * ((rd_L1 x24 x26).length : Int))) > 1000000000 then (some (0, false)) else (impl_CountPlans.l0 k (wrap64 (x9 * ((rd_L1 x24 x26).length : Int))) x24 (wrap64 (x26 + 1)))) else (none)) else (some (x9, true))
/-- How many plans there are. -/
def impl_CountPlans.f (k : Nat) (l0 : List Int) (a1 : Int) (a2 : Int) : Option (Int × Bool) := (impl_arePayments.f k l0 a1 a2).bind fun t => (if t = true then ((impl_paying.f k l0 a1 a2).bind fun p => (if p.length < 4611686018427387904 then ((hwFind hwEQ p).bind fun r => (if 0 ≤ r then some (0, true) else (impl_CountPlans.l0 k 1 p 0))) else none)) else some (0, false))
theorem impl_CountPlans.mono_l : ∀ k y0 y1 y2, LeO (impl_CountPlans.l0 k y0 y1 y2) (impl_CountPlans.l0 (k + 1) y0 y1 y2)
  | 0, _, _, _ => fun r h => by simp [impl_CountPlans.l0] at h
  | k + 1, y0, y1, y2 => by
    have ih := impl_CountPlans.mono_l k
    unfold impl_CountPlans.l0
    exact LeO.ite (LeO.ite (LeO.ite (LeO.refl _) (ih _ _ _)) (LeO.none _)) (LeO.refl _)
theorem impl_CountPlans.mono : ∀ a0 a1 a2 k, LeO (impl_CountPlans.f k a0 a1 a2) (impl_CountPlans.f (k + 1) a0 a1 a2) := by
  intro a0 a1 a2 k
  unfold impl_CountPlans.f
  exact LeO.bind (impl_arePayments.mono _ _ _ _) (fun _ => LeO.ite (LeO.bind (impl_paying.mono _ _ _ _) (fun _ => LeO.ite (LeO.bind (LeO.refl _) (fun _ => LeO.ite (LeO.refl _) (impl_CountPlans.mono_l _ _ _ _))) (LeO.refl _))) (LeO.refl _))
set_option maxHeartbeats 4000000 in
set_option maxRecDepth 100000 in
theorem impl_CountPlans.calls (k : Nat) (A0 : Option Addr) (c0 : Nat) (l0 : List Int) (a1 : Int) (a2 : Int) (r1 : Int) (r2 : Bool) (w : World) (hr0 : Kd.C (Kd.int .i64) w A0 l0.length l0) (hc0 : l0.length ≤ c0) (h : impl_CountPlans.f k l0 a1 a2 = some (r1, r2)) :
    Calls Try.prog 46 #[.slice A0 l0.length c0, .int .i64 a1, .int .i64 a2] w fun e w' => e = .returned (.tuple #[.int .i64 r1, .bool r2]) ∧ Below w.heap.size w w' := by
  unfold impl_CountPlans.f at h
  obtain ⟨t, h1, h⟩ := Option.bind_eq_some_iff.mp h
  have HA := Aside0.mk (impl_arePayments.calls k A0 c0 l0 a1 a2 t w hr0 hc0 h1)
  clear h1
  cases t with
  | false =>
    rw [if_neg Bool.false_ne_true] at h
    obtain ⟨rfl, rfl⟩ := Prod.mk.inj (Option.some.inj h)
    clear h hr0
    go_enter Try.func46, Try.ntmps46
    go_wp2_with (go_at_call 71; refine HA.out.mono ?_; rintro e w1 ⟨rfl, hb1⟩)
    go_ret2
    exact ⟨rfl, hb1⟩
  | true =>
    rw [if_pos rfl] at h
    obtain ⟨p, h2, h⟩ := Option.bind_eq_some_iff.mp h
    by_cases hl : p.length < 4611686018427387904
    · rw [if_pos hl] at h
      obtain ⟨r, h3, h⟩ := Option.bind_eq_some_iff.mp h
      have HP := Aside0.mk (fun (W : World) (hB : Below w.heap.size w W) => impl_paying.calls k A0 c0 l0 a1 a2 p W (Kd.C_below hr0 hB) hc0 h2)
      have HF := Aside0.mk (fun (A : Option Addr) (c : Nat) (W : World) (hC : Kd.C (Kd.slice 3 (Kd.int .i64)) W A p.length p) => hw_emptyAt A c p r W hC hl h3)
      clear h2 h3 hl hr0
      by_cases c7 : 0 ≤ r
      · rw [if_pos c7] at h
        obtain ⟨rfl, rfl⟩ := Prod.mk.inj (Option.some.inj h)
        have c7b0 : decide (0 ≤ r) = true := decide_eq_true c7
        rw [c7b0] at HF
        clear h c7 c7b0
        go_enter Try.func46, Try.ntmps46
        go_wp2_with (first
          | (go_at_call 71; refine HA.out.mono ?_; rintro e w1 ⟨rfl, hb1⟩; have HB1 := Aside0.mk hb1; clear hb1)
          | (go_at_call 80; refine (HP.out _ HB1.out).mono ?_; rintro e w2 ⟨v2, rfl, hS, hb2⟩; have HB2 := Aside0.mk (below_step HB1.out hb2); obtain ⟨A2, c2, rfl⟩ := Kd.S_slice hS; have HS := Aside0.mk hS; clear hS hb2)
          | (go_at_call 55; refine (HF.out A2 c2 _ (Kd.S_reads' HS.out).2.2).mono ?_; rintro e w3 ⟨rfl, hb3_⟩; have HB3 := Aside0.mk (below_step HB2.out hb3_); have hb3 := Aside0.mk hb3_; clear hb3_))
        go_ret2
        exact ⟨rfl, HB3.out⟩
      · rw [if_neg c7] at h
        have c7b0 : decide (0 ≤ r) = false := decide_eq_false c7
        rw [c7b0] at HF
        have H' := Aside0.mk h
        clear h c7 c7b0
        go_enter Try.func46, Try.ntmps46
        go_wp2_with (first
          | (go_at_call 71; refine HA.out.mono ?_; rintro e w1 ⟨rfl, hb1⟩; have HB1 := Aside0.mk hb1; clear hb1)
          | (go_at_call 80; refine (HP.out _ HB1.out).mono ?_; rintro e w2 ⟨v2, rfl, hS, hb2⟩; have HB2 := Aside0.mk (below_step HB1.out hb2); obtain ⟨A2, c2, rfl⟩ := Kd.S_slice hS; have HS := Aside0.mk hS; clear hS hb2)
          | (go_at_call 55; refine (HF.out A2 c2 _ (Kd.S_reads' HS.out).2.2).mono ?_; rintro e w3 ⟨rfl, hb3_⟩; have HB3 := Aside0.mk (below_step HB2.out hb3_); have hb3 := Aside0.mk hb3_; clear hb3_))
        have HS3 := Aside0.mk (Kd.S_below HS.out hb3.out)
        clear HS HP HF HA HB1 HB2 hb3
        go_loopg [9, 25] k (fun kq v9 v26 w' => ∃ (x9_1 : Int) (x26_1 : Int), v9 = .int .i64 x9_1 ∧ v26 = .int .i64 x26_1 ∧ Aside0 (impl_CountPlans.l0 kq x9_1 p x26_1 = some (r1, r2)) ∧ Aside0 (kq ≤ k) ∧ w' = w3)
        case atStart => exact ⟨(1), (0), rfl, rfl, H', ⟨Nat.le_refl _⟩, rfl⟩
        case round =>
          clear H'
          obtain ⟨x9_1, x26_1, rfl, rfl, HX, HK1, rfl⟩ := hrel
          cases gk with
          | zero => exact absurd HX.out (by simp [impl_CountPlans.l0])
          | succ k1 =>
            have H := HX.out
            clear HX
            simp only [impl_CountPlans.l0] at H
            by_cases c15 : x26_1 < (p.length : Int)
            · rw [if_pos c15] at H
              by_cases c16 : 0 ≤ x26_1
              · rw [if_pos c16] at H
                obtain ⟨ad173, A173_0, c173_0, e173, hx173_0, hl173_0, hi173_0⟩ := at_L1 (Kd.S_reads' HS3.out).2.2 x26_1 c16 c15
                cases e173
                clear hl173_0 hi173_0
                have c15b0 : decide (x26_1 < (p.length : Int)) = true := decide_eq_true c15
                have p173 := eq_true c16
                have q173 := eq_true c15
                clear c15 c16
                by_cases c18 : (wrap64 (x9_1 * ((rd_L1 p x26_1).length : Int))) > 1000000000
                · rw [if_pos c18] at H
                  have c18b0 : decide (1000000000 < (wrap64 (x9_1 * ((rd_L1 p x26_1).length : Int)))) = true := decide_eq_true c18
                  clear c18
                  obtain ⟨rfl, rfl⟩ := Prod.mk.inj (Option.some.inj H)
                  clear H
                  go_wp2
                  go_ret2
                  exact ⟨rfl, HB3.out⟩
                · rw [if_neg c18] at H
                  have c18b0 : decide (1000000000 < (wrap64 (x9_1 * ((rd_L1 p x26_1).length : Int)))) = false := decide_eq_false c18
                  clear c18
                  have H' := Aside0.mk H
                  clear H
                  go_wp2
                  go_roundg k1
                  case measure => have := HK1.out; omega
                  case rel => exact ⟨_, _, rfl, rfl, H', ⟨by have := HK1.out; omega⟩, rfl⟩
              · rw [if_neg c16] at H
                exact absurd H (by simp)
            · rw [if_neg c15] at H
              have c15b0 : decide (x26_1 < (p.length : Int)) = false := decide_eq_false c15
              clear c15
              obtain ⟨rfl, rfl⟩ := Prod.mk.inj (Option.some.inj H)
              clear H
              go_wp2
              go_ret2
              exact ⟨rfl, HB3.out⟩
    · rw [if_neg hl] at h
      exact absurd h (by simp)

/-! ### laws_FnExactCountPlans: function 13 -/
def laws_FnExactCountPlans.j0 : Nat → List Int → List Int → Bool → Option (Bool)
  | 0, _, _, _ => none
  | k + 1, x0, x9, x39 => if x39 = true then (some false) else ((laws_toIntS.f k x0).bind fun t168 => ((laws_eqIntS.f k x9 t168).bind fun t171 => (if t171 = true then (some true) else (some false))))
def laws_FnExactCountPlans.f (k : Nat) (l0 : List Int) (a1 : Int) (a2 : Int) : Option (Bool) := if (l0.length : Int) > 1048576 then (some true) else ((laws_toIntS.f k l0).bind fun t158 => ((spec_CountPlans.f k t158 a1 a2).bind fun bt161 => ((laws_toIntS.f k l0).bind fun t163 => ((impl_CountPlans.f k t163 a1 a2).bind fun bt166 => (if bt166.1 = bt161.1 then (laws_FnExactCountPlans.j0 k l0 t163 (bt166.2 != bt161.2)) else (laws_FnExactCountPlans.j0 k l0 t163 true))))))
theorem laws_FnExactCountPlans.mono_l : ∀ k, (∀ y0 y1 y2, LeO (laws_FnExactCountPlans.j0 k y0 y1 y2) (laws_FnExactCountPlans.j0 (k + 1) y0 y1 y2))
  | 0 => fun _ _ _ r h => by simp [laws_FnExactCountPlans.j0] at h
  | k + 1 => by
    have ih0 := laws_FnExactCountPlans.mono_l k
    · intro y0 y1 y2
      unfold laws_FnExactCountPlans.j0
      repeat' first
      | (with_reducible exact ih0 _ _ _)
      | (with_reducible exact impl_CountPlans.mono _ _ _ _)
      | (with_reducible exact laws_eqIntS.mono _ _ _)
      | (with_reducible exact laws_toIntS.mono _ _)
      | (with_reducible exact spec_CountPlans.mono _ _ _ _)
      | (with_reducible exact LeO.refl _)
      | (with_reducible exact LeO.none _)
      | (with_reducible refine LeO.ite ?_ ?_)
      | (with_reducible refine LeO.bind ?_ (fun _ => ?_))
      | exact ih0 _ _ _
      | exact impl_CountPlans.mono _ _ _ _
      | exact laws_eqIntS.mono _ _ _
      | exact laws_toIntS.mono _ _
      | exact spec_CountPlans.mono _ _ _ _
      | exact LeO.none _
      | refine LeO.ite ?_ ?_
      | refine LeO.bind ?_ (fun _ => ?_)
theorem laws_FnExactCountPlans.mono : ∀ a0 a1 a2 k, LeO (laws_FnExactCountPlans.f k a0 a1 a2) (laws_FnExactCountPlans.f (k + 1) a0 a1 a2) := by
  intro a0 a1 a2 k
  have ih0 := laws_FnExactCountPlans.mono_l k
  unfold laws_FnExactCountPlans.f
  repeat' first
      | (with_reducible exact ih0 _ _ _)
      | (with_reducible exact impl_CountPlans.mono _ _ _ _)
      | (with_reducible exact laws_eqIntS.mono _ _ _)
      | (with_reducible exact laws_toIntS.mono _ _)
      | (with_reducible exact spec_CountPlans.mono _ _ _ _)
      | (with_reducible exact LeO.refl _)
      | (with_reducible exact LeO.none _)
      | (with_reducible refine LeO.ite ?_ ?_)
      | (with_reducible refine LeO.bind ?_ (fun _ => ?_))
      | exact ih0 _ _ _
      | exact impl_CountPlans.mono _ _ _ _
      | exact laws_eqIntS.mono _ _ _
      | exact laws_toIntS.mono _ _
      | exact spec_CountPlans.mono _ _ _ _
      | exact LeO.none _
      | refine LeO.ite ?_ ?_
      | refine LeO.bind ?_ (fun _ => ?_)
set_option maxHeartbeats 8000000 in
set_option maxRecDepth 100000 in
theorem laws_FnExactCountPlans.calls (k : Nat) (A0 : Option Addr) (c0 : Nat) (l0 : List Int) (a1 : Int) (a2 : Int) (r : Bool) (w : World) (hr0 : Kd.C (Kd.int .i64) w A0 l0.length l0) (hc0 : l0.length ≤ c0) (h : laws_FnExactCountPlans.f k l0 a1 a2 = some r) :
    Calls Try.prog 13 #[.slice A0 l0.length c0, .int .i64 a1, .int .i64 a2] w fun e w' => e = .returned (.bool r) ∧ Below w.heap.size w w' := by
  have HR0 := Aside0.mk hr0
  have HC0 := Aside0.mk hc0
  clear hr0 hc0
  have HB := Aside0.mk (Below.refl w.heap.size w)
  have H : (if (l0.length : Int) > 1048576 then (some true) else ((laws_toIntS.f k l0).bind fun t158 => ((spec_CountPlans.f k t158 a1 a2).bind fun bt161 => ((laws_toIntS.f k l0).bind fun t163 => ((impl_CountPlans.f k t163 a1 a2).bind fun bt166 => (if bt166.1 = bt161.1 then (laws_FnExactCountPlans.j0 k l0 t163 (bt166.2 != bt161.2)) else (laws_FnExactCountPlans.j0 k l0 t163 true))))))) = some r := h
  clear h
  by_cases c4 : (l0.length : Int) > 1048576
  · rw [if_pos c4] at H
    have c4b0 : decide (1048576 < (l0.length : Int)) = true := decide_eq_true c4
    have c4b1 : decide (1048576 < l0.length) = true := decide_eq_true (by omega)
    clear c4
    obtain rfl := Option.some.inj H
    go_enter Try.func13, Try.ntmps13
    go_wp2
    go_ret
    exact ⟨by first | rfl | (simp [errW_none, errW_some] <;> rfl) | (simp [*, errW_none, errW_some] <;> rfl), by repeat (first | (with_reducible first | exact HB.out | apply below_alloc | apply pw_below_drewN | apply below_drew1) | exact HB.out)⟩
  · rw [if_neg c4] at H
    have c4b0 : decide (1048576 < (l0.length : Int)) = false := decide_eq_false c4
    have c4b1 : decide (1048576 < l0.length) = false := decide_eq_false (by omega)
    clear c4
    replace H := Option.bind_eq_some_iff.mp H
    obtain ⟨t158, A50, H⟩ := H
    replace H : ((spec_CountPlans.f k t158 a1 a2).bind fun bt161 => ((laws_toIntS.f k l0).bind fun t163 => ((impl_CountPlans.f k t163 a1 a2).bind fun bt166 => (if bt166.1 = bt161.1 then (laws_FnExactCountPlans.j0 k l0 t163 (bt166.2 != bt161.2)) else (laws_FnExactCountPlans.j0 k l0 t163 true))))) = some r := H
    have A5 := Aside0.mk A50
    clear A50
    replace H := Option.bind_eq_some_iff.mp H
    obtain ⟨⟨t161, t162⟩, A60, H⟩ := H
    replace H : ((laws_toIntS.f k l0).bind fun t163 => ((impl_CountPlans.f k t163 a1 a2).bind fun bt166 => (if bt166.1 = t161 then (laws_FnExactCountPlans.j0 k l0 t163 (bt166.2 != t162)) else (laws_FnExactCountPlans.j0 k l0 t163 true)))) = some r := H
    have A6 := Aside0.mk A60
    clear A60
    replace H := Option.bind_eq_some_iff.mp H
    obtain ⟨t163, A70, H⟩ := H
    replace H : ((impl_CountPlans.f k t163 a1 a2).bind fun bt166 => (if bt166.1 = t161 then (laws_FnExactCountPlans.j0 k l0 t163 (bt166.2 != t162)) else (laws_FnExactCountPlans.j0 k l0 t163 true))) = some r := H
    have A7 := Aside0.mk A70
    clear A70
    replace H := Option.bind_eq_some_iff.mp H
    obtain ⟨⟨t166, t167⟩, A80, H⟩ := H
    replace H : (if t166 = t161 then (laws_FnExactCountPlans.j0 k l0 t163 (t167 != t162)) else (laws_FnExactCountPlans.j0 k l0 t163 true)) = some r := H
    have A8 := Aside0.mk A80
    clear A80
    have HC9 := Aside0.mk H
    clear H
    go_enter Try.func13, Try.ntmps13
    go_upto_region 6 with (first | ((with_reducible refine gate_callee (f := 18) rfl ?_); refine goesL_ (some 17) rfl rfl Try.func18 (by kernel_rfl) rfl #[.slice A0 l0.length c0] rfl (by (try simp only [List.map_toArray, List.map_cons, List.map_nil]); first | done | rfl | (simp only [List.length_drop, List.length_take]; rfl)) ?_; (with_reducible refine (laws_toIntS.calls k _ _ l0 t158 _ ?side1 ?side2 A5.out).mono ?_); (case side1 => repeat (first | exact HR0.out | (with_reducible refine Kd.C_alloc ?_ _) | (with_reducible refine Kd.C_drewN ?_ _) | (with_reducible refine Kd.C_drew ?_))); (case side2 => exact HC0.out); rintro e w10 ⟨v159, rfl, ho0, hb⟩; refine ⟨_, rfl, ?_⟩; have n0_ := Aside0.mk (Kd.R_lower ho0 (below_size (by repeat (first | (with_reducible first | exact HB.out | apply below_alloc | apply pw_below_drewN | apply below_drew1) | exact HB.out)))); have n1_ := Aside0.mk (below_step (by repeat (first | (with_reducible first | exact HB.out | apply below_alloc | apply pw_below_drewN | apply below_drew1) | exact HB.out)) hb); clear HB; have HO160 := n0_; have HB := n1_; clear n0_ n1_; (try clear hb); (try clear hb2); (try clear hk); (try clear hi); (try clear ho0); obtain ⟨Ao11, co11, eo11⟩ := Kd.R_slice HO160.out; subst eo11) | ((with_reducible refine gate_callee (f := 45) rfl ?_); refine goesL_ (some 20) rfl rfl Try.func45 (by kernel_rfl) rfl #[.slice Ao11 t158.length co11, .int .i64 a1, .int .i64 a2] rfl (by (try simp only [List.map_toArray, List.map_cons, List.map_nil]); first | done | rfl | (simp only [List.length_drop, List.length_take]; rfl)) ?_; (with_reducible refine (spec_CountPlans.calls k _ _ t158 a1 a2 t161 t162 _ ?side1 ?side2 A6.out).mono ?_); (case side1 => repeat (first | exact (Kd.R_reads' HO160.out).2.2 | (with_reducible refine Kd.C_alloc ?_ _) | (with_reducible refine Kd.C_drewN ?_ _) | (with_reducible refine Kd.C_drew ?_))); (case side2 => exact (Kd.R_reads' HO160.out).2.1); rintro e w12 ⟨rfl, hb⟩; refine ⟨_, rfl, ?_⟩; have n0_ := Aside0.mk (Kd.R_below (by (with_reducible repeat (first | apply Kd.R_alloc | apply Kd.R_drewN | apply Kd.R_drew)); exact HO160.out) hb); have n1_ := Aside0.mk (below_step (by repeat (first | (with_reducible first | exact HB.out | apply below_alloc | apply pw_below_drewN | apply below_drew1) | exact HB.out)) hb); clear HO160; clear HB; have HO160 := n0_; have HB := n1_; clear n0_ n1_; (try clear hb); (try clear hb2); (try clear hk); (try clear hi)) | ((with_reducible refine gate_callee (f := 18) rfl ?_); refine goesL_ (some 24) rfl rfl Try.func18 (by kernel_rfl) rfl #[.slice A0 l0.length c0] rfl (by (try simp only [List.map_toArray, List.map_cons, List.map_nil]); first | done | rfl | (simp only [List.length_drop, List.length_take]; rfl)) ?_; (with_reducible refine (laws_toIntS.calls k _ _ l0 t163 _ ?side1 ?side2 A7.out).mono ?_); (case side1 => repeat (first | exact (Kd.C_below HR0.out HB.out) | (with_reducible refine Kd.C_alloc ?_ _) | (with_reducible refine Kd.C_drewN ?_ _) | (with_reducible refine Kd.C_drew ?_))); (case side2 => exact HC0.out); rintro e w13 ⟨v164, rfl, ho0, hb⟩; refine ⟨_, rfl, ?_⟩; have n0_ := Aside0.mk (Kd.R_elder' (by (with_reducible repeat (first | apply Kd.R_alloc | apply Kd.R_drewN | apply Kd.R_drew)); exact HO160.out) (Kd.R_base ho0) hb); have n1_ := Aside0.mk (Kd.R_lower (Kd.R_new' ho0 (Kd.R_lt (by (with_reducible repeat (first | apply Kd.R_alloc | apply Kd.R_drewN | apply Kd.R_drew)); exact HO160.out))) (below_size (by repeat (first | (with_reducible first | exact HB.out | apply below_alloc | apply pw_below_drewN | apply below_drew1) | exact HB.out)))); have n2_ := Aside0.mk (below_step (by repeat (first | (with_reducible first | exact HB.out | apply below_alloc | apply pw_below_drewN | apply below_drew1) | exact HB.out)) hb); clear HO160; clear HB; have HO160 := n0_; have HO165 := n1_; have HB := n2_; clear n0_ n1_ n2_; (try clear hb); (try clear hb2); (try clear hk); (try clear hi); (try clear ho0); obtain ⟨Ao14, co14, eo14⟩ := Kd.R_slice HO165.out; subst eo14) | ((with_reducible refine gate_callee (f := 46) rfl ?_); refine goesL_ (some 29) rfl rfl Try.func46 (by kernel_rfl) rfl #[.slice Ao14 t163.length co14, .int .i64 a1, .int .i64 a2] rfl (by (try simp only [List.map_toArray, List.map_cons, List.map_nil]); first | done | rfl | (simp only [List.length_drop, List.length_take]; rfl)) ?_; (with_reducible refine (impl_CountPlans.calls k _ _ t163 a1 a2 t166 t167 _ ?side1 ?side2 A8.out).mono ?_); (case side1 => repeat (first | exact (Kd.R_reads' HO165.out).2.2 | (with_reducible refine Kd.C_alloc ?_ _) | (with_reducible refine Kd.C_drewN ?_ _) | (with_reducible refine Kd.C_drew ?_))); (case side2 => exact (Kd.R_reads' HO165.out).2.1); rintro e w15 ⟨rfl, hb⟩; refine ⟨_, rfl, ?_⟩; have n0_ := Aside0.mk (Kd.R_below (by (with_reducible repeat (first | apply Kd.R_alloc | apply Kd.R_drewN | apply Kd.R_drew)); exact HO160.out) hb); have n1_ := Aside0.mk (Kd.R_below (by (with_reducible repeat (first | apply Kd.R_alloc | apply Kd.R_drewN | apply Kd.R_drew)); exact HO165.out) hb); have n2_ := Aside0.mk (below_step (by repeat (first | (with_reducible first | exact HB.out | apply below_alloc | apply pw_below_drewN | apply below_drew1) | exact HB.out)) hb); clear HO160; clear HO165; clear HB; have HO160 := n0_; have HO165 := n1_; have HB := n2_; clear n0_ n1_ n2_; (try clear hb); (try clear hb2); (try clear hk); (try clear hi)))
    (try simp only [Act.put, List.setIfInBounds_toArray, List.set_cons_zero, List.set_cons_succ])
    go_cut [39] (fun v39 wc => ∃ (kq : Nat) (x39_8 : Bool), v39 = .bool x39_8 ∧ Aside0 (laws_FnExactCountPlans.j0 kq l0 t163 x39_8 = some r) ∧ Aside0 (kq ≤ k) ∧ Aside0 (Kd.R (Kd.int .i64) 3 wc w.heap.size (fun _ => True) (.slice Ao14 t163.length co14) t163) ∧ Aside0 (Below w.heap.size w wc))
    case first =>
      have H := HC9.out
      clear HC9
      by_cases c16 : t166 = t161
      · rw [if_pos c16] at H
        have c16b0 : (t166 == t161) = true := beq_iff_eq.mpr c16
        have c16b1 : (t166 != t161) = false := bne_eq_false_iff_eq.mpr c16
        clear c16
        (first | rw [c16b0] | (simp only [i64_w, i32_w]; rw [c16b0]) | skip)
        have H' := Aside0.mk H
        clear H
        go_wp2
        go_meet
        case rel => exact ⟨_, ((t167 != t162)), (by first | rfl | (simp; done) | (simp [*]; done)), H', ⟨by first | omega | exact Nat.le_refl _⟩, ⟨by (with_reducible repeat (first | apply Kd.R_alloc | apply Kd.R_drewN | apply Kd.R_drew)); exact Kd.R_mono HO165.out (fun _ hk => trivial)⟩, ⟨by repeat (first | (with_reducible first | exact HB.out | apply below_alloc | apply pw_below_drewN | apply below_drew1) | exact HB.out)⟩⟩
      · rw [if_neg c16] at H
        have c16b0 : (t166 == t161) = false := beq_eq_false_iff_ne.mpr c16
        have c16b1 : (t166 != t161) = true := bne_iff_ne.mpr c16
        (first | rw [c16b0] | (simp only [i64_w, i32_w]; rw [c16b0]) | skip)
        have H' := Aside0.mk H
        clear H
        go_wp2
        go_meet
        case rel => exact ⟨_, (true), (by first | rfl | (simp; done) | (simp [*]; done)), H', ⟨by first | omega | exact Nat.le_refl _⟩, ⟨by (with_reducible repeat (first | apply Kd.R_alloc | apply Kd.R_drewN | apply Kd.R_drew)); exact Kd.R_mono HO165.out (fun _ hk => trivial)⟩, ⟨by repeat (first | (with_reducible first | exact HB.out | apply below_alloc | apply pw_below_drewN | apply below_drew1) | exact HB.out)⟩⟩
    case rest =>
      clear HC9
      try clear c1
      try clear p2
      try clear c4
      try clear c4b0
      try clear c4b1
      try clear c13
      try clear c16
      try clear c16b0
      try clear c16b1
      obtain ⟨kq, x39_8, rfl, HA, HJ8, HO_9, HB⟩ := hcut
      cases kq with
      | zero => exact absurd HA.out (by simp [laws_FnExactCountPlans.j0])
      | succ kj8 =>
        have H := HA.out
        clear HA
        simp only [laws_FnExactCountPlans.j0] at H
        by_cases c17 : x39_8 = true
        · subst c17
          have H1 : (some false) = some r := by rw [if_pos rfl] at H; exact H
          clear H
          have H := H1
          clear H1
          obtain rfl := Option.some.inj H
          go_wp2
          go_ret
          exact ⟨by first | rfl | (simp [errW_none, errW_some] <;> rfl) | (simp [*, errW_none, errW_some] <;> rfl), by repeat (first | (with_reducible first | exact HB.out | apply below_alloc | apply pw_below_drewN | apply below_drew1) | exact HB.out)⟩
        · replace c17 := Bool.eq_false_iff.mpr c17
          subst c17
          have H1 : ((laws_toIntS.f kj8 l0).bind fun t168 => ((laws_eqIntS.f kj8 t163 t168).bind fun t171 => (if t171 = true then (some true) else (some false)))) = some r := by rw [if_neg (show ¬ (false = true) by decide)] at H; exact H
          clear H
          have H := H1
          clear H1
          replace H := Option.bind_eq_some_iff.mp H
          obtain ⟨t168, A180, H⟩ := H
          replace H : ((laws_eqIntS.f kj8 t163 t168).bind fun t171 => (if t171 = true then (some true) else (some false))) = some r := H
          have A18 := Aside0.mk A180
          clear A180
          replace H := Option.bind_eq_some_iff.mp H
          obtain ⟨t171, A190, H⟩ := H
          replace H : (if t171 = true then (some true) else (some false)) = some r := H
          have A19 := Aside0.mk A190
          clear A190
          by_cases c20 : t171 = true
          · subst c20
            have H1 : (some true) = some r := by rw [if_pos rfl] at H; exact H
            clear H
            have H := H1
            clear H1
            obtain rfl := Option.some.inj H
            go_wp2_with (first | ((with_reducible refine gate_callee (f := 18) rfl ?_); refine goesL_ (some 42) rfl rfl Try.func18 (by kernel_rfl) rfl #[.slice A0 l0.length c0] rfl (by (try simp only [List.map_toArray, List.map_cons, List.map_nil]); first | done | rfl | (simp only [List.length_drop, List.length_take]; rfl)) ?_; (with_reducible refine (laws_toIntS.calls kj8 _ _ l0 t168 _ ?side1 ?side2 A18.out).mono ?_); (case side1 => repeat (first | exact (Kd.C_below HR0.out HB.out) | (with_reducible refine Kd.C_alloc ?_ _) | (with_reducible refine Kd.C_drewN ?_ _) | (with_reducible refine Kd.C_drew ?_))); (case side2 => exact HC0.out); rintro e w21 ⟨v169, rfl, ho0, hb⟩; refine ⟨_, rfl, ?_⟩; have n0_ := Aside0.mk (Kd.R_elder' (by (with_reducible repeat (first | apply Kd.R_alloc | apply Kd.R_drewN | apply Kd.R_drew)); exact HO_9.out) (Kd.R_base ho0) hb); have n1_ := Aside0.mk (Kd.R_lower (Kd.R_new' ho0 (Kd.R_lt (by (with_reducible repeat (first | apply Kd.R_alloc | apply Kd.R_drewN | apply Kd.R_drew)); exact HO_9.out))) (below_size (by repeat (first | (with_reducible first | exact HB.out | apply below_alloc | apply pw_below_drewN | apply below_drew1) | exact HB.out)))); have n2_ := Aside0.mk (below_step (by repeat (first | (with_reducible first | exact HB.out | apply below_alloc | apply pw_below_drewN | apply below_drew1) | exact HB.out)) hb); clear HO_9; clear HB; have HO_9 := n0_; have HO170 := n1_; have HB := n2_; clear n0_ n1_ n2_; (try clear hb); (try clear hb2); (try clear hk); (try clear hi); (try clear ho0); obtain ⟨Ao22, co22, eo22⟩ := Kd.R_slice HO170.out; subst eo22) | ((with_reducible refine gate_callee (f := 21) rfl ?_); refine goesL_ (some 43) rfl rfl Try.func21 (by kernel_rfl) rfl #[.slice Ao14 t163.length co14, .slice Ao22 t168.length co22] rfl (by (try simp only [List.map_toArray, List.map_cons, List.map_nil]); first | done | rfl | (simp only [List.length_drop, List.length_take]; rfl)) ?_; (with_reducible refine (laws_eqIntS.calls kj8 _ _ t163 _ _ t168 true _ ?side1 ?side2 ?side3 ?side4 A19.out).mono ?_); (case side1 => repeat (first | exact (Kd.R_reads' HO_9.out).2.2 | (with_reducible refine Kd.C_alloc ?_ _) | (with_reducible refine Kd.C_drewN ?_ _) | (with_reducible refine Kd.C_drew ?_))); (case side2 => exact (Kd.R_reads' HO_9.out).2.1); (case side3 => repeat (first | exact (Kd.R_reads' HO170.out).2.2 | (with_reducible refine Kd.C_alloc ?_ _) | (with_reducible refine Kd.C_drewN ?_ _) | (with_reducible refine Kd.C_drew ?_))); (case side4 => exact (Kd.R_reads' HO170.out).2.1); rintro e w' ⟨rfl, ⟨nd, rfl⟩⟩; refine ⟨_, rfl, ?_⟩))
            go_ret
            exact ⟨by first | rfl | (simp [errW_none, errW_some] <;> rfl) | (simp [*, errW_none, errW_some] <;> rfl), by repeat (first | (with_reducible first | exact HB.out | apply below_alloc | apply pw_below_drewN | apply below_drew1) | exact HB.out)⟩
          · replace c20 := Bool.eq_false_iff.mpr c20
            subst c20
            have H1 : (some false) = some r := by rw [if_neg (show ¬ (false = true) by decide)] at H; exact H
            clear H
            have H := H1
            clear H1
            obtain rfl := Option.some.inj H
            go_wp2_with (first | ((with_reducible refine gate_callee (f := 18) rfl ?_); refine goesL_ (some 42) rfl rfl Try.func18 (by kernel_rfl) rfl #[.slice A0 l0.length c0] rfl (by (try simp only [List.map_toArray, List.map_cons, List.map_nil]); first | done | rfl | (simp only [List.length_drop, List.length_take]; rfl)) ?_; (with_reducible refine (laws_toIntS.calls kj8 _ _ l0 t168 _ ?side1 ?side2 A18.out).mono ?_); (case side1 => repeat (first | exact (Kd.C_below HR0.out HB.out) | (with_reducible refine Kd.C_alloc ?_ _) | (with_reducible refine Kd.C_drewN ?_ _) | (with_reducible refine Kd.C_drew ?_))); (case side2 => exact HC0.out); rintro e w23 ⟨v169, rfl, ho0, hb⟩; refine ⟨_, rfl, ?_⟩; have n0_ := Aside0.mk (Kd.R_elder' (by (with_reducible repeat (first | apply Kd.R_alloc | apply Kd.R_drewN | apply Kd.R_drew)); exact HO_9.out) (Kd.R_base ho0) hb); have n1_ := Aside0.mk (Kd.R_lower (Kd.R_new' ho0 (Kd.R_lt (by (with_reducible repeat (first | apply Kd.R_alloc | apply Kd.R_drewN | apply Kd.R_drew)); exact HO_9.out))) (below_size (by repeat (first | (with_reducible first | exact HB.out | apply below_alloc | apply pw_below_drewN | apply below_drew1) | exact HB.out)))); have n2_ := Aside0.mk (below_step (by repeat (first | (with_reducible first | exact HB.out | apply below_alloc | apply pw_below_drewN | apply below_drew1) | exact HB.out)) hb); clear HO_9; clear HB; have HO_9 := n0_; have HO170 := n1_; have HB := n2_; clear n0_ n1_ n2_; (try clear hb); (try clear hb2); (try clear hk); (try clear hi); (try clear ho0); obtain ⟨Ao24, co24, eo24⟩ := Kd.R_slice HO170.out; subst eo24) | ((with_reducible refine gate_callee (f := 21) rfl ?_); refine goesL_ (some 43) rfl rfl Try.func21 (by kernel_rfl) rfl #[.slice Ao14 t163.length co14, .slice Ao24 t168.length co24] rfl (by (try simp only [List.map_toArray, List.map_cons, List.map_nil]); first | done | rfl | (simp only [List.length_drop, List.length_take]; rfl)) ?_; (with_reducible refine (laws_eqIntS.calls kj8 _ _ t163 _ _ t168 false _ ?side1 ?side2 ?side3 ?side4 A19.out).mono ?_); (case side1 => repeat (first | exact (Kd.R_reads' HO_9.out).2.2 | (with_reducible refine Kd.C_alloc ?_ _) | (with_reducible refine Kd.C_drewN ?_ _) | (with_reducible refine Kd.C_drew ?_))); (case side2 => exact (Kd.R_reads' HO_9.out).2.1); (case side3 => repeat (first | exact (Kd.R_reads' HO170.out).2.2 | (with_reducible refine Kd.C_alloc ?_ _) | (with_reducible refine Kd.C_drewN ?_ _) | (with_reducible refine Kd.C_drew ?_))); (case side4 => exact (Kd.R_reads' HO170.out).2.1); rintro e w' ⟨rfl, ⟨nd, rfl⟩⟩; refine ⟨_, rfl, ?_⟩))
            go_ret
            exact ⟨by first | rfl | (simp [errW_none, errW_some] <;> rfl) | (simp [*, errW_none, errW_some] <;> rfl), by repeat (first | (with_reducible first | exact HB.out | apply below_alloc | apply pw_below_drewN | apply below_drew1) | exact HB.out)⟩

/-- THE ONE PURE STATEMENT of laws_FnExactCountPlans: yours. -/
def laws_FnExactCountPlans.Pure : Prop := ∀ (l0 : List Int) (a1 : Int) (a2 : Int), l0.length ≤ maxLen → l0.length * 8 ≤ 140737488351232 → (∀ x ∈ l0, (Lit.int .i64 x).wf = true) → (Lit.int .i64 a1).wf = true → (Lit.int .i64 a2).wf = true → ∃ k, laws_FnExactCountPlans.f k l0 a1 a2 = some true
theorem laws_FnExactCountPlans.walk (P : laws_FnExactCountPlans.Pure) (a0 : Option Addr) (len0 cap0 : Nat) (z0 : List Int) (a1 : Int) (a2 : Int) (w : World) (w0 : (a0 = none ∧ len0 = 0 ∧ cap0 = 0 ∧ z0 = []) ∨ ∃ x, a0 = some x ∧ len0 ≤ cap0 ∧ cap0 ≤ maxLen ∧ z0.length = cap0 ∧ (∀ i, i < z0.length → w.cell? (x.add i) = some (.int .i64 (z0.getD i 0))) ∧ ∀ n ∈ z0, (Lit.int .i64 n).wf = true) (y0 : len0 * 8 ≤ 140737488351232) (w1 : (Lit.int .i64 a1).wf = true) (w2 : (Lit.int .i64 a2).wf = true) :
    Calls Try.prog 13 #[.slice a0 len0 cap0, .int .i64 a1, .int .i64 a2] w fun e w' => e = .returned (.bool true) ∧ Below w.heap.size w w' := by
  obtain ⟨l0, rfl, hr0, hm0, hw0, hc0⟩ := ReadsInt.ofRowC w0
  obtain ⟨k, h⟩ := P l0 a1 a2 hm0 y0 hw0 w1 w2
  refine (laws_FnExactCountPlans.calls k _ _ l0 a1 a2 true w (Kd.C_of_reads (d := (0 : Int)) (h1 := fun _ => rfl) hr0) hc0 h).mono ?_
  rintro e w' ⟨rfl, hd⟩
  exact ⟨rfl, hd⟩

end Go.Proofs.Ytfldgimmdeijjaa.PFnExactCountPlans
