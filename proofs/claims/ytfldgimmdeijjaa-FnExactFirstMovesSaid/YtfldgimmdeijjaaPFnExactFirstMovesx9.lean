-- Laid by this session by the help of the print: contracts proved by hand beside printed ones.
import Derived.Test.YtfldgimmdeijjaaPFnExactFirstMovesx0
import Derived.Test.YtfldgimmdeijjaaPFnExactFirstMovesx1
import Derived.Test.YtfldgimmdeijjaaPFnExactFirstMovesx5
import Derived.Test.YtfldgimmdeijjaaPFnExactFirstMovesx8
namespace Go.Proofs.Ytfldgimmdeijjaa.PFnExactFirstMoves
open Go.RowKit Go.Proofs.YtfldgimmdeijjaaW.PrintWords Go.Proofs.YtfldgimmdeijjaaW.PrintLast Go.Proofs.YtfldgimmdeijjaaW.PrintMore
attribute [local go_sem] max2_int min2_int max_two min_two max_three min_three max_four min_four   -- for this text's walks alone
set_option linter.unusedVariables false
set_option linter.unusedSimpArgs false

/-! ### impl_FirstMoves: function 48 -/
def impl_FirstMoves.f (k : Nat) (l0 : List Int) (a1 : Int) (a2 : Int) : Option ((List (List Int)) × Bool) := (impl_firstMoves.f k l0 a1 a2).bind fun bt217 => (some (bt217.1, bt217.2))
theorem impl_FirstMoves.mono : ∀ a0 a1 a2 k, LeO (impl_FirstMoves.f k a0 a1 a2) (impl_FirstMoves.f (k + 1) a0 a1 a2) := by
  intro a0 a1 a2 k
  unfold impl_FirstMoves.f
  repeat' first
      | (with_reducible exact impl_firstMoves.mono _ _ _ _)
      | (with_reducible exact LeO.refl _)
      | (with_reducible exact LeO.none _)
      | (with_reducible refine LeO.ite ?_ ?_)
      | (with_reducible refine LeO.bind ?_ (fun _ => ?_))
      | exact impl_firstMoves.mono _ _ _ _
      | exact LeO.none _
      | refine LeO.ite ?_ ?_
      | refine LeO.bind ?_ (fun _ => ?_)
set_option maxHeartbeats 8000000 in
set_option maxRecDepth 100000 in
theorem impl_FirstMoves.calls (k : Nat) (A0 : Option Addr) (c0 : Nat) (l0 : List Int) (a1 : Int) (a2 : Int) (r1 : List (List Int)) (r2 : Bool) (w : World) (hr0 : Kd.C (Kd.int .i64) w A0 l0.length l0) (hc0 : l0.length ≤ c0) (h : impl_FirstMoves.f k l0 a1 a2 = some (r1, r2)) :
    Calls Try.prog 48 #[.slice A0 l0.length c0, .int .i64 a1, .int .i64 a2] w fun e w' => ∃ v0_ : Value, e = .returned (.tuple #[v0_, .bool r2]) ∧ Kd.S (Kd.slice 3 (Kd.int .i64)) 22 w' w.heap.size (fun _ => True) v0_ r1 ∧ Below w.heap.size w w' := by
  have HR0 := Aside0.mk hr0
  have HC0 := Aside0.mk hc0
  clear hr0 hc0
  have HB := Aside0.mk (Below.refl w.heap.size w)
  have H : ((impl_firstMoves.f k l0 a1 a2).bind fun bt217 => (some (bt217.1, bt217.2))) = some (r1, r2) := h
  clear h
  replace H := Option.bind_eq_some_iff.mp H
  obtain ⟨⟨t217, t218⟩, A40, H⟩ := H
  replace H : (some (t217, t218)) = some (r1, r2) := H
  have A4 := Aside0.mk A40
  clear A40
  simp only [Option.some.injEq, Prod.mk.injEq] at H
  obtain ⟨rfl, rfl⟩ := H
  go_enter Try.func48, Try.ntmps48
  go_wp2_with (first | ((with_reducible refine gate_callee (f := 84) rfl ?_); refine goesL_ (some 11) rfl rfl Try.func84 (by kernel_rfl) rfl #[.slice A0 l0.length c0, .int .i64 a1, .int .i64 a2] rfl (by (try simp only [List.map_toArray, List.map_cons, List.map_nil]); first | done | rfl | (simp only [List.length_drop, List.length_take]; rfl)) ?_; (with_reducible refine (impl_firstMoves.calls k _ _ l0 a1 a2 t217 t218 _ ?side1 ?side2 A4.out).mono ?_); (case side1 => repeat (first | exact HR0.out | (with_reducible refine Kd.C_alloc ?_ _) | (with_reducible refine Kd.C_drewN ?_ _) | (with_reducible refine Kd.C_drew ?_))); (case side2 => exact HC0.out); rintro e w5 ⟨v219, rfl, ho0, hb⟩; refine ⟨_, rfl, ?_⟩; have n0_ := Aside0.mk (Kd.S_lower ho0 (below_size (by repeat (first | (with_reducible first | exact HB.out | apply below_alloc | apply pw_below_drewN | apply below_drew1) | exact HB.out)))); have n1_ := Aside0.mk (below_step (by repeat (first | (with_reducible first | exact HB.out | apply below_alloc | apply pw_below_drewN | apply below_drew1) | exact HB.out)) hb); clear HB; have HO220 := n0_; have HB := n1_; clear n0_ n1_; (try clear hb); (try clear hb2); (try clear hk); (try clear hi); (try clear ho0)))
  go_ret2
  exact ⟨_, by first | rfl | (simp [errW_none, errW_some] <;> rfl) | (simp [*, errW_none, errW_some] <;> rfl), by (with_reducible repeat (first | apply Kd.S_alloc | apply Kd.S_drewN | apply Kd.S_drew)); exact HO220.out, by repeat (first | (with_reducible first | exact HB.out | apply below_alloc | apply pw_below_drewN | apply below_drew1) | exact HB.out)⟩

/-! ### laws_FnExactFirstMoves: function 14 -/
/-- Every row of a list of rows is numbered on, one behind the other. -/
def hwMark (m : List Int → Int → Option (Int × List Int)) : List (List Int) → Int → Option (Int × List (List Int))
  | [], a => some (a, [])
  | x :: l, a => (m x a).bind fun t => (hwMark m l t.1).bind fun s => some (s.1, t.2 :: s.2)
set_option maxRecDepth 100000 in
set_option maxHeartbeats 4000000 in
theorem hw_markSS (k : Nat) (v : Value) (l0 l' : List (List Int)) (a1 r : Int) (ok : Nat → Prop) (w0 w : World) (hB : Below w0.heap.size w0 w) (hS : Kd.S (Kd.slice 3 (Kd.int .i64)) 22 w w0.heap.size ok v l0) (h : hwMark (laws_markIntS.f k) l0 a1 = some (r, l')) :
    Calls Try.prog 26 #[v, .int .i64 a1] w fun e w' => e = .returned (.int .i64 r) ∧ Kd.S (Kd.slice 3 (Kd.int .i64)) 22 w' w0.heap.size (fun k_ => ok k_ ∨ w.heap.size ≤ k_) v l' ∧ Below w0.heap.size w0 w' ∧ Kept w w' ok := by
  obtain ⟨A, c, rfl⟩ := Kd.S_slice hS
  have hmax := Kd.C_max (Kd.S_reads' hS).2.2
  have HS0 := Aside0.mk (show Kd.S (Kd.slice 3 (Kd.int .i64)) 22 w w0.heap.size (fun k_ => ok k_ ∨ w.heap.size ≤ k_) (.slice A l0.length c) ([] ++ l0.drop 0) by rw [List.drop_zero, List.nil_append]; exact Kd.S_mono hS (fun _ hk => .inl hk))
  have HF0 := Aside0.mk (show ([] : List (List Int)).length = 0 ∧ hwMark (laws_markIntS.f k) (l0.drop 0) a1 = some (r, l') ∧ l' = [] ++ l' by rw [List.drop_zero]; exact ⟨rfl, h, rfl⟩)
  have HB0 := Aside0.mk hB
  have HK0 := Aside0.mk (Kept.refl w ok)
  clear hS h hB
  go_enter Try.func26, Try.ntmps26
  go_wp2
  go_loopg [1, 5] l0.length (fun gg s1 s5 wr => ∃ (kk : Nat) (a : Int) (done rest : List (List Int)), kk ≤ l0.length ∧ l0.length - kk ≤ gg ∧ s1 = .int .i64 a ∧ s5 = .int .i64 kk ∧
    Aside0 (done.length = kk ∧ hwMark (laws_markIntS.f k) (l0.drop kk) a = some (r, rest) ∧ l' = done ++ rest) ∧
    Aside0 (Kd.S (Kd.slice 3 (Kd.int .i64)) 22 wr w0.heap.size (fun k_ => ok k_ ∨ w.heap.size ≤ k_) (.slice A l0.length c) (done ++ l0.drop kk)) ∧ Aside0 (Below w0.heap.size w0 wr) ∧ Aside0 (Kept w wr ok))
  case atStart => exact ⟨0, a1, [], l', Nat.zero_le _, by omega, rfl, rfl, HF0, HS0, HB0, HK0⟩
  case round =>
    clear HS0 HF0 HB0 HK0
    obtain ⟨kk, a, done, rest, hkk, hg, rfl, rfl, HF, HS, HB, HK⟩ := hrel
    by_cases hlt : kk < l0.length
    · have hltz : (kk : Int) < (l0.length : Int) := by omega
      obtain ⟨f1, f2, f3⟩ := HF.out
      have hxs : (done ++ l0.drop kk).length = l0.length := by rw [List.length_append, List.length_drop]; omega
      obtain ⟨g, cap, e0, hgb, hgl, cells, hgc⟩ := Kd.S_form HS.out (by omega)
      injection e0 with eA eL eC
      clear eL
      subst eA
      subst eC
      obtain ⟨oki, cs, hcl, hM, hcell, hoki, hH⟩ := Kd.S_lend HS.out [] (kk : Int) (by omega) (by omega)
      obtain ⟨v', rfl, hR⟩ := hM
      have hx : (done ++ l0.drop kk).getD ((kk : Int)).toNat [] = l0.getD kk [] := by
        rw [Int.toNat_natCast, List.getD_eq_getElem?_getD, List.getElem?_append_right (by omega), f1, Nat.sub_self, List.getElem?_drop, Nat.add_zero, List.getD_eq_getElem?_getD]
      rw [hx] at hR
      have hc0 := hcell 0 _ rfl
      have e1 : (Kd.slice 3 (Kd.int .i64)).sz = 1 := rfl
      rw [e1, Nat.mul_one, Nat.add_zero, Int.toNat_natCast] at hc0
      rw [List.drop_eq_getElem_cons hlt] at f2
      simp only [hwMark] at f2
      obtain ⟨⟨a', x'⟩, g1, f2⟩ := Option.bind_eq_some_iff.mp f2
      obtain ⟨⟨r2, rest'⟩, g2, f2⟩ := Option.bind_eq_some_iff.mp f2
      obtain ⟨e2, e3⟩ := Prod.mk.inj (Option.some.inj f2)
      dsimp only at e2 e3 g2
      have hg1 : laws_markIntS.f k (l0.getD kk []) a = some (a', x') := by rw [List.getD_eq_getElem?_getD, List.getElem?_eq_getElem hlt]; exact g1
      clear hx
      generalize l0.getD kk [] = x at hR hg1
      have HC := Aside0.mk (laws_markIntS.calls k oki v' x a a' x' w0 wr HB.out hR hg1)
      have HH := Aside0.mk hH
      have HO := Aside0.mk hoki
      have HF2 := Aside0.mk (show (done ++ [x']).length = kk + 1 ∧ hwMark (laws_markIntS.f k) (l0.drop (kk + 1)) a' = some (r, rest') ∧ l' = (done ++ [x']) ++ rest' by rw [List.length_append, f1]; exact ⟨rfl, by rw [← e2]; exact g2, by rw [f3, ← e3, List.append_assoc]; rfl⟩)
      have HX := Aside0.mk (show (done ++ l0.drop kk).set ((kk : Int)).toNat x' = (done ++ [x']) ++ l0.drop (kk + 1) by
        rw [Int.toNat_natCast, List.set_append_right _ _ (by omega), f1, Nat.sub_self, List.drop_eq_getElem_cons hlt, List.set_cons_zero, List.append_assoc]; rfl)
      obtain ⟨A', c', e4⟩ := Kd.R_slice hR
      subst e4
      clear f1 f2 f3 e2 e3 g1 g2 hg1 hH hoki hR hcell hcl e1 hgc hgb hgl hxs HF
      go_wp2_with (go_at_call 25; refine HC.out.mono ?_; rintro e w2 ⟨rfl, hR2, hB2, hK2⟩; have HR2 := Aside0.mk hR2; have HB2 := Aside0.mk hB2; have HK2 := Aside0.mk hK2; clear hR2 hB2 hK2)
      have HS2 := Aside0.mk (show Kd.S (Kd.slice 3 (Kd.int .i64)) 22 w2 w0.heap.size (fun k_ => ok k_ ∨ w.heap.size ≤ k_) (.slice (some ⟨g, 0, none⟩) l0.length c) ((done ++ [x']) ++ l0.drop (kk + 1)) by
        rw [← HX.out]
        refine Kd.H_back (Kd.H_kept (Kd.H_widen HH.out) HK2.out (fun k_ _ hn hs => hn (.inl hs))) (Kd.M_row HR2.out) (fun k_ hk => hk.imp id (fun hk => ⟨.inr (Nat.le_trans HK.out.1 hk), hk⟩)))
      have HK3 := Aside0.mk (Kept.then_ HK.out HK2.out (fun k_ hk => ((HO.out k_ hk).1)))
      go_roundg (l0.length - (kk + 1))
      case measure => omega
      case rel => exact ⟨kk + 1, a', done ++ [x'], rest', by omega, by omega, rfl, by go_num, HF2, HS2, HB2, HK3⟩
    · have hltz : kk = l0.length := by omega
      subst hltz
      obtain ⟨f1, f2, f3⟩ := HF.out
      have HS2 := HS.out
      rw [List.drop_length, List.append_nil] at HS2
      rw [List.drop_length] at f2
      obtain ⟨e2, e3⟩ := Prod.mk.inj (Option.some.inj f2)
      subst e2
      have e4 : l' = done := by rw [f3, ← e3, List.append_nil]
      subst e4
      have HS3 := Aside0.mk HS2
      clear hlt hkk hg HF HS HS2 f1 f2 f3 e3
      go_wp2
      go_ret
      exact ⟨rfl, HS3.out, HB.out, HK.out⟩
/-- What the law comes to. -/
def laws_FnExactFirstMoves.Told (l0 : List Int) (a1 : Int) (a2 : Int) : Prop := ∃ (k : Nat) (g : List (List Int)) (b : Bool) (kx ky m : Int) (x' : List Int) (g' : List (List Int)), (laws_toIntS.f k l0 = some l0) ∧ (spec_FirstMoves.f k l0 a1 a2 = some (g, b)) ∧ (impl_FirstMoves.f k l0 a1 a2 = some (g, b)) ∧ (laws_eqIntSS.f k g g = some true) ∧ (laws_eqIntS.f k l0 l0 = some true) ∧ (laws_markIntS.f k l0 1 = some (kx, x')) ∧ (kx = ky) ∧ (¬ ky < 0) ∧ (hwMark (laws_markIntS.f k) g 1 = some (m, g')) ∧ (laws_heldIntSS.f k g' 1 = some m) ∧ (¬ m < 0)
/-- THE ONE PURE STATEMENT. -/
def laws_FnExactFirstMoves.Pure : Prop := ∀ (l0 : List Int) (a1 : Int) (a2 : Int), l0.length ≤ maxLen → l0.length * 8 ≤ 140737488351232 → (∀ x ∈ l0, (Lit.int .i64 x).wf = true) → (Lit.int .i64 a1).wf = true → (Lit.int .i64 a2).wf = true → ((l0.length : Int) > 1048576 ∨ laws_FnExactFirstMoves.Told l0 a1 a2)
set_option maxRecDepth 100000 in
set_option maxHeartbeats 4000000 in
theorem laws_FnExactFirstMoves.walk_long (A0 : Option Addr) (c0 : Nat) (l0 : List Int) (a1 : Int) (a2 : Int) (w : World) (c : (l0.length : Int) > 1048576) :
    Calls Try.prog 14 #[.slice A0 l0.length c0, .int .i64 a1, .int .i64 a2] w fun e w' => e = .returned (.bool true) ∧ Below w.heap.size w w' := by
  have c1b : decide ((l0.length : Int) > 1048576) = true := decide_eq_true c
  have c1c : decide (1048576 < (l0.length : Int)) = true := decide_eq_true c
  clear c
  go_enter Try.func14, Try.ntmps14
  go_wp2
  go_ret
  exact ⟨rfl, Below.refl _ _⟩
set_option maxRecDepth 100000 in
set_option maxHeartbeats 8000000 in
theorem laws_FnExactFirstMoves.walk_told (A0 : Option Addr) (c0 : Nat) (l0 : List Int) (a1 : Int) (a2 : Int) (w : World) (hr0 : Kd.C (Kd.int .i64) w A0 l0.length l0) (hc0 : l0.length ≤ c0) (c : ¬ (l0.length : Int) > 1048576) (h : laws_FnExactFirstMoves.Told l0 a1 a2) :
    Calls Try.prog 14 #[.slice A0 l0.length c0, .int .i64 a1, .int .i64 a2] w fun e w' => e = .returned (.bool true) ∧ Below w.heap.size w w' := by
  obtain ⟨k, g, b, kx, ky, m, x', g', f1, f3, f4, f5, f6, f8, rfl, f10, f11, f12, f13⟩ := h
  have c1b : decide ((l0.length : Int) > 1048576) = false := decide_eq_false c
  have c1c : decide (1048576 < (l0.length : Int)) = false := decide_eq_false c
  clear c
  have c3b : decide (kx < 0) = false := decide_eq_false f10
  have c4b : decide (m < 0) = false := decide_eq_false f13
  have bb : (b != b) = false := bne_self_eq_false b
  have mm : (m != m) = false := bne_self_eq_false m
  clear f10 f13
  have F1 := Aside0.mk f1
  clear f1
  have F3 := Aside0.mk f3
  clear f3
  have F4 := Aside0.mk f4
  clear f4
  have F5 := Aside0.mk f5
  clear f5
  have F6 := Aside0.mk f6
  clear f6
  have F8 := Aside0.mk f8
  clear f8
  have F11 := Aside0.mk f11
  clear f11
  have F12 := Aside0.mk f12
  clear f12
  have HR0 := Aside0.mk hr0
  clear hr0
  have B0 := Aside0.mk (Below.refl w.heap.size w)
  go_enter Try.func14, Try.ntmps14
  go_wp2_with (fail)
  refine (laws_toIntS.calls k A0 c0 l0 l0 _ (Kd.C_below HR0.out B0.out) hc0 F1.out).mono ?_
  rintro e w1 ⟨va, rfl, ho, hb⟩
  obtain ⟨Aa, Ca, ea⟩ := Kd.R_slice ho
  subst ea
  have Ha := Aside0.mk (show Kd.R (Kd.int .i64) 3 w1 w.heap.size (fun k_ => w.heap.size ≤ k_ ∧ k_ < w1.heap.size) (.slice Aa l0.length Ca) l0 from Kd.R_mono (Kd.R_bound ho) (fun k_ hk => ⟨hk.2.1, hk.2.2.1⟩))
  clear ho
  have Z1 := Aside0.mk (show w.heap.size ≤ w1.heap.size from hb.size)
  have B1 := Aside0.mk (below_step B0.out hb)
  clear hb
  go_wp2_with (fail)
  refine (spec_FirstMoves.calls k _ _ l0 a1 a2 g b _ (Kd.R_reads' Ha.out).2.2 (Kd.R_reads' Ha.out).2.1 F3.out).mono ?_
  rintro e w2 ⟨vr, rfl, ho, hb⟩
  have Na := Aside0.mk (show Kd.R (Kd.int .i64) 3 w2 w.heap.size (fun k_ => w.heap.size ≤ k_ ∧ k_ < w1.heap.size) (.slice Aa l0.length Ca) l0 from Kd.R_below Ha.out hb)
  clear Ha
  have Ha := Na
  clear Na
  obtain ⟨Ar, Cr, er⟩ := Kd.N_slice ho
  subst er
  have Hr := Aside0.mk (show Kd.N (Kd.slice 3 (Kd.int .i64)) 22 w2 w1.heap.size (fun k_ => w1.heap.size ≤ k_ ∧ k_ < w2.heap.size) (.slice Ar g.length Cr) g from Kd.N_bound ho)
  clear ho
  have Z2 := Aside0.mk (show w1.heap.size ≤ w2.heap.size from hb.size)
  have B2 := Aside0.mk (below_step B1.out hb)
  clear hb
  clear Ha
  go_wp2_with (fail)
  refine (laws_toIntS.calls k A0 c0 l0 l0 _ (Kd.C_below HR0.out B2.out) hc0 F1.out).mono ?_
  rintro e w3 ⟨vx, rfl, ho, hb⟩
  have Nr := Aside0.mk (show Kd.N (Kd.slice 3 (Kd.int .i64)) 22 w3 w1.heap.size (fun k_ => w1.heap.size ≤ k_ ∧ k_ < w2.heap.size) (.slice Ar g.length Cr) g from Kd.N_below Hr.out hb)
  clear Hr
  have Hr := Nr
  clear Nr
  obtain ⟨Ax, Cx, ex⟩ := Kd.R_slice ho
  subst ex
  have Hx := Aside0.mk (show Kd.R (Kd.int .i64) 3 w3 w2.heap.size (fun k_ => w2.heap.size ≤ k_ ∧ k_ < w3.heap.size) (.slice Ax l0.length Cx) l0 from Kd.R_mono (Kd.R_bound ho) (fun k_ hk => ⟨hk.2.1, hk.2.2.1⟩))
  clear ho
  have Z3 := Aside0.mk (show w2.heap.size ≤ w3.heap.size from hb.size)
  have B3 := Aside0.mk (below_step B2.out hb)
  clear hb
  go_wp2_with (fail)
  refine (impl_FirstMoves.calls k _ _ l0 a1 a2 g b _ (Kd.R_reads' Hx.out).2.2 (Kd.R_reads' Hx.out).2.1 F4.out).mono ?_
  rintro e w4 ⟨vg, rfl, ho, hb⟩
  have Nr := Aside0.mk (show Kd.N (Kd.slice 3 (Kd.int .i64)) 22 w4 w1.heap.size (fun k_ => w1.heap.size ≤ k_ ∧ k_ < w2.heap.size) (.slice Ar g.length Cr) g from Kd.N_below Hr.out hb)
  clear Hr
  have Hr := Nr
  clear Nr
  have Nx := Aside0.mk (show Kd.R (Kd.int .i64) 3 w4 w2.heap.size (fun k_ => w2.heap.size ≤ k_ ∧ k_ < w3.heap.size) (.slice Ax l0.length Cx) l0 from Kd.R_below Hx.out hb)
  clear Hx
  have Hx := Nx
  clear Nx
  obtain ⟨Ag, Cg, eg⟩ := Kd.S_slice ho
  subst eg
  have Hg := Aside0.mk (show Kd.S (Kd.slice 3 (Kd.int .i64)) 22 w4 w3.heap.size (fun k_ => w3.heap.size ≤ k_ ∧ k_ < w4.heap.size) (.slice Ag g.length Cg) g from Kd.S_mono (Kd.S_bound ho) (fun k_ hk => ⟨hk.2.1, hk.2.2.1⟩))
  clear ho
  have Z4 := Aside0.mk (show w3.heap.size ≤ w4.heap.size from hb.size)
  have B4 := Aside0.mk (below_step B3.out hb)
  clear hb
  go_wp2_with (fail)
  refine (laws_eqIntSS.calls k _ _ g _ _ g true _ (Kd.S_reads' Hg.out).2.2 (Kd.S_reads' Hg.out).2.1 (Kd.N_reads' Hr.out).2.2 (Kd.N_reads' Hr.out).2.1 F5.out).mono ?_
  rintro e w5 ⟨rfl, hd⟩
  have hb := hd.below
  clear hd
  have Nr := Aside0.mk (show Kd.N (Kd.slice 3 (Kd.int .i64)) 22 w5 w1.heap.size (fun k_ => w1.heap.size ≤ k_ ∧ k_ < w2.heap.size) (.slice Ar g.length Cr) g from Kd.N_below Hr.out hb)
  clear Hr
  have Hr := Nr
  clear Nr
  have Nx := Aside0.mk (show Kd.R (Kd.int .i64) 3 w5 w2.heap.size (fun k_ => w2.heap.size ≤ k_ ∧ k_ < w3.heap.size) (.slice Ax l0.length Cx) l0 from Kd.R_below Hx.out hb)
  clear Hx
  have Hx := Nx
  clear Nx
  have Ng := Aside0.mk (show Kd.S (Kd.slice 3 (Kd.int .i64)) 22 w5 w3.heap.size (fun k_ => w3.heap.size ≤ k_ ∧ k_ < w4.heap.size) (.slice Ag g.length Cg) g from Kd.S_below Hg.out hb)
  clear Hg
  have Hg := Ng
  clear Ng
  have Z5 := Aside0.mk (show w4.heap.size ≤ w5.heap.size from hb.size)
  have B5 := Aside0.mk (below_step B4.out hb)
  clear hb
  go_wp2_with (fail)
  refine (laws_toIntS.calls k A0 c0 l0 l0 _ (Kd.C_below HR0.out B5.out) hc0 F1.out).mono ?_
  rintro e w6 ⟨vt, rfl, ho, hb⟩
  have Nr := Aside0.mk (show Kd.N (Kd.slice 3 (Kd.int .i64)) 22 w6 w1.heap.size (fun k_ => w1.heap.size ≤ k_ ∧ k_ < w2.heap.size) (.slice Ar g.length Cr) g from Kd.N_below Hr.out hb)
  clear Hr
  have Hr := Nr
  clear Nr
  have Nx := Aside0.mk (show Kd.R (Kd.int .i64) 3 w6 w2.heap.size (fun k_ => w2.heap.size ≤ k_ ∧ k_ < w3.heap.size) (.slice Ax l0.length Cx) l0 from Kd.R_below Hx.out hb)
  clear Hx
  have Hx := Nx
  clear Nx
  have Ng := Aside0.mk (show Kd.S (Kd.slice 3 (Kd.int .i64)) 22 w6 w3.heap.size (fun k_ => w3.heap.size ≤ k_ ∧ k_ < w4.heap.size) (.slice Ag g.length Cg) g from Kd.S_below Hg.out hb)
  clear Hg
  have Hg := Ng
  clear Ng
  obtain ⟨At, Ct, et⟩ := Kd.R_slice ho
  subst et
  have Ht := Aside0.mk (show Kd.R (Kd.int .i64) 3 w6 w5.heap.size (fun k_ => w5.heap.size ≤ k_ ∧ k_ < w6.heap.size) (.slice At l0.length Ct) l0 from Kd.R_mono (Kd.R_bound ho) (fun k_ hk => ⟨hk.2.1, hk.2.2.1⟩))
  clear ho
  have Z6 := Aside0.mk (show w5.heap.size ≤ w6.heap.size from hb.size)
  have B6 := Aside0.mk (below_step B5.out hb)
  clear hb
  go_wp2_with (fail)
  refine (laws_eqIntS.calls k _ _ l0 _ _ l0 true _ (Kd.R_reads' Hx.out).2.2 (Kd.R_reads' Hx.out).2.1 (Kd.R_reads' Ht.out).2.2 (Kd.R_reads' Ht.out).2.1 F6.out).mono ?_
  rintro e w7 ⟨rfl, hd⟩
  have hb := hd.below
  clear hd
  have Nr := Aside0.mk (show Kd.N (Kd.slice 3 (Kd.int .i64)) 22 w7 w1.heap.size (fun k_ => w1.heap.size ≤ k_ ∧ k_ < w2.heap.size) (.slice Ar g.length Cr) g from Kd.N_below Hr.out hb)
  clear Hr
  have Hr := Nr
  clear Nr
  have Nx := Aside0.mk (show Kd.R (Kd.int .i64) 3 w7 w2.heap.size (fun k_ => w2.heap.size ≤ k_ ∧ k_ < w3.heap.size) (.slice Ax l0.length Cx) l0 from Kd.R_below Hx.out hb)
  clear Hx
  have Hx := Nx
  clear Nx
  have Ng := Aside0.mk (show Kd.S (Kd.slice 3 (Kd.int .i64)) 22 w7 w3.heap.size (fun k_ => w3.heap.size ≤ k_ ∧ k_ < w4.heap.size) (.slice Ag g.length Cg) g from Kd.S_below Hg.out hb)
  clear Hg
  have Hg := Ng
  clear Ng
  have Nt := Aside0.mk (show Kd.R (Kd.int .i64) 3 w7 w5.heap.size (fun k_ => w5.heap.size ≤ k_ ∧ k_ < w6.heap.size) (.slice At l0.length Ct) l0 from Kd.R_below Ht.out hb)
  clear Ht
  have Ht := Nt
  clear Nt
  have Z7 := Aside0.mk (show w6.heap.size ≤ w7.heap.size from hb.size)
  have B7 := Aside0.mk (below_step B6.out hb)
  clear hb
  clear Ht
  go_wp2_with (fail)
  refine (laws_markIntS.calls k (fun k_ => w2.heap.size ≤ k_ ∧ k_ < w3.heap.size) _ l0 1 kx x' w _ B7.out (Kd.R_lower Hx.out (below_size B2.out)) F8.out).mono ?_
  rintro e w8 ⟨rfl, ho, hb, hk0⟩
  have Nr := Aside0.mk (show Kd.N (Kd.slice 3 (Kd.int .i64)) 22 w8 w1.heap.size (fun k_ => w1.heap.size ≤ k_ ∧ k_ < w2.heap.size) (.slice Ar g.length Cr) g from Kd.N_kept Hr.out hk0 (fun k_ hk hs => by have := Z1.out; have := Z2.out; have := Z3.out; have := Z4.out; have := Z5.out; have := Z6.out; have := Z7.out; omega))
  clear Hr
  have Hr := Nr
  clear Nr
  have Ng := Aside0.mk (show Kd.S (Kd.slice 3 (Kd.int .i64)) 22 w8 w3.heap.size (fun k_ => w3.heap.size ≤ k_ ∧ k_ < w4.heap.size) (.slice Ag g.length Cg) g from Kd.S_kept Hg.out hk0 (fun k_ hk hs => by have := Z1.out; have := Z2.out; have := Z3.out; have := Z4.out; have := Z5.out; have := Z6.out; have := Z7.out; omega))
  clear Hg
  have Hg := Ng
  clear Ng
  clear Hx
  clear ho
  have Z8 := Aside0.mk (show w7.heap.size ≤ w8.heap.size from hk0.1)
  have B8 := Aside0.mk hb
  clear hb hk0
  go_wp2_with (fail)
  refine (laws_eqIntSS.calls k _ _ g _ _ g true _ (Kd.S_reads' Hg.out).2.2 (Kd.S_reads' Hg.out).2.1 (Kd.N_reads' Hr.out).2.2 (Kd.N_reads' Hr.out).2.1 F5.out).mono ?_
  rintro e w9 ⟨rfl, hd⟩
  have hb := hd.below
  clear hd
  have Nr := Aside0.mk (show Kd.N (Kd.slice 3 (Kd.int .i64)) 22 w9 w1.heap.size (fun k_ => w1.heap.size ≤ k_ ∧ k_ < w2.heap.size) (.slice Ar g.length Cr) g from Kd.N_below Hr.out hb)
  clear Hr
  have Hr := Nr
  clear Nr
  have Ng := Aside0.mk (show Kd.S (Kd.slice 3 (Kd.int .i64)) 22 w9 w3.heap.size (fun k_ => w3.heap.size ≤ k_ ∧ k_ < w4.heap.size) (.slice Ag g.length Cg) g from Kd.S_below Hg.out hb)
  clear Hg
  have Hg := Ng
  clear Ng
  have Z9 := Aside0.mk (show w8.heap.size ≤ w9.heap.size from hb.size)
  have B9 := Aside0.mk (below_step B8.out hb)
  clear hb
  go_wp2_with (fail)
  refine (hw_markSS k _ g g' 1 m (fun k_ => w3.heap.size ≤ k_ ∧ k_ < w4.heap.size) w _ B9.out (Kd.S_lower Hg.out (below_size B3.out)) F11.out).mono ?_
  rintro e w10 ⟨rfl, ho, hb, hk0⟩
  have Nr := Aside0.mk (show Kd.N (Kd.slice 3 (Kd.int .i64)) 22 w10 w1.heap.size (fun k_ => w1.heap.size ≤ k_ ∧ k_ < w2.heap.size) (.slice Ar g.length Cr) g from Kd.N_kept Hr.out hk0 (fun k_ hk hs => by have := Z1.out; have := Z2.out; have := Z3.out; have := Z4.out; have := Z5.out; have := Z6.out; have := Z7.out; have := Z8.out; have := Z9.out; omega))
  clear Hr
  have Hr := Nr
  clear Nr
  clear Hg
  have Hg := Aside0.mk (show Kd.S (Kd.slice 3 (Kd.int .i64)) 22 w10 w.heap.size (fun _ => True) (.slice Ag g.length Cg) g' from Kd.S_mono ho (fun _ _ => trivial))
  clear ho
  have Z10 := Aside0.mk (show w9.heap.size ≤ w10.heap.size from hk0.1)
  have B10 := Aside0.mk hb
  clear hb hk0
  have hlg : g.length = g'.length := (Kd.S_reads' Hg.out).1
  have HG := Aside0.mk hlg
  clear hlg
  have CG := Aside0.mk (show Calls Try.prog 34 #[.slice Ag g.length Cg, .int .i64 1] w10 (fun e w' => e = .returned (.int .i64 m) ∧ Drawn0 w10 w') by rw [HG.out]; exact laws_heldIntSS.calls k _ _ g' 1 m _ (Kd.S_reads' Hg.out).2.2 (by have := (Kd.S_reads' Hg.out).2.1; rw [← HG.out]; exact this) F12.out)
  go_wp2_with (fail)
  refine (CG.out).mono ?_
  rintro e w11 ⟨rfl, hd⟩
  have hb := hd.below
  clear hd
  have Nr := Aside0.mk (show Kd.N (Kd.slice 3 (Kd.int .i64)) 22 w11 w1.heap.size (fun k_ => w1.heap.size ≤ k_ ∧ k_ < w2.heap.size) (.slice Ar g.length Cr) g from Kd.N_below Hr.out hb)
  clear Hr
  have Hr := Nr
  clear Nr
  have Ng := Aside0.mk (show Kd.S (Kd.slice 3 (Kd.int .i64)) 22 w11 w.heap.size (fun _ => True) (.slice Ag g.length Cg) g' from Kd.S_below Hg.out hb)
  clear Hg
  have Hg := Ng
  clear Ng
  have Z11 := Aside0.mk (show w10.heap.size ≤ w11.heap.size from hb.size)
  have B11 := Aside0.mk (below_step B10.out hb)
  clear hb
  clear CG
  go_wp2_with (fail)
  refine (laws_toIntS.calls k A0 c0 l0 l0 _ (Kd.C_below HR0.out B11.out) hc0 F1.out).mono ?_
  rintro e w12 ⟨vx, rfl, ho, hb⟩
  have Nr := Aside0.mk (show Kd.N (Kd.slice 3 (Kd.int .i64)) 22 w12 w1.heap.size (fun k_ => w1.heap.size ≤ k_ ∧ k_ < w2.heap.size) (.slice Ar g.length Cr) g from Kd.N_below Hr.out hb)
  clear Hr
  have Hr := Nr
  clear Nr
  have Ng := Aside0.mk (show Kd.S (Kd.slice 3 (Kd.int .i64)) 22 w12 w.heap.size (fun _ => True) (.slice Ag g.length Cg) g' from Kd.S_below Hg.out hb)
  clear Hg
  have Hg := Ng
  clear Ng
  obtain ⟨Ax, Cx, ex⟩ := Kd.R_slice ho
  subst ex
  have Hx := Aside0.mk (show Kd.R (Kd.int .i64) 3 w12 w11.heap.size (fun k_ => w11.heap.size ≤ k_ ∧ k_ < w12.heap.size) (.slice Ax l0.length Cx) l0 from Kd.R_mono (Kd.R_bound ho) (fun k_ hk => ⟨hk.2.1, hk.2.2.1⟩))
  clear ho
  have Z12 := Aside0.mk (show w11.heap.size ≤ w12.heap.size from hb.size)
  have B12 := Aside0.mk (below_step B11.out hb)
  clear hb
  go_wp2_with (fail)
  refine (impl_FirstMoves.calls k _ _ l0 a1 a2 g b _ (Kd.R_reads' Hx.out).2.2 (Kd.R_reads' Hx.out).2.1 F4.out).mono ?_
  rintro e w13 ⟨vh, rfl, ho, hb⟩
  have Nr := Aside0.mk (show Kd.N (Kd.slice 3 (Kd.int .i64)) 22 w13 w1.heap.size (fun k_ => w1.heap.size ≤ k_ ∧ k_ < w2.heap.size) (.slice Ar g.length Cr) g from Kd.N_below Hr.out hb)
  clear Hr
  have Hr := Nr
  clear Nr
  have Ng := Aside0.mk (show Kd.S (Kd.slice 3 (Kd.int .i64)) 22 w13 w.heap.size (fun _ => True) (.slice Ag g.length Cg) g' from Kd.S_below Hg.out hb)
  clear Hg
  have Hg := Ng
  clear Ng
  have Nx := Aside0.mk (show Kd.R (Kd.int .i64) 3 w13 w11.heap.size (fun k_ => w11.heap.size ≤ k_ ∧ k_ < w12.heap.size) (.slice Ax l0.length Cx) l0 from Kd.R_below Hx.out hb)
  clear Hx
  have Hx := Nx
  clear Nx
  obtain ⟨Ah, Ch, eh⟩ := Kd.S_slice ho
  subst eh
  have Hh := Aside0.mk (show Kd.S (Kd.slice 3 (Kd.int .i64)) 22 w13 w12.heap.size (fun k_ => w12.heap.size ≤ k_ ∧ k_ < w13.heap.size) (.slice Ah g.length Ch) g from Kd.S_mono (Kd.S_bound ho) (fun k_ hk => ⟨hk.2.1, hk.2.2.1⟩))
  clear ho
  have Z13 := Aside0.mk (show w12.heap.size ≤ w13.heap.size from hb.size)
  have B13 := Aside0.mk (below_step B12.out hb)
  clear hb
  clear Hx
  go_wp2_with (fail)
  refine (laws_eqIntSS.calls k _ _ g _ _ g true _ (Kd.S_reads' Hh.out).2.2 (Kd.S_reads' Hh.out).2.1 (Kd.N_reads' Hr.out).2.2 (Kd.N_reads' Hr.out).2.1 F5.out).mono ?_
  rintro e w14 ⟨rfl, hd⟩
  have hb := hd.below
  clear hd
  have Nr := Aside0.mk (show Kd.N (Kd.slice 3 (Kd.int .i64)) 22 w14 w1.heap.size (fun k_ => w1.heap.size ≤ k_ ∧ k_ < w2.heap.size) (.slice Ar g.length Cr) g from Kd.N_below Hr.out hb)
  clear Hr
  have Hr := Nr
  clear Nr
  have Ng := Aside0.mk (show Kd.S (Kd.slice 3 (Kd.int .i64)) 22 w14 w.heap.size (fun _ => True) (.slice Ag g.length Cg) g' from Kd.S_below Hg.out hb)
  clear Hg
  have Hg := Ng
  clear Ng
  have Nh := Aside0.mk (show Kd.S (Kd.slice 3 (Kd.int .i64)) 22 w14 w12.heap.size (fun k_ => w12.heap.size ≤ k_ ∧ k_ < w13.heap.size) (.slice Ah g.length Ch) g from Kd.S_below Hh.out hb)
  clear Hh
  have Hh := Nh
  clear Nh
  have Z14 := Aside0.mk (show w13.heap.size ≤ w14.heap.size from hb.size)
  have B14 := Aside0.mk (below_step B13.out hb)
  clear hb
  have CG := Aside0.mk (show Calls Try.prog 34 #[.slice Ag g.length Cg, .int .i64 1] w14 (fun e w' => e = .returned (.int .i64 m) ∧ Drawn0 w14 w') by rw [HG.out]; exact laws_heldIntSS.calls k _ _ g' 1 m _ (Kd.S_reads' Hg.out).2.2 (by have := (Kd.S_reads' Hg.out).2.1; rw [← HG.out]; exact this) F12.out)
  go_wp2_with (fail)
  refine (CG.out).mono ?_
  rintro e w15 ⟨rfl, hd⟩
  have hb := hd.below
  clear hd
  have Nr := Aside0.mk (show Kd.N (Kd.slice 3 (Kd.int .i64)) 22 w15 w1.heap.size (fun k_ => w1.heap.size ≤ k_ ∧ k_ < w2.heap.size) (.slice Ar g.length Cr) g from Kd.N_below Hr.out hb)
  clear Hr
  have Hr := Nr
  clear Nr
  have Ng := Aside0.mk (show Kd.S (Kd.slice 3 (Kd.int .i64)) 22 w15 w.heap.size (fun _ => True) (.slice Ag g.length Cg) g' from Kd.S_below Hg.out hb)
  clear Hg
  have Hg := Ng
  clear Ng
  have Nh := Aside0.mk (show Kd.S (Kd.slice 3 (Kd.int .i64)) 22 w15 w12.heap.size (fun k_ => w12.heap.size ≤ k_ ∧ k_ < w13.heap.size) (.slice Ah g.length Ch) g from Kd.S_below Hh.out hb)
  clear Hh
  have Hh := Nh
  clear Nh
  have Z15 := Aside0.mk (show w14.heap.size ≤ w15.heap.size from hb.size)
  have B15 := Aside0.mk (below_step B14.out hb)
  clear hb
  clear CG
  go_wp2
  go_ret
  exact ⟨rfl, B15.out⟩
theorem laws_FnExactFirstMoves.walk (P : laws_FnExactFirstMoves.Pure) (a0 : Option Addr) (len0 cap0 : Nat) (z0 : List Int) (a1 : Int) (a2 : Int) (w : World) (w0 : (a0 = none ∧ len0 = 0 ∧ cap0 = 0 ∧ z0 = []) ∨ ∃ x, a0 = some x ∧ len0 ≤ cap0 ∧ cap0 ≤ maxLen ∧ z0.length = cap0 ∧ (∀ i, i < z0.length → w.cell? (x.add i) = some (.int .i64 (z0.getD i 0))) ∧ ∀ n ∈ z0, (Lit.int .i64 n).wf = true) (y0 : len0 * 8 ≤ 140737488351232) (w1 : (Lit.int .i64 a1).wf = true) (w2 : (Lit.int .i64 a2).wf = true) :
    Calls Try.prog 14 #[.slice a0 len0 cap0, .int .i64 a1, .int .i64 a2] w fun e w' => e = .returned (.bool true) ∧ Below w.heap.size w w' := by
  obtain ⟨l0, rfl, hr0, hm0, hw0, hc0⟩ := ReadsInt.ofRowC w0
  have hr0' := Kd.C_of_reads (d := (0 : Int)) (h1 := fun _ => rfl) hr0
  have h := P l0 a1 a2 hm0 y0 hw0 w1 w2
  by_cases c : (l0.length : Int) > 1048576
  · exact laws_FnExactFirstMoves.walk_long _ _ l0 a1 a2 w c
  · rcases h with h | h
    · exact absurd h c
    · exact laws_FnExactFirstMoves.walk_told _ _ l0 a1 a2 w hr0' hc0 c h

end Go.Proofs.Ytfldgimmdeijjaa.PFnExactFirstMoves
