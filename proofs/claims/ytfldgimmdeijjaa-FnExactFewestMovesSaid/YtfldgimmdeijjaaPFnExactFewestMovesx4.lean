-- Laid by this session by the help of the print: contracts proved by hand beside printed ones.
import Derived.Test.YtfldgimmdeijjaaPFnExactFewestMovesx0
import Derived.Test.YtfldgimmdeijjaaPFnExactFewestMovesx2
import Derived.Test.YtfldgimmdeijjaaPFnExactFewestMovesx3
namespace Go.Proofs.Ytfldgimmdeijjaa.PFnExactFewestMoves
open Go.RowKit Go.Proofs.YtfldgimmdeijjaaW.PrintWords Go.Proofs.YtfldgimmdeijjaaW.PrintLast Go.Proofs.YtfldgimmdeijjaaW.PrintMore
attribute [local go_sem] max2_int min2_int max_two min_two max_three min_three max_four min_four   -- for this text's walks alone
set_option linter.unusedVariables false
set_option linter.unusedSimpArgs false

/-! ### spec_paTables: function 83 -/
/-- An append to a row, with its bound. -/
def hwPush (row : List Int) (x : Int) : Option (List Int) := if row.length < 17592186044416 then some (row ++ [x]) else none
theorem hwPush_some {row : List Int} {x : Int} {t : List Int} (h : hwPush row x = some t) : row.length < 17592186044416 ∧ t = row ++ [x] := by
  unfold hwPush at h
  split at h
  · rename_i hl
    exact ⟨hl, (Option.some.inj h).symm⟩
  · cases h
/-- Rows of one's own, whose blocks are Z, and a row whose blocks are none of these, over a call. -/
theorem hwSN_call {α β : Type} {d : Kd α} {d2 : Kd β} {e e2 : Nat} {w w1 : World} {n0 : Nat} {Z : Nat → Prop} {v u : Value} {xs : List α} {ys : List β}
    (hS : Kd.S d e w n0 Z v xs) (hN : Kd.N d2 e2 w n0 (fun k => n0 ≤ k ∧ ¬ Z k) u ys) (hb : Below w.heap.size w w1) :
    Kd.S d e w1 n0 (fun k => Z k ∧ k < w.heap.size) v xs ∧ Kd.N d2 e2 w1 n0 (fun k => (n0 ≤ k ∧ ¬ (Z k ∧ k < w.heap.size)) ∧ k < w.heap.size) u ys :=
  ⟨Kd.S_mono (Kd.S_below (Kd.S_bound hS) hb) (fun k hk => ⟨hk.1, hk.2.2.1⟩), Kd.N_mono (Kd.N_below (Kd.N_bound hN) hb) (fun k hk => ⟨⟨hk.1.1, fun h => hk.1.2 h.1⟩, hk.2⟩)⟩
/-- A row put into a row of rows that share. -/
theorem hwN_store {α : Type} {d : Kd α} {e e2 : Nat} {w : World} {n0 g n cap : Nat} {ok okv : Nat → Prop} {ys : List (List α)} {v : Value} {zs : List α}
    (hN : Kd.N (Kd.slice e d) e2 w n0 ok (.slice (some ⟨g, 0, none⟩) n cap) ys) (hV : Kd.N d e w n0 okv v zs) (hok : ∀ k, okv k → ok k ∧ k ≠ g) (i : Int) (h0 : 0 ≤ i) (h1 : i < n) :
    (∃ A m c, w.cell? ⟨g, i.toNat, none⟩ = some (.slice A m c)) ∧ w.frozen? ⟨g, i.toNat, none⟩ = false ∧ Kd.N (Kd.slice e d) e2 (w.setCell ⟨g, i.toNat, none⟩ v) n0 ok (.slice (some ⟨g, 0, none⟩) n cap) (ys.set i.toNat zs) ∧ w.grownBy (w.setCell ⟨g, i.toNat, none⟩ v) (some g) := by
  obtain ⟨c, hcl, hM, hcc, hfr⟩ := Kd.N_elem hN [] i h0 h1
  obtain ⟨ua, uc, rfl, ul, ge⟩ := Kd.FK_slice_open hM
  obtain ⟨A, c', rfl⟩ := Kd.N_slice hV
  have hV' := Kd.N_mono (ok' := fun k => ok k ∧ k ≠ g) hV hok
  have HP := Kd.N_seg hN i h0 h1 (seg := [.slice A zs.length c']) (j := 0) hcl hcc (show 1 ≤ 1 from Nat.le_refl _) (x' := zs) (Kd.FK_slice_mk (Kd.N_reads' hV').2.1 (Kd.N_F hV')) (fun _ hk => hk)
  have hx := hcc 0 _ rfl
  have hf := hfr 0
  simp only [show (Kd.slice e d).sz = 1 from rfl, Nat.mul_one, Nat.add_zero] at HP hx hf
  exact ⟨⟨_, _, _, hx⟩, hf, HP.1, HP.2⟩
/-- A row of one's own rows, lent. -/
theorem hwS_lend {e e2 : Nat} {w : World} {n0 g n cap : Nat} {Z : Nat → Prop} {xs : List (List Int)} (hS : Kd.S (Kd.slice e (Kd.int .i64)) e2 w n0 Z (.slice (some ⟨g, 0, none⟩) n cap) xs) (i : Int) (h0 : 0 ≤ i) (h1 : i < n) :
    ∃ oki A c, w.cell? ⟨g, i.toNat, none⟩ = some (.slice A (rd_L1 xs i).length c) ∧ Kd.R (Kd.int .i64) e w n0 oki (.slice A (rd_L1 xs i).length c) (rd_L1 xs i) ∧ (∀ k, oki k → Z k ∧ k ≠ g) ∧ Kd.H (Kd.slice e (Kd.int .i64)) e2 w n0 Z (.slice (some ⟨g, 0, none⟩) n cap) xs i oki [.slice A (rd_L1 xs i).length c] := by
  obtain ⟨oki, c, hcl, hM, hcc, _, hoki, hH⟩ := Kd.S_elem hS [] i h0 h1
  obtain ⟨v, rfl, hR⟩ := hM
  have hR : Kd.R (Kd.int .i64) e w n0 oki v (rd_L1 xs i) := hR
  obtain ⟨A, c, rfl⟩ := Kd.R_slice hR
  have hx := hcc 0 _ rfl
  simp only [show (Kd.slice e (Kd.int .i64)).sz = 1 from rfl, Nat.mul_one, Nat.add_zero] at hx
  exact ⟨oki, A, c, hx, hR, hoki, hH⟩
/-- .. and, grown, put back. -/
theorem hwS_back {e e2 : Nat} {w w1 : World} {n0 g n cap : Nat} {Z oki : Nat → Prop} {xs : List (List Int)} {i : Int} {A0 : Option Addr} {m0 c0 : Nat} {u v' : Value} {row' : List Int}
    (hH : Kd.H (Kd.slice e (Kd.int .i64)) e2 w n0 Z (.slice (some ⟨g, 0, none⟩) n cap) xs i oki [.slice A0 m0 c0]) (h0 : 0 ≤ i) (h1 : i < n) (hg : w.grownBy w1 u.ownBlock) (hu : ∀ k, u.ownBlock = some k → oki k)
    (hR : Kd.R (Kd.int .i64) e w1 n0 (fun k => oki k ∨ (Z k ∧ w.heap.size ≤ k)) v' row') :
    w1.cell? ⟨g, i.toNat, none⟩ = some (.slice A0 m0 c0) ∧ w1.frozen? ⟨g, i.toNat, none⟩ = false ∧ Kd.S (Kd.slice e (Kd.int .i64)) e2 (w1.setCell ⟨g, i.toNat, none⟩ v') n0 Z (.slice (some ⟨g, 0, none⟩) n cap) (xs.set i.toNat row') ∧ w1.grownBy (w1.setCell ⟨g, i.toNat, none⟩ v') (some g) := by
  have hH1 := Kd.H_grown (Kd.H_widen hH) hg (fun k hk => .inl (hu k hk))
  obtain ⟨hcc, hfr⟩ := Kd.H_at hH1 h0 h1
  have hx := hcc 0 _ rfl
  have hf := hfr 0
  have HP := Kd.S_seg0 hH1 h0 h1 (seg := [v']) (j := 0) (show 1 ≤ 1 from Nat.le_refl _) (x' := row') (Kd.M_row hR) (fun _ hk => hk)
  simp only [show (Kd.slice e (Kd.int .i64)).sz = 1 from rfl, Nat.mul_one, Nat.add_zero] at HP hx hf
  exact ⟨hx, hf, HP.1, HP.2⟩
/-- A row in a row of rows that share. -/
theorem hwN_row {α : Type} {d : Kd α} {e e2 : Nat} {w : World} {n0 g n cap : Nat} {ok : Nat → Prop} {ys : List (List α)} (hN : Kd.N (Kd.slice e d) e2 w n0 ok (.slice (some ⟨g, 0, none⟩) n cap) ys) (i : Int) (h0 : 0 ≤ i) (h1 : i < n) :
    ∃ A c, w.cell? ⟨g, i.toNat, none⟩ = some (.slice A (ys.getD i.toNat []).length c) ∧ (ys.getD i.toNat []).length ≤ c ∧ Kd.F d w ok A (ys.getD i.toNat []).length (ys.getD i.toNat []) := by
  obtain ⟨c, _, hM, hcc, _⟩ := Kd.N_elem hN [] i h0 h1
  obtain ⟨A, c', rfl, hl, hF⟩ := Kd.FK_slice_open hM
  have hx := hcc 0 _ rfl
  simp only [show (Kd.slice e d).sz = 1 from rfl, Nat.mul_one, Nat.add_zero] at hx
  exact ⟨A, c', hx, hl, Kd.F_mono hF (fun _ hk => hk.1)⟩
theorem hwF_row {α : Type} {d : Kd α} {e : Nat} {w : World} {n : Nat} {A : Option Addr} {ok : Nat → Prop} {ys : List (List α)} (hF : Kd.F (Kd.slice e d) w ok A n ys) (i : Int) (h0 : 0 ≤ i) (h1 : i < n) :
    ∃ ad A' c, A = some ad ∧ w.cell? (ad.add i.toNat) = some (.slice A' (ys.getD i.toNat []).length c) ∧ (ys.getD i.toNat []).length ≤ c ∧ Kd.F d w ok A' (ys.getD i.toNat []).length (ys.getD i.toNat []) := by
  obtain ⟨ad, c, hA, _, hM, hcc, _⟩ := Kd.F_get hF [] i h0 h1
  obtain ⟨A', c', rfl, hl, hF'⟩ := Kd.FK_slice_open hM
  have hx := hcc 0 _ rfl
  simp only [show (Kd.slice e d).sz = 1 from rfl, Nat.mul_one, Nat.add_zero] at hx
  exact ⟨ad, A', c', hA, hx, hl, hF'⟩
/-- What lies below a mark, over a call. -/
theorem hwB_block {hs : Nat} {W w : World} (h : Below hs W w) {k : Nat} (hk : k < hs) : w.heap[k]? = W.heap[k]? := h.block k hk
theorem hwB_step {hs : Nat} {W w w1 : World} (h : Below hs W w) (hb : Below w.heap.size w w1) (hs0 : hs ≤ w.heap.size) : Below hs W w1 := h.trans (hb.mono hs0)
/-- The lesser of two, the first of which may be none yet. -/
def hwBest (b n : Int) : Int := if b < 0 then n else if n < b then n else b
mutual
def spec_paTables.l0 : Nat → List Int → Int → Int → List (List (List Int)) → List (List Int) → Int → Option ((List (List (List Int))) × (List (List Int)) × Bool)
  | 0, _, _, _, _, _, _ => none
  | k + 1, x0, x1, x2, x9, x10, x11 => if 0 ≤ x11 then ((spec_paAll.f k x0 (wrap64 (x11 * x2))).bind fun t => (if x11 < (x9.length : Int) then (if ((rd_L2 (x9.set x11.toNat t) x11).length : Int) = 0 then some ([], [], false) else spec_paTables.l1 k x0 x1 x2 (x9.set x11.toNat t) x10 x11 0) else none)) else some (x9, x10, true)
def spec_paTables.l1 : Nat → List Int → Int → Int → List (List (List Int)) → List (List Int) → Int → Int → Option ((List (List (List Int))) × (List (List Int)) × Bool)
  | 0, _, _, _, _, _, _, _ => none
  | k + 1, x0, x1, x2, x9, x10, x11, x48 => if x48 < ((rd_L2 x9 x11).length : Int) then (if 0 ≤ x48 then (if x11 < x1 then (if 0 ≤ wrap64 (x11 + 1) then (if wrap64 (x11 + 1) < (x9.length : Int) then (spec_paTables.l2 k x0 x1 x2 x9 x10 x11 x48 (-1) 0) else none) else none) else (if x11 < (x10.length : Int) then ((hwPush (rd_L1 x10 x11) 0).bind fun t => (spec_paTables.l1 k x0 x1 x2 x9 (x10.set x11.toNat t) x11 (wrap64 (x48 + 1)))) else none)) else none) else (spec_paTables.l0 k x0 x1 x2 x9 x10 (wrap64 (x11 - 1)))
def spec_paTables.l2 : Nat → List Int → Int → Int → List (List (List Int)) → List (List Int) → Int → Int → Int → Int → Option ((List (List (List Int))) × (List (List Int)) × Bool)
  | 0, _, _, _, _, _, _, _, _, _ => none
  | k + 1, x0, x1, x2, x9, x10, x11, x48, x14, x61 => if x61 < ((rd_L2 x9 (wrap64 (x11 + 1))).length : Int) then (if 0 ≤ x61 then ((spec_paMoves.f k (rd_L1 (rd_L2 x9 x11) x48) (rd_L1 (rd_L2 x9 (wrap64 (x11 + 1))) x61)).bind fun t => (if wrap64 (x11 + 1) < (x10.length : Int) then (if x61 < ((rd_L1 x10 (wrap64 (x11 + 1))).length : Int) then (spec_paTables.l2 k x0 x1 x2 x9 x10 x11 x48 (hwBest x14 (wrap64 (t + rd (rd_L1 x10 (wrap64 (x11 + 1))) x61))) (wrap64 (x61 + 1))) else none) else none)) else none) else (if x11 < (x10.length : Int) then ((hwPush (rd_L1 x10 x11) x14).bind fun t => (spec_paTables.l1 k x0 x1 x2 x9 (x10.set x11.toNat t) x11 (wrap64 (x48 + 1)))) else none)
end
def spec_paTables.f (k : Nat) (l0 : List Int) (a1 : Int) (a2 : Int) : Option ((List (List (List Int))) × (List (List Int)) × Bool) := if 0 ≤ wrap64 (a1 + 1) then (if (wrap64 (a1 + 1)).toNat ≤ 1000000 then (spec_paTables.l0 k l0 a1 a2 (List.replicate (wrap64 (a1 + 1)).toNat []) (List.replicate (wrap64 (a1 + 1)).toNat []) a1) else none) else none
theorem spec_paTables.mono_l : ∀ k, (∀ y0 y1 y2 y3 y4 y5, LeO (spec_paTables.l0 k y0 y1 y2 y3 y4 y5) (spec_paTables.l0 (k + 1) y0 y1 y2 y3 y4 y5)) ∧ (∀ y0 y1 y2 y3 y4 y5 y6, LeO (spec_paTables.l1 k y0 y1 y2 y3 y4 y5 y6) (spec_paTables.l1 (k + 1) y0 y1 y2 y3 y4 y5 y6)) ∧ (∀ y0 y1 y2 y3 y4 y5 y6 y7 y8, LeO (spec_paTables.l2 k y0 y1 y2 y3 y4 y5 y6 y7 y8) (spec_paTables.l2 (k + 1) y0 y1 y2 y3 y4 y5 y6 y7 y8))
  | 0 => ⟨fun _ _ _ _ _ _ r h => by simp [spec_paTables.l0] at h, fun _ _ _ _ _ _ _ r h => by simp [spec_paTables.l1] at h, fun _ _ _ _ _ _ _ _ _ r h => by simp [spec_paTables.l2] at h⟩
  | k + 1 => by
    obtain ⟨ih0, ih1, ih2⟩ := spec_paTables.mono_l k
    refine ⟨?_, ?_, ?_⟩
    · intro y0 y1 y2 y3 y4 y5
      unfold spec_paTables.l0
      repeat' first
      | (with_reducible exact ih0 _ _ _ _ _ _)
      | (with_reducible exact ih1 _ _ _ _ _ _ _)
      | (with_reducible exact spec_paAll.mono _ _ _)
      | (with_reducible exact LeO.refl _)
      | (with_reducible exact LeO.none _)
      | (with_reducible refine LeO.ite ?_ ?_)
      | (with_reducible refine LeO.bind ?_ (fun _ => ?_))
    · intro y0 y1 y2 y3 y4 y5 y6
      unfold spec_paTables.l1
      repeat' first
      | (with_reducible exact ih0 _ _ _ _ _ _)
      | (with_reducible exact ih1 _ _ _ _ _ _ _)
      | (with_reducible exact ih2 _ _ _ _ _ _ _ _ _)
      | (with_reducible exact LeO.refl _)
      | (with_reducible exact LeO.none _)
      | (with_reducible refine LeO.ite ?_ ?_)
      | (with_reducible refine LeO.bind ?_ (fun _ => ?_))
    · intro y0 y1 y2 y3 y4 y5 y6 y7 y8
      unfold spec_paTables.l2
      repeat' first
      | (with_reducible exact ih1 _ _ _ _ _ _ _)
      | (with_reducible exact ih2 _ _ _ _ _ _ _ _ _)
      | (with_reducible exact spec_paMoves.mono _ _ _)
      | (with_reducible exact LeO.refl _)
      | (with_reducible exact LeO.none _)
      | (with_reducible refine LeO.ite ?_ ?_)
      | (with_reducible refine LeO.bind ?_ (fun _ => ?_))
theorem spec_paTables.mono : ∀ a0 a1 a2 k, LeO (spec_paTables.f k a0 a1 a2) (spec_paTables.f (k + 1) a0 a1 a2) := by
  intro a0 a1 a2 k
  obtain ⟨ih0, ih1, ih2⟩ := spec_paTables.mono_l k
  unfold spec_paTables.f
  repeat' first
      | (with_reducible exact ih0 _ _ _ _ _ _)
      | (with_reducible exact LeO.none _)
      | (with_reducible refine LeO.ite ?_ ?_)
theorem hwInfoSS : (Try.prog.info? 23).map (fun i => (i.zero, i.size, i.bytes)) = some (some (.slice none 0 0), 1, 24) := by kernel_rfl
theorem hwInfoS : (Try.prog.info? 22).map (fun i => (i.zero, i.size, i.bytes)) = some (some (.slice none 0 0), 1, 24) := by kernel_rfl
theorem hwInfoI : (Try.prog.info? 3).map (fun i => (i.zero, i.size, i.bytes)) = some (some (.int .i64 0), 1, 8) := by kernel_rfl
theorem hwUnderSSS : Try.prog.underlying 62 = some (.slice 23) := by kernel_rfl
def spec_paTables.T18 : Bool × List (List Nat × List Nat) := (true, [([], []), ([], []), ([0, 1], [0, 1]), ([], []), ([], []), ([4], [4]), ([3, 5], [3, 5]), ([6], [6]), ([], []), ([7, 8], [7, 8]), ([9], [9]), ([2, 10], [2, 10]), ([11, 2, 0, 1, 2, 3, 4, 5, 6, 7, 8, 9, 10, 11], [11])])
def spec_paTables.B18 : List Nat := [0, 0, 3, 0, 0, 16, 56, 120, 0, 504, 1016, 2047, 4095]
theorem spec_paTables.tab18 : rtab .any (opsOf Try.f83 18) = spec_paTables.T18 := by kernel_rfl
theorem spec_paTables.bits18 : waitsOk spec_paTables.T18.2 spec_paTables.B18 = true := by kernel_rfl
set_option maxHeartbeats 8000000 in
set_option maxRecDepth 100000 in
theorem spec_paTables.calls (k : Nat) (A0 : Option Addr) (c0 : Nat) (l0 : List Int) (a1 : Int) (a2 : Int) (r1 : List (List (List Int))) (r2 : List (List Int)) (r3 : Bool) (w : World) (hr0 : Kd.C (Kd.int .i64) w A0 l0.length l0) (hc0 : l0.length ≤ c0) (h : spec_paTables.f k l0 a1 a2 = some (r1, r2, r3)) :
    Calls Try.prog 83 #[.slice A0 l0.length c0, .int .i64 a1, .int .i64 a2] w fun e w' => ∃ v0_ v1_ : Value, e = .returned (.tuple #[v0_, v1_, .bool r3]) ∧ Kd.N (Kd.slice 22 (Kd.slice 3 (Kd.int .i64))) 23 w' w.heap.size (fun k_ => (w.heap.size ≤ k_) ∧ some k_ ≠ (v1_ : Value).ownBlock) v0_ r1 ∧ Kd.N (Kd.slice 3 (Kd.int .i64)) 22 w' w.heap.size (fun k_ => (w.heap.size ≤ k_) ∧ some k_ ≠ (v0_ : Value).ownBlock) v1_ r2 ∧ Below w.heap.size w w' := by
  have HR0 := Aside0.mk hr0
  have HC0 := Aside0.mk hc0
  clear hr0 hc0
  have H : (if 0 ≤ wrap64 (a1 + 1) then (if (wrap64 (a1 + 1)).toNat ≤ 1000000 then (spec_paTables.l0 k l0 a1 a2 (List.replicate (wrap64 (a1 + 1)).toNat []) (List.replicate (wrap64 (a1 + 1)).toNat []) a1) else none) else none) = some (r1, r2, r3) := h
  clear h
  obtain ⟨ji4, hji4⟩ : ∃ j_ : Int, (wrap64 (a1 + 1)) = j_ := ⟨_, rfl⟩
  rw [hji4] at H
  have hji4w : (IntKind.i64.wrap (a1 + 1)) = ji4 := (i64_w _).trans hji4
  by_cases c5 : 0 ≤ ji4
  · rw [if_pos c5] at H
    by_cases c6 : ji4.toNat ≤ 1000000
    · rw [if_pos c6] at H
      have C5 := Aside0.mk c5
      have C6 := Aside0.mk c6
      have c5b0 := eq_true c5
      have H' := Aside0.mk H
      clear H c5 c6
      have HB := Aside0.mk (Below.refl w.heap.size w)
      go_enter Try.func83, Try.ntmps83
      go_wp2_with (first | ((with_reducible refine gate_dst (N := 20) rfl ?_); refine Kd.N_make (Kd.slice 22 (Kd.slice 3 (Kd.int .i64))) _ 23 rfl (N' := 20) rfl 62 _ _ rfl ji4 rfl rfl hwUnderSSS (.slice none 0 0) 24 hwInfoSS rfl (by decide) (by omega) [] (ok := fun k_ => w.heap.size ≤ k_) (okp := fun _ => False) (Kd.FK_slice_mk (Nat.le_refl _) (Kd.F_nil _ _ _)) (fun _ hk => hk.elim) (Nat.le_refl _) C5.out (by have := C6.out; omega) (Below.refl _ _) (Nat.le_refl _) ?_; intro v186 w7 ho8 hb hg_ hnew_; clear hg_ hnew_; have HO187 := Aside0.mk ho8; clear HB; have HB := Aside0.mk hb; clear hb ho8) | ((with_reducible refine gate_dst (N := 23) rfl ?_); refine Kd.S_make (Kd.slice 3 (Kd.int .i64)) _ 22 rfl (N := 23) rfl 23 _ _ rfl ji4 rfl rfl Try.underlying23 (.slice none 0 0) 24 hwInfoS rfl (by decide) (by omega) [] (ok := fun _ => True) (okp := fun _ => True) ⟨_, rfl, Kd.R_nil _ _ _ _ _⟩ (fun _ hk => hk) trivial C5.out (by have := C6.out; omega) (Below.refl _ _) (Nat.le_refl _) ?_; intro v189 w9 ho10 hb hg_ hnew_; clear hg_ hnew_; have HB7 := Aside0.mk HB.out.size; have HO190 := Aside0.mk ho10; have HN := Aside0.mk (Kd.N_below (Kd.N_bound HO187.out) hb); have HB2 := Aside0.mk (below_step HB.out hb); clear HB HO187; have HO187 := HN; have HB := HB2; clear HN HB2; have HBb := Aside0.mk HB.out.size; clear hb ho10))
      go_loopg [11] k (fun kq v11 w' => ∃ (Z : Nat → Prop) (x9 : List (List (List Int))) (x10 : List (List Int)) (x11 : Int), v11 = .int .i64 x11 ∧ Aside0 (spec_paTables.l0 kq l0 a1 a2 x9 x10 x11 = some (r1, r2, r3)) ∧ Aside0 (kq ≤ k) ∧ Aside0 (Kd.S (Kd.slice 3 (Kd.int .i64)) 22 w' w.heap.size Z v189 x10) ∧ Aside0 (Kd.N (Kd.slice 22 (Kd.slice 3 (Kd.int .i64))) 23 w' w.heap.size (fun k_ => w.heap.size ≤ k_ ∧ ¬ Z k_) v186 x9) ∧ Aside0 (Below w.heap.size w w'))
      case atStart => exact ⟨fun k_ => w7.heap.size ≤ k_, _, _, a1, (by first | rfl | (simp; done)), H', ⟨Nat.le_refl _⟩, ⟨Kd.S_mono (Kd.S_lower (Kd.S_bound HO190.out) HB7.out) (fun _ hk => hk.2.1)⟩, ⟨Kd.N_mono HO187.out (fun _ hk => ⟨hk.1, by omega⟩)⟩, HB⟩
      case round =>
        clear H' HO190 HO187 HB HB7 HBb
        obtain ⟨Z, x9, x10, x11, rfl, HA, HK1, HO_10, HO_9, HB⟩ := hrel
        cases gk with
        | zero => exact absurd HA.out (by simp [spec_paTables.l0])
        | succ k1 =>
          have H := HA.out
          clear HA
          simp only [spec_paTables.l0] at H
          by_cases c11 : 0 ≤ x11
          · rw [if_pos c11] at H
            have c11b0 : decide (0 ≤ x11) = true := decide_eq_true c11
            replace H := Option.bind_eq_some_iff.mp H
            obtain ⟨t191, A120, H⟩ := H
            have A12 := Aside0.mk A120
            clear A120
            by_cases c14 : x11 < (x9.length : Int)
            · rw [if_pos c14] at H
              obtain ⟨y194, hy194⟩ : ∃ y_ : List (List (List Int)), y_ = x9.set x11.toNat t191 := ⟨_, rfl⟩
              rw [← hy194] at H
              have hyl : y194.length = x9.length := by rw [hy194, List.length_set]
              obtain ⟨go15, co15, eo15, gb15, gl15, cl15, HG15⟩ := Kd.N_form HO_9.out (by omega)
              subst eo15
              have hgo := HO_9.out.1 go15 rfl
              have H' := Aside0.mk H
              clear H
              have C11 := Aside0.mk c11
              have C14 := Aside0.mk c14
              have GB15 := Aside0.mk gb15
              have GL15 := Aside0.mk gl15
              have GO15 := Aside0.mk hgo
              have Ny194 := Aside0.mk hy194
              have HYL := Aside0.mk hyl
              clear c11 c14 gb15 gl15 HG15 hgo hy194 hyl
              have p15 : (0 ≤ x11) = True := eq_true C11.out
              have q15 : (x11 < (x9.length : Int)) = True := eq_true C14.out
              by_cases c16 : ((rd_L2 y194 x11).length : Int) = 0
              · have c16b0 : (((rd_L2 y194 x11).length : Int) == 0) = true := beq_iff_eq.mpr c16
                have c16e : (rd_L2 y194 x11 = []) = True := eq_true (List.length_eq_zero_iff.mp (by omega))
                have H := H'.out
                rw [if_pos c16] at H
                clear H' c16
                simp only [Option.some.injEq, Prod.mk.injEq] at H
                obtain ⟨rfl, rfl, rfl⟩ := H
                go_wp2_with (first | (go_at_call 103; (with_reducible refine (spec_paAll.calls k1 _ _ l0 (wrap64 (x11 * a2)) t191 _ (Kd.C_below HR0.out HB.out) HC0.out A12.out).mono ?_); rintro e w20 ⟨v192, rfl, ho0, hb⟩; obtain ⟨Av, cv, ev_⟩ := Kd.N_slice ho0; subst ev_; have hSN := hwSN_call HO_10.out HO_9.out hb; have HS1 := Aside0.mk hSN.1; have hst := hwN_store (Kd.N_mono hSN.2 (fun _ hk => hk.1)) (Kd.N_lower ho0 HB.out.size) (fun k_ hk => ⟨⟨Nat.le_trans HB.out.size hk, fun h_ => by have := h_.2; omega⟩, by have := GL15.out; omega⟩) x11 C11.out C14.out; obtain ⟨⟨ua15, un15, uc15, hx15⟩, hf15, hp15, hg15⟩ := hst; rw [← Ny194.out] at hp15; have HP15 := Aside0.mk hp15; have HB20 := Aside0.mk (below_step HB.out hb); clear hSN hp15 hg15 ho0 hb HB HO_9 HO_10) | ((with_reducible refine gate_store (t := 23) (p := 36) rfl ?_); refine store_event (t := 23) (p := 36) (v := ?vo_w22) (w1 := (w20.setCell ⟨go15, x11.toNat, none⟩ (.slice Av t191.length cv))) ?hg ?ho ?hn ?hr ?_; (case ho => rfl); (case hg => rfl); (case hn => rfl); (case hr => first | (go_simp; done) | (go_simp; rfl)); intro w22 hw; have HO_9 := Aside0.mk (show Kd.N (Kd.slice 22 (Kd.slice 3 (Kd.int .i64))) 23 w22 w.heap.size (fun k_ => w.heap.size ≤ k_ ∧ ¬ (Z k_ ∧ k_ < wr.heap.size)) (.slice (some ⟨go15, 0, none⟩) x9.length co15) y194 by rw [hw]; exact HP15.out); have HO_10 := Aside0.mk (show Kd.S (Kd.slice 3 (Kd.int .i64)) 22 w22 w.heap.size (fun k_ => Z k_ ∧ k_ < wr.heap.size) v189 x10 by rw [hw]; exact Kd.S_far (p := ⟨go15, x11.toNat, none⟩) HS1.out (fun k_ hk e_ => GO15.out.2 (by rw [← (show k_ = go15 from e_)]; exact hk.1)) _); have HB := Aside0.mk (show Below w.heap.size w w22 by rw [hw]; exact below_set HB20.out GB15.out); clear HP15 HS1 HB20 hw hx15 hf15; obtain ⟨A195, c195, hx195, hl195, hi195⟩ := hwN_row HO_9.out x11 C11.out (by have := C14.out; omega); have HR195 := Aside0.mk (show Kd.F (Kd.slice 3 (Kd.int .i64)) w22 (fun k_ => w.heap.size ≤ k_ ∧ ¬ (Z k_ ∧ k_ < wr.heap.size)) A195 (rd_L2 y194 x11).length (rd_L2 y194 x11) from hi195); replace hx195 : w22.cell? ⟨go15, x11.toNat, none⟩ = some (.slice A195 (rd_L2 y194 x11).length c195) := hx195; clear hi195 hl195))
                go_ret3
                exact ⟨_, _, by first | rfl | (simp; done), Kd.N_nil _ _ _ _ _, Kd.N_nil _ _ _ _ _, HB.out⟩
              · have c16b0 : (((rd_L2 y194 x11).length : Int) == 0) = false := beq_eq_false_iff_ne.mpr c16
                have c16e : ¬ (rd_L2 y194 x11 = []) := fun h_ => c16 (by rw [h_]; rfl)
                have H := H'.out
                rw [if_neg c16] at H
                clear H' c16
                have H' := Aside0.mk H
                clear H
                go_wp2_with (first | (go_at_call 103; (with_reducible refine (spec_paAll.calls k1 _ _ l0 (wrap64 (x11 * a2)) t191 _ (Kd.C_below HR0.out HB.out) HC0.out A12.out).mono ?_); rintro e w20 ⟨v192, rfl, ho0, hb⟩; obtain ⟨Av, cv, ev_⟩ := Kd.N_slice ho0; subst ev_; have hSN := hwSN_call HO_10.out HO_9.out hb; have HS1 := Aside0.mk hSN.1; have hst := hwN_store (Kd.N_mono hSN.2 (fun _ hk => hk.1)) (Kd.N_lower ho0 HB.out.size) (fun k_ hk => ⟨⟨Nat.le_trans HB.out.size hk, fun h_ => by have := h_.2; omega⟩, by have := GL15.out; omega⟩) x11 C11.out C14.out; obtain ⟨⟨ua15, un15, uc15, hx15⟩, hf15, hp15, hg15⟩ := hst; rw [← Ny194.out] at hp15; have HP15 := Aside0.mk hp15; have HB20 := Aside0.mk (below_step HB.out hb); clear hSN hp15 hg15 ho0 hb HB HO_9 HO_10) | ((with_reducible refine gate_store (t := 23) (p := 36) rfl ?_); refine store_event (t := 23) (p := 36) (v := ?vo_w22) (w1 := (w20.setCell ⟨go15, x11.toNat, none⟩ (.slice Av t191.length cv))) ?hg ?ho ?hn ?hr ?_; (case ho => rfl); (case hg => rfl); (case hn => rfl); (case hr => first | (go_simp; done) | (go_simp; rfl)); intro w22 hw; have HO_9 := Aside0.mk (show Kd.N (Kd.slice 22 (Kd.slice 3 (Kd.int .i64))) 23 w22 w.heap.size (fun k_ => w.heap.size ≤ k_ ∧ ¬ (Z k_ ∧ k_ < wr.heap.size)) (.slice (some ⟨go15, 0, none⟩) x9.length co15) y194 by rw [hw]; exact HP15.out); have HO_10 := Aside0.mk (show Kd.S (Kd.slice 3 (Kd.int .i64)) 22 w22 w.heap.size (fun k_ => Z k_ ∧ k_ < wr.heap.size) v189 x10 by rw [hw]; exact Kd.S_far (p := ⟨go15, x11.toNat, none⟩) HS1.out (fun k_ hk e_ => GO15.out.2 (by rw [← (show k_ = go15 from e_)]; exact hk.1)) _); have HB := Aside0.mk (show Below w.heap.size w w22 by rw [hw]; exact below_set HB20.out GB15.out); clear HP15 HS1 HB20 hw hx15 hf15; obtain ⟨A195, c195, hx195, hl195, hi195⟩ := hwN_row HO_9.out x11 C11.out (by have := C14.out; omega); have HR195 := Aside0.mk (show Kd.F (Kd.slice 3 (Kd.int .i64)) w22 (fun k_ => w.heap.size ≤ k_ ∧ ¬ (Z k_ ∧ k_ < wr.heap.size)) A195 (rd_L2 y194 x11).length (rd_L2 y194 x11) from hi195); replace hx195 : w22.cell? ⟨go15, x11.toNat, none⟩ = some (.slice A195 (rd_L2 y194 x11).length c195) := hx195; clear hi195 hl195))
                clear c16b0 c16e p15 q15 hx195
                go_loopg [48] k1 (fun kq v48 w' => ∃ (Z2 : Nat → Prop) (x10_2 : List (List Int)) (x48 : Int), v48 = .int .i64 x48 ∧ Aside0 (spec_paTables.l1 kq l0 a1 a2 y194 x10_2 x11 x48 = some (r1, r2, r3)) ∧ Aside0 (kq ≤ k1) ∧ Aside0 (Kd.S (Kd.slice 3 (Kd.int .i64)) 22 w' w.heap.size Z2 v189 x10_2) ∧ Aside0 (Kd.N (Kd.slice 22 (Kd.slice 3 (Kd.int .i64))) 23 w' w.heap.size (fun k_ => w.heap.size ≤ k_ ∧ ¬ Z2 k_) (.slice (some ⟨go15, 0, none⟩) x9.length co15) y194) ∧ Aside0 (Kd.F (Kd.slice 3 (Kd.int .i64)) w' (fun k_ => w.heap.size ≤ k_ ∧ ¬ Z2 k_) A195 (rd_L2 y194 x11).length (rd_L2 y194 x11)) ∧ Aside0 (Below w.heap.size w w'))
                case atStart => exact ⟨_, _, 0, (by first | rfl | (simp; done) | (simp [*]; done)), H', ⟨Nat.le_refl _⟩, HO_10, HO_9, HR195, HB⟩
                case round =>
                  clear H' HO_10 HO_9 HR195 HB
                  obtain ⟨Z2, x10_2, x48, rfl, HA, HK2, HO_10, HO_9, HR195, HB⟩ := hrel
                  cases gk with
                  | zero => exact absurd HA.out (by simp [spec_paTables.l1])
                  | succ k2 =>
                    have H := HA.out
                    clear HA
                    simp only [spec_paTables.l1] at H
                    by_cases c23 : x48 < ((rd_L2 y194 x11).length : Int)
                    · rw [if_pos c23] at H
                      have c23b0 : decide (x48 < ((rd_L2 y194 x11).length : Int)) = true := decide_eq_true c23
                      by_cases c24 : 0 ≤ x48
                      · rw [if_pos c24] at H
                        obtain ⟨ad197, A197, c197, e197, hx197, hl197, hi197⟩ := hwF_row HR195.out x48 c24 c23
                        cases e197
                        have HR197 := Aside0.mk (show Kd.F (Kd.int .i64) wr (fun k_ => w.heap.size ≤ k_ ∧ ¬ Z2 k_) A197 (rd_L1 (rd_L2 y194 x11) x48).length (rd_L1 (rd_L2 y194 x11) x48) from hi197)
                        have HC197 := Aside0.mk (show (rd_L1 (rd_L2 y194 x11) x48).length ≤ c197 from hl197)
                        replace hx197 : wr.cell? (ad197.add x48.toNat) = some (.slice A197 (rd_L1 (rd_L2 y194 x11) x48).length c197) := hx197
                        clear hi197 hl197
                        have p197 := eq_true c24
                        have q197 := eq_true c23
                        have C23 := Aside0.mk c23
                        have C24 := Aside0.mk c24
                        clear c23 c24
                        by_cases c26 : x11 < a1
                        · rw [if_pos c26] at H
                          have c26b0 : decide (x11 < a1) = true := decide_eq_true c26
                          by_cases c17 : 0 ≤ wrap64 (x11 + 1)
                          · rw [if_pos c17] at H
                            obtain ⟨d1, hd1⟩ : ∃ j_ : Int, wrap64 (x11 + 1) = j_ := ⟨_, rfl⟩
                            have hd1w : (IntKind.i64.wrap (x11 + 1)) = d1 := (i64_w _).trans hd1
                            rw [hd1] at H c17
                            by_cases c18 : d1 < (y194.length : Int)
                            · rw [if_pos c18] at H
                              have H' := Aside0.mk H
                              clear H
                              obtain ⟨A198, c198, hx198, hl198, hi198⟩ := hwN_row HO_9.out d1 c17 (by have := HYL.out; omega)
                              have HR198 := Aside0.mk (show Kd.F (Kd.slice 3 (Kd.int .i64)) wr (fun k_ => w.heap.size ≤ k_ ∧ ¬ Z2 k_) A198 (rd_L2 y194 d1).length (rd_L2 y194 d1) from hi198)
                              replace hx198 : wr.cell? ⟨go15, d1.toNat, none⟩ = some (.slice A198 (rd_L2 y194 d1).length c198) := hx198
                              clear hi198 hl198
                              have p198 := eq_true c17
                              have q198 : (d1 < (x9.length : Int)) = True := eq_true (by have := HYL.out; omega)
                              have C19 := Aside0.mk c17
                              have C18 := Aside0.mk c18
                              clear c17 c18
                              go_wp2
                              go_loopg [14, 61] k2 (fun kq v14 v61 w' => ∃ (x14 x61 : Int), v14 = .int .i64 x14 ∧ v61 = .int .i64 x61 ∧ Aside0 (spec_paTables.l2 kq l0 a1 a2 y194 x10_2 x11 x48 x14 x61 = some (r1, r2, r3)) ∧ Aside0 (kq ≤ k2) ∧ Aside0 (Kd.S (Kd.slice 3 (Kd.int .i64)) 22 w' w.heap.size Z2 v189 x10_2) ∧ Aside0 (Kd.N (Kd.slice 22 (Kd.slice 3 (Kd.int .i64))) 23 w' w.heap.size (fun k_ => w.heap.size ≤ k_ ∧ ¬ Z2 k_) (.slice (some ⟨go15, 0, none⟩) x9.length co15) y194) ∧ Aside0 (Kd.F (Kd.slice 3 (Kd.int .i64)) w' (fun k_ => w.heap.size ≤ k_ ∧ ¬ Z2 k_) (some ad197) (rd_L2 y194 x11).length (rd_L2 y194 x11)) ∧ Aside0 (Kd.F (Kd.int .i64) w' (fun k_ => w.heap.size ≤ k_ ∧ ¬ Z2 k_) A197 (rd_L1 (rd_L2 y194 x11) x48).length (rd_L1 (rd_L2 y194 x11) x48)) ∧ Aside0 (Kd.F (Kd.slice 3 (Kd.int .i64)) w' (fun k_ => w.heap.size ≤ k_ ∧ ¬ Z2 k_) A198 (rd_L2 y194 d1).length (rd_L2 y194 d1)) ∧ Aside0 (Below w.heap.size w w'))
                              case atStart => exact ⟨-1, 0, (by first | rfl | (simp; done) | (simp [*]; done)), (by first | rfl | (simp; done) | (simp [*]; done)), H', ⟨Nat.le_refl _⟩, HO_10, HO_9, HR195, HR197, HR198, HB⟩
                              case round =>
                                clear H' HO_10 HO_9 HR195 HR197 HR198 HB hx197 hx198 p197 q197 p198 q198 c23b0
                                obtain ⟨x14, x61, rfl, rfl, HA, HK3, HO_10, HO_9, HR195, HR197, HR198, HB⟩ := hrel
                                cases gk with
                                | zero => exact absurd HA.out (by simp [spec_paTables.l2])
                                | succ k3 =>
                                  have H := HA.out
                                  clear HA
                                  simp only [spec_paTables.l2] at H
                                  rw [hd1] at H
                                  by_cases c30 : x61 < ((rd_L2 y194 d1).length : Int)
                                  · rw [if_pos c30] at H
                                    have c30b0 : decide (x61 < ((rd_L2 y194 d1).length : Int)) = true := decide_eq_true c30
                                    by_cases c31 : 0 ≤ x61
                                    · rw [if_pos c31] at H
                                      replace H := Option.bind_eq_some_iff.mp H
                                      obtain ⟨t200, A330, H⟩ := H
                                      have A33 := Aside0.mk A330
                                      clear A330
                                      by_cases c36 : d1 < (x10_2.length : Int)
                                      · rw [if_pos c36] at H
                                        by_cases c37 : x61 < ((rd_L1 x10_2 d1).length : Int)
                                        · rw [if_pos c37] at H
                                          have C30 := Aside0.mk c30
                                          have C31 := Aside0.mk c31
                                          have C36 := Aside0.mk c36
                                          have C37 := Aside0.mk c37
                                          clear c30 c31 c36 c37
                                          by_cases c38 : x14 < 0
                                          · rw [show hwBest x14 (wrap64 (t200 + (rd (rd_L1 x10_2 d1) x61))) = (wrap64 (t200 + (rd (rd_L1 x10_2 d1) x61))) from if_pos c38] at H
                                            have c38b0 : decide (x14 < 0) = true := decide_eq_true c38
                                            clear c38
                                            have H' := Aside0.mk H
                                            clear H
                                            obtain ⟨ad199, A199, c199, e199, hx199, hl199, hi199⟩ := hwF_row HR198.out x61 C31.out C30.out
                                            cases e199
                                            have HR199 := Aside0.mk (show Kd.F (Kd.int .i64) wr (fun k_ => w.heap.size ≤ k_ ∧ ¬ Z2 k_) A199 (rd_L1 (rd_L2 y194 d1) x61).length (rd_L1 (rd_L2 y194 d1) x61) from hi199)
                                            have HC199 := Aside0.mk (show (rd_L1 (rd_L2 y194 d1) x61).length ≤ c199 from hl199)
                                            replace hx199 : wr.cell? (ad199.add x61.toNat) = some (.slice A199 (rd_L1 (rd_L2 y194 d1) x61).length c199) := hx199
                                            clear hi199 hl199
                                            have p199 := eq_true C31.out
                                            have q199 := eq_true C30.out
                                            try go_wp2
                                            have n_ := Aside0.mk (Kd.N_drew HO_9.out); clear HO_9; have HO_9 := n_; clear n_
                                            have n_ := Aside0.mk (Kd.S_drew HO_10.out); clear HO_10; have HO_10 := n_; clear n_
                                            have n_ := Aside0.mk (Kd.F_drew HR195.out); clear HR195; have HR195 := n_; clear n_
                                            have n_ := Aside0.mk (Kd.F_drew HR197.out); clear HR197; have HR197 := n_; clear n_
                                            have n_ := Aside0.mk (Kd.F_drew HR198.out); clear HR198; have HR198 := n_; clear n_
                                            have n_ := Aside0.mk (Kd.F_drew HR199.out); clear HR199; have HR199 := n_; clear n_
                                            have n_ := Aside0.mk (below_drew1 HB.out); clear HB; have HB := n_; clear n_
                                            obtain ⟨Ao40, co40, eo40⟩ := Kd.S_slice HO_10.out
                                            subst eo40
                                            have p201 := C19.out
                                            have q201 := C36.out
                                            obtain ⟨ad201, A201_0, c201_0, e201, hx201_0, hl201_0, hi201_0⟩ := at_L1 (Kd.S_reads' HO_10.out).2.2 d1 p201 q201
                                            cases e201
                                            clear hl201_0
                                            have p202 := C31.out
                                            have q202 := C37.out
                                            obtain ⟨ad202, e202, hx202_0⟩ := Kd.at_int hi201_0 x61 p202 q202
                                            cases e202
                                            clear hi201_0
                                            replace p201 := eq_true p201
                                            replace q201 := eq_true q201
                                            replace p202 := eq_true p202
                                            replace q202 := eq_true q202
                                            refine start_ (n := 13) (S := fun w' => w'.cell? (ad201.add ((d1)).toNat) = some (.slice (some ad202) (rd_L1 x10_2 (d1)).length c201_0) ∧ w'.cell? (ad202.add (x61).toNat) = some (.int .i64 (rd (rd_L1 x10_2 (d1)) x61))) (ds := []) #[false, false, false, false, false, false, false, false, false, false, false, false, false] (by kernel_rfl) rfl rfl ⟨hx201_0, hx202_0⟩ (fun hHeld => ?_); refine with_tabW spec_paTables.tab18 spec_paTables.bits18 (fun HT_ HW_ => ?_)
                                            generalize wr.drew = w39 at HO_9 HO_10 HR195 HR197 HR198 HR199 HB hx201_0 hx202_0 hHeld ⊢
                                            refine pure_ (i := 0) (N := some 66) (v := ?_) (a' := ?_) #[true, false, false, false, false, false, false, false, false, false, false, false, false] rfl rfl (any_of HT_.out (by kernel_rfl)) (fun _ _ _ h => h) (Or.inl ⟨by rfl, ?_⟩) ?_ ?_
                                            rotate_left
                                            · intro w'
                                              go_simp
                                              with_reducible rfl
                                            rotate_left
                                            · simp only [Act.put, List.setIfInBounds_toArray, List.set_cons_zero, List.set_cons_succ, i64_w, i32_w]
                                              rfl
                                            refine pure_ (i := 1) (N := some 67) (v := ?_) (a' := ?_) #[true, true, false, false, false, false, false, false, false, false, false, false, false] rfl rfl (any_of HT_.out (by kernel_rfl)) (fun _ _ _ h => h) (Or.inl ⟨by rfl, ?_⟩) ?_ ?_
                                            rotate_left
                                            · intro w'
                                              go_simp
                                              with_reducible rfl
                                            rotate_left
                                            · simp only [Act.put, List.setIfInBounds_toArray, List.set_cons_zero, List.set_cons_succ, i64_w, i32_w]
                                              rfl
                                            refine pure_ (i := 3) (N := some 69) (v := ?_) (a' := ?_) #[true, true, false, true, false, false, false, false, false, false, false, false, false] rfl rfl (any_of HT_.out (by kernel_rfl)) (fun _ _ _ h => h) (Or.inl ⟨by rfl, ?_⟩) ?_ ?_
                                            rotate_left
                                            · intro w'
                                              go_simp
                                              with_reducible rfl
                                            rotate_left
                                            · simp only [Act.put, List.setIfInBounds_toArray, List.set_cons_zero, List.set_cons_succ, i64_w, i32_w]
                                              rfl
                                            refine pure_ (i := 4) (N := some 70) (v := ?_) (a' := ?_) #[true, true, false, true, true, false, false, false, false, false, false, false, false] rfl rfl (any_of HT_.out (by kernel_rfl)) (fun _ _ _ h => h) (Or.inl ⟨by rfl, ?_⟩) ?_ ?_
                                            rotate_left
                                            · intro w'
                                              go_simp
                                              with_reducible rfl
                                            rotate_left
                                            · simp only [Act.put, List.setIfInBounds_toArray, List.set_cons_zero, List.set_cons_succ, i64_w, i32_w]
                                              rfl
                                            refine pure_ (i := 5) (N := some 71) (v := ?_) (a' := ?_) #[true, true, false, true, true, true, false, false, false, false, false, false, false] rfl rfl (any_of HT_.out (by kernel_rfl)) (fun _ _ _ h => h) (Or.inl ⟨by rfl, ?_⟩) ?_ ?_
                                            rotate_left
                                            · intro w'
                                              go_simp
                                              with_reducible rfl
                                            rotate_left
                                            · simp only [Act.put, List.setIfInBounds_toArray, List.set_cons_zero, List.set_cons_succ, i64_w, i32_w]
                                              rfl
                                            refine pure_ (i := 6) (N := some 72) (v := ?_) (a' := ?_) #[true, true, false, true, true, true, true, false, false, false, false, false, false] rfl rfl (any_of HT_.out (by kernel_rfl)) (fun _ _ _ h => h) (Or.inl ⟨by rfl, ?_⟩) ?_ ?_
                                            rotate_left
                                            · intro w'
                                              go_simp
                                              with_reducible rfl
                                            rotate_left
                                            · simp only [Act.put, List.setIfInBounds_toArray, List.set_cons_zero, List.set_cons_succ, i64_w, i32_w]
                                              rfl
                                            refine pure_ (i := 8) (N := some 74) (v := ?_) (a' := ?_) #[true, true, false, true, true, true, true, false, true, false, false, false, false] rfl rfl (any_of HT_.out (by kernel_rfl)) (fun _ _ _ h => h) (Or.inl ⟨by rfl, ?_⟩) ?_ ?_
                                            rotate_left
                                            · intro w'
                                              go_simp
                                              with_reducible rfl
                                            rotate_left
                                            · simp only [Act.put, List.setIfInBounds_toArray, List.set_cons_zero, List.set_cons_succ, i64_w, i32_w]
                                              rfl
                                            refine take_ (i := 7) (N := some 73) (v := ?_) (a' := ?_) #[true, true, false, true, true, true, true, true, true, false, false, false, false] rfl rfl (take_ofW HT_.out HW_.out (by kernel_rfl)) (fun _ _ _ h => h) (Or.inl ⟨by rfl, ?_⟩) hHeld ?_ ?_
                                            rotate_left
                                            · rintro w' ⟨s0, s1⟩
                                              go_simp
                                              with_reducible rfl
                                            rotate_left
                                            · simp only [Act.put, List.setIfInBounds_toArray, List.set_cons_zero, List.set_cons_succ, i64_w, i32_w]
                                              rfl
                                            refine pure_ (i := 9) (N := some 75) (v := ?_) (a' := ?_) #[true, true, false, true, true, true, true, true, true, true, false, false, false] rfl rfl (any_of HT_.out (by kernel_rfl)) (fun _ _ _ h => h) (Or.inl ⟨by rfl, ?_⟩) ?_ ?_
                                            rotate_left
                                            · intro w'
                                              go_simp
                                              with_reducible rfl
                                            rotate_left
                                            · simp only [Act.put, List.setIfInBounds_toArray, List.set_cons_zero, List.set_cons_succ, i64_w, i32_w]
                                              rfl
                                            refine take_ (i := 10) (N := some 76) (v := ?_) (a' := ?_) #[true, true, false, true, true, true, true, true, true, true, true, false, false] rfl rfl (take_ofW HT_.out HW_.out (by kernel_rfl)) (fun _ _ _ h => h) (Or.inl ⟨by rfl, ?_⟩) hHeld ?_ ?_
                                            rotate_left
                                            · rintro w' ⟨s0, s1⟩
                                              go_simp
                                              with_reducible rfl
                                            rotate_left
                                            · simp only [Act.put, List.setIfInBounds_toArray, List.set_cons_zero, List.set_cons_succ, i64_w, i32_w]
                                              rfl
                                            refine one_ (i := 2) (N := some 68) #[true, true, true, true, true, true, true, true, true, true, true, false, false] rfl rfl (one_of HT_.out (by kernel_rfl)) (by decide) (fun K hK => ?_)
                                            refine goes_ Try.func65 (by kernel_rfl) rfl #[.slice A197 (rd_L1 (rd_L2 y194 x11) x48).length c197, .slice A199 (rd_L1 (rd_L2 y194 (d1)) x61).length c199] (by rfl) rfl rfl (by (try simp only [List.map_toArray, List.map_cons, List.map_nil]); first | done | (rfl) | rfl | (simp only [List.length_drop, List.length_take]; rfl)) ?_
                                            with_reducible refine (spec_paMoves.calls k3 _ _ (rd_L1 (rd_L2 y194 x11) x48) _ _ (rd_L1 (rd_L2 y194 (d1)) x61) t200 _ ?side1 ?side2 ?side3 ?side4 A33.out).mono ?_
                                            (case side1 => repeat (first | exact (Kd.F_now HR197.out) | (with_reducible refine Kd.C_alloc ?_ _) | (with_reducible refine Kd.C_drewN ?_ _) | (with_reducible refine Kd.C_drew ?_)))
                                            (case side2 => exact HC197.out)
                                            (case side3 => repeat (first | exact (Kd.F_now HR199.out) | (with_reducible refine Kd.C_alloc ?_ _) | (with_reducible refine Kd.C_drewN ?_ _) | (with_reducible refine Kd.C_drew ?_)))
                                            (case side4 => exact HC199.out)
                                            rintro e w41 ⟨rfl, hb⟩
                                            have HS0_ := (hb.cell (World.block_lt_of_cell? _ _ (hHeld.1))).trans (hHeld.1)
                                            have HS1_ := (hb.cell (World.block_lt_of_cell? _ _ (hHeld.2))).trans (hHeld.2)
                                            refine ⟨_, rfl, ?_⟩
                                            have n_ := Aside0.mk (Kd.N_below (by (with_reducible repeat (first | exact HO_9.out | refine Kd.N_alloc ?_ _ | refine Kd.N_drewN ?_ _ | refine Kd.N_drew ?_))) hb); clear HO_9; have HO_9 := n_; clear n_
                                            have n_ := Aside0.mk (Kd.S_below (by (with_reducible repeat (first | exact HO_10.out | refine Kd.S_alloc ?_ _ | refine Kd.S_drewN ?_ _ | refine Kd.S_drew ?_))) hb); clear HO_10; have HO_10 := n_; clear n_
                                            have n_ := Aside0.mk (Kd.F_below (by (with_reducible repeat (first | exact HR195.out | refine Kd.F_alloc ?_ _ | refine Kd.F_drewN ?_ _ | refine Kd.F_drew ?_))) hb); clear HR195; have HR195 := n_; clear n_
                                            have n_ := Aside0.mk (Kd.F_below (by (with_reducible repeat (first | exact HR197.out | refine Kd.F_alloc ?_ _ | refine Kd.F_drewN ?_ _ | refine Kd.F_drew ?_))) hb); clear HR197; have HR197 := n_; clear n_
                                            have n_ := Aside0.mk (Kd.F_below (by (with_reducible repeat (first | exact HR198.out | refine Kd.F_alloc ?_ _ | refine Kd.F_drewN ?_ _ | refine Kd.F_drew ?_))) hb); clear HR198; have HR198 := n_; clear n_
                                            have n_ := Aside0.mk (below_step (by repeat (first | (with_reducible first | exact HB.out | apply below_alloc | apply pw_below_drewN | apply below_drew1) | exact HB.out)) hb); clear HB; have HB := n_; clear n_
                                            clear hb HR199
                                            refine hK.out _ _ ⟨HS0_, HS1_⟩ (fun hHeld => ?_)
                                            clear hK K
                                            refine norm_ (a' := ?_) ?_ ?_
                                            rotate_left
                                            · show Act.put _ (some 68) _ = _
                                              simp only [Act.put, List.setIfInBounds_toArray, List.set_cons_zero, List.set_cons_succ, i64_w, i32_w]
                                              rfl
                                            refine pure_ (i := 11) (N := some 77) (v := ?_) (a' := ?_) #[true, true, true, true, true, true, true, true, true, true, true, true, false] rfl rfl (any_of HT_.out (by kernel_rfl)) (fun _ _ _ h => h) (Or.inl ⟨by rfl, ?_⟩) ?_ ?_
                                            rotate_left
                                            · intro w'
                                              go_simp
                                              with_reducible rfl
                                            rotate_left
                                            · simp only [Act.put, List.setIfInBounds_toArray, List.set_cons_zero, List.set_cons_succ, i64_w, i32_w]
                                              rfl
                                            refine pure_ (i := 12) (N := some 17) (v := ?_) (a' := ?_) #[true, true, true, true, true, true, true, true, true, true, true, true, true] rfl rfl (any_of HT_.out (by kernel_rfl)) (fun _ _ _ h => h) (Or.inl ⟨by rfl, ?_⟩) ?_ ?_
                                            rotate_left
                                            · intro w'
                                              go_simp
                                              with_reducible rfl
                                            rotate_left
                                            · simp only [Act.put, List.setIfInBounds_toArray, List.set_cons_zero, List.set_cons_succ, i64_w, i32_w]
                                              rfl
                                            refine done_ (done_of HT_.out (by kernel_rfl)) ?_
                                            try go_wp2
                                            go_roundg k3
                                            case measure => have := HK1.out; have := HK2.out; have := HK3.out; omega
                                            case rel =>
                                              have e61 : wrap64 (x61 + 1) = x61 + 1 := by have := C30.out; have := C31.out; have := Kd.F_max HR198.out; unfold wrap64; omega
                                              exact ⟨(wrap64 (t200 + (rd (rd_L1 x10_2 d1) x61))), wrap64 (x61 + 1), (by first | rfl | (simp; done) | (simp [*]; done)), (by first | rfl | (simp; done) | (simp [*]; done)), H', ⟨by have := HK1.out; have := HK2.out; have := HK3.out; omega⟩, HO_10, HO_9, HR195, HR197, HR198, HB⟩
                                          · have c38b0 : decide (x14 < 0) = false := decide_eq_false c38
                                            by_cases c42 : (wrap64 (t200 + (rd (rd_L1 x10_2 d1) x61))) < x14
                                            · rw [show hwBest x14 (wrap64 (t200 + (rd (rd_L1 x10_2 d1) x61))) = (wrap64 (t200 + (rd (rd_L1 x10_2 d1) x61))) from (if_neg c38).trans (if_pos c42)] at H
                                              have c42b0 : decide ((wrap64 (t200 + (rd (rd_L1 x10_2 d1) x61))) < x14) = true := decide_eq_true c42
                                              clear c38 c42
                                              have H' := Aside0.mk H
                                              clear H
                                              obtain ⟨ad199, A199, c199, e199, hx199, hl199, hi199⟩ := hwF_row HR198.out x61 C31.out C30.out
                                              cases e199
                                              have HR199 := Aside0.mk (show Kd.F (Kd.int .i64) wr (fun k_ => w.heap.size ≤ k_ ∧ ¬ Z2 k_) A199 (rd_L1 (rd_L2 y194 d1) x61).length (rd_L1 (rd_L2 y194 d1) x61) from hi199)
                                              have HC199 := Aside0.mk (show (rd_L1 (rd_L2 y194 d1) x61).length ≤ c199 from hl199)
                                              replace hx199 : wr.cell? (ad199.add x61.toNat) = some (.slice A199 (rd_L1 (rd_L2 y194 d1) x61).length c199) := hx199
                                              clear hi199 hl199
                                              have p199 := eq_true C31.out
                                              have q199 := eq_true C30.out
                                              try go_wp2
                                              have n_ := Aside0.mk (Kd.N_drew HO_9.out); clear HO_9; have HO_9 := n_; clear n_
                                              have n_ := Aside0.mk (Kd.S_drew HO_10.out); clear HO_10; have HO_10 := n_; clear n_
                                              have n_ := Aside0.mk (Kd.F_drew HR195.out); clear HR195; have HR195 := n_; clear n_
                                              have n_ := Aside0.mk (Kd.F_drew HR197.out); clear HR197; have HR197 := n_; clear n_
                                              have n_ := Aside0.mk (Kd.F_drew HR198.out); clear HR198; have HR198 := n_; clear n_
                                              have n_ := Aside0.mk (Kd.F_drew HR199.out); clear HR199; have HR199 := n_; clear n_
                                              have n_ := Aside0.mk (below_drew1 HB.out); clear HB; have HB := n_; clear n_
                                              obtain ⟨Ao40, co40, eo40⟩ := Kd.S_slice HO_10.out
                                              subst eo40
                                              have p201 := C19.out
                                              have q201 := C36.out
                                              obtain ⟨ad201, A201_0, c201_0, e201, hx201_0, hl201_0, hi201_0⟩ := at_L1 (Kd.S_reads' HO_10.out).2.2 d1 p201 q201
                                              cases e201
                                              clear hl201_0
                                              have p202 := C31.out
                                              have q202 := C37.out
                                              obtain ⟨ad202, e202, hx202_0⟩ := Kd.at_int hi201_0 x61 p202 q202
                                              cases e202
                                              clear hi201_0
                                              replace p201 := eq_true p201
                                              replace q201 := eq_true q201
                                              replace p202 := eq_true p202
                                              replace q202 := eq_true q202
                                              refine start_ (n := 13) (S := fun w' => w'.cell? (ad201.add ((d1)).toNat) = some (.slice (some ad202) (rd_L1 x10_2 (d1)).length c201_0) ∧ w'.cell? (ad202.add (x61).toNat) = some (.int .i64 (rd (rd_L1 x10_2 (d1)) x61))) (ds := []) #[false, false, false, false, false, false, false, false, false, false, false, false, false] (by kernel_rfl) rfl rfl ⟨hx201_0, hx202_0⟩ (fun hHeld => ?_); refine with_tabW spec_paTables.tab18 spec_paTables.bits18 (fun HT_ HW_ => ?_)
                                              generalize wr.drew = w39 at HO_9 HO_10 HR195 HR197 HR198 HR199 HB hx201_0 hx202_0 hHeld ⊢
                                              refine pure_ (i := 0) (N := some 66) (v := ?_) (a' := ?_) #[true, false, false, false, false, false, false, false, false, false, false, false, false] rfl rfl (any_of HT_.out (by kernel_rfl)) (fun _ _ _ h => h) (Or.inl ⟨by rfl, ?_⟩) ?_ ?_
                                              rotate_left
                                              · intro w'
                                                go_simp
                                                with_reducible rfl
                                              rotate_left
                                              · simp only [Act.put, List.setIfInBounds_toArray, List.set_cons_zero, List.set_cons_succ, i64_w, i32_w]
                                                rfl
                                              refine pure_ (i := 1) (N := some 67) (v := ?_) (a' := ?_) #[true, true, false, false, false, false, false, false, false, false, false, false, false] rfl rfl (any_of HT_.out (by kernel_rfl)) (fun _ _ _ h => h) (Or.inl ⟨by rfl, ?_⟩) ?_ ?_
                                              rotate_left
                                              · intro w'
                                                go_simp
                                                with_reducible rfl
                                              rotate_left
                                              · simp only [Act.put, List.setIfInBounds_toArray, List.set_cons_zero, List.set_cons_succ, i64_w, i32_w]
                                                rfl
                                              refine pure_ (i := 3) (N := some 69) (v := ?_) (a' := ?_) #[true, true, false, true, false, false, false, false, false, false, false, false, false] rfl rfl (any_of HT_.out (by kernel_rfl)) (fun _ _ _ h => h) (Or.inl ⟨by rfl, ?_⟩) ?_ ?_
                                              rotate_left
                                              · intro w'
                                                go_simp
                                                with_reducible rfl
                                              rotate_left
                                              · simp only [Act.put, List.setIfInBounds_toArray, List.set_cons_zero, List.set_cons_succ, i64_w, i32_w]
                                                rfl
                                              refine pure_ (i := 4) (N := some 70) (v := ?_) (a' := ?_) #[true, true, false, true, true, false, false, false, false, false, false, false, false] rfl rfl (any_of HT_.out (by kernel_rfl)) (fun _ _ _ h => h) (Or.inl ⟨by rfl, ?_⟩) ?_ ?_
                                              rotate_left
                                              · intro w'
                                                go_simp
                                                with_reducible rfl
                                              rotate_left
                                              · simp only [Act.put, List.setIfInBounds_toArray, List.set_cons_zero, List.set_cons_succ, i64_w, i32_w]
                                                rfl
                                              refine pure_ (i := 5) (N := some 71) (v := ?_) (a' := ?_) #[true, true, false, true, true, true, false, false, false, false, false, false, false] rfl rfl (any_of HT_.out (by kernel_rfl)) (fun _ _ _ h => h) (Or.inl ⟨by rfl, ?_⟩) ?_ ?_
                                              rotate_left
                                              · intro w'
                                                go_simp
                                                with_reducible rfl
                                              rotate_left
                                              · simp only [Act.put, List.setIfInBounds_toArray, List.set_cons_zero, List.set_cons_succ, i64_w, i32_w]
                                                rfl
                                              refine pure_ (i := 6) (N := some 72) (v := ?_) (a' := ?_) #[true, true, false, true, true, true, true, false, false, false, false, false, false] rfl rfl (any_of HT_.out (by kernel_rfl)) (fun _ _ _ h => h) (Or.inl ⟨by rfl, ?_⟩) ?_ ?_
                                              rotate_left
                                              · intro w'
                                                go_simp
                                                with_reducible rfl
                                              rotate_left
                                              · simp only [Act.put, List.setIfInBounds_toArray, List.set_cons_zero, List.set_cons_succ, i64_w, i32_w]
                                                rfl
                                              refine pure_ (i := 8) (N := some 74) (v := ?_) (a' := ?_) #[true, true, false, true, true, true, true, false, true, false, false, false, false] rfl rfl (any_of HT_.out (by kernel_rfl)) (fun _ _ _ h => h) (Or.inl ⟨by rfl, ?_⟩) ?_ ?_
                                              rotate_left
                                              · intro w'
                                                go_simp
                                                with_reducible rfl
                                              rotate_left
                                              · simp only [Act.put, List.setIfInBounds_toArray, List.set_cons_zero, List.set_cons_succ, i64_w, i32_w]
                                                rfl
                                              refine take_ (i := 7) (N := some 73) (v := ?_) (a' := ?_) #[true, true, false, true, true, true, true, true, true, false, false, false, false] rfl rfl (take_ofW HT_.out HW_.out (by kernel_rfl)) (fun _ _ _ h => h) (Or.inl ⟨by rfl, ?_⟩) hHeld ?_ ?_
                                              rotate_left
                                              · rintro w' ⟨s0, s1⟩
                                                go_simp
                                                with_reducible rfl
                                              rotate_left
                                              · simp only [Act.put, List.setIfInBounds_toArray, List.set_cons_zero, List.set_cons_succ, i64_w, i32_w]
                                                rfl
                                              refine pure_ (i := 9) (N := some 75) (v := ?_) (a' := ?_) #[true, true, false, true, true, true, true, true, true, true, false, false, false] rfl rfl (any_of HT_.out (by kernel_rfl)) (fun _ _ _ h => h) (Or.inl ⟨by rfl, ?_⟩) ?_ ?_
                                              rotate_left
                                              · intro w'
                                                go_simp
                                                with_reducible rfl
                                              rotate_left
                                              · simp only [Act.put, List.setIfInBounds_toArray, List.set_cons_zero, List.set_cons_succ, i64_w, i32_w]
                                                rfl
                                              refine take_ (i := 10) (N := some 76) (v := ?_) (a' := ?_) #[true, true, false, true, true, true, true, true, true, true, true, false, false] rfl rfl (take_ofW HT_.out HW_.out (by kernel_rfl)) (fun _ _ _ h => h) (Or.inl ⟨by rfl, ?_⟩) hHeld ?_ ?_
                                              rotate_left
                                              · rintro w' ⟨s0, s1⟩
                                                go_simp
                                                with_reducible rfl
                                              rotate_left
                                              · simp only [Act.put, List.setIfInBounds_toArray, List.set_cons_zero, List.set_cons_succ, i64_w, i32_w]
                                                rfl
                                              refine one_ (i := 2) (N := some 68) #[true, true, true, true, true, true, true, true, true, true, true, false, false] rfl rfl (one_of HT_.out (by kernel_rfl)) (by decide) (fun K hK => ?_)
                                              refine goes_ Try.func65 (by kernel_rfl) rfl #[.slice A197 (rd_L1 (rd_L2 y194 x11) x48).length c197, .slice A199 (rd_L1 (rd_L2 y194 (d1)) x61).length c199] (by rfl) rfl rfl (by (try simp only [List.map_toArray, List.map_cons, List.map_nil]); first | done | (rfl) | rfl | (simp only [List.length_drop, List.length_take]; rfl)) ?_
                                              with_reducible refine (spec_paMoves.calls k3 _ _ (rd_L1 (rd_L2 y194 x11) x48) _ _ (rd_L1 (rd_L2 y194 (d1)) x61) t200 _ ?side1 ?side2 ?side3 ?side4 A33.out).mono ?_
                                              (case side1 => repeat (first | exact (Kd.F_now HR197.out) | (with_reducible refine Kd.C_alloc ?_ _) | (with_reducible refine Kd.C_drewN ?_ _) | (with_reducible refine Kd.C_drew ?_)))
                                              (case side2 => exact HC197.out)
                                              (case side3 => repeat (first | exact (Kd.F_now HR199.out) | (with_reducible refine Kd.C_alloc ?_ _) | (with_reducible refine Kd.C_drewN ?_ _) | (with_reducible refine Kd.C_drew ?_)))
                                              (case side4 => exact HC199.out)
                                              rintro e w41 ⟨rfl, hb⟩
                                              have HS0_ := (hb.cell (World.block_lt_of_cell? _ _ (hHeld.1))).trans (hHeld.1)
                                              have HS1_ := (hb.cell (World.block_lt_of_cell? _ _ (hHeld.2))).trans (hHeld.2)
                                              refine ⟨_, rfl, ?_⟩
                                              have n_ := Aside0.mk (Kd.N_below (by (with_reducible repeat (first | exact HO_9.out | refine Kd.N_alloc ?_ _ | refine Kd.N_drewN ?_ _ | refine Kd.N_drew ?_))) hb); clear HO_9; have HO_9 := n_; clear n_
                                              have n_ := Aside0.mk (Kd.S_below (by (with_reducible repeat (first | exact HO_10.out | refine Kd.S_alloc ?_ _ | refine Kd.S_drewN ?_ _ | refine Kd.S_drew ?_))) hb); clear HO_10; have HO_10 := n_; clear n_
                                              have n_ := Aside0.mk (Kd.F_below (by (with_reducible repeat (first | exact HR195.out | refine Kd.F_alloc ?_ _ | refine Kd.F_drewN ?_ _ | refine Kd.F_drew ?_))) hb); clear HR195; have HR195 := n_; clear n_
                                              have n_ := Aside0.mk (Kd.F_below (by (with_reducible repeat (first | exact HR197.out | refine Kd.F_alloc ?_ _ | refine Kd.F_drewN ?_ _ | refine Kd.F_drew ?_))) hb); clear HR197; have HR197 := n_; clear n_
                                              have n_ := Aside0.mk (Kd.F_below (by (with_reducible repeat (first | exact HR198.out | refine Kd.F_alloc ?_ _ | refine Kd.F_drewN ?_ _ | refine Kd.F_drew ?_))) hb); clear HR198; have HR198 := n_; clear n_
                                              have n_ := Aside0.mk (below_step (by repeat (first | (with_reducible first | exact HB.out | apply below_alloc | apply pw_below_drewN | apply below_drew1) | exact HB.out)) hb); clear HB; have HB := n_; clear n_
                                              clear hb HR199
                                              refine hK.out _ _ ⟨HS0_, HS1_⟩ (fun hHeld => ?_)
                                              clear hK K
                                              refine norm_ (a' := ?_) ?_ ?_
                                              rotate_left
                                              · show Act.put _ (some 68) _ = _
                                                simp only [Act.put, List.setIfInBounds_toArray, List.set_cons_zero, List.set_cons_succ, i64_w, i32_w]
                                                rfl
                                              refine pure_ (i := 11) (N := some 77) (v := ?_) (a' := ?_) #[true, true, true, true, true, true, true, true, true, true, true, true, false] rfl rfl (any_of HT_.out (by kernel_rfl)) (fun _ _ _ h => h) (Or.inl ⟨by rfl, ?_⟩) ?_ ?_
                                              rotate_left
                                              · intro w'
                                                go_simp
                                                with_reducible rfl
                                              rotate_left
                                              · simp only [Act.put, List.setIfInBounds_toArray, List.set_cons_zero, List.set_cons_succ, i64_w, i32_w]
                                                rfl
                                              refine pure_ (i := 12) (N := some 17) (v := ?_) (a' := ?_) #[true, true, true, true, true, true, true, true, true, true, true, true, true] rfl rfl (any_of HT_.out (by kernel_rfl)) (fun _ _ _ h => h) (Or.inl ⟨by rfl, ?_⟩) ?_ ?_
                                              rotate_left
                                              · intro w'
                                                go_simp
                                                with_reducible rfl
                                              rotate_left
                                              · simp only [Act.put, List.setIfInBounds_toArray, List.set_cons_zero, List.set_cons_succ, i64_w, i32_w]
                                                rfl
                                              refine done_ (done_of HT_.out (by kernel_rfl)) ?_
                                              try go_wp2
                                              go_roundg k3
                                              case measure => have := HK1.out; have := HK2.out; have := HK3.out; omega
                                              case rel =>
                                                have e61 : wrap64 (x61 + 1) = x61 + 1 := by have := C30.out; have := C31.out; have := Kd.F_max HR198.out; unfold wrap64; omega
                                                exact ⟨(wrap64 (t200 + (rd (rd_L1 x10_2 d1) x61))), wrap64 (x61 + 1), (by first | rfl | (simp; done) | (simp [*]; done)), (by first | rfl | (simp; done) | (simp [*]; done)), H', ⟨by have := HK1.out; have := HK2.out; have := HK3.out; omega⟩, HO_10, HO_9, HR195, HR197, HR198, HB⟩
                                            · rw [show hwBest x14 (wrap64 (t200 + (rd (rd_L1 x10_2 d1) x61))) = x14 from (if_neg c38).trans (if_neg c42)] at H
                                              have c42b0 : decide ((wrap64 (t200 + (rd (rd_L1 x10_2 d1) x61))) < x14) = false := decide_eq_false c42
                                              clear c38 c42
                                              have H' := Aside0.mk H
                                              clear H
                                              obtain ⟨ad199, A199, c199, e199, hx199, hl199, hi199⟩ := hwF_row HR198.out x61 C31.out C30.out
                                              cases e199
                                              have HR199 := Aside0.mk (show Kd.F (Kd.int .i64) wr (fun k_ => w.heap.size ≤ k_ ∧ ¬ Z2 k_) A199 (rd_L1 (rd_L2 y194 d1) x61).length (rd_L1 (rd_L2 y194 d1) x61) from hi199)
                                              have HC199 := Aside0.mk (show (rd_L1 (rd_L2 y194 d1) x61).length ≤ c199 from hl199)
                                              replace hx199 : wr.cell? (ad199.add x61.toNat) = some (.slice A199 (rd_L1 (rd_L2 y194 d1) x61).length c199) := hx199
                                              clear hi199 hl199
                                              have p199 := eq_true C31.out
                                              have q199 := eq_true C30.out
                                              try go_wp2
                                              have n_ := Aside0.mk (Kd.N_drew HO_9.out); clear HO_9; have HO_9 := n_; clear n_
                                              have n_ := Aside0.mk (Kd.S_drew HO_10.out); clear HO_10; have HO_10 := n_; clear n_
                                              have n_ := Aside0.mk (Kd.F_drew HR195.out); clear HR195; have HR195 := n_; clear n_
                                              have n_ := Aside0.mk (Kd.F_drew HR197.out); clear HR197; have HR197 := n_; clear n_
                                              have n_ := Aside0.mk (Kd.F_drew HR198.out); clear HR198; have HR198 := n_; clear n_
                                              have n_ := Aside0.mk (Kd.F_drew HR199.out); clear HR199; have HR199 := n_; clear n_
                                              have n_ := Aside0.mk (below_drew1 HB.out); clear HB; have HB := n_; clear n_
                                              obtain ⟨Ao40, co40, eo40⟩ := Kd.S_slice HO_10.out
                                              subst eo40
                                              have p201 := C19.out
                                              have q201 := C36.out
                                              obtain ⟨ad201, A201_0, c201_0, e201, hx201_0, hl201_0, hi201_0⟩ := at_L1 (Kd.S_reads' HO_10.out).2.2 d1 p201 q201
                                              cases e201
                                              clear hl201_0
                                              have p202 := C31.out
                                              have q202 := C37.out
                                              obtain ⟨ad202, e202, hx202_0⟩ := Kd.at_int hi201_0 x61 p202 q202
                                              cases e202
                                              clear hi201_0
                                              replace p201 := eq_true p201
                                              replace q201 := eq_true q201
                                              replace p202 := eq_true p202
                                              replace q202 := eq_true q202
                                              refine start_ (n := 13) (S := fun w' => w'.cell? (ad201.add ((d1)).toNat) = some (.slice (some ad202) (rd_L1 x10_2 (d1)).length c201_0) ∧ w'.cell? (ad202.add (x61).toNat) = some (.int .i64 (rd (rd_L1 x10_2 (d1)) x61))) (ds := []) #[false, false, false, false, false, false, false, false, false, false, false, false, false] (by kernel_rfl) rfl rfl ⟨hx201_0, hx202_0⟩ (fun hHeld => ?_); refine with_tabW spec_paTables.tab18 spec_paTables.bits18 (fun HT_ HW_ => ?_)
                                              generalize wr.drew = w39 at HO_9 HO_10 HR195 HR197 HR198 HR199 HB hx201_0 hx202_0 hHeld ⊢
                                              refine pure_ (i := 0) (N := some 66) (v := ?_) (a' := ?_) #[true, false, false, false, false, false, false, false, false, false, false, false, false] rfl rfl (any_of HT_.out (by kernel_rfl)) (fun _ _ _ h => h) (Or.inl ⟨by rfl, ?_⟩) ?_ ?_
                                              rotate_left
                                              · intro w'
                                                go_simp
                                                with_reducible rfl
                                              rotate_left
                                              · simp only [Act.put, List.setIfInBounds_toArray, List.set_cons_zero, List.set_cons_succ, i64_w, i32_w]
                                                rfl
                                              refine pure_ (i := 1) (N := some 67) (v := ?_) (a' := ?_) #[true, true, false, false, false, false, false, false, false, false, false, false, false] rfl rfl (any_of HT_.out (by kernel_rfl)) (fun _ _ _ h => h) (Or.inl ⟨by rfl, ?_⟩) ?_ ?_
                                              rotate_left
                                              · intro w'
                                                go_simp
                                                with_reducible rfl
                                              rotate_left
                                              · simp only [Act.put, List.setIfInBounds_toArray, List.set_cons_zero, List.set_cons_succ, i64_w, i32_w]
                                                rfl
                                              refine pure_ (i := 3) (N := some 69) (v := ?_) (a' := ?_) #[true, true, false, true, false, false, false, false, false, false, false, false, false] rfl rfl (any_of HT_.out (by kernel_rfl)) (fun _ _ _ h => h) (Or.inl ⟨by rfl, ?_⟩) ?_ ?_
                                              rotate_left
                                              · intro w'
                                                go_simp
                                                with_reducible rfl
                                              rotate_left
                                              · simp only [Act.put, List.setIfInBounds_toArray, List.set_cons_zero, List.set_cons_succ, i64_w, i32_w]
                                                rfl
                                              refine pure_ (i := 4) (N := some 70) (v := ?_) (a' := ?_) #[true, true, false, true, true, false, false, false, false, false, false, false, false] rfl rfl (any_of HT_.out (by kernel_rfl)) (fun _ _ _ h => h) (Or.inl ⟨by rfl, ?_⟩) ?_ ?_
                                              rotate_left
                                              · intro w'
                                                go_simp
                                                with_reducible rfl
                                              rotate_left
                                              · simp only [Act.put, List.setIfInBounds_toArray, List.set_cons_zero, List.set_cons_succ, i64_w, i32_w]
                                                rfl
                                              refine pure_ (i := 5) (N := some 71) (v := ?_) (a' := ?_) #[true, true, false, true, true, true, false, false, false, false, false, false, false] rfl rfl (any_of HT_.out (by kernel_rfl)) (fun _ _ _ h => h) (Or.inl ⟨by rfl, ?_⟩) ?_ ?_
                                              rotate_left
                                              · intro w'
                                                go_simp
                                                with_reducible rfl
                                              rotate_left
                                              · simp only [Act.put, List.setIfInBounds_toArray, List.set_cons_zero, List.set_cons_succ, i64_w, i32_w]
                                                rfl
                                              refine pure_ (i := 6) (N := some 72) (v := ?_) (a' := ?_) #[true, true, false, true, true, true, true, false, false, false, false, false, false] rfl rfl (any_of HT_.out (by kernel_rfl)) (fun _ _ _ h => h) (Or.inl ⟨by rfl, ?_⟩) ?_ ?_
                                              rotate_left
                                              · intro w'
                                                go_simp
                                                with_reducible rfl
                                              rotate_left
                                              · simp only [Act.put, List.setIfInBounds_toArray, List.set_cons_zero, List.set_cons_succ, i64_w, i32_w]
                                                rfl
                                              refine pure_ (i := 8) (N := some 74) (v := ?_) (a' := ?_) #[true, true, false, true, true, true, true, false, true, false, false, false, false] rfl rfl (any_of HT_.out (by kernel_rfl)) (fun _ _ _ h => h) (Or.inl ⟨by rfl, ?_⟩) ?_ ?_
                                              rotate_left
                                              · intro w'
                                                go_simp
                                                with_reducible rfl
                                              rotate_left
                                              · simp only [Act.put, List.setIfInBounds_toArray, List.set_cons_zero, List.set_cons_succ, i64_w, i32_w]
                                                rfl
                                              refine take_ (i := 7) (N := some 73) (v := ?_) (a' := ?_) #[true, true, false, true, true, true, true, true, true, false, false, false, false] rfl rfl (take_ofW HT_.out HW_.out (by kernel_rfl)) (fun _ _ _ h => h) (Or.inl ⟨by rfl, ?_⟩) hHeld ?_ ?_
                                              rotate_left
                                              · rintro w' ⟨s0, s1⟩
                                                go_simp
                                                with_reducible rfl
                                              rotate_left
                                              · simp only [Act.put, List.setIfInBounds_toArray, List.set_cons_zero, List.set_cons_succ, i64_w, i32_w]
                                                rfl
                                              refine pure_ (i := 9) (N := some 75) (v := ?_) (a' := ?_) #[true, true, false, true, true, true, true, true, true, true, false, false, false] rfl rfl (any_of HT_.out (by kernel_rfl)) (fun _ _ _ h => h) (Or.inl ⟨by rfl, ?_⟩) ?_ ?_
                                              rotate_left
                                              · intro w'
                                                go_simp
                                                with_reducible rfl
                                              rotate_left
                                              · simp only [Act.put, List.setIfInBounds_toArray, List.set_cons_zero, List.set_cons_succ, i64_w, i32_w]
                                                rfl
                                              refine take_ (i := 10) (N := some 76) (v := ?_) (a' := ?_) #[true, true, false, true, true, true, true, true, true, true, true, false, false] rfl rfl (take_ofW HT_.out HW_.out (by kernel_rfl)) (fun _ _ _ h => h) (Or.inl ⟨by rfl, ?_⟩) hHeld ?_ ?_
                                              rotate_left
                                              · rintro w' ⟨s0, s1⟩
                                                go_simp
                                                with_reducible rfl
                                              rotate_left
                                              · simp only [Act.put, List.setIfInBounds_toArray, List.set_cons_zero, List.set_cons_succ, i64_w, i32_w]
                                                rfl
                                              refine one_ (i := 2) (N := some 68) #[true, true, true, true, true, true, true, true, true, true, true, false, false] rfl rfl (one_of HT_.out (by kernel_rfl)) (by decide) (fun K hK => ?_)
                                              refine goes_ Try.func65 (by kernel_rfl) rfl #[.slice A197 (rd_L1 (rd_L2 y194 x11) x48).length c197, .slice A199 (rd_L1 (rd_L2 y194 (d1)) x61).length c199] (by rfl) rfl rfl (by (try simp only [List.map_toArray, List.map_cons, List.map_nil]); first | done | (rfl) | rfl | (simp only [List.length_drop, List.length_take]; rfl)) ?_
                                              with_reducible refine (spec_paMoves.calls k3 _ _ (rd_L1 (rd_L2 y194 x11) x48) _ _ (rd_L1 (rd_L2 y194 (d1)) x61) t200 _ ?side1 ?side2 ?side3 ?side4 A33.out).mono ?_
                                              (case side1 => repeat (first | exact (Kd.F_now HR197.out) | (with_reducible refine Kd.C_alloc ?_ _) | (with_reducible refine Kd.C_drewN ?_ _) | (with_reducible refine Kd.C_drew ?_)))
                                              (case side2 => exact HC197.out)
                                              (case side3 => repeat (first | exact (Kd.F_now HR199.out) | (with_reducible refine Kd.C_alloc ?_ _) | (with_reducible refine Kd.C_drewN ?_ _) | (with_reducible refine Kd.C_drew ?_)))
                                              (case side4 => exact HC199.out)
                                              rintro e w41 ⟨rfl, hb⟩
                                              have HS0_ := (hb.cell (World.block_lt_of_cell? _ _ (hHeld.1))).trans (hHeld.1)
                                              have HS1_ := (hb.cell (World.block_lt_of_cell? _ _ (hHeld.2))).trans (hHeld.2)
                                              refine ⟨_, rfl, ?_⟩
                                              have n_ := Aside0.mk (Kd.N_below (by (with_reducible repeat (first | exact HO_9.out | refine Kd.N_alloc ?_ _ | refine Kd.N_drewN ?_ _ | refine Kd.N_drew ?_))) hb); clear HO_9; have HO_9 := n_; clear n_
                                              have n_ := Aside0.mk (Kd.S_below (by (with_reducible repeat (first | exact HO_10.out | refine Kd.S_alloc ?_ _ | refine Kd.S_drewN ?_ _ | refine Kd.S_drew ?_))) hb); clear HO_10; have HO_10 := n_; clear n_
                                              have n_ := Aside0.mk (Kd.F_below (by (with_reducible repeat (first | exact HR195.out | refine Kd.F_alloc ?_ _ | refine Kd.F_drewN ?_ _ | refine Kd.F_drew ?_))) hb); clear HR195; have HR195 := n_; clear n_
                                              have n_ := Aside0.mk (Kd.F_below (by (with_reducible repeat (first | exact HR197.out | refine Kd.F_alloc ?_ _ | refine Kd.F_drewN ?_ _ | refine Kd.F_drew ?_))) hb); clear HR197; have HR197 := n_; clear n_
                                              have n_ := Aside0.mk (Kd.F_below (by (with_reducible repeat (first | exact HR198.out | refine Kd.F_alloc ?_ _ | refine Kd.F_drewN ?_ _ | refine Kd.F_drew ?_))) hb); clear HR198; have HR198 := n_; clear n_
                                              have n_ := Aside0.mk (below_step (by repeat (first | (with_reducible first | exact HB.out | apply below_alloc | apply pw_below_drewN | apply below_drew1) | exact HB.out)) hb); clear HB; have HB := n_; clear n_
                                              clear hb HR199
                                              refine hK.out _ _ ⟨HS0_, HS1_⟩ (fun hHeld => ?_)
                                              clear hK K
                                              refine norm_ (a' := ?_) ?_ ?_
                                              rotate_left
                                              · show Act.put _ (some 68) _ = _
                                                simp only [Act.put, List.setIfInBounds_toArray, List.set_cons_zero, List.set_cons_succ, i64_w, i32_w]
                                                rfl
                                              refine pure_ (i := 11) (N := some 77) (v := ?_) (a' := ?_) #[true, true, true, true, true, true, true, true, true, true, true, true, false] rfl rfl (any_of HT_.out (by kernel_rfl)) (fun _ _ _ h => h) (Or.inl ⟨by rfl, ?_⟩) ?_ ?_
                                              rotate_left
                                              · intro w'
                                                go_simp
                                                with_reducible rfl
                                              rotate_left
                                              · simp only [Act.put, List.setIfInBounds_toArray, List.set_cons_zero, List.set_cons_succ, i64_w, i32_w]
                                                rfl
                                              refine pure_ (i := 12) (N := some 17) (v := ?_) (a' := ?_) #[true, true, true, true, true, true, true, true, true, true, true, true, true] rfl rfl (any_of HT_.out (by kernel_rfl)) (fun _ _ _ h => h) (Or.inl ⟨by rfl, ?_⟩) ?_ ?_
                                              rotate_left
                                              · intro w'
                                                go_simp
                                                with_reducible rfl
                                              rotate_left
                                              · simp only [Act.put, List.setIfInBounds_toArray, List.set_cons_zero, List.set_cons_succ, i64_w, i32_w]
                                                rfl
                                              refine done_ (done_of HT_.out (by kernel_rfl)) ?_
                                              try go_wp2
                                              go_roundg k3
                                              case measure => have := HK1.out; have := HK2.out; have := HK3.out; omega
                                              case rel =>
                                                have e61 : wrap64 (x61 + 1) = x61 + 1 := by have := C30.out; have := C31.out; have := Kd.F_max HR198.out; unfold wrap64; omega
                                                exact ⟨x14, wrap64 (x61 + 1), (by first | rfl | (simp; done) | (simp [*]; done)), (by first | rfl | (simp; done) | (simp [*]; done)), H', ⟨by have := HK1.out; have := HK2.out; have := HK3.out; omega⟩, HO_10, HO_9, HR195, HR197, HR198, HB⟩
                                        · rw [if_neg c37] at H
                                          exact absurd H (by simp)
                                      · rw [if_neg c36] at H
                                        exact absurd H (by simp)
                                    · rw [if_neg c31] at H
                                      exact absurd H (by simp)
                                  · rw [if_neg c30] at H
                                    have c30b0 : decide (x61 < ((rd_L2 y194 d1).length : Int)) = false := decide_eq_false c30
                                    clear c30
                                    by_cases c30 : x11 < (x10_2.length : Int)
                                    · rw [if_pos c30] at H
                                      replace H := Option.bind_eq_some_iff.mp H
                                      obtain ⟨t204, A340, H⟩ := H
                                      obtain ⟨hpl, ht204⟩ := hwPush_some A340
                                      clear A340
                                      have H' := Aside0.mk H
                                      clear H
                                      have HPL := Aside0.mk hpl
                                      have HT204 := Aside0.mk ht204
                                      clear hpl ht204
                                      obtain ⟨go52, co52, eo52, gb52, gl52, cl52, HG52⟩ := Kd.R_form (Kd.S_R HO_10.out) (by have := C11.out; omega)
                                      subst eo52
                                      have hgo := (Kd.S_R HO_10.out).1 go52 rfl
                                      have HS3 := Kd.S_mono (ok' := fun k_ => Z2 k_ ∨ wr.heap.size ≤ k_) HO_10.out (fun _ hk => .inl hk)
                                      have HN3 := Aside0.mk (Kd.N_mono (ok' := fun k_ => w.heap.size ≤ k_ ∧ ¬ (Z2 k_ ∨ wr.heap.size ≤ k_)) (Kd.N_bound HO_9.out) (fun k_ hk => ⟨hk.1.1, fun h_ => h_.elim hk.1.2 (fun h2_ => by have := hk.2; omega)⟩))
                                      have HF3 := Aside0.mk (Kd.F_mono (ok' := fun k_ => w.heap.size ≤ k_ ∧ ¬ (Z2 k_ ∨ wr.heap.size ≤ k_)) (Kd.F_bound HR195.out) (fun k_ hk => ⟨hk.1.1, fun h_ => h_.elim hk.1.2 (fun h2_ => by have := hk.2; omega)⟩))
                                      obtain ⟨oki, Au, cu, hxu, hRu, hoki, hH⟩ := hwS_lend HS3 x11 C11.out c30
                                      have HH := Aside0.mk hH
                                      have HRu := Aside0.mk hRu
                                      have HOki := Aside0.mk hoki
                                      have GO52 := Aside0.mk hgo
                                      have GB52 := Aside0.mk gb52
                                      have C30 := Aside0.mk c30
                                      clear HS3 hH hRu hoki hgo gb52 gl52 HG52 HO_10 HO_9 HR195 c30
                                      have p11 := eq_true C11.out
                                      have q11 := eq_true C30.out
                                      go_wp2_with (first | ((with_reducible refine gate_builtin (b := .append) (xs := #[.tmp 92, .tmp 94]) rfl ?_); at_builtin; refine Kd.R_append (Kd.int .i64) (w0 := w) w.heap.size rfl (.tmp 92) (.tmp 94) 22 3 (.int .i64 0) 8 rfl Try.underlying22 hwInfoI rfl (by decide) (by omega) (.slice Au (rd_L1 x10_2 x11).length cu) (rd_L1 x10_2 x11) x14 [.int .i64 x14] (fun k_ => oki k_ ∨ ((Z2 k_ ∨ wr.heap.size ≤ k_) ∧ wr.heap.size ≤ k_)) (fun _ => False) rfl rfl ?aP (fun _ hk => hk.elim) ?aF ?aO ?aB ?aS ?aL ?_; (case aP => exact rfl); (case aF => exact (fun k_ hk => .inr ⟨.inr hk, hk⟩)); (case aO => exact (Kd.R_mono HRu.out (fun _ hk => .inl hk))); (case aB => exact HB.out); (case aS => exact HB.out.size); (case aL => have := HPL.out; omega); intro v163 w25 ho hb hg hat; rw [← HT204.out] at ho; obtain ⟨Ao, co, eo⟩ := Kd.R_slice ho; subst eo; have hgw := hg; have hbk := hwS_back HH.out C11.out C30.out hgw (fun k_ hk => HRu.out.1 k_ hk) ho; obtain ⟨hx26, hf26, hp26, hg26⟩ := hbk; have HP26 := Aside0.mk hp26; have HN4 := Aside0.mk (Kd.N_grown HN3.out hgw (fun k_ hk e_ => hk.2 (HOki.out k_ (HRu.out.1 k_ e_.symm)).1)); have HF4 := Aside0.mk (Kd.F_grown HF3.out hgw (fun k_ hk e_ => hk.2 (HOki.out k_ (HRu.out.1 k_ e_.symm)).1)); have HB4 := Aside0.mk hb; clear hp26 hg26 hgw ho hb hg hat HN3 HF3 HB HH HRu HOki) | ((with_reducible refine gate_store (t := 22) (p := 96) rfl ?_); refine store_event (t := 22) (p := 96) (v := ?vo_w27) (w1 := (w25.setCell ⟨go52, x11.toNat, none⟩ (.slice Ao t204.length co))) ?hg ?ho ?hn ?hr ?_; (case ho => rfl); (case hg => rfl); (case hn => rfl); (case hr => first | (go_simp; done) | (go_simp; rfl)); intro w27 hw; have HO_10 := Aside0.mk (show Kd.S (Kd.slice 3 (Kd.int .i64)) 22 w27 w.heap.size (fun k_ => Z2 k_ ∨ wr.heap.size ≤ k_) (.slice (some ⟨go52, 0, none⟩) x10_2.length co52) (x10_2.set x11.toNat t204) by rw [hw]; exact HP26.out); have HO_9 := Aside0.mk (show Kd.N (Kd.slice 22 (Kd.slice 3 (Kd.int .i64))) 23 w27 w.heap.size (fun k_ => w.heap.size ≤ k_ ∧ ¬ (Z2 k_ ∨ wr.heap.size ≤ k_)) (.slice (some ⟨go15, 0, none⟩) x9.length co15) y194 by rw [hw]; exact Kd.N_far (p := ⟨go52, x11.toNat, none⟩) HN4.out (fun k_ hk e_ => hk.2 (.inl (by rw [show k_ = go52 from e_]; exact GO52.out))) _); have HR195 := Aside0.mk (show Kd.F (Kd.slice 3 (Kd.int .i64)) w27 (fun k_ => w.heap.size ≤ k_ ∧ ¬ (Z2 k_ ∨ wr.heap.size ≤ k_)) (some ad197) (rd_L2 y194 x11).length (rd_L2 y194 x11) by rw [hw]; exact Kd.F_far (p := ⟨go52, x11.toNat, none⟩) HF4.out (fun k_ hk e_ => hk.2 (.inl (by rw [show k_ = go52 from e_]; exact GO52.out))) _); have HB := Aside0.mk (show Below w.heap.size w w27 by rw [hw]; exact below_set HB4.out GB52.out); clear HP26 HN4 HF4 HB4 hw hx26 hf26))
                                      go_roundg k3
                                      case measure => have := HK1.out; have := HK2.out; have := HK3.out; omega
                                      case rel => exact ⟨_, x10_2.set x11.toNat t204, wrap64 (x48 + 1), (by first | rfl | (simp; done) | (simp [*]; done)), H', ⟨by have := HK1.out; have := HK2.out; have := HK3.out; omega⟩, HO_10, HO_9, HR195, HB⟩
                                    · rw [if_neg c30] at H
                                      exact absurd H (by simp)
                            · rw [if_neg c18] at H
                              exact absurd H (by simp)
                          · rw [if_neg c17] at H
                            exact absurd H (by simp)
                        · rw [if_neg c26] at H
                          have c26b0 : decide (x11 < a1) = false := decide_eq_false c26
                          clear c26
                          by_cases c30 : x11 < (x10_2.length : Int)
                          · rw [if_pos c30] at H
                            replace H := Option.bind_eq_some_iff.mp H
                            obtain ⟨t204, A340, H⟩ := H
                            obtain ⟨hpl, ht204⟩ := hwPush_some A340
                            clear A340
                            have H' := Aside0.mk H
                            clear H
                            have HPL := Aside0.mk hpl
                            have HT204 := Aside0.mk ht204
                            clear hpl ht204
                            obtain ⟨go52, co52, eo52, gb52, gl52, cl52, HG52⟩ := Kd.R_form (Kd.S_R HO_10.out) (by have := C11.out; omega)
                            subst eo52
                            have hgo := (Kd.S_R HO_10.out).1 go52 rfl
                            have HS3 := Kd.S_mono (ok' := fun k_ => Z2 k_ ∨ wr.heap.size ≤ k_) HO_10.out (fun _ hk => .inl hk)
                            have HN3 := Aside0.mk (Kd.N_mono (ok' := fun k_ => w.heap.size ≤ k_ ∧ ¬ (Z2 k_ ∨ wr.heap.size ≤ k_)) (Kd.N_bound HO_9.out) (fun k_ hk => ⟨hk.1.1, fun h_ => h_.elim hk.1.2 (fun h2_ => by have := hk.2; omega)⟩))
                            have HF3 := Aside0.mk (Kd.F_mono (ok' := fun k_ => w.heap.size ≤ k_ ∧ ¬ (Z2 k_ ∨ wr.heap.size ≤ k_)) (Kd.F_bound HR195.out) (fun k_ hk => ⟨hk.1.1, fun h_ => h_.elim hk.1.2 (fun h2_ => by have := hk.2; omega)⟩))
                            obtain ⟨oki, Au, cu, hxu, hRu, hoki, hH⟩ := hwS_lend HS3 x11 C11.out c30
                            have HH := Aside0.mk hH
                            have HRu := Aside0.mk hRu
                            have HOki := Aside0.mk hoki
                            have GO52 := Aside0.mk hgo
                            have GB52 := Aside0.mk gb52
                            have C30 := Aside0.mk c30
                            clear HS3 hH hRu hoki hgo gb52 gl52 HG52 HO_10 HO_9 HR195 c30
                            have p11 := eq_true C11.out
                            have q11 := eq_true C30.out
                            go_wp2_with (first | ((with_reducible refine gate_builtin (b := .append) (xs := #[.tmp 92, .tmp 94]) rfl ?_); at_builtin; refine Kd.R_append (Kd.int .i64) (w0 := w) w.heap.size rfl (.tmp 92) (.tmp 94) 22 3 (.int .i64 0) 8 rfl Try.underlying22 hwInfoI rfl (by decide) (by omega) (.slice Au (rd_L1 x10_2 x11).length cu) (rd_L1 x10_2 x11) 0 [.int .i64 0] (fun k_ => oki k_ ∨ ((Z2 k_ ∨ wr.heap.size ≤ k_) ∧ wr.heap.size ≤ k_)) (fun _ => False) rfl rfl ?aP (fun _ hk => hk.elim) ?aF ?aO ?aB ?aS ?aL ?_; (case aP => exact rfl); (case aF => exact (fun k_ hk => .inr ⟨.inr hk, hk⟩)); (case aO => exact (Kd.R_mono HRu.out (fun _ hk => .inl hk))); (case aB => exact HB.out); (case aS => exact HB.out.size); (case aL => have := HPL.out; omega); intro v163 w25 ho hb hg hat; rw [← HT204.out] at ho; obtain ⟨Ao, co, eo⟩ := Kd.R_slice ho; subst eo; have hgw := hg; have hbk := hwS_back HH.out C11.out C30.out hgw (fun k_ hk => HRu.out.1 k_ hk) ho; obtain ⟨hx26, hf26, hp26, hg26⟩ := hbk; have HP26 := Aside0.mk hp26; have HN4 := Aside0.mk (Kd.N_grown HN3.out hgw (fun k_ hk e_ => hk.2 (HOki.out k_ (HRu.out.1 k_ e_.symm)).1)); have HF4 := Aside0.mk (Kd.F_grown HF3.out hgw (fun k_ hk e_ => hk.2 (HOki.out k_ (HRu.out.1 k_ e_.symm)).1)); have HB4 := Aside0.mk hb; clear hp26 hg26 hgw ho hb hg hat HN3 HF3 HB HH HRu HOki) | ((with_reducible refine gate_store (t := 22) (p := 96) rfl ?_); refine store_event (t := 22) (p := 96) (v := ?vo_w27) (w1 := (w25.setCell ⟨go52, x11.toNat, none⟩ (.slice Ao t204.length co))) ?hg ?ho ?hn ?hr ?_; (case ho => rfl); (case hg => rfl); (case hn => rfl); (case hr => first | (go_simp; done) | (go_simp; rfl)); intro w27 hw; have HO_10 := Aside0.mk (show Kd.S (Kd.slice 3 (Kd.int .i64)) 22 w27 w.heap.size (fun k_ => Z2 k_ ∨ wr.heap.size ≤ k_) (.slice (some ⟨go52, 0, none⟩) x10_2.length co52) (x10_2.set x11.toNat t204) by rw [hw]; exact HP26.out); have HO_9 := Aside0.mk (show Kd.N (Kd.slice 22 (Kd.slice 3 (Kd.int .i64))) 23 w27 w.heap.size (fun k_ => w.heap.size ≤ k_ ∧ ¬ (Z2 k_ ∨ wr.heap.size ≤ k_)) (.slice (some ⟨go15, 0, none⟩) x9.length co15) y194 by rw [hw]; exact Kd.N_far (p := ⟨go52, x11.toNat, none⟩) HN4.out (fun k_ hk e_ => hk.2 (.inl (by rw [show k_ = go52 from e_]; exact GO52.out))) _); have HR195 := Aside0.mk (show Kd.F (Kd.slice 3 (Kd.int .i64)) w27 (fun k_ => w.heap.size ≤ k_ ∧ ¬ (Z2 k_ ∨ wr.heap.size ≤ k_)) (some ad197) (rd_L2 y194 x11).length (rd_L2 y194 x11) by rw [hw]; exact Kd.F_far (p := ⟨go52, x11.toNat, none⟩) HF4.out (fun k_ hk e_ => hk.2 (.inl (by rw [show k_ = go52 from e_]; exact GO52.out))) _); have HB := Aside0.mk (show Below w.heap.size w w27 by rw [hw]; exact below_set HB4.out GB52.out); clear HP26 HN4 HF4 HB4 hw hx26 hf26))
                            go_roundg k2
                            case measure => have := HK1.out; have := HK2.out; omega
                            case rel => exact ⟨_, x10_2.set x11.toNat t204, wrap64 (x48 + 1), (by first | rfl | (simp; done) | (simp [*]; done)), H', ⟨by have := HK1.out; have := HK2.out; omega⟩, HO_10, HO_9, HR195, HB⟩
                          · rw [if_neg c30] at H
                            exact absurd H (by simp)
                      · rw [if_neg c24] at H
                        exact absurd H (by simp)
                    · rw [if_neg c23] at H
                      have c23b0 : decide (x48 < ((rd_L2 y194 x11).length : Int)) = false := decide_eq_false c23
                      have H' := Aside0.mk H
                      clear H
                      go_wp2
                      go_roundg k2
                      case measure => have := HK1.out; have := HK2.out; omega
                      case rel => exact ⟨Z2, y194, x10_2, wrap64 (x11 - 1), (by first | rfl | (simp; done) | (simp [*]; done)), H', ⟨by have := HK1.out; have := HK2.out; omega⟩, HO_10, HO_9, HB⟩
            · rw [if_neg c14] at H
              exact absurd H (by simp)
          · rw [if_neg c11] at H
            have c11b0 : decide (0 ≤ x11) = false := decide_eq_false c11
            clear c11
            simp only [Option.some.injEq, Prod.mk.injEq] at H
            obtain ⟨rfl, rfl, rfl⟩ := H
            go_wp2
            go_ret3
            exact ⟨_, _, by first | rfl | (simp; done), Kd.N_mono HO_9.out (fun k_ hk => ⟨hk.1, fun e_ => hk.2 ((Kd.S_R HO_10.out).1 k_ e_.symm)⟩), Kd.N_mono (Kd.R_N (Kd.S_R (Kd.S_bound HO_10.out))) (fun k_ hk => ⟨hk.2.1, fun e_ => (HO_9.out.1 k_ e_.symm).2 hk.1⟩), HB.out⟩
    · rw [if_neg c6] at H
      exact absurd H (by simp)
  · rw [if_neg c5] at H
    exact absurd H (by simp)

end Go.Proofs.Ytfldgimmdeijjaa.PFnExactFewestMoves
