-- Laid by this session by the help of the print: contracts proved by hand beside printed ones.
import Derived.Test.YtfldgimmdeijjaaPFnExactFewestMovesx0
import Derived.Test.YtfldgimmdeijjaaPFnExactFewestMovesx6
import Derived.Test.YtfldgimmdeijjaaPFnExactFewestMovesx7
import Derived.Test.YtfldgimmdeijjaaPFnExactFewestMovesx8
namespace Go.Proofs.Ytfldgimmdeijjaa.PFnExactFewestMoves
open Go.RowKit Go.Proofs.YtfldgimmdeijjaaW.PrintWords Go.Proofs.YtfldgimmdeijjaaW.PrintLast Go.Proofs.YtfldgimmdeijjaaW.PrintMore
attribute [local go_sem] max2_int min2_int max_two min_two max_three min_three max_four min_four   -- for this text's walks alone
set_option linter.unusedVariables false
set_option linter.unusedSimpArgs false

/-! ### impl_firstMoves: function 84 -/
/-- What a map of whole numbers of the call's own holds: t at every key. -/
def HwTab (P : Program) (K E : TypeId) (w : World) (b n : Nat) (t : Int → Int) : Prop :=
  ∃ D : DataW Unit, w.ownsMap P K (plainElem P E) b n D ∧ (∃ es, D = .map es) ∧ ∀ q, (Lit.int .i64 q).wf = true → D.atKey (.int .i64 q) (.lit (.int .i64 0)) = .lit (.int .i64 (t q))
theorem hwTab_made (P : Program) (K E : TypeId) (w : World) : HwTab P K E (w.alloc (.map #[] 0)) w.heap.size 0 (fun _ => 0) :=
  ⟨.map [], World.ownsMap_made _ _ _ _, ⟨_, rfl⟩, fun _ _ => rfl⟩
theorem HwTab.lt {P : Program} {K E : TypeId} {w : World} {b n : Nat} {t : Int → Int} (h : HwTab P K E w b n t) : b < w.heap.size := by
  obtain ⟨D, h, _⟩ := h
  exact h.lt
theorem HwTab.isMap {P : Program} {K E : TypeId} {w : World} {b n : Nat} {t : Int → Int} (h : HwTab P K E w b n t) : ∃ es c, w.heap[b]? = some (.map es c) := by
  obtain ⟨D, ⟨es, c, h, _⟩, _⟩ := h
  exact ⟨es, c, h⟩
theorem HwTab.mono {P : Program} {K E : TypeId} {w : World} {b n n' : Nat} {t : Int → Int} (h : HwTab P K E w b n t) (hn : n ≤ n') : HwTab P K E w b n' t := by
  obtain ⟨D, h, r⟩ := h
  exact ⟨D, h.mono hn, r⟩
theorem HwTab.step {P : Program} {K E : TypeId} {w w' : World} {b n : Nat} {t : Int → Int} (h : HwTab P K E w b n t) (hm : w'.heap[b]? = w.heap[b]?) : HwTab P K E w' b n t := by
  obtain ⟨D, ⟨es, c, h1, h2⟩, r⟩ := h
  exact ⟨D, ⟨es, c, hm.trans h1, h2⟩, r⟩
/-- A table in which one number was stored. -/
def hwUpd (t : Int → Int) (q u : Int) : Int → Int := fun z => if z = q then u else t z
theorem hwTab_look {P : Program} {w : World} {ops : Array Oper} {rest : List Oper} {o : Oper} {a : Act} {Q : Exit → Act → World → Prop}
    (hg : o.guard = none) (m x : Operand) (T : TypeId) (hop : o.op = Op.lookup T m x false) (K E : TypeId) (hK : P.underlying K = some (.int .i64)) (hT : P.underlying T = some (.map K E)) (hE : P.underlying E = some (.int .i64)) (hz : ∀ w, (zeroValue E).run P w = .ok (.int .i64 0) w)
    (b n : Nat) (t : Int → Int) (hm : a.eval m = .map (some b)) (h : HwTab P K E w b n t) (q : Int) (hx : a.eval x = .int .i64 q) (hq : (Lit.int .i64 q).wf = true)
    (hk : wpList P ops Q rest (a.put o.dst (.int .i64 (t q))) w) : wpList P ops Q (o :: rest) a w := by
  obtain ⟨D, hown, hM, hat⟩ := h
  refine wpList_lookup_own_int w hg m x T hop K E .i64 (Go.Maps.int_keyed hK) hT hE (hz w) b n D hm hown _ _ hx (Go.Maps.keyOf_int_mk hK hq) (fun c hc _ => ?_)
  rw [hat q hq] at hc
  injection hc with hc
  injection hc with _ hc
  rw [← hc]
  exact hk
/-- A look-up's run. -/
theorem hwTab_run {P : Program} {w : World} (T K E : TypeId) (hK : P.underlying K = some (.int .i64)) (hT : P.underlying T = some (.map K E)) (hE : P.underlying E = some (.int .i64)) (hz : ∀ w, (zeroValue E).run P w = .ok (.int .i64 0) w)
    {b n : Nat} {t : Int → Int} (h : HwTab P K E w b n t) (q : Int) (hq : (Lit.int .i64 q).wf = true) : (Instr.lookup T (.map (some b)) (.int .i64 q) false).run P w = .ok (.int .i64 (t q)) w := by
  obtain ⟨D, hown, hM, hat⟩ := h
  obtain ⟨c, h1, h2, _⟩ := hown.lookup_int (Go.Maps.int_keyed hK) hT hE (hz w) (Go.Maps.keyOf_int_mk hK hq)
  rw [hat q hq] at h2
  injection h2 with h2
  injection h2 with _ h2
  rw [h1, ← h2]
theorem hwTab_put {P : Program} {w : World} {ops : Array Oper} {rest : List Oper} {o : Oper} {a : Act} {Q : Exit → Act → World → Prop}
    (hg : o.guard = none) (m x v : Operand) (T : TypeId) (hop : o.op = Op.mapUpdate T m x v) (K E : TypeId) (hK : P.underlying K = some (.int .i64)) (hT : P.underlying T = some (.map K E)) (hE : P.underlying E = some (.int .i64))
    (b n : Nat) (t : Int → Int) (hm : a.eval m = .map (some b)) (h : HwTab P K E w b n t) (hn : n < maxLen) (q u : Int) (hx : a.eval x = .int .i64 q) (hv : a.eval v = .int .i64 u) (hq : (Lit.int .i64 q).wf = true) (hu : (Lit.int .i64 u).wf = true)
    (hk : ∀ w', HwTab P K E w' b (n + 1) (hwUpd t q u) → w.grownBy w' (some b) → wpList P ops Q rest (a.put o.dst undef) w') : wpList P ops Q (o :: rest) a w := by
  obtain ⟨D, hown, ⟨es, rfl⟩, hat⟩ := h
  refine wpList_mapUpdate_own w hg m x v T hop K E (Go.Maps.int_keyed hK) hT _ b n _ hm hown hn _ _ _ hx hv (Go.Maps.keyOf_int_mk hK hq) _ [] (plainElem_int hE hu) (fun w' h1 h2 => hk w' ⟨_, h1, ?_, fun z hz => ?_⟩ h2)
  · rw [DataW.put_eq]
    exact ⟨_, rfl⟩
  · by_cases hzq : z = q
    · subst hzq
      rw [show hwUpd t z u z = u from if_pos rfl]
      exact Go.Maps.atKey_put_same (D := .map es) (k := .int .i64 z) ⟨_, rfl⟩ trivial _ _
    · rw [show hwUpd t q u z = t z from if_neg hzq]
      refine (Go.Maps.atKey_put_other (fun e => hzq ?_) _ _).trans (hat z hz)
      injection e
/-- A row of such maps from place i0 on, each in a block of its own; the map at place i0 holds at most c keys. -/
def HwTabs (P : Program) (K E : TypeId) (w : World) (n0 : Nat) (ms : List (Option Nat)) (ts : List (Int → Int)) (i0 c : Nat) : Prop :=
  ms.length = ts.length ∧ (∀ i, i0 ≤ i → i < ts.length → ∃ b n, ms[i]? = some (some b) ∧ n0 ≤ b ∧ (i = i0 → n ≤ c) ∧ HwTab P K E w b n (ts.getD i (fun _ => 0))) ∧ ∀ i j b, i0 ≤ i → i0 ≤ j → ms[i]? = some (some b) → ms[j]? = some (some b) → i = j
theorem HwTabs.step {P : Program} {K E : TypeId} {w w' : World} {n0 : Nat} {ms : List (Option Nat)} {ts : List (Int → Int)} {i0 c : Nat} (h : HwTabs P K E w n0 ms ts i0 c) (hm : ∀ (b : Nat) es k, w.heap[b]? = some (Obj.map es k) → w'.heap[b]? = w.heap[b]?) : HwTabs P K E w' n0 ms ts i0 c := by
  obtain ⟨h1, h2, h3⟩ := h
  refine ⟨h1, fun i hi hl => ?_, h3⟩
  obtain ⟨b, n, r1, r2, r3, r4⟩ := h2 i hi hl
  obtain ⟨es, k, hb⟩ := r4.isMap
  exact ⟨b, n, r1, r2, r3, r4.step (hm b es k hb)⟩
theorem HwTabs.below {P : Program} {K E : TypeId} {w w' : World} {n0 : Nat} {ms : List (Option Nat)} {ts : List (Int → Int)} {i0 c : Nat} (h : HwTabs P K E w n0 ms ts i0 c) (hb : Below w.heap.size w w') : HwTabs P K E w' n0 ms ts i0 c :=
  h.step fun b _ _ hm => hb.block b (Array.getElem?_eq_some_iff.1 hm).1
theorem HwTabs.grown {P : Program} {K E : TypeId} {w w' : World} {n0 : Nat} {ms : List (Option Nat)} {ts : List (Int → Int)} {i0 c : Nat} {row : Option Nat} (h : HwTabs P K E w n0 ms ts i0 c) (hg : w.grownBy w' row) (hr : ∀ (b : Nat) es k, w.heap[b]? = some (Obj.map es k) → some b ≠ row) : HwTabs P K E w' n0 ms ts i0 c :=
  h.step fun b es k hm => hg.block b (Array.getElem?_eq_some_iff.1 hm).1 (hr b es k hm)
theorem HwTabs.alloc {P : Program} {K E : TypeId} {w : World} {n0 : Nat} {ms : List (Option Nat)} {ts : List (Int → Int)} {i0 c : Nat} (h : HwTabs P K E w n0 ms ts i0 c) (o : Obj) : HwTabs P K E (w.alloc o) n0 ms ts i0 c :=
  h.below ((Below.refl _ _).alloc (Nat.le_refl _) _)
theorem HwTabs.drew {P : Program} {K E : TypeId} {w : World} {n0 : Nat} {ms : List (Option Nat)} {ts : List (Int → Int)} {i0 c : Nat} (h : HwTabs P K E w n0 ms ts i0 c) : HwTabs P K E w.drew n0 ms ts i0 c := h
theorem HwTabs.over {P : Program} {K E : TypeId} {w w' : World} {n0 : Nat} {ms : List (Option Nat)} {ts : List (Int → Int)} {i0 c e : Nat} {v : Value} (h : HwTabs P K E w n0 ms ts i0 c) (hty : ∀ k, v.ownBlock = some k → ∃ cells, w.heap[k]? = some (Obj.cells cells e (0, 0))) (hg : w.grownBy w' v.ownBlock) : HwTabs P K E w' n0 ms ts i0 c :=
  h.grown hg (fun b es k hb e_ => by
    obtain ⟨cells, hc⟩ := hty b e_.symm
    rw [hb] at hc
    cases hc)
theorem HwTab.drewN {P : Program} {K E : TypeId} {w : World} {b n : Nat} {t : Int → Int} (h : HwTab P K E w b n t) (m : Nat) : HwTab P K E (w.drewN m) b n t := h
theorem HwTabs.drewN {P : Program} {K E : TypeId} {w : World} {n0 : Nat} {ms : List (Option Nat)} {ts : List (Int → Int)} {i0 c : Nat} (h : HwTabs P K E w n0 ms ts i0 c) (m : Nat) : HwTabs P K E (w.drewN m) n0 ms ts i0 c := h
theorem hwTabs_end (P : Program) (K E : TypeId) (w : World) (n0 : Nat) (ms : List (Option Nat)) (ts : List (Int → Int)) (hl : ms.length = ts.length) (i0 c : Nat) (hi : ts.length ≤ i0) : HwTabs P K E w n0 ms ts i0 c :=
  ⟨hl, fun i h1 h2 => absurd h2 (by omega), fun i j b h1 _ h2 _ => by
    obtain ⟨h, _⟩ := List.getElem?_eq_some_iff.1 h2
    omega⟩
/-- A map made, and put in its place. -/
theorem HwTabs.made {P : Program} {K E : TypeId} {w w' : World} {n0 : Nat} {ms : List (Option Nat)} {ts : List (Int → Int)} {i0 c : Nat} (h : HwTabs P K E w n0 ms ts (i0 + 1) c) (hi : i0 < ts.length) (hn : n0 ≤ w.heap.size) (hm : ∀ (b : Nat) es k, (w.alloc (.map #[] 0)).heap[b]? = some (Obj.map es k) → w'.heap[b]? = (w.alloc (.map #[] 0)).heap[b]?) :
    HwTabs P K E w' n0 (ms.set i0 (some w.heap.size)) (ts.set i0 (fun _ => 0)) i0 0 := by
  obtain ⟨h1, h2, h3⟩ := h
  refine HwTabs.step (w := w.alloc (.map #[] 0)) ⟨by simp [h1], fun i hi0 hl => ?_, fun i j b hi0 hj0 hbi hbj => ?_⟩ hm
  · rw [List.length_set] at hl
    by_cases e : i = i0
    · subst e
      refine ⟨w.heap.size, 0, by simp [h1, hi], hn, fun _ => Nat.le_refl _, ?_⟩
      rw [show (ts.set i (fun _ => 0)).getD i (fun _ => 0) = (fun _ => 0) by simp [List.getD, hi]]
      exact hwTab_made _ _ _ _
    · obtain ⟨b, n, r1, r2, _, r4⟩ := h2 i (by omega) hl
      refine ⟨b, n, by rw [List.getElem?_set_ne (by omega)]; exact r1, r2, fun e' => absurd e' e, ?_⟩
      rw [show (ts.set i0 (fun _ => 0)).getD i (fun _ => 0) = ts.getD i (fun _ => 0) by simp [List.getD, List.getElem?_set_ne (show i0 ≠ i by omega)]]
      exact r4.step (Below.heap_alloc _ _ _ r4.lt)
  · have hold : ∀ i b, i0 + 1 ≤ i → ms[i]? = some (some b) → b < w.heap.size := fun i b hi1 hb => by
      obtain ⟨hl, _⟩ := List.getElem?_eq_some_iff.1 hb
      obtain ⟨b', n, r1, _, _, r4⟩ := h2 i hi1 (by omega)
      rw [r1] at hb
      injection hb with hb
      injection hb with hb
      rw [← hb]
      exact r4.lt
    have hat : (ms.set i0 (some w.heap.size))[i0]? = some (some w.heap.size) := by simp [h1, hi]
    by_cases e : i = i0
    · by_cases e2 : j = i0
      · omega
      · subst e
        rw [hat] at hbi
        rw [List.getElem?_set_ne (by omega)] at hbj
        have := hold j b (by omega) hbj
        injection hbi with hbi
        injection hbi with hbi
        omega
    · by_cases e2 : j = i0
      · subst e2
        rw [hat] at hbj
        rw [List.getElem?_set_ne (by omega)] at hbi
        have := hold i b (by omega) hbi
        injection hbj with hbj
        injection hbj with hbj
        omega
      · rw [List.getElem?_set_ne (by omega)] at hbi hbj
        exact h3 i j b (by omega) (by omega) hbi hbj
theorem HwTabs.at {P : Program} {K E : TypeId} {w : World} {n0 : Nat} {ms : List (Option Nat)} {ts : List (Int → Int)} {i0 c : Nat} (h : HwTabs P K E w n0 ms ts i0 c) (i : Nat) (hi : i0 ≤ i) (hl : i < ts.length) : ∃ b n, ms[i]? = some (some b) ∧ n0 ≤ b ∧ (i = i0 → n ≤ c) ∧ HwTab P K E w b n (ts.getD i (fun _ => 0)) := h.2.1 i hi hl
theorem HwTabs.put {P : Program} {K E : TypeId} {w w' : World} {n0 : Nat} {ms : List (Option Nat)} {ts : List (Int → Int)} {i0 c n b : Nat} {t' : Int → Int} (h : HwTabs P K E w n0 ms ts i0 c) (hi : i0 < ts.length) (hb : ms[i0]? = some (some b)) (hn : n ≤ c + 1) (ht : HwTab P K E w' b n t') (hg : w.grownBy w' (some b)) :
    HwTabs P K E w' n0 ms (ts.set i0 t') i0 (c + 1) := by
  obtain ⟨h1, h2, h3⟩ := h
  refine ⟨by simp [h1], fun i hi0 hl => ?_, h3⟩
  rw [List.length_set] at hl
  by_cases e : i = i0
  · subst e
    obtain ⟨b', n', r1, r2, _, _⟩ := h2 i (Nat.le_refl _) hl
    rw [hb] at r1
    injection r1 with r1
    injection r1 with r1
    refine ⟨b, n, hb, r1 ▸ r2, fun _ => hn, ?_⟩
    rw [show (ts.set i t').getD i (fun _ => 0) = t' by simp [List.getD, hi]]
    exact ht
  · obtain ⟨b', n', r1, r2, r3, r4⟩ := h2 i hi0 hl
    refine ⟨b', n', r1, r2, fun e' => absurd e' e, ?_⟩
    rw [show (ts.set i0 t').getD i (fun _ => 0) = ts.getD i (fun _ => 0) by simp [List.getD, List.getElem?_set_ne (show i0 ≠ i by omega)]]
    exact r4.step (hg.block b' r4.lt (fun e' => e (h3 i i0 b' hi0 (Nat.le_refl _) r1 (by injection e' with e'; rw [e']; exact hb))))
/-- A row of maps: its cells. -/
abbrev hwKm : Kd (Option Nat) := Kd.scalar Value.map (fun _ => rfl)
/-- A row of cells stays what it is where a map is written. -/
theorem hwR_map {α : Type} {d : Kd α} {e : Nat} {w w1 : World} {base : Nat} {ok : Nat → Prop} {v : Value} {xs : List α} {b : Nat} (h : d.R e w base ok v xs) (hg : w.grownBy w1 (some b)) (hb : ∃ es c, w.heap[b]? = some (Obj.map es c)) : d.R e w1 base ok v xs := by
  obtain ⟨es, c, hb⟩ := hb
  refine Kd.R_mono (Kd.R_grown (Kd.R_bound h) hg (fun k hk e => ?_)) (fun _ hk => hk.1)
  obtain ⟨_, _, _, q, _, cells, hc⟩ := hk
  injection e with e
  rw [e, hb] at hc
  cases hc
/-- What may be stored. -/
def hwGd (q u i : Int) : Prop := (Lit.int .i64 q).wf = true ∧ (Lit.int .i64 u).wf = true ∧ i < 1000000
instance (q u i : Int) : Decidable (hwGd q u i) := by unfold hwGd; infer_instance
def hwT0 : Int → Int := fun _ => 0
/-- A cell of a row of maps. -/
theorem hwKm_cell {P : Program} {K E : TypeId} {w : World} {n0 : Nat} {ms : List (Option Nat)} {ts : List (Int → Int)} {i0 c e g n cap base : Nat} {ok : Nat → Prop} (hr : hwKm.R e w base ok (.slice (some ⟨g, 0, none⟩) n cap) ms) (h : HwTabs P K E w n0 ms ts i0 c) (i : Int) (h0 : (i0 : Int) ≤ i) (h1 : i < ts.length) :
    ∃ b m, ms[i.toNat]? = some (some b) ∧ n0 ≤ b ∧ (i.toNat = i0 → m ≤ c) ∧ HwTab P K E w b m (ts.getD i.toNat hwT0) ∧ w.cell? ⟨g, i.toNat, none⟩ = some (.map (some b)) ∧ w.frozen? ⟨g, i.toNat, none⟩ = false := by
  obtain ⟨b, m, r1, r2, r3, r4⟩ := h.at i.toNat (by omega) (by omega)
  obtain ⟨rfl, _⟩ := Kd.R_reads' hr
  obtain ⟨q1, q2⟩ := Kd.R_cell none hr i (by omega) (by have := h.1; omega)
  refine ⟨b, m, r1, r2, r3, r4, ?_, q2⟩
  rw [q1]
  have e : rdOf none ms i = some b := by
    unfold rdOf
    simp [List.getD, r1]
  rw [e]
/-- A look-up in one of a row of tables. -/
def hwLk (ts : List (Int → Int)) (i q : Int) : Option Int := if (Lit.int .i64 q).wf = true then some (ts.getD i.toNat hwT0 q) else none
theorem hwLk_some {ts : List (Int → Int)} {i q t : Int} (h : hwLk ts i q = some t) : (Lit.int .i64 q).wf = true ∧ ts.getD i.toNat hwT0 q = t := by
  unfold hwLk at h
  split at h
  · rename_i hq
    exact ⟨hq, Option.some.inj h⟩
  · cases h
theorem hwUnderM : Try.prog.underlying 78 = some (.map 3 3) := by kernel_rfl
theorem hwUnderMs : Try.prog.underlying 76 = some (.slice 78) := by kernel_rfl
theorem hwInfoM : (Try.prog.info? 78).map (fun i => (i.zero, i.size, i.bytes)) = some (some (.map none), 1, 8) := by kernel_rfl
theorem hwZeroI (w : World) : (zeroValue 3).run Try.prog w = .ok (.int .i64 0) w := by kernel_rfl
mutual
def hw_left.l0 : Nat → List (List Int) → List (Int → Int) → Int → Option (List (Int → Int))
  | 0, _, _, _ => none
  | k + 1, x0, x3, x4 => if 0 ≤ x4 then (if x4 < (x0.length : Int) then (hw_left.l1 k x0 (x3.set x4.toNat hwT0) x4 0) else none) else some x3
def hw_left.l1 : Nat → List (List Int) → List (Int → Int) → Int → Int → Option (List (Int → Int))
  | 0, _, _, _, _ => none
  | k + 1, x0, x3, x4, x29 => if x29 < ((rd_L1 x0 x4).length : Int) then (if 0 ≤ x29 then (if wrap64 (x4 + 1) < (x0.length : Int) then (if 0 ≤ wrap64 (x4 + 1) then (hw_left.l2 k x0 x3 x4 x29 481 0) else none) else (if hwGd (rd (rd_L1 x0 x4) x29) 0 x29 then (hw_left.l1 k x0 (x3.set x4.toNat (hwUpd (x3.getD x4.toNat hwT0) (rd (rd_L1 x0 x4) x29) 0)) x4 (wrap64 (x29 + 1))) else none)) else none) else (hw_left.l0 k x0 x3 (wrap64 (x4 - 1)))
def hw_left.l2 : Nat → List (List Int) → List (Int → Int) → Int → Int → Int → Int → Option (List (Int → Int))
  | 0, _, _, _, _, _, _ => none
  | k + 1, x0, x3, x4, x29, x7, x44 => if x44 < ((rd_L1 x0 (wrap64 (x4 + 1))).length : Int) then (if 0 ≤ x44 then ((impl_moves.f (rd (rd_L1 x0 x4) x29) (rd (rd_L1 x0 (wrap64 (x4 + 1))) x44)).bind fun t => (if (Lit.int .i64 (rd (rd_L1 x0 (wrap64 (x4 + 1))) x44)).wf = true then (hw_left.l2 k x0 x3 x4 x29 (mn x7 (wrap64 (t + x3.getD (wrap64 (x4 + 1)).toNat hwT0 (rd (rd_L1 x0 (wrap64 (x4 + 1))) x44)))) (wrap64 (x44 + 1))) else none)) else none) else (if hwGd (rd (rd_L1 x0 x4) x29) x7 x29 then (hw_left.l1 k x0 (x3.set x4.toNat (hwUpd (x3.getD x4.toNat hwT0) (rd (rd_L1 x0 x4) x29) x7)) x4 (wrap64 (x29 + 1))) else none)
end
def hw_left.f (k : Nat) (l0 : List (List Int)) : Option (List (Int → Int)) := if l0.length ≤ 35184372088832 then (hw_left.l0 k l0 (List.replicate l0.length hwT0) (wrap64 ((l0.length : Int) - 1))) else none
theorem hw_left.mono_l : ∀ k, (∀ y0 y1 y2, LeO (hw_left.l0 k y0 y1 y2) (hw_left.l0 (k + 1) y0 y1 y2)) ∧ (∀ y0 y1 y2 y3, LeO (hw_left.l1 k y0 y1 y2 y3) (hw_left.l1 (k + 1) y0 y1 y2 y3)) ∧ (∀ y0 y1 y2 y3 y4 y5, LeO (hw_left.l2 k y0 y1 y2 y3 y4 y5) (hw_left.l2 (k + 1) y0 y1 y2 y3 y4 y5))
  | 0 => ⟨fun _ _ _ r h => by simp [hw_left.l0] at h, fun _ _ _ _ r h => by simp [hw_left.l1] at h, fun _ _ _ _ _ _ r h => by simp [hw_left.l2] at h⟩
  | k + 1 => by
    obtain ⟨ih0, ih1, ih2⟩ := hw_left.mono_l k
    refine ⟨?_, ?_, ?_⟩
    · intro y0 y1 y2
      unfold hw_left.l0
      repeat' first
      | (with_reducible exact ih0 _ _ _)
      | (with_reducible exact ih1 _ _ _ _)
      | (with_reducible exact ih2 _ _ _ _ _ _)
      | (with_reducible exact LeO.refl _)
      | (with_reducible exact LeO.none _)
      | (with_reducible refine LeO.ite ?_ ?_)
      | (with_reducible refine LeO.bind ?_ (fun _ => ?_))
    · intro y0 y1 y2 y3
      unfold hw_left.l1
      repeat' first
      | (with_reducible exact ih0 _ _ _)
      | (with_reducible exact ih1 _ _ _ _)
      | (with_reducible exact ih2 _ _ _ _ _ _)
      | (with_reducible exact LeO.refl _)
      | (with_reducible exact LeO.none _)
      | (with_reducible refine LeO.ite ?_ ?_)
      | (with_reducible refine LeO.bind ?_ (fun _ => ?_))
    · intro y0 y1 y2 y3 y4 y5
      unfold hw_left.l2
      repeat' first
      | (with_reducible exact ih0 _ _ _)
      | (with_reducible exact ih1 _ _ _ _)
      | (with_reducible exact ih2 _ _ _ _ _ _)
      | (with_reducible exact LeO.refl _)
      | (with_reducible exact LeO.none _)
      | (with_reducible refine LeO.ite ?_ ?_)
      | (with_reducible refine LeO.bind ?_ (fun _ => ?_))
theorem hw_left.mono : ∀ a0 k, LeO (hw_left.f k a0) (hw_left.f (k + 1) a0) := by
  intro a0 k
  obtain ⟨ih0, ih1, ih2⟩ := hw_left.mono_l k
  unfold hw_left.f
  refine LeO.ite ?_ (LeO.none _)
  exact ih0 _ _ _
set_option maxHeartbeats 8000000 in
set_option maxRecDepth 100000 in
theorem hw_left.calls (k : Nat) (A0 : Option Addr) (c0 : Nat) (l0 : List (List Int)) (r : List (Int → Int)) (w : World) (hr0 : Kd.C (Kd.slice 3 (Kd.int .i64)) w A0 l0.length l0) (hc0 : l0.length ≤ c0) (h : hw_left.f k l0 = some r) :
    Calls Try.prog 104 #[.slice A0 l0.length c0] w fun e w' => ∃ v0_ : Value, e = .returned (v0_) ∧ ∃ (ms : List (Option Nat)), Kd.R hwKm 78 w' w.heap.size (fun _ => True) v0_ ms ∧ (∃ c : Nat, HwTabs Try.prog 3 3 w' w.heap.size ms r 0 c) ∧ Below w.heap.size w w' := by
  have HR0 := Aside0.mk hr0
  have HC0 := Aside0.mk hc0
  have HM0 := Aside0.mk (Kd.C_max hr0)
  clear hr0 hc0
  have HB := Aside0.mk (Below.refl w.heap.size w)
  have H : (if l0.length ≤ 35184372088832 then (hw_left.l0 k l0 (List.replicate l0.length hwT0) (wrap64 ((l0.length : Int) - 1))) else none) = some r := h
  clear h
  by_cases c3 : l0.length ≤ 35184372088832
  · rw [if_pos c3] at H
    have C3 := Aside0.mk c3
    clear c3
    have H' := Aside0.mk H
    clear H
    go_enter Try.func104, Try.ntmps104
    go_wp2_with (first | ((with_reducible refine gate_dst (N := 12) rfl ?_); refine Kd.R_make hwKm _ 78 rfl (N := 12) rfl 76 _ _ rfl (l0.length : Int) rfl rfl hwUnderMs (.map none) 8 hwInfoM rfl (by decide) (by omega) none (ok := fun _ => True) (okp := fun _ => True) rfl (fun _ hk => hk) trivial (Int.natCast_nonneg _) (by have := C3.out; simp only [Int.toNat_natCast]; omega) (Below.refl _ _) (Nat.le_refl _) ?_; intro v261 w4 ho5 hb hg_ hnew_; clear hg_ hnew_; have n0_ := Aside0.mk (Kd.R_lower ho5 (below_size (by repeat (first | (with_reducible first | exact HB.out | apply below_alloc | apply pw_below_drewN | apply below_drew1) | exact HB.out)))); have n1_ := Aside0.mk (below_step (by repeat (first | (with_reducible first | exact HB.out | apply below_alloc | apply pw_below_drewN | apply below_drew1) | exact HB.out)) hb); clear HB; have HO262 := n0_; have HB := n1_; clear n0_ n1_; clear hb ho5))
    go_loopg [4] k (fun kq v4 w' => ∃ (ms : List (Option Nat)) (ts : List (Int → Int)) (x4 : Int) (c : Nat), v4 = .int .i64 x4 ∧ Aside0 (hw_left.l0 kq l0 ts x4 = some r) ∧ Aside0 (kq ≤ k) ∧ Aside0 (-1 ≤ x4 ∧ x4 < 35184372088832 ∧ ts.length = l0.length) ∧ Aside0 (Kd.R hwKm 78 w' w.heap.size (fun _ => True) v261 ms) ∧ Aside0 (HwTabs Try.prog 3 3 w' w.heap.size ms ts (x4 + 1).toNat c) ∧ Aside0 (Below w.heap.size w w'))
    case atStart =>
      have e1 : wrap64 ((l0.length : Int) - 1) = (l0.length : Int) - 1 := by have := C3.out; unfold wrap64; omega
      refine ⟨_, List.replicate l0.length hwT0, wrap64 ((l0.length : Int) - 1), 0, (by first | rfl | (simp; done)), H', ⟨Nat.le_refl _⟩, ⟨?_⟩, HO262, ⟨hwTabs_end _ _ _ _ _ _ _ ?_ _ _ ?_⟩, HB⟩
      · have := C3.out
        rw [e1]
        refine ⟨by omega, by omega, by simp⟩
      · simp
      · rw [e1]
        simp
    case round =>
      clear H' HB HO262
      obtain ⟨ms, ts, x4, c, rfl, HA, HK1, HX, HO_3, HT, HB⟩ := hrel
      cases gk with
      | zero => exact absurd HA.out (by simp [hw_left.l0])
      | succ k1 =>
        have H := HA.out
        clear HA
        simp only [hw_left.l0] at H
        by_cases c6 : 0 ≤ x4
        · rw [if_pos c6] at H
          have c6b0 : decide (0 ≤ x4) = true := decide_eq_true c6
          by_cases c11 : x4 < (l0.length : Int)
          · rw [if_pos c11] at H
            have c11b0 : decide (x4 < (l0.length : Int)) = true := decide_eq_true c11
            have H' := Aside0.mk H
            clear H
            obtain ⟨hx1, hx2, hx3⟩ := HX.out
            have hml : ms.length = l0.length := HT.out.1.trans hx3
            obtain ⟨go10, co10, eo10, gb10, gl10, cl10, HG10⟩ := Kd.R_form HO_3.out (by omega)
            subst eo10
            have GB10 := Aside0.mk gb10
            have HGa : (wr.alloc (.map #[] 0)).heap[go10]? = some (.cells cl10 78 (0, 0)) := (Below.heap_alloc wr _ go10 gl10).trans HG10
            have HOa := Kd.R_alloc HO_3.out (.map #[] 0)
            obtain ⟨hx10_0, hf10_0⟩ := Kd.R_celln none HOa x4 c6 (by omega)
            have HP12 := Kd.R_putg HOa x4 (some wr.heap.size)
            obtain ⟨ms2, hms2⟩ : ∃ m_ : List (Option Nat), m_ = ms.set x4.toNat (some wr.heap.size) := ⟨_, rfl⟩
            rw [← hms2] at HP12
            have HT1 := HT.out
            rw [show (x4 + 1).toNat = x4.toNat + 1 by omega] at HT1
            have HM := Aside0.mk (fun (w' : World) => HT1.made (w' := w') (by omega) HB.out.size)
            rw [← hms2] at HM
            have HBa := Aside0.mk (below_alloc HB.out (.map #[] 0))
            have HGa := Aside0.mk HGa
            have HP12 := Aside0.mk HP12
            clear HT HT1 gb10 gl10 HG10 HOa HO_3 HB
            obtain ⟨ad265, A265_0, c265_0, e265, hx265_0, hl265_0, hi265_0⟩ := at_L1 HR0.out x4 c6 c11
            cases e265
            have HR265_0 := Aside0.mk hi265_0
            have HC265_0 := Aside0.mk hl265_0
            clear hi265_0 hl265_0
            have hcm := @run_makeMap Try.prog
            have p10 := eq_true c6
            have q10 : (x4 < (ms.length : Int)) = True := eq_true (by omega)
            have q265 := eq_true c11
            have C6 := Aside0.mk c6
            have C11 := Aside0.mk c11
            have HMl := Aside0.mk hml
            have HMs := Aside0.mk hms2
            have HTl := Aside0.mk hx3
            have HX2 := Aside0.mk hx2
            have HTsl := Aside0.mk (show (ts.set x4.toNat hwT0).length = l0.length by rw [List.length_set]; exact hx3)
            clear c6 c11 hx1 hx2 hx3 hml hms2 HX
            go_wp2_with (first | ((with_reducible refine gate_store (t := 78) (p := 23) rfl ?_); refine store_event (t := 78) (p := 23) (v := ?vo_w13) (w1 := ((wr.alloc (.map #[] 0)).setCell ⟨go10, x4.toNat, none⟩ (.map (some wr.heap.size)))) ?hg ?ho ?hn ?hr ?_; (case ho => rfl); (case hg => rfl); (case hn => rfl); (case hr => first | (go_simp; done) | (go_simp; rfl)); intro w13 hw; have HO_3 := Aside0.mk (show Kd.R hwKm 78 w13 w.heap.size (fun _ => True) (.slice (some ⟨go10, 0, none⟩) ms.length co10) ms2 by rw [hw]; exact HP12.out.1); have HB := Aside0.mk (show Below w.heap.size w w13 by rw [hw]; exact below_set HBa.out GB10.out); have HT := Aside0.mk (HM.out w13 (fun b es k_ hb => by rw [hw]; refine Below.heap_setCell _ _ _ _ (fun e_ => ?_); (have h_ := HGa.out; rw [show go10 = b from e_.symm, hb] at h_; cases h_))); clear HBa HP12 HM HGa hw hx10_0 hf10_0; replace hx265_0 := (HB.out.cell (World.block_lt_of_cell? w _ hx265_0)).trans hx265_0))
            clear hcm p10 q10 q265
            go_loopg [29] k1 (fun kq v29 w' => ∃ (ts2 : List (Int → Int)) (x29 : Int), v29 = .int .i64 x29 ∧ Aside0 (hw_left.l1 kq l0 ts2 x4 x29 = some r) ∧ Aside0 (kq ≤ k1) ∧ Aside0 (0 ≤ x29 ∧ ts2.length = l0.length) ∧ Aside0 (Kd.R hwKm 78 w' w.heap.size (fun _ => True) (.slice (some ⟨go10, 0, none⟩) ms.length co10) ms2) ∧ Aside0 (HwTabs Try.prog 3 3 w' w.heap.size ms2 ts2 x4.toNat x29.toNat) ∧ Aside0 (Below w.heap.size w w'))
            case atStart => exact ⟨_, 0, (by first | rfl | (simp; done) | (simp [*]; done)), H', ⟨Nat.le_refl _⟩, ⟨Int.le_refl _, HTsl.out⟩, HO_3, HT, HB⟩
            case round =>
              clear H' HO_3 HB HT HTsl hx265_0
              obtain ⟨ts2, x29, rfl, HA, HK2, HX3, HO_3, HT, HB⟩ := hrel
              cases gk with
              | zero => exact absurd HA.out (by simp [hw_left.l1])
              | succ k2 =>
                have H := HA.out
                clear HA
                simp only [hw_left.l1] at H
                by_cases c14 : x29 < ((rd_L1 l0 x4).length : Int)
                · rw [if_pos c14, if_pos HX3.out.1] at H
                  have c14b0 : decide (x29 < ((rd_L1 l0 x4).length : Int)) = true := decide_eq_true c14
                  obtain ⟨d1, hd1⟩ : ∃ j_ : Int, wrap64 (x4 + 1) = j_ := ⟨_, rfl⟩
                  have hd1w : (IntKind.i64.wrap (x4 + 1)) = d1 := (i64_w _).trans hd1
                  have HD1 := Aside0.mk (show d1 = x4 + 1 by have := HX2.out; have := C6.out; rw [← hd1]; unfold wrap64; omega)
                  rw [hd1] at H
                  obtain ⟨ad266, e266, hx266_0⟩ := Kd.at_int HR265_0.out x29 HX3.out.1 c14
                  cases e266
                  replace hx266_0 := (HB.out.cell (World.block_lt_of_cell? w _ hx266_0)).trans hx266_0
                  have p266 := eq_true HX3.out.1
                  have q266 := eq_true c14
                  obtain ⟨q6, hq6⟩ : ∃ j_ : Int, rd (rd_L1 l0 x4) x29 = j_ := ⟨_, rfl⟩
                  rw [hq6] at hx266_0 H
                  by_cases c17 : d1 < (l0.length : Int)
                  · have c19 : 0 ≤ d1 := by have := HD1.out; have := C6.out; omega
                    rw [if_pos c17, if_pos c19] at H
                    have c17b0 : decide (d1 < (l0.length : Int)) = true := decide_eq_true c17
                    have H' := Aside0.mk H
                    clear H
                    obtain ⟨ad267, A267_0, c267_0, e267, hx267_0, hl267_0, hi267_0⟩ := at_L1 HR0.out d1 c19 c17
                    obtain rfl : ad265 = ad267 := (by injection e267)
                    replace hx267_0 := (HB.out.cell (World.block_lt_of_cell? w _ hx267_0)).trans hx267_0
                    have HR267_0 := Aside0.mk hi267_0
                    clear hi267_0 hl267_0
                    have p267 := eq_true c19
                    have q267 := eq_true c17
                    have C14 := Aside0.mk c14
                    have C17 := Aside0.mk c17
                    clear c14 c17 c19
                    go_wp2
                    go_loopg [7, 44] k2 (fun kq v7 v44 w' => ∃ (x7 x44 : Int), v7 = .int .i64 x7 ∧ v44 = .int .i64 x44 ∧ Aside0 (hw_left.l2 kq l0 ts2 x4 x29 x7 x44 = some r) ∧ Aside0 (kq ≤ k2) ∧ Aside0 (0 ≤ x44) ∧ Aside0 (Kd.R hwKm 78 w' w.heap.size (fun _ => True) (.slice (some ⟨go10, 0, none⟩) ms.length co10) ms2) ∧ Aside0 (HwTabs Try.prog 3 3 w' w.heap.size ms2 ts2 x4.toNat x29.toNat) ∧ Aside0 (Below w.heap.size w w'))
                    case atStart => exact ⟨481, 0, (by first | rfl | (simp; done) | (simp [*]; done)), (by first | rfl | (simp; done) | (simp [*]; done)), H', ⟨Nat.le_refl _⟩, ⟨Int.le_refl _⟩, HO_3, HT, HB⟩
                    case round =>
                      clear H' HO_3 HB HT hx266_0 hx267_0 p266 q266 p267 q267
                      obtain ⟨x7, x44, rfl, rfl, HA, HK3, HX4, HO_3, HT, HB⟩ := hrel
                      cases gk with
                      | zero => exact absurd HA.out (by simp [hw_left.l2])
                      | succ k3 =>
                        have H := HA.out
                        clear HA
                        simp only [hw_left.l2] at H
                        rw [hd1, hq6] at H
                        by_cases c20 : x44 < ((rd_L1 l0 d1).length : Int)
                        · rw [if_pos c20, if_pos HX4.out] at H
                          have c20b0 : decide (x44 < ((rd_L1 l0 d1).length : Int)) = true := decide_eq_true c20
                          obtain ⟨q8, hq8⟩ : ∃ j_ : Int, rd (rd_L1 l0 d1) x44 = j_ := ⟨_, rfl⟩
                          rw [hq8] at H
                          obtain ⟨t269, A230, H⟩ := Option.bind_eq_some_iff.mp H
                          have A23 := Aside0.mk A230
                          clear A230
                          by_cases cw : (Lit.int .i64 q8).wf = true
                          · rw [if_pos cw] at H
                            have HW := Aside0.mk cw
                            clear cw
                            obtain ⟨ad268, e268, hx268_0⟩ := Kd.at_int HR267_0.out x44 HX4.out c20
                            cases e268
                            replace hx268_0 := (HB.out.cell (World.block_lt_of_cell? w _ hx268_0)).trans hx268_0
                            rw [hq8] at hx268_0
                            obtain ⟨b, m, hb1, hb2, hb3, hb4, hb5, hb6⟩ := hwKm_cell HO_3.out HT.out d1 (by have := HD1.out; have := C6.out; omega) (by have := C17.out; have := HX3.out.2; omega)
                            clear hb1 hb2 hb3
                            obtain ⟨t7, ht7⟩ : ∃ t_ : Int → Int, t_ = ts2.getD d1.toNat hwT0 := ⟨_, rfl⟩
                            rw [← ht7] at H hb4
                            have HTb := Aside0.mk hb4
                            clear hb4
                            obtain ⟨m7, hm7⟩ : ∃ j_ : Int, mn x7 (wrap64 (t269 + t7 q8)) = j_ := ⟨_, rfl⟩
                            have hm7_ : (if (wrap64 (t269 + t7 q8)) < x7 then (wrap64 (t269 + t7 q8)) else x7) = m7 := hm7
                            have hmin_ : min x7 (wrap64 (t269 + t7 q8)) = m7 := by rw [← hm7]; unfold mn; omega
                            rw [hm7] at H
                            have H' := Aside0.mk H
                            clear H
                            have p268 := eq_true HX4.out
                            have q268 := eq_true c20
                            have p270 : (0 ≤ d1) = True := eq_true (by have := HD1.out; have := C6.out; omega)
                            have q270 : (d1 < (ms.length : Int)) = True := eq_true (by have := C17.out; have := HMl.out; omega)
                            have C20 := Aside0.mk c20
                            have HQ := Aside0.mk ht7
                            clear c20 ht7
                            have hlk : ∀ n_ : Nat, (Instr.lookup 78 (.map (some b)) (.int .i64 q8) false).run Try.prog (wr.drewN n_) = .ok (.int .i64 (t7 q8)) (wr.drewN n_) := fun n_ => hwTab_run _ _ _ Try.underlying3 hwUnderM Try.underlying3 hwZeroI (HTb.out.drewN n_) q8 HW.out
                            go_wp2_with (first | (go_at_call 105; (with_reducible refine (impl_moves.calls q6 q8 t269 _ A23.out).mono ?_); rintro e w' ⟨rfl, ⟨nd, rfl⟩⟩; (try first | exact ⟨rfl, _, World.drewN_drewN _ _ _⟩ | exact ⟨rfl, _, Eq.trans (World.drewN_drewN _ _ _) (congrArg (World.drewN _) (Nat.add_assoc _ _ _))⟩)))
                            go_quiet (first | (go_at_call 105; (with_reducible refine (impl_moves.calls q6 q8 t269 _ A23.out).mono ?_); rintro e w' ⟨rfl, ⟨nd, rfl⟩⟩; (try first | exact ⟨rfl, _, World.drewN_drewN _ _ _⟩ | exact ⟨rfl, _, Eq.trans (World.drewN_drewN _ _ _) (congrArg (World.drewN _) (Nat.add_assoc _ _ _))⟩)))
                            go_wp2_with (first | (go_at_call 105; (with_reducible refine (impl_moves.calls q6 q8 t269 _ A23.out).mono ?_); rintro e w' ⟨rfl, ⟨nd, rfl⟩⟩; (try first | exact ⟨rfl, _, World.drewN_drewN _ _ _⟩ | exact ⟨rfl, _, Eq.trans (World.drewN_drewN _ _ _) (congrArg (World.drewN _) (Nat.add_assoc _ _ _))⟩)))
                            go_roundg k3
                            case measure => have := HK1.out; have := HK2.out; have := HK3.out; omega
                            case rel =>
                              have e44 : wrap64 (x44 + 1) = x44 + 1 := by have := C20.out; have := HX4.out; have := Kd.C_max HR267_0.out; unfold wrap64; omega
                              exact ⟨m7, wrap64 (x44 + 1), (by first | rfl | (simp; done) | (simp [*]; done)), (by first | rfl | (simp; done) | (simp [*]; done)), H', ⟨by have := HK1.out; have := HK2.out; have := HK3.out; omega⟩, ⟨by rw [e44]; have := HX4.out; omega⟩, ⟨Kd.R_drewN HO_3.out _⟩, ⟨HT.out.drewN _⟩, ⟨pw_below_drewN HB.out _⟩⟩
                          · rw [if_neg cw] at H
                            exact absurd H (by simp)
                        · rw [if_neg c20] at H
                          have c20b0 : decide (x44 < ((rd_L1 l0 d1).length : Int)) = false := decide_eq_false c20
                          clear c20
                          by_cases cg : hwGd q6 x7 x29
                          · rw [if_pos cg] at H
                            obtain ⟨b, m, hb1, hb2, hb3, hb4, hb5, hb6⟩ := hwKm_cell HO_3.out HT.out x4 (by have := C6.out; omega) (by have := C11.out; have := HX3.out.2; omega)
                            have hm := hb3 rfl
                            obtain ⟨t7, ht7⟩ : ∃ t_ : Int → Int, t_ = ts2.getD x4.toNat hwT0 := ⟨_, rfl⟩
                            rw [← ht7] at H hb4
                            have H' := Aside0.mk H
                            clear H
                            have HTb := Aside0.mk hb4
                            have HN := Aside0.mk (show m < maxLen by have := cg.2.2; unfold maxLen; omega)
                            have HW := Aside0.mk cg
                            have HMM := Aside0.mk (fun w13 (h13 : HwTab Try.prog 3 3 w13 b (m + 1) (hwUpd t7 q6 x7)) (hg13 : wr.grownBy w13 (some b)) => HT.out.put (by have := C11.out; have := C6.out; have := HX3.out.2; omega) hb1 (show m + 1 ≤ x29.toNat + 1 by omega) h13 hg13)
                            have HOO := Aside0.mk (fun w13 (hg13 : wr.grownBy w13 (some b)) => hwR_map HO_3.out hg13 hb4.isMap)
                            have HBB := Aside0.mk (fun w13 (hg13 : wr.grownBy w13 (some b)) => Below.grown HB.out hg13 HB.out.size (fun k_ e_ => by cases e_; exact hb2))
                            clear cg hb4 hb1 hb2 hb3 hm HO_3 HB HT
                            have p273 := eq_true C6.out
                            have q273 : (x4 < (ms.length : Int)) = True := eq_true (by have := C11.out; have := HMl.out; omega)
                            go_wp2_with (first | (at_mapUpdate; refine hwTab_put rfl _ _ _ 78 rfl 3 3 Try.underlying3 hwUnderM Try.underlying3 b m t7 rfl HTb.out HN.out q6 x7 rfl rfl HW.out.1 HW.out.2.1 ?_; intro w13 h13 hg13; have HT := Aside0.mk (HMM.out w13 h13 hg13); have HO_3 := Aside0.mk (HOO.out w13 hg13); have HB := Aside0.mk (HBB.out w13 hg13); clear HMM HOO HBB h13 hg13))
                            go_roundg k3
                            case measure => have := HK1.out; have := HK2.out; have := HK3.out; omega
                            case rel =>
                              have e29 : wrap64 (x29 + 1) = x29 + 1 := by have := HW.out.2.2; have := HX3.out.1; unfold wrap64; omega
                              refine ⟨_, wrap64 (x29 + 1), (by first | rfl | (simp; done) | (simp [*]; done)), H', ⟨by have := HK1.out; have := HK2.out; have := HK3.out; omega⟩, ⟨by rw [e29]; have := HX3.out.1; omega, by rw [List.length_set]; exact HX3.out.2⟩, HO_3, ?_, HB⟩
                              rw [e29, show (x29 + 1).toNat = x29.toNat + 1 by have := HX3.out.1; omega]
                              exact HT
                          · rw [if_neg cg] at H
                            exact absurd H (by simp)
                  · rw [if_neg c17] at H
                    have c17b0 : decide (d1 < (l0.length : Int)) = false := decide_eq_false c17
                    clear c17
                    by_cases cg : hwGd q6 0 x29
                    · rw [if_pos cg] at H
                      obtain ⟨b, m, hb1, hb2, hb3, hb4, hb5, hb6⟩ := hwKm_cell HO_3.out HT.out x4 (by have := C6.out; omega) (by have := C11.out; have := HX3.out.2; omega)
                      have hm := hb3 rfl
                      obtain ⟨t7, ht7⟩ : ∃ t_ : Int → Int, t_ = ts2.getD x4.toNat hwT0 := ⟨_, rfl⟩
                      rw [← ht7] at H hb4
                      have H' := Aside0.mk H
                      clear H
                      have HTb := Aside0.mk hb4
                      have HN := Aside0.mk (show m < maxLen by have := cg.2.2; unfold maxLen; omega)
                      have HW := Aside0.mk cg
                      have HMM := Aside0.mk (fun w13 (h13 : HwTab Try.prog 3 3 w13 b (m + 1) (hwUpd t7 q6 0)) (hg13 : wr.grownBy w13 (some b)) => HT.out.put (by have := C11.out; have := C6.out; have := HX3.out.2; omega) hb1 (show m + 1 ≤ x29.toNat + 1 by omega) h13 hg13)
                      have HOO := Aside0.mk (fun w13 (hg13 : wr.grownBy w13 (some b)) => hwR_map HO_3.out hg13 hb4.isMap)
                      have HBB := Aside0.mk (fun w13 (hg13 : wr.grownBy w13 (some b)) => Below.grown HB.out hg13 HB.out.size (fun k_ e_ => by cases e_; exact hb2))
                      clear cg hb4 hb1 hb2 hb3 hm HO_3 HB HT
                      have p273 := eq_true C6.out
                      have q273 : (x4 < (ms.length : Int)) = True := eq_true (by have := C11.out; have := HMl.out; omega)
                      go_wp2_with (first | (at_mapUpdate; refine hwTab_put rfl _ _ _ 78 rfl 3 3 Try.underlying3 hwUnderM Try.underlying3 b m t7 rfl HTb.out HN.out q6 0 rfl rfl HW.out.1 HW.out.2.1 ?_; intro w13 h13 hg13; have HT := Aside0.mk (HMM.out w13 h13 hg13); have HO_3 := Aside0.mk (HOO.out w13 hg13); have HB := Aside0.mk (HBB.out w13 hg13); clear HMM HOO HBB h13 hg13))
                      go_roundg k2
                      case measure => have := HK1.out; have := HK2.out; omega
                      case rel =>
                        have e29 : wrap64 (x29 + 1) = x29 + 1 := by have := HW.out.2.2; have := HX3.out.1; unfold wrap64; omega
                        refine ⟨_, wrap64 (x29 + 1), (by first | rfl | (simp; done) | (simp [*]; done)), H', ⟨by have := HK1.out; have := HK2.out; omega⟩, ⟨by rw [e29]; have := HX3.out.1; omega, by rw [List.length_set]; exact HX3.out.2⟩, HO_3, ?_, HB⟩
                        rw [e29, show (x29 + 1).toNat = x29.toNat + 1 by have := HX3.out.1; omega]
                        exact HT
                    · rw [if_neg cg] at H
                      exact absurd H (by simp)
                · rw [if_neg c14] at H
                  have c14b0 : decide (x29 < ((rd_L1 l0 x4).length : Int)) = false := decide_eq_false c14
                  have H' := Aside0.mk H
                  clear H
                  go_wp2
                  go_roundg k2
                  case measure => have := HK1.out; have := HK2.out; omega
                  case rel =>
                    have hd : wrap64 (x4 - 1) = x4 - 1 := by have := HX2.out; have := C6.out; unfold wrap64; omega
                    rw [hd] at H' ⊢
                    refine ⟨ms2, ts2, x4 - 1, x29.toNat, (by first | rfl | (simp; done) | (simp [*]; done)), H', ⟨by have := HK1.out; have := HK2.out; omega⟩, ⟨by have := C6.out; have := HX2.out; have := HX3.out.2; omega⟩, HO_3, ?_, HB⟩
                    rw [show (x4 - 1 + 1).toNat = x4.toNat by omega]
                    exact HT
          · rw [if_neg c11] at H
            exact absurd H (by simp)
        · rw [if_neg c6] at H
          have c6b0 : decide (0 ≤ x4) = false := decide_eq_false c6
          obtain rfl := Option.some.inj H
          have e0 : (x4 + 1).toNat = 0 := by have := HX.out.1; omega
          rw [e0] at HT
          clear e0 c6
          go_wp2
          go_ret
          exact ⟨_, by first | rfl | (simp; done), ms, HO_3.out, ⟨c, HT.out⟩, HB.out⟩
  · rw [if_neg c3] at H
    exact absurd H (by simp)
mutual
def impl_firstMoves.l0 : Nat → List (List Int) → List (List Int) → Int → List (Int → Int) → Int → Int → Option ((List (List Int)) × Bool)
  | 0, _, _, _, _, _, _ => none
  | k + 1, x8, x9, x10, x11, x30, x31 => if x31 < x30 then (if 0 ≤ x31 then (if x31 < (x8.length : Int) then (impl_firstMoves.l1 k x8 x9 x10 x11 x31 0 481 x30 x31 (rd_L1 x8 x31) ((rd_L1 x8 x31).length : Int) 0) else (none)) else (none)) else (some (x9, true))
def impl_firstMoves.l1 : Nat → List (List Int) → List (List Int) → Int → List (Int → Int) → Int → Int → Int → Int → Int → List Int → Int → Int → Option ((List (List Int)) × Bool)
  | 0, _, _, _, _, _, _, _, _, _, _, _, _ => none
  | k + 1, x8, x9, x10, x11, x12, x13, x14, x30, x31, x37, x38, x39 => if x39 < x38 then (if 0 ≤ x39 then (if x39 < (x37.length : Int) then ((impl_moves.f x10 (rd x37 x39)).bind fun t313 => (if 0 ≤ x12 then (if x12 < (x11.length : Int) then ((hwLk x11 x12 (rd x37 x39)).bind fun t315 => (if (wrap64 (t313 + t315)) < x14 then (impl_firstMoves.l1 k x8 x9 x10 x11 x12 (rd x37 x39) (wrap64 (t313 + t315)) x30 x31 x37 x38 (wrap64 (x39 + 1))) else (impl_firstMoves.l1 k x8 x9 x10 x11 x12 x13 x14 x30 x31 x37 x38 (wrap64 (x39 + 1))))) else (none)) else (none))) else (none)) else (none)) else (if x14 ≥ 481 then (some (([] : List (List Int)), false)) else ((impl_indices.f k x13).bind fun t306 => (if x9.length < 5864062014805 then (impl_firstMoves.l0 k x8 (x9 ++ [t306]) x13 x11 x30 (wrap64 (x31 + 1))) else (none))))
end
def impl_firstMoves.f (k : Nat) (l0 : List Int) (a1 : Int) (a2 : Int) : Option ((List (List Int)) × Bool) := (impl_arePayments.f k l0 a1 a2).bind fun t295 => (if t295 = true then ((impl_paying.f k l0 a1 a2).bind fun t296 => ((hw_left.f k t296).bind fun t302 => (impl_firstMoves.l0 k t296 (([] : List (List Int))) 0 t302 a1 0))) else (some (([] : List (List Int)), false)))
theorem impl_firstMoves.mono_l : ∀ k, (∀ y0 y1 y2 y3 y4 y5, LeO (impl_firstMoves.l0 k y0 y1 y2 y3 y4 y5) (impl_firstMoves.l0 (k + 1) y0 y1 y2 y3 y4 y5)) ∧ (∀ y0 y1 y2 y3 y4 y5 y6 y7 y8 y9 y10 y11, LeO (impl_firstMoves.l1 k y0 y1 y2 y3 y4 y5 y6 y7 y8 y9 y10 y11) (impl_firstMoves.l1 (k + 1) y0 y1 y2 y3 y4 y5 y6 y7 y8 y9 y10 y11))
  | 0 => ⟨fun _ _ _ _ _ _ r h => by simp [impl_firstMoves.l0] at h, fun _ _ _ _ _ _ _ _ _ _ _ _ r h => by simp [impl_firstMoves.l1] at h⟩
  | k + 1 => by
    obtain ⟨ih0, ih1⟩ := impl_firstMoves.mono_l k
    refine ⟨?_, ?_⟩
    · intro y0 y1 y2 y3 y4 y5
      unfold impl_firstMoves.l0
      repeat' first
      | (with_reducible exact ih0 _ _ _ _ _ _)
      | (with_reducible exact ih1 _ _ _ _ _ _ _ _ _ _ _ _)
      | (with_reducible exact impl_arePayments.mono _ _ _ _)
      | (with_reducible exact impl_indices.mono _ _)
      | (with_reducible exact hw_left.mono _ _)
      | (with_reducible exact impl_paying.mono _ _ _ _)
      | (with_reducible exact LeO.refl _)
      | (with_reducible exact LeO.none _)
      | (with_reducible refine LeO.ite ?_ ?_)
      | (with_reducible refine LeO.bind ?_ (fun _ => ?_))
      | exact ih0 _ _ _ _ _ _
      | exact ih1 _ _ _ _ _ _ _ _ _ _ _ _
      | exact impl_arePayments.mono _ _ _ _
      | exact impl_indices.mono _ _
      | exact hw_left.mono _ _
      | exact impl_paying.mono _ _ _ _
      | exact LeO.none _
      | refine LeO.ite ?_ ?_
      | refine LeO.bind ?_ (fun _ => ?_)
    · intro y0 y1 y2 y3 y4 y5 y6 y7 y8 y9 y10 y11
      unfold impl_firstMoves.l1
      repeat' first
      | (with_reducible exact ih0 _ _ _ _ _ _)
      | (with_reducible exact ih1 _ _ _ _ _ _ _ _ _ _ _ _)
      | (with_reducible exact impl_arePayments.mono _ _ _ _)
      | (with_reducible exact impl_indices.mono _ _)
      | (with_reducible exact hw_left.mono _ _)
      | (with_reducible exact impl_paying.mono _ _ _ _)
      | (with_reducible exact LeO.refl _)
      | (with_reducible exact LeO.none _)
      | (with_reducible refine LeO.ite ?_ ?_)
      | (with_reducible refine LeO.bind ?_ (fun _ => ?_))
      | exact ih0 _ _ _ _ _ _
      | exact ih1 _ _ _ _ _ _ _ _ _ _ _ _
      | exact impl_arePayments.mono _ _ _ _
      | exact impl_indices.mono _ _
      | exact hw_left.mono _ _
      | exact impl_paying.mono _ _ _ _
      | exact LeO.none _
      | refine LeO.ite ?_ ?_
      | refine LeO.bind ?_ (fun _ => ?_)
theorem impl_firstMoves.mono : ∀ a0 a1 a2 k, LeO (impl_firstMoves.f k a0 a1 a2) (impl_firstMoves.f (k + 1) a0 a1 a2) := by
  intro a0 a1 a2 k
  obtain ⟨ih0, ih1⟩ := impl_firstMoves.mono_l k
  unfold impl_firstMoves.f
  repeat' first
      | (with_reducible exact ih0 _ _ _ _ _ _)
      | (with_reducible exact ih1 _ _ _ _ _ _ _ _ _ _ _ _)
      | (with_reducible exact impl_arePayments.mono _ _ _ _)
      | (with_reducible exact impl_indices.mono _ _)
      | (with_reducible exact hw_left.mono _ _)
      | (with_reducible exact impl_paying.mono _ _ _ _)
      | (with_reducible exact LeO.refl _)
      | (with_reducible exact LeO.none _)
      | (with_reducible refine LeO.ite ?_ ?_)
      | (with_reducible refine LeO.bind ?_ (fun _ => ?_))
      | exact ih0 _ _ _ _ _ _
      | exact ih1 _ _ _ _ _ _ _ _ _ _ _ _
      | exact impl_arePayments.mono _ _ _ _
      | exact impl_indices.mono _ _
      | exact hw_left.mono _ _
      | exact impl_paying.mono _ _ _ _
      | exact LeO.none _
      | refine LeO.ite ?_ ?_
      | refine LeO.bind ?_ (fun _ => ?_)
set_option maxHeartbeats 8000000 in
set_option maxRecDepth 100000 in
theorem impl_firstMoves.calls (k : Nat) (A0 : Option Addr) (c0 : Nat) (l0 : List Int) (a1 : Int) (a2 : Int) (r1 : List (List Int)) (r2 : Bool) (w : World) (hr0 : Kd.C (Kd.int .i64) w A0 l0.length l0) (hc0 : l0.length ≤ c0) (h : impl_firstMoves.f k l0 a1 a2 = some (r1, r2)) :
    Calls Try.prog 84 #[.slice A0 l0.length c0, .int .i64 a1, .int .i64 a2] w fun e w' => ∃ v0_ : Value, e = .returned (.tuple #[v0_, .bool r2]) ∧ Kd.S (Kd.slice 3 (Kd.int .i64)) 22 w' w.heap.size (fun _ => True) v0_ r1 ∧ Below w.heap.size w w' := by
  have HR0 := Aside0.mk hr0
  have HC0 := Aside0.mk hc0
  clear hr0 hc0
  have HB := Aside0.mk (Below.refl w.heap.size w)
  have H : ((impl_arePayments.f k l0 a1 a2).bind fun t295 => (if t295 = true then ((impl_paying.f k l0 a1 a2).bind fun t296 => ((hw_left.f k t296).bind fun t302 => (impl_firstMoves.l0 k t296 (([] : List (List Int))) 0 t302 a1 0))) else (some (([] : List (List Int)), false)))) = some (r1, r2) := h
  clear h
  replace H := Option.bind_eq_some_iff.mp H
  obtain ⟨t295, A40, H⟩ := H
  replace H : (if t295 = true then ((impl_paying.f k l0 a1 a2).bind fun t296 => ((hw_left.f k t296).bind fun t302 => (impl_firstMoves.l0 k t296 (([] : List (List Int))) 0 t302 a1 0))) else (some (([] : List (List Int)), false))) = some (r1, r2) := H
  have A4 := Aside0.mk A40
  clear A40
  by_cases c5 : t295 = true
  · subst c5
    have H1 : ((impl_paying.f k l0 a1 a2).bind fun t296 => ((hw_left.f k t296).bind fun t302 => (impl_firstMoves.l0 k t296 (([] : List (List Int))) 0 t302 a1 0))) = some (r1, r2) := by rw [if_pos rfl] at H; exact H
    clear H
    have H := H1
    clear H1
    replace H := Option.bind_eq_some_iff.mp H
    obtain ⟨t296, A60, H⟩ := H
    replace H : ((hw_left.f k t296).bind fun t302 => (impl_firstMoves.l0 k t296 (([] : List (List Int))) 0 t302 a1 0)) = some (r1, r2) := H
    have A6 := Aside0.mk A60
    clear A60
    obtain ⟨y299, hy299⟩ : ∃ y_ : List (List Int), y_ = (([] : List (List Int))) := ⟨_, rfl⟩
    replace H : ((hw_left.f k t296).bind fun t302 => (impl_firstMoves.l0 k t296 y299 0 t302 a1 0)) = some (r1, r2) := by first | (rw [hy299]; with_reducible exact H) | (have H2_ := (Option.bind_some _ _).symm.trans H; rw [hy299]; with_reducible exact H2_) | (have H2_ := (Option.bind_some _ _).symm.trans H; with_reducible exact H2_) | with_reducible exact H | (rw [hy299]; exact H) | exact H
    have Ny299 := Aside0.mk hy299
    clear hy299
    replace H := Option.bind_eq_some_iff.mp H
    obtain ⟨t302, A70, H⟩ := H
    replace H : (impl_firstMoves.l0 k t296 y299 0 t302 a1 0) = some (r1, r2) := H
    have A7 := Aside0.mk A70
    clear A70
    have H' := Aside0.mk H
    clear H
    go_enter Try.func84, Try.ntmps84
    go_wp2_with (first | (go_at_call 71; (with_reducible refine (impl_arePayments.calls k _ _ l0 a1 a2 true _ ?side1 ?side2 A4.out).mono ?_); (case side1 => repeat (first | exact HR0.out | (with_reducible refine Kd.C_alloc ?_ _) | (with_reducible refine Kd.C_drewN ?_ _) | (with_reducible refine Kd.C_drew ?_))); (case side2 => exact HC0.out); rintro e w8 ⟨rfl, hb⟩; have n0_ := Aside0.mk (below_step (by repeat (first | (with_reducible first | exact HB.out | apply below_alloc | apply pw_below_drewN | apply below_drew1) | exact HB.out)) hb); clear HB; have HB := n0_; clear n0_; (try clear hb); (try clear hb2); (try clear hk); (try clear hi)) | (go_at_call 80; (with_reducible refine (impl_paying.calls k _ _ l0 a1 a2 t296 _ ?side1 ?side2 A6.out).mono ?_); (case side1 => repeat (first | exact (Kd.C_below HR0.out HB.out) | (with_reducible refine Kd.C_alloc ?_ _) | (with_reducible refine Kd.C_drewN ?_ _) | (with_reducible refine Kd.C_drew ?_))); (case side2 => exact HC0.out); rintro e w9 ⟨v297, rfl, ho0, hb⟩; have n0_ := Aside0.mk (Kd.S_lower ho0 (below_size (by repeat (first | (with_reducible first | exact HB.out | apply below_alloc | apply pw_below_drewN | apply below_drew1) | exact HB.out)))); have n1_ := Aside0.mk (below_step (by repeat (first | (with_reducible first | exact HB.out | apply below_alloc | apply pw_below_drewN | apply below_drew1) | exact HB.out)) hb); clear HB; have HO298 := n0_; have HB := n1_; clear n0_ n1_; (try clear hb); (try clear hb2); (try clear hk); (try clear hi); (try clear ho0)) | ((with_reducible refine gate_dst (N := 27) rfl ?_); refine Kd.S_lit (Kd.slice 3 (Kd.int .i64)) _ 22 ?hg (N := 27) ?hd (xs := ([] : List (List Int))) (inner := []) (ok := fun _ => True) (okp := fun _ => True) ?hr ?hp (fun _ hk => hk) trivial (Below.refl _ _) (Nat.le_refl _) (by simp) ?_; (case hd => rfl); (case hg => rfl); (case hr => first | (go_simp; done) | (go_simp; rfl)); (case hp => exact (Reps.none _ _)); intro v300 w10 ho11 hb hg_ hnew_; clear hg_ hnew_; (first | rw [← Ny299.out] at ho11 | (simp only [Int.reduceToNat] at ho11; rw [← Ny299.out] at ho11)); have n0_ := Aside0.mk (Kd.S_elder' (by (with_reducible repeat (first | apply Kd.S_alloc | apply Kd.S_drewN | apply Kd.S_drew)); exact HO298.out) (Kd.S_base ho11) hb); have n1_ := Aside0.mk (Kd.S_lower (Kd.S_new' ho11 (Kd.S_lt (by (with_reducible repeat (first | apply Kd.S_alloc | apply Kd.S_drewN | apply Kd.S_drew)); exact HO298.out))) (below_size (by repeat (first | (with_reducible first | exact HB.out | apply below_alloc | apply pw_below_drewN | apply below_drew1) | exact HB.out)))); have n2_ := Aside0.mk (below_step (by repeat (first | (with_reducible first | exact HB.out | apply below_alloc | apply pw_below_drewN | apply below_drew1) | exact HB.out)) hb); clear HO298; clear HB; have HO298 := n0_; have HO301 := n1_; have HB := n2_; clear n0_ n1_ n2_; clear hb ho11; obtain ⟨Ao12, co12, eo12⟩ := Kd.S_slice HO298.out; subst eo12) | (go_at_call 104; (with_reducible refine (hw_left.calls k _ _ t296 t302 _ ?side1 ?side2 A7.out).mono ?_); (case side1 => repeat (first | exact (Kd.S_reads' HO298.out).2.2 | (with_reducible refine Kd.C_alloc ?_ _) | (with_reducible refine Kd.C_drewN ?_ _) | (with_reducible refine Kd.C_drew ?_))); (case side2 => exact (Kd.S_reads' HO298.out).2.1); rintro e w13 ⟨v303, rfl, ms3, ho0, ⟨cT, ht0⟩, hb⟩; obtain ⟨nT, ht0⟩ : ∃ n_ : Nat, HwTabs Try.prog 3 3 w13 n_ ms3 t302 0 cT := ⟨_, ht0⟩; have HT := Aside0.mk ht0; clear ht0; have n0_ := Aside0.mk (Kd.S_elder' (by (with_reducible repeat (first | apply Kd.S_alloc | apply Kd.S_drewN | apply Kd.S_drew)); exact HO298.out) (Kd.R_base ho0) hb); have n1_ := Aside0.mk (Kd.S_elder' (by (with_reducible repeat (first | apply Kd.S_alloc | apply Kd.S_drewN | apply Kd.S_drew)); exact HO301.out) (Kd.R_base ho0) hb); have n2_ := Aside0.mk (Kd.R_lower ho0 (below_size (by repeat (first | (with_reducible first | exact HB.out | apply below_alloc | apply pw_below_drewN | apply below_drew1) | exact HB.out)))); have n3_ := Aside0.mk (below_step (by repeat (first | (with_reducible first | exact HB.out | apply below_alloc | apply pw_below_drewN | apply below_drew1) | exact HB.out)) hb); clear HO298; clear HO301; clear HB; have HO298 := n0_; have HO301 := n1_; have HO304 := n2_; have HB := n3_; clear n0_ n1_ n2_ n3_; (try clear hb); (try clear hb2); (try clear hk); (try clear hi); (try clear ho0)))
    repeat (go_quiet (first | (go_at_call 71; (with_reducible refine (impl_arePayments.calls k _ _ l0 a1 a2 true _ ?side1 ?side2 A4.out).mono ?_); (case side1 => repeat (first | exact HR0.out | (with_reducible refine Kd.C_alloc ?_ _) | (with_reducible refine Kd.C_drewN ?_ _) | (with_reducible refine Kd.C_drew ?_))); (case side2 => exact HC0.out); rintro e w8 ⟨rfl, hb⟩; have n0_ := Aside0.mk (below_step (by repeat (first | (with_reducible first | exact HB.out | apply below_alloc | apply pw_below_drewN | apply below_drew1) | exact HB.out)) hb); clear HB; have HB := n0_; clear n0_; (try clear hb); (try clear hb2); (try clear hk); (try clear hi)) | (go_at_call 80; (with_reducible refine (impl_paying.calls k _ _ l0 a1 a2 t296 _ ?side1 ?side2 A6.out).mono ?_); (case side1 => repeat (first | exact (Kd.C_below HR0.out HB.out) | (with_reducible refine Kd.C_alloc ?_ _) | (with_reducible refine Kd.C_drewN ?_ _) | (with_reducible refine Kd.C_drew ?_))); (case side2 => exact HC0.out); rintro e w9 ⟨v297, rfl, ho0, hb⟩; have n0_ := Aside0.mk (Kd.S_lower ho0 (below_size (by repeat (first | (with_reducible first | exact HB.out | apply below_alloc | apply pw_below_drewN | apply below_drew1) | exact HB.out)))); have n1_ := Aside0.mk (below_step (by repeat (first | (with_reducible first | exact HB.out | apply below_alloc | apply pw_below_drewN | apply below_drew1) | exact HB.out)) hb); clear HB; have HO298 := n0_; have HB := n1_; clear n0_ n1_; (try clear hb); (try clear hb2); (try clear hk); (try clear hi); (try clear ho0)) | ((with_reducible refine gate_dst (N := 27) rfl ?_); refine Kd.S_lit (Kd.slice 3 (Kd.int .i64)) _ 22 ?hg (N := 27) ?hd (xs := ([] : List (List Int))) (inner := []) (ok := fun _ => True) (okp := fun _ => True) ?hr ?hp (fun _ hk => hk) trivial (Below.refl _ _) (Nat.le_refl _) (by simp) ?_; (case hd => rfl); (case hg => rfl); (case hr => first | (go_simp; done) | (go_simp; rfl)); (case hp => exact (Reps.none _ _)); intro v300 w10 ho11 hb hg_ hnew_; clear hg_ hnew_; (first | rw [← Ny299.out] at ho11 | (simp only [Int.reduceToNat] at ho11; rw [← Ny299.out] at ho11)); have n0_ := Aside0.mk (Kd.S_elder' (by (with_reducible repeat (first | apply Kd.S_alloc | apply Kd.S_drewN | apply Kd.S_drew)); exact HO298.out) (Kd.S_base ho11) hb); have n1_ := Aside0.mk (Kd.S_lower (Kd.S_new' ho11 (Kd.S_lt (by (with_reducible repeat (first | apply Kd.S_alloc | apply Kd.S_drewN | apply Kd.S_drew)); exact HO298.out))) (below_size (by repeat (first | (with_reducible first | exact HB.out | apply below_alloc | apply pw_below_drewN | apply below_drew1) | exact HB.out)))); have n2_ := Aside0.mk (below_step (by repeat (first | (with_reducible first | exact HB.out | apply below_alloc | apply pw_below_drewN | apply below_drew1) | exact HB.out)) hb); clear HO298; clear HB; have HO298 := n0_; have HO301 := n1_; have HB := n2_; clear n0_ n1_ n2_; clear hb ho11; obtain ⟨Ao12, co12, eo12⟩ := Kd.S_slice HO298.out; subst eo12) | (go_at_call 104; (with_reducible refine (hw_left.calls k _ _ t296 t302 _ ?side1 ?side2 A7.out).mono ?_); (case side1 => repeat (first | exact (Kd.S_reads' HO298.out).2.2 | (with_reducible refine Kd.C_alloc ?_ _) | (with_reducible refine Kd.C_drewN ?_ _) | (with_reducible refine Kd.C_drew ?_))); (case side2 => exact (Kd.S_reads' HO298.out).2.1); rintro e w13 ⟨v303, rfl, ms3, ho0, ⟨cT, ht0⟩, hb⟩; obtain ⟨nT, ht0⟩ : ∃ n_ : Nat, HwTabs Try.prog 3 3 w13 n_ ms3 t302 0 cT := ⟨_, ht0⟩; have HT := Aside0.mk ht0; clear ht0; have n0_ := Aside0.mk (Kd.S_elder' (by (with_reducible repeat (first | apply Kd.S_alloc | apply Kd.S_drewN | apply Kd.S_drew)); exact HO298.out) (Kd.R_base ho0) hb); have n1_ := Aside0.mk (Kd.S_elder' (by (with_reducible repeat (first | apply Kd.S_alloc | apply Kd.S_drewN | apply Kd.S_drew)); exact HO301.out) (Kd.R_base ho0) hb); have n2_ := Aside0.mk (Kd.R_lower ho0 (below_size (by repeat (first | (with_reducible first | exact HB.out | apply below_alloc | apply pw_below_drewN | apply below_drew1) | exact HB.out)))); have n3_ := Aside0.mk (below_step (by repeat (first | (with_reducible first | exact HB.out | apply below_alloc | apply pw_below_drewN | apply below_drew1) | exact HB.out)) hb); clear HO298; clear HO301; clear HB; have HO298 := n0_; have HO301 := n1_; have HO304 := n2_; have HB := n3_; clear n0_ n1_ n2_ n3_; (try clear hb); (try clear hb2); (try clear hk); (try clear hi); (try clear ho0))); try go_wp2_with (first | (go_at_call 71; (with_reducible refine (impl_arePayments.calls k _ _ l0 a1 a2 true _ ?side1 ?side2 A4.out).mono ?_); (case side1 => repeat (first | exact HR0.out | (with_reducible refine Kd.C_alloc ?_ _) | (with_reducible refine Kd.C_drewN ?_ _) | (with_reducible refine Kd.C_drew ?_))); (case side2 => exact HC0.out); rintro e w8 ⟨rfl, hb⟩; have n0_ := Aside0.mk (below_step (by repeat (first | (with_reducible first | exact HB.out | apply below_alloc | apply pw_below_drewN | apply below_drew1) | exact HB.out)) hb); clear HB; have HB := n0_; clear n0_; (try clear hb); (try clear hb2); (try clear hk); (try clear hi)) | (go_at_call 80; (with_reducible refine (impl_paying.calls k _ _ l0 a1 a2 t296 _ ?side1 ?side2 A6.out).mono ?_); (case side1 => repeat (first | exact (Kd.C_below HR0.out HB.out) | (with_reducible refine Kd.C_alloc ?_ _) | (with_reducible refine Kd.C_drewN ?_ _) | (with_reducible refine Kd.C_drew ?_))); (case side2 => exact HC0.out); rintro e w9 ⟨v297, rfl, ho0, hb⟩; have n0_ := Aside0.mk (Kd.S_lower ho0 (below_size (by repeat (first | (with_reducible first | exact HB.out | apply below_alloc | apply pw_below_drewN | apply below_drew1) | exact HB.out)))); have n1_ := Aside0.mk (below_step (by repeat (first | (with_reducible first | exact HB.out | apply below_alloc | apply pw_below_drewN | apply below_drew1) | exact HB.out)) hb); clear HB; have HO298 := n0_; have HB := n1_; clear n0_ n1_; (try clear hb); (try clear hb2); (try clear hk); (try clear hi); (try clear ho0)) | ((with_reducible refine gate_dst (N := 27) rfl ?_); refine Kd.S_lit (Kd.slice 3 (Kd.int .i64)) _ 22 ?hg (N := 27) ?hd (xs := ([] : List (List Int))) (inner := []) (ok := fun _ => True) (okp := fun _ => True) ?hr ?hp (fun _ hk => hk) trivial (Below.refl _ _) (Nat.le_refl _) (by simp) ?_; (case hd => rfl); (case hg => rfl); (case hr => first | (go_simp; done) | (go_simp; rfl)); (case hp => exact (Reps.none _ _)); intro v300 w10 ho11 hb hg_ hnew_; clear hg_ hnew_; (first | rw [← Ny299.out] at ho11 | (simp only [Int.reduceToNat] at ho11; rw [← Ny299.out] at ho11)); have n0_ := Aside0.mk (Kd.S_elder' (by (with_reducible repeat (first | apply Kd.S_alloc | apply Kd.S_drewN | apply Kd.S_drew)); exact HO298.out) (Kd.S_base ho11) hb); have n1_ := Aside0.mk (Kd.S_lower (Kd.S_new' ho11 (Kd.S_lt (by (with_reducible repeat (first | apply Kd.S_alloc | apply Kd.S_drewN | apply Kd.S_drew)); exact HO298.out))) (below_size (by repeat (first | (with_reducible first | exact HB.out | apply below_alloc | apply pw_below_drewN | apply below_drew1) | exact HB.out)))); have n2_ := Aside0.mk (below_step (by repeat (first | (with_reducible first | exact HB.out | apply below_alloc | apply pw_below_drewN | apply below_drew1) | exact HB.out)) hb); clear HO298; clear HB; have HO298 := n0_; have HO301 := n1_; have HB := n2_; clear n0_ n1_ n2_; clear hb ho11; obtain ⟨Ao12, co12, eo12⟩ := Kd.S_slice HO298.out; subst eo12) | (go_at_call 104; (with_reducible refine (hw_left.calls k _ _ t296 t302 _ ?side1 ?side2 A7.out).mono ?_); (case side1 => repeat (first | exact (Kd.S_reads' HO298.out).2.2 | (with_reducible refine Kd.C_alloc ?_ _) | (with_reducible refine Kd.C_drewN ?_ _) | (with_reducible refine Kd.C_drew ?_))); (case side2 => exact (Kd.S_reads' HO298.out).2.1); rintro e w13 ⟨v303, rfl, ms3, ho0, ⟨cT, ht0⟩, hb⟩; obtain ⟨nT, ht0⟩ : ∃ n_ : Nat, HwTabs Try.prog 3 3 w13 n_ ms3 t302 0 cT := ⟨_, ht0⟩; have HT := Aside0.mk ht0; clear ht0; have n0_ := Aside0.mk (Kd.S_elder' (by (with_reducible repeat (first | apply Kd.S_alloc | apply Kd.S_drewN | apply Kd.S_drew)); exact HO298.out) (Kd.R_base ho0) hb); have n1_ := Aside0.mk (Kd.S_elder' (by (with_reducible repeat (first | apply Kd.S_alloc | apply Kd.S_drewN | apply Kd.S_drew)); exact HO301.out) (Kd.R_base ho0) hb); have n2_ := Aside0.mk (Kd.R_lower ho0 (below_size (by repeat (first | (with_reducible first | exact HB.out | apply below_alloc | apply pw_below_drewN | apply below_drew1) | exact HB.out)))); have n3_ := Aside0.mk (below_step (by repeat (first | (with_reducible first | exact HB.out | apply below_alloc | apply pw_below_drewN | apply below_drew1) | exact HB.out)) hb); clear HO298; clear HO301; clear HB; have HO298 := n0_; have HO301 := n1_; have HO304 := n2_; have HB := n3_; clear n0_ n1_ n2_ n3_; (try clear hb); (try clear hb2); (try clear hk); (try clear hi); (try clear ho0))))
    go_loopg [9, 10, 31] k (fun kq v9 v10 v31 w' => ∃ (x9_1 : List (List Int)) (x10_1 : Int) (x31_1 : Int), v10 = .int .i64 x10_1 ∧ v31 = .int .i64 x31_1 ∧ Aside0 (impl_firstMoves.l0 kq t296 x9_1 x10_1 t302 a1 x31_1 = some (r1, r2)) ∧ Aside0 (kq ≤ k) ∧ Aside0 (Kd.S (Kd.slice 3 (Kd.int .i64)) 22 w' w.heap.size (fun k_ => some k_ ≠ (v9 : Value).ownBlock ∧ some k_ ≠ (v303 : Value).ownBlock) (.slice Ao12 t296.length co12) t296) ∧ Aside0 (Kd.S (Kd.slice 3 (Kd.int .i64)) 22 w' w.heap.size (fun k_ => some k_ ≠ ((.slice Ao12 t296.length co12) : Value).ownBlock ∧ some k_ ≠ (v303 : Value).ownBlock) v9 x9_1) ∧ Aside0 (Kd.R hwKm 78 w' w.heap.size (fun _ => True) v303 ms3) ∧ Aside0 (HwTabs Try.prog 3 3 w' nT ms3 t302 0 cT) ∧ Aside0 (Below w.heap.size w w'))
    case atStart => exact ⟨(y299), (0), (0), (by first | rfl | (simp; done) | (simp [*]; done)), (by first | rfl | (simp; done) | (simp [*]; done)), H', ⟨Nat.le_refl _⟩, ⟨by (with_reducible repeat (first | apply Kd.S_alloc | apply Kd.S_drewN | apply Kd.S_drew)); exact Kd.S_mono HO298.out (fun _ hk => ⟨hk.1.2, hk.2⟩)⟩, ⟨by (with_reducible repeat (first | apply Kd.S_alloc | apply Kd.S_drewN | apply Kd.S_drew)); exact Kd.S_mono HO301.out (fun _ hk => ⟨hk.1.2, hk.2⟩)⟩, ⟨by (with_reducible repeat (first | apply Kd.R_alloc | apply Kd.R_drewN | apply Kd.R_drew)); exact HO304.out⟩, ⟨by (with_reducible repeat (first | exact HT.out | apply HwTabs.alloc | apply HwTabs.drewN | apply HwTabs.drew))⟩, ⟨by repeat (first | (with_reducible first | exact HB.out | apply below_alloc | apply pw_below_drewN | apply below_drew1) | exact HB.out)⟩⟩
    case round =>
      clear H'
      try clear c1
      try clear p2
      try clear c5
      obtain ⟨x9_1, x10_1, x31_1, rfl, rfl, HA, HK1, HO_8, HO_9, HO_11, HT, HB⟩ := hrel
      cases gk with
      | zero => exact absurd HA.out (by simp [impl_firstMoves.l0])
      | succ k1 =>
        have H := HA.out
        clear HA
        simp only [impl_firstMoves.l0] at H
        by_cases c14 : x31_1 < a1
        · rw [if_pos c14] at H
          have c14b0 : decide (x31_1 < a1) = true := decide_eq_true c14
          clear c14
          by_cases c15 : 0 ≤ x31_1
          · rw [if_pos c15] at H
            have c15b0 : decide (0 ≤ x31_1) = true := decide_eq_true c15
            clear c15
            by_cases c16 : x31_1 < (t296.length : Int)
            · rw [if_pos c16] at H
              have c16b0 : decide (x31_1 < (t296.length : Int)) = true := decide_eq_true c16
              clear c16
              have H' := Aside0.mk H
              clear H
              have p305 : 0 ≤ (x31_1 : Int) := of_decide_eq_true (by first | (with_reducible assumption) | assumption)
              have q305 : x31_1 < (t296.length : Int) := of_decide_eq_true (by first | (with_reducible assumption) | assumption)
              obtain ⟨ad305, A305_0, c305_0, e305, hx305_0, hl305_0, hi305_0⟩ := at_L1 (Kd.S_reads' HO_8.out).2.2 x31_1 p305 q305
              cases e305
              obtain ⟨ce305, hce305, hMe305, hcc305⟩ := Kd.S_get HO_8.out [] x31_1 p305 (by first | exact q305 | exact of_decide_eq_true (by first | (with_reducible assumption) | assumption) | (have e_ := (Kd.S_reads' HO_8.out).1; omega))
              obtain ⟨ve305_0, rfl, ge305_0⟩ := hMe305
              have hv305_0 := hcc305 0 _ rfl
              rw [Nat.add_zero, show ((Kd.slice 3 (Kd.int .i64))).sz = 1 from rfl, Nat.mul_one] at hv305_0
              replace hv305_0 := Option.some.inj (hv305_0.symm.trans hx305_0)
              rw [hv305_0] at ge305_0
              have HL305_0 := Aside0.mk (show Kd.R (Kd.int .i64) 3 _ _ _ _ (rd_L1 t296 x31_1) from ge305_0)
              clear hv305_0 ge305_0
              clear hcc305 hce305
              have HR305_0 := Aside0.mk hi305_0
              have HC305_0 := Aside0.mk hl305_0
              clear hi305_0 hl305_0
              replace p305 := eq_true p305
              replace q305 := eq_true q305
              go_wp2
              repeat (go_quiet (fail); try go_wp2)
              go_loopg [13, 14, 39] k1 (fun kq v13 v14 v39 w' => ∃ (x13_2 : Int) (x14_2 : Int) (x39_2 : Int), v13 = .int .i64 x13_2 ∧ v14 = .int .i64 x14_2 ∧ v39 = .int .i64 x39_2 ∧ Aside0 (impl_firstMoves.l1 kq t296 x9_1 x10_1 t302 x31_1 x13_2 x14_2 a1 x31_1 (rd_L1 t296 x31_1) ((rd_L1 t296 x31_1).length : Int) x39_2 = some (r1, r2)) ∧ Aside0 (kq ≤ k1) ∧ Aside0 (Kd.S (Kd.slice 3 (Kd.int .i64)) 22 w' w.heap.size (fun k_ => some k_ ≠ (u9 : Value).ownBlock ∧ some k_ ≠ (v303 : Value).ownBlock) (.slice (some ad305) t296.length co12) t296) ∧ Aside0 (Kd.S (Kd.slice 3 (Kd.int .i64)) 22 w' w.heap.size (fun k_ => some k_ ≠ ((.slice (some ad305) t296.length co12) : Value).ownBlock ∧ some k_ ≠ (v303 : Value).ownBlock) u9 x9_1) ∧ Aside0 (Kd.R hwKm 78 w' w.heap.size (fun _ => True) v303 ms3) ∧ Aside0 (HwTabs Try.prog 3 3 w' nT ms3 t302 0 cT) ∧ Aside0 (Kd.C (Kd.int .i64) w' A305_0 (rd_L1 t296 x31_1).length (rd_L1 t296 x31_1)) ∧ Aside0 (Below w.heap.size w w'))
              case atStart => exact ⟨(0), (481), (0), (by first | rfl | (simp; done) | (simp [*]; done)), (by first | rfl | (simp; done) | (simp [*]; done)), (by first | rfl | (simp; done) | (simp [*]; done)), H', ⟨Nat.le_refl _⟩, ⟨by (with_reducible repeat (first | apply Kd.S_alloc | apply Kd.S_drewN | apply Kd.S_drew)); exact HO_8.out⟩, ⟨by (with_reducible repeat (first | apply Kd.S_alloc | apply Kd.S_drewN | apply Kd.S_drew)); exact HO_9.out⟩, ⟨by (with_reducible repeat (first | apply Kd.R_alloc | apply Kd.R_drewN | apply Kd.R_drew)); exact HO_11.out⟩, ⟨by (with_reducible repeat (first | exact HT.out | apply HwTabs.alloc | apply HwTabs.drewN | apply HwTabs.drew))⟩, ⟨by repeat (first | (with_reducible exact HR305_0.out) | (with_reducible refine Kd.C_alloc ?_ _) | (with_reducible refine Kd.C_drewN ?_ _) | (with_reducible refine Kd.C_drew ?_) | exact HR305_0.out)⟩, ⟨by repeat (first | (with_reducible first | exact HB.out | apply below_alloc | apply pw_below_drewN | apply below_drew1) | exact HB.out)⟩⟩
              case round =>
                clear H'
                try clear c1
                try clear p2
                try clear c3
                try clear p3
                try clear q3
                try clear hx3
                try clear c5
                try clear c14
                try clear c14b0
                try clear c15
                try clear c15b0
                try clear c16
                try clear c16b0
                try clear hx305_0
                try clear p2
                try clear p305
                try clear q305
                obtain ⟨x13_2, x14_2, x39_2, rfl, rfl, rfl, HA, HK2, HO_8, HO_9, HO_11, HT, HR305_0, HB⟩ := hrel
                cases gk with
                | zero => exact absurd HA.out (by simp [impl_firstMoves.l1])
                | succ k2 =>
                  have H := HA.out
                  clear HA
                  simp only [impl_firstMoves.l1] at H
                  by_cases c17 : x39_2 < ((rd_L1 t296 x31_1).length : Int)
                  · rw [if_pos c17] at H
                    have c17b0 : decide (x39_2 < ((rd_L1 t296 x31_1).length : Int)) = true := decide_eq_true c17
                    clear c17
                    by_cases c18 : 0 ≤ x39_2
                    · rw [if_pos c18] at H
                      have c18b0 : decide (0 ≤ x39_2) = true := decide_eq_true c18
                      clear c18
                      by_cases c19 : x39_2 < ((rd_L1 t296 x31_1).length : Int)
                      · rw [if_pos c19] at H
                        have c19b0 : decide (x39_2 < ((rd_L1 t296 x31_1).length : Int)) = true := decide_eq_true c19
                        clear c19
                        replace H := Option.bind_eq_some_iff.mp H
                        obtain ⟨t313, A200, H⟩ := H
                        replace H : (if 0 ≤ x31_1 then (if x31_1 < (t302.length : Int) then ((hwLk t302 x31_1 (rd (rd_L1 t296 x31_1) x39_2)).bind fun t315 => (if (wrap64 (t313 + t315)) < x14_2 then (impl_firstMoves.l1 k2 t296 x9_1 x10_1 t302 x31_1 (rd (rd_L1 t296 x31_1) x39_2) (wrap64 (t313 + t315)) a1 x31_1 (rd_L1 t296 x31_1) ((rd_L1 t296 x31_1).length : Int) (wrap64 (x39_2 + 1))) else (impl_firstMoves.l1 k2 t296 x9_1 x10_1 t302 x31_1 x13_2 x14_2 a1 x31_1 (rd_L1 t296 x31_1) ((rd_L1 t296 x31_1).length : Int) (wrap64 (x39_2 + 1))))) else (none)) else (none)) = some (r1, r2) := H
                        have A20 := Aside0.mk A200
                        clear A200
                        by_cases c21 : 0 ≤ x31_1
                        · rw [if_pos c21] at H
                          have c21b0 : decide (0 ≤ x31_1) = true := decide_eq_true c21
                          clear c21
                          by_cases c22 : x31_1 < (t302.length : Int)
                          · rw [if_pos c22] at H
                            have c22b0 : decide (x31_1 < (t302.length : Int)) = true := decide_eq_true c22
                            clear c22
                            replace H := Option.bind_eq_some_iff.mp H
                            obtain ⟨t315, A230, H⟩ := H
                            replace H : (if (wrap64 (t313 + t315)) < x14_2 then (impl_firstMoves.l1 k2 t296 x9_1 x10_1 t302 x31_1 (rd (rd_L1 t296 x31_1) x39_2) (wrap64 (t313 + t315)) a1 x31_1 (rd_L1 t296 x31_1) ((rd_L1 t296 x31_1).length : Int) (wrap64 (x39_2 + 1))) else (impl_firstMoves.l1 k2 t296 x9_1 x10_1 t302 x31_1 x13_2 x14_2 a1 x31_1 (rd_L1 t296 x31_1) ((rd_L1 t296 x31_1).length : Int) (wrap64 (x39_2 + 1)))) = some (r1, r2) := H
                            have A23 := Aside0.mk A230
                            clear A230
                            by_cases c24 : (wrap64 (t313 + t315)) < x14_2
                            · rw [if_pos c24] at H
                              have c24b0 : decide ((wrap64 (t313 + t315)) < x14_2) = true := decide_eq_true c24
                              clear c24
                              have H' := Aside0.mk H
                              clear H
                              have p312 : 0 ≤ (x39_2 : Int) := of_decide_eq_true (by first | (with_reducible assumption) | assumption)
                              have q312 : x39_2 < ((rd_L1 t296 x31_1).length : Int) := of_decide_eq_true (by first | (with_reducible assumption) | assumption)
                              obtain ⟨ad312, e312, hx312_0⟩ := Kd.at_int HR305_0.out x39_2 p312 q312
                              cases e312
                              replace p312 := eq_true p312
                              replace q312 := eq_true q312
                              have p314 : 0 ≤ (x31_1 : Int) := of_decide_eq_true (by first | (with_reducible assumption) | assumption)
                              have q314 : x31_1 < (t302.length : Int) := of_decide_eq_true (by first | (with_reducible assumption) | assumption)
                              have hml := HT.out.1
                              obtain ⟨go26, co26, eo26, gb26, gl26, cl26, HG26⟩ := Kd.R_form HO_11.out (by omega)
                              subst eo26
                              obtain ⟨b, m, hb1, hb2, hb3, hb4, hb5, hb6⟩ := hwKm_cell HO_11.out HT.out x31_1 (by omega) q314
                              obtain ⟨hwf, hlv⟩ := hwLk_some A23.out
                              have hlk : ∀ n_ : Nat, (Instr.lookup 78 (.map (some b)) (.int .i64 (rd (rd_L1 t296 x31_1) x39_2)) false).run Try.prog (wr.drewN n_) = .ok (.int .i64 t315) (wr.drewN n_) := fun n_ => hlv ▸ hwTab_run _ _ _ Try.underlying3 hwUnderM Try.underlying3 hwZeroI (hb4.drewN n_) _ hwf
                              have r314 : (x31_1 < (ms3.length : Int)) = True := eq_true (by omega)
                              replace p314 := eq_true p314
                              replace q314 := eq_true q314
                              clear hb1 hb2 hb3 hb4 gb26 gl26 HG26 hml hwf hlv
                              go_wp2_with (first | (go_at_call 105; (with_reducible refine (impl_moves.calls x10_1 (rd (rd_L1 t296 x31_1) x39_2) t313 _ A20.out).mono ?_); rintro e w' ⟨rfl, ⟨nd, rfl⟩⟩; (try first | exact ⟨rfl, _, World.drewN_drewN _ _ _⟩ | exact ⟨rfl, _, Eq.trans (World.drewN_drewN _ _ _) (congrArg (World.drewN _) (Nat.add_assoc _ _ _))⟩)))
                              go_quiet (first | (go_at_call 105; (with_reducible refine (impl_moves.calls x10_1 (rd (rd_L1 t296 x31_1) x39_2) t313 _ A20.out).mono ?_); rintro e w' ⟨rfl, ⟨nd, rfl⟩⟩; (try first | exact ⟨rfl, _, World.drewN_drewN _ _ _⟩ | exact ⟨rfl, _, Eq.trans (World.drewN_drewN _ _ _) (congrArg (World.drewN _) (Nat.add_assoc _ _ _))⟩)))
                              go_wp2_with (first | (go_at_call 105; (with_reducible refine (impl_moves.calls x10_1 (rd (rd_L1 t296 x31_1) x39_2) t313 _ A20.out).mono ?_); rintro e w' ⟨rfl, ⟨nd, rfl⟩⟩; (try first | exact ⟨rfl, _, World.drewN_drewN _ _ _⟩ | exact ⟨rfl, _, Eq.trans (World.drewN_drewN _ _ _) (congrArg (World.drewN _) (Nat.add_assoc _ _ _))⟩)))
                              go_roundg k2
                              case measure => have := HK1.out; have := HK2.out; omega
                              case rel => exact ⟨(rd (rd_L1 t296 x31_1) x39_2), (wrap64 (t313 + t315)), (wrap64 (x39_2 + 1)), (by first | rfl | (simp; done) | (simp [*]; done)), (by first | rfl | (simp; done) | (simp [*]; done)), (by first | rfl | (simp; done) | (simp [*]; done)), H', ⟨by have := HK1.out; have := HK2.out; omega⟩, ⟨by (with_reducible repeat (first | apply Kd.S_alloc | apply Kd.S_drewN | apply Kd.S_drew)); exact HO_8.out⟩, ⟨by (with_reducible repeat (first | apply Kd.S_alloc | apply Kd.S_drewN | apply Kd.S_drew)); exact HO_9.out⟩, ⟨by (with_reducible repeat (first | apply Kd.R_alloc | apply Kd.R_drewN | apply Kd.R_drew)); exact HO_11.out⟩, ⟨by (with_reducible repeat (first | exact HT.out | apply HwTabs.alloc | apply HwTabs.drewN | apply HwTabs.drew))⟩, ⟨by repeat (first | (with_reducible exact HR305_0.out) | (with_reducible refine Kd.C_alloc ?_ _) | (with_reducible refine Kd.C_drewN ?_ _) | (with_reducible refine Kd.C_drew ?_) | exact HR305_0.out)⟩, ⟨by repeat (first | (with_reducible first | exact HB.out | apply below_alloc | apply pw_below_drewN | apply below_drew1) | exact HB.out)⟩⟩
                            · rw [if_neg c24] at H
                              have c24b0 : decide ((wrap64 (t313 + t315)) < x14_2) = false := decide_eq_false c24
                              clear c24
                              have H' := Aside0.mk H
                              clear H
                              have p312 : 0 ≤ (x39_2 : Int) := of_decide_eq_true (by first | (with_reducible assumption) | assumption)
                              have q312 : x39_2 < ((rd_L1 t296 x31_1).length : Int) := of_decide_eq_true (by first | (with_reducible assumption) | assumption)
                              obtain ⟨ad312, e312, hx312_0⟩ := Kd.at_int HR305_0.out x39_2 p312 q312
                              cases e312
                              replace p312 := eq_true p312
                              replace q312 := eq_true q312
                              have p314 : 0 ≤ (x31_1 : Int) := of_decide_eq_true (by first | (with_reducible assumption) | assumption)
                              have q314 : x31_1 < (t302.length : Int) := of_decide_eq_true (by first | (with_reducible assumption) | assumption)
                              have hml := HT.out.1
                              obtain ⟨go26, co26, eo26, gb26, gl26, cl26, HG26⟩ := Kd.R_form HO_11.out (by omega)
                              subst eo26
                              obtain ⟨b, m, hb1, hb2, hb3, hb4, hb5, hb6⟩ := hwKm_cell HO_11.out HT.out x31_1 (by omega) q314
                              obtain ⟨hwf, hlv⟩ := hwLk_some A23.out
                              have hlk : ∀ n_ : Nat, (Instr.lookup 78 (.map (some b)) (.int .i64 (rd (rd_L1 t296 x31_1) x39_2)) false).run Try.prog (wr.drewN n_) = .ok (.int .i64 t315) (wr.drewN n_) := fun n_ => hlv ▸ hwTab_run _ _ _ Try.underlying3 hwUnderM Try.underlying3 hwZeroI (hb4.drewN n_) _ hwf
                              have r314 : (x31_1 < (ms3.length : Int)) = True := eq_true (by omega)
                              replace p314 := eq_true p314
                              replace q314 := eq_true q314
                              clear hb1 hb2 hb3 hb4 gb26 gl26 HG26 hml hwf hlv
                              go_wp2_with (first | (go_at_call 105; (with_reducible refine (impl_moves.calls x10_1 (rd (rd_L1 t296 x31_1) x39_2) t313 _ A20.out).mono ?_); rintro e w' ⟨rfl, ⟨nd, rfl⟩⟩; (try first | exact ⟨rfl, _, World.drewN_drewN _ _ _⟩ | exact ⟨rfl, _, Eq.trans (World.drewN_drewN _ _ _) (congrArg (World.drewN _) (Nat.add_assoc _ _ _))⟩)))
                              go_quiet (first | (go_at_call 105; (with_reducible refine (impl_moves.calls x10_1 (rd (rd_L1 t296 x31_1) x39_2) t313 _ A20.out).mono ?_); rintro e w' ⟨rfl, ⟨nd, rfl⟩⟩; (try first | exact ⟨rfl, _, World.drewN_drewN _ _ _⟩ | exact ⟨rfl, _, Eq.trans (World.drewN_drewN _ _ _) (congrArg (World.drewN _) (Nat.add_assoc _ _ _))⟩)))
                              go_wp2_with (first | (go_at_call 105; (with_reducible refine (impl_moves.calls x10_1 (rd (rd_L1 t296 x31_1) x39_2) t313 _ A20.out).mono ?_); rintro e w' ⟨rfl, ⟨nd, rfl⟩⟩; (try first | exact ⟨rfl, _, World.drewN_drewN _ _ _⟩ | exact ⟨rfl, _, Eq.trans (World.drewN_drewN _ _ _) (congrArg (World.drewN _) (Nat.add_assoc _ _ _))⟩)))
                              go_roundg k2
                              case measure => have := HK1.out; have := HK2.out; omega
                              case rel => exact ⟨(x13_2), (x14_2), (wrap64 (x39_2 + 1)), (by first | rfl | (simp; done) | (simp [*]; done)), (by first | rfl | (simp; done) | (simp [*]; done)), (by first | rfl | (simp; done) | (simp [*]; done)), H', ⟨by have := HK1.out; have := HK2.out; omega⟩, ⟨by (with_reducible repeat (first | apply Kd.S_alloc | apply Kd.S_drewN | apply Kd.S_drew)); exact HO_8.out⟩, ⟨by (with_reducible repeat (first | apply Kd.S_alloc | apply Kd.S_drewN | apply Kd.S_drew)); exact HO_9.out⟩, ⟨by (with_reducible repeat (first | apply Kd.R_alloc | apply Kd.R_drewN | apply Kd.R_drew)); exact HO_11.out⟩, ⟨by (with_reducible repeat (first | exact HT.out | apply HwTabs.alloc | apply HwTabs.drewN | apply HwTabs.drew))⟩, ⟨by repeat (first | (with_reducible exact HR305_0.out) | (with_reducible refine Kd.C_alloc ?_ _) | (with_reducible refine Kd.C_drewN ?_ _) | (with_reducible refine Kd.C_drew ?_) | exact HR305_0.out)⟩, ⟨by repeat (first | (with_reducible first | exact HB.out | apply below_alloc | apply pw_below_drewN | apply below_drew1) | exact HB.out)⟩⟩
                          · rw [if_neg c22] at H
                            exact absurd H (by simp)
                        · rw [if_neg c21] at H
                          exact absurd H (by simp)
                      · rw [if_neg c19] at H
                        exact absurd H (by simp)
                    · rw [if_neg c18] at H
                      exact absurd H (by simp)
                  · rw [if_neg c17] at H
                    have c17b0 : decide (x39_2 < ((rd_L1 t296 x31_1).length : Int)) = false := decide_eq_false c17
                    clear c17
                    by_cases c27 : x14_2 ≥ 481
                    · rw [if_pos c27] at H
                      have c27b0 : decide (481 ≤ x14_2) = true := decide_eq_true c27
                      clear c27
                      simp only [Option.some.injEq, Prod.mk.injEq] at H
                      obtain ⟨rfl, rfl⟩ := H
                      go_wp2
                      repeat (go_quiet (fail); try go_wp2)
                      go_ret2
                      exact ⟨_, by first | rfl | (simp [errW_none, errW_some] <;> rfl) | (simp [*, errW_none, errW_some] <;> rfl), by first | exact Kd.S_nil _ _ _ _ _ | exact Kd.N_nil _ _ _ _ _ | exact Kd.V_nil _ _ _ _ _ | exact Kd.Q_nil _ _ _ _ _ | exact Kd.R_nil _ _ _ _ _, by repeat (first | (with_reducible first | exact HB.out | apply below_alloc | apply pw_below_drewN | apply below_drew1) | exact HB.out)⟩
                    · rw [if_neg c27] at H
                      have c27b0 : decide (481 ≤ x14_2) = false := decide_eq_false c27
                      clear c27
                      replace H := Option.bind_eq_some_iff.mp H
                      obtain ⟨t306, A280, H⟩ := H
                      replace H : (if x9_1.length < 5864062014805 then (impl_firstMoves.l0 k2 t296 (x9_1 ++ [t306]) x13_2 t302 a1 (wrap64 (x31_1 + 1))) else (none)) = some (r1, r2) := H
                      have A28 := Aside0.mk A280
                      clear A280
                      by_cases c29 : x9_1.length < 5864062014805
                      · rw [if_pos c29] at H
                        have LMc29 := Aside0.mk c29
                        clear c29
                        obtain ⟨y309, hy309⟩ : ∃ y_ : List (List Int), y_ = (x9_1 ++ [t306]) := ⟨_, rfl⟩
                        replace H : (impl_firstMoves.l0 k2 t296 y309 x13_2 t302 a1 (wrap64 (x31_1 + 1))) = some (r1, r2) := by first | (rw [hy309]; with_reducible exact H) | (have H2_ := (Option.bind_some _ _).symm.trans H; rw [hy309]; with_reducible exact H2_) | (have H2_ := (Option.bind_some _ _).symm.trans H; with_reducible exact H2_) | with_reducible exact H | (rw [hy309]; exact H) | exact H
                        have Ny309 := Aside0.mk hy309
                        clear hy309
                        have H' := Aside0.mk H
                        clear H
                        go_wp2_with (first | (go_at_call 99; (with_reducible refine (impl_indices.calls k2 x13_2 t306 _ A28.out).mono ?_); rintro e w30 ⟨v307, rfl, ho0, hb⟩; have nT_ := Aside0.mk (HwTabs.below (by (with_reducible repeat (first | exact HT.out | apply HwTabs.alloc | apply HwTabs.drewN | apply HwTabs.drew))) hb); clear HT; have HT := nT_; clear nT_; have n0_ := Aside0.mk (Kd.S_elder' (by (with_reducible repeat (first | apply Kd.S_alloc | apply Kd.S_drewN | apply Kd.S_drew)); exact HO_8.out) (Kd.R_base ho0) hb); have n1_ := Aside0.mk (Kd.S_elder' (by (with_reducible repeat (first | apply Kd.S_alloc | apply Kd.S_drewN | apply Kd.S_drew)); exact HO_9.out) (Kd.R_base ho0) hb); have n2_ := Aside0.mk (Kd.R_elder' (by (with_reducible repeat (first | apply Kd.R_alloc | apply Kd.R_drewN | apply Kd.R_drew)); exact HO_11.out) (Kd.R_base ho0) hb); have n3_ := Aside0.mk (Kd.R_lower (Kd.R_new' ho0 (Kd.R_lt (by (with_reducible repeat (first | apply Kd.R_alloc | apply Kd.R_drewN | apply Kd.R_drew)); exact HO_11.out))) (below_size (by repeat (first | (with_reducible first | exact HB.out | apply below_alloc | apply pw_below_drewN | apply below_drew1) | exact HB.out)))); have n4_ := Aside0.mk (Kd.C_below (by repeat (first | (with_reducible exact HR305_0.out) | (with_reducible refine Kd.C_alloc ?_ _) | (with_reducible refine Kd.C_drewN ?_ _) | (with_reducible refine Kd.C_drew ?_) | exact HR305_0.out)) hb); have n5_ := Aside0.mk (below_step (by repeat (first | (with_reducible first | exact HB.out | apply below_alloc | apply pw_below_drewN | apply below_drew1) | exact HB.out)) hb); clear HO_8; clear HO_9; clear HO_11; clear HR305_0; clear HB; have HO_8 := n0_; have HO_9 := n1_; have HO_11 := n2_; have HO308 := n3_; have HR305_0 := n4_; have HB := n5_; clear n0_ n1_ n2_ n3_ n4_ n5_; (try clear hb); (try clear hb2); (try clear hk); (try clear hi); (try clear ho0); obtain ⟨Ao32, co32, eo32⟩ := Kd.R_slice HO308.out; subst eo32) | ((with_reducible refine gate_builtin (b := .append) (xs := #[.tmp 62, .tmp 65]) rfl ?_); at_builtin; refine Kd.S_append (Kd.slice 3 (Kd.int .i64)) (w0 := w) w.heap.size rfl (.tmp 62) (.tmp 65) 23 22 (.slice none 0 0) 24 rfl Try.underlying23 info22 rfl (by decide) (by omega) u9 x9_1 t306 [.slice Ao32 t306.length co32] (fun k_ => some k_ ≠ (.slice (some ad305) t296.length co12 : Value).ownBlock ∧ some k_ ≠ (v303 : Value).ownBlock) (fun k_ => some k_ = (.slice Ao32 t306.length co32 : Value).ownBlock) rfl rfl ?aP (fun k_ hk_ => ((Kd.R_mono (ok' := fun k_ => ((fun k_ => some k_ ≠ (.slice (some ad305) t296.length co12 : Value).ownBlock ∧ some k_ ≠ (v303 : Value).ownBlock)) k_ ∧ some k_ ≠ (u9 : Value).ownBlock) (Kd.R_apart' (Kd.R_apart' (HO308.out) (Kd.S_typed HO_8.out) (by decide)) (Kd.S_typed HO_9.out) (by decide)) (fun k_ hk => ⟨⟨hk.1.2, hk.1.1.2⟩, hk.2⟩))).1 k_ hk_.symm) ?aF ?aO ?aB ?aS ?aL ?_; (case aP => exact Kd.M_row (Kd.R_mono (Kd.R_tight rfl (Kd.R_mono (ok' := fun k_ => ((fun k_ => some k_ ≠ (.slice (some ad305) t296.length co12 : Value).ownBlock ∧ some k_ ≠ (v303 : Value).ownBlock)) k_ ∧ some k_ ≠ (u9 : Value).ownBlock) (Kd.R_apart' (Kd.R_apart' (HO308.out) (Kd.S_typed HO_8.out) (by decide)) (Kd.S_typed HO_9.out) (by decide)) (fun k_ hk => ⟨⟨hk.1.2, hk.1.1.2⟩, hk.2⟩))) (fun _ h_ => h_))); (case aB => exact (by repeat (first | (with_reducible first | exact HB.out | apply below_alloc | apply pw_below_drewN | apply below_drew1) | exact HB.out))); (case aF => exact (fun k_ hk => ⟨Kd.fresh' (Kd.S_lt (by (with_reducible repeat (first | apply Kd.S_alloc | apply Kd.S_drewN | apply Kd.S_drew)); exact HO_8.out)) k_ hk, Kd.fresh' (Kd.R_lt (by (with_reducible repeat (first | apply Kd.R_alloc | apply Kd.R_drewN | apply Kd.R_drew)); exact HO_11.out)) k_ hk⟩)); (case aO => exact (by (with_reducible repeat (first | apply Kd.S_alloc | apply Kd.S_drewN | apply Kd.S_drew)); exact Kd.S_mono HO_9.out (fun k_ hk => ⟨⟨hk.1.1, hk.1.2⟩, fun e_ => hk.2 e_⟩))); (case aS => exact (below_size (by repeat (first | (with_reducible first | exact HB.out | apply below_alloc | apply pw_below_drewN | apply below_drew1) | exact HB.out)))); (case aL => have := LMc29.out; omega); intro v310 w31 ho hb hg hat; rw [← Ny309.out] at ho; have nT_ := Aside0.mk (HwTabs.over (by (with_reducible repeat (first | exact HT.out | apply HwTabs.alloc | apply HwTabs.drewN | apply HwTabs.drew))) (Kd.S_typed (by (with_reducible repeat (first | apply Kd.S_alloc | apply Kd.S_drewN | apply Kd.S_drew)); exact HO_9.out)) hg); clear HT; have HT := nT_; clear nT_; have n0_ := Aside0.mk (Kd.S_after (ok := (fun k_ => some k_ ≠ (v303 : Value).ownBlock ∧ some k_ ≠ (.slice Ao32 t306.length co32 : Value).ownBlock)) (by (with_reducible repeat (first | apply Kd.S_alloc | apply Kd.S_drewN | apply Kd.S_drew)); exact Kd.S_mono HO_8.out (fun _ hk => ⟨⟨hk.1.2, hk.2⟩, hk.1.1⟩)) hg hat); have n1_ := Aside0.mk (Kd.R_over' (by (with_reducible repeat (first | apply Kd.R_alloc | apply Kd.R_drewN | apply Kd.R_drew)); exact HO_11.out) (Kd.S_typed (by (with_reducible repeat (first | apply Kd.S_alloc | apply Kd.S_drewN | apply Kd.S_drew)); exact HO_9.out)) (by decide) hg); have n2_ := Aside0.mk (hb); have n3_ := Aside0.mk (ho); clear HO_8; clear HO_11; clear HB; clear HO_9; clear HO308; have HO_8 := n0_; have HO_11 := n1_; have HB := n2_; have HO311 := n3_; clear n0_ n1_ n2_ n3_; clear ho hb hg hat))
                        repeat (go_quiet (first | (go_at_call 99; (with_reducible refine (impl_indices.calls k2 x13_2 t306 _ A28.out).mono ?_); rintro e w30 ⟨v307, rfl, ho0, hb⟩; have nT_ := Aside0.mk (HwTabs.below (by (with_reducible repeat (first | exact HT.out | apply HwTabs.alloc | apply HwTabs.drewN | apply HwTabs.drew))) hb); clear HT; have HT := nT_; clear nT_; have n0_ := Aside0.mk (Kd.S_elder' (by (with_reducible repeat (first | apply Kd.S_alloc | apply Kd.S_drewN | apply Kd.S_drew)); exact HO_8.out) (Kd.R_base ho0) hb); have n1_ := Aside0.mk (Kd.S_elder' (by (with_reducible repeat (first | apply Kd.S_alloc | apply Kd.S_drewN | apply Kd.S_drew)); exact HO_9.out) (Kd.R_base ho0) hb); have n2_ := Aside0.mk (Kd.R_elder' (by (with_reducible repeat (first | apply Kd.R_alloc | apply Kd.R_drewN | apply Kd.R_drew)); exact HO_11.out) (Kd.R_base ho0) hb); have n3_ := Aside0.mk (Kd.R_lower (Kd.R_new' ho0 (Kd.R_lt (by (with_reducible repeat (first | apply Kd.R_alloc | apply Kd.R_drewN | apply Kd.R_drew)); exact HO_11.out))) (below_size (by repeat (first | (with_reducible first | exact HB.out | apply below_alloc | apply pw_below_drewN | apply below_drew1) | exact HB.out)))); have n4_ := Aside0.mk (Kd.C_below (by repeat (first | (with_reducible exact HR305_0.out) | (with_reducible refine Kd.C_alloc ?_ _) | (with_reducible refine Kd.C_drewN ?_ _) | (with_reducible refine Kd.C_drew ?_) | exact HR305_0.out)) hb); have n5_ := Aside0.mk (below_step (by repeat (first | (with_reducible first | exact HB.out | apply below_alloc | apply pw_below_drewN | apply below_drew1) | exact HB.out)) hb); clear HO_8; clear HO_9; clear HO_11; clear HR305_0; clear HB; have HO_8 := n0_; have HO_9 := n1_; have HO_11 := n2_; have HO308 := n3_; have HR305_0 := n4_; have HB := n5_; clear n0_ n1_ n2_ n3_ n4_ n5_; (try clear hb); (try clear hb2); (try clear hk); (try clear hi); (try clear ho0); obtain ⟨Ao32, co32, eo32⟩ := Kd.R_slice HO308.out; subst eo32) | ((with_reducible refine gate_builtin (b := .append) (xs := #[.tmp 62, .tmp 65]) rfl ?_); at_builtin; refine Kd.S_append (Kd.slice 3 (Kd.int .i64)) (w0 := w) w.heap.size rfl (.tmp 62) (.tmp 65) 23 22 (.slice none 0 0) 24 rfl Try.underlying23 info22 rfl (by decide) (by omega) u9 x9_1 t306 [.slice Ao32 t306.length co32] (fun k_ => some k_ ≠ (.slice (some ad305) t296.length co12 : Value).ownBlock ∧ some k_ ≠ (v303 : Value).ownBlock) (fun k_ => some k_ = (.slice Ao32 t306.length co32 : Value).ownBlock) rfl rfl ?aP (fun k_ hk_ => ((Kd.R_mono (ok' := fun k_ => ((fun k_ => some k_ ≠ (.slice (some ad305) t296.length co12 : Value).ownBlock ∧ some k_ ≠ (v303 : Value).ownBlock)) k_ ∧ some k_ ≠ (u9 : Value).ownBlock) (Kd.R_apart' (Kd.R_apart' (HO308.out) (Kd.S_typed HO_8.out) (by decide)) (Kd.S_typed HO_9.out) (by decide)) (fun k_ hk => ⟨⟨hk.1.2, hk.1.1.2⟩, hk.2⟩))).1 k_ hk_.symm) ?aF ?aO ?aB ?aS ?aL ?_; (case aP => exact Kd.M_row (Kd.R_mono (Kd.R_tight rfl (Kd.R_mono (ok' := fun k_ => ((fun k_ => some k_ ≠ (.slice (some ad305) t296.length co12 : Value).ownBlock ∧ some k_ ≠ (v303 : Value).ownBlock)) k_ ∧ some k_ ≠ (u9 : Value).ownBlock) (Kd.R_apart' (Kd.R_apart' (HO308.out) (Kd.S_typed HO_8.out) (by decide)) (Kd.S_typed HO_9.out) (by decide)) (fun k_ hk => ⟨⟨hk.1.2, hk.1.1.2⟩, hk.2⟩))) (fun _ h_ => h_))); (case aB => exact (by repeat (first | (with_reducible first | exact HB.out | apply below_alloc | apply pw_below_drewN | apply below_drew1) | exact HB.out))); (case aF => exact (fun k_ hk => ⟨Kd.fresh' (Kd.S_lt (by (with_reducible repeat (first | apply Kd.S_alloc | apply Kd.S_drewN | apply Kd.S_drew)); exact HO_8.out)) k_ hk, Kd.fresh' (Kd.R_lt (by (with_reducible repeat (first | apply Kd.R_alloc | apply Kd.R_drewN | apply Kd.R_drew)); exact HO_11.out)) k_ hk⟩)); (case aO => exact (by (with_reducible repeat (first | apply Kd.S_alloc | apply Kd.S_drewN | apply Kd.S_drew)); exact Kd.S_mono HO_9.out (fun k_ hk => ⟨⟨hk.1.1, hk.1.2⟩, fun e_ => hk.2 e_⟩))); (case aS => exact (below_size (by repeat (first | (with_reducible first | exact HB.out | apply below_alloc | apply pw_below_drewN | apply below_drew1) | exact HB.out)))); (case aL => have := LMc29.out; omega); intro v310 w31 ho hb hg hat; rw [← Ny309.out] at ho; have nT_ := Aside0.mk (HwTabs.over (by (with_reducible repeat (first | exact HT.out | apply HwTabs.alloc | apply HwTabs.drewN | apply HwTabs.drew))) (Kd.S_typed (by (with_reducible repeat (first | apply Kd.S_alloc | apply Kd.S_drewN | apply Kd.S_drew)); exact HO_9.out)) hg); clear HT; have HT := nT_; clear nT_; have n0_ := Aside0.mk (Kd.S_after (ok := (fun k_ => some k_ ≠ (v303 : Value).ownBlock ∧ some k_ ≠ (.slice Ao32 t306.length co32 : Value).ownBlock)) (by (with_reducible repeat (first | apply Kd.S_alloc | apply Kd.S_drewN | apply Kd.S_drew)); exact Kd.S_mono HO_8.out (fun _ hk => ⟨⟨hk.1.2, hk.2⟩, hk.1.1⟩)) hg hat); have n1_ := Aside0.mk (Kd.R_over' (by (with_reducible repeat (first | apply Kd.R_alloc | apply Kd.R_drewN | apply Kd.R_drew)); exact HO_11.out) (Kd.S_typed (by (with_reducible repeat (first | apply Kd.S_alloc | apply Kd.S_drewN | apply Kd.S_drew)); exact HO_9.out)) (by decide) hg); have n2_ := Aside0.mk (hb); have n3_ := Aside0.mk (ho); clear HO_8; clear HO_11; clear HB; clear HO_9; clear HO308; have HO_8 := n0_; have HO_11 := n1_; have HB := n2_; have HO311 := n3_; clear n0_ n1_ n2_ n3_; clear ho hb hg hat)); try go_wp2_with (first | (go_at_call 99; (with_reducible refine (impl_indices.calls k2 x13_2 t306 _ A28.out).mono ?_); rintro e w30 ⟨v307, rfl, ho0, hb⟩; have nT_ := Aside0.mk (HwTabs.below (by (with_reducible repeat (first | exact HT.out | apply HwTabs.alloc | apply HwTabs.drewN | apply HwTabs.drew))) hb); clear HT; have HT := nT_; clear nT_; have n0_ := Aside0.mk (Kd.S_elder' (by (with_reducible repeat (first | apply Kd.S_alloc | apply Kd.S_drewN | apply Kd.S_drew)); exact HO_8.out) (Kd.R_base ho0) hb); have n1_ := Aside0.mk (Kd.S_elder' (by (with_reducible repeat (first | apply Kd.S_alloc | apply Kd.S_drewN | apply Kd.S_drew)); exact HO_9.out) (Kd.R_base ho0) hb); have n2_ := Aside0.mk (Kd.R_elder' (by (with_reducible repeat (first | apply Kd.R_alloc | apply Kd.R_drewN | apply Kd.R_drew)); exact HO_11.out) (Kd.R_base ho0) hb); have n3_ := Aside0.mk (Kd.R_lower (Kd.R_new' ho0 (Kd.R_lt (by (with_reducible repeat (first | apply Kd.R_alloc | apply Kd.R_drewN | apply Kd.R_drew)); exact HO_11.out))) (below_size (by repeat (first | (with_reducible first | exact HB.out | apply below_alloc | apply pw_below_drewN | apply below_drew1) | exact HB.out)))); have n4_ := Aside0.mk (Kd.C_below (by repeat (first | (with_reducible exact HR305_0.out) | (with_reducible refine Kd.C_alloc ?_ _) | (with_reducible refine Kd.C_drewN ?_ _) | (with_reducible refine Kd.C_drew ?_) | exact HR305_0.out)) hb); have n5_ := Aside0.mk (below_step (by repeat (first | (with_reducible first | exact HB.out | apply below_alloc | apply pw_below_drewN | apply below_drew1) | exact HB.out)) hb); clear HO_8; clear HO_9; clear HO_11; clear HR305_0; clear HB; have HO_8 := n0_; have HO_9 := n1_; have HO_11 := n2_; have HO308 := n3_; have HR305_0 := n4_; have HB := n5_; clear n0_ n1_ n2_ n3_ n4_ n5_; (try clear hb); (try clear hb2); (try clear hk); (try clear hi); (try clear ho0); obtain ⟨Ao32, co32, eo32⟩ := Kd.R_slice HO308.out; subst eo32) | ((with_reducible refine gate_builtin (b := .append) (xs := #[.tmp 62, .tmp 65]) rfl ?_); at_builtin; refine Kd.S_append (Kd.slice 3 (Kd.int .i64)) (w0 := w) w.heap.size rfl (.tmp 62) (.tmp 65) 23 22 (.slice none 0 0) 24 rfl Try.underlying23 info22 rfl (by decide) (by omega) u9 x9_1 t306 [.slice Ao32 t306.length co32] (fun k_ => some k_ ≠ (.slice (some ad305) t296.length co12 : Value).ownBlock ∧ some k_ ≠ (v303 : Value).ownBlock) (fun k_ => some k_ = (.slice Ao32 t306.length co32 : Value).ownBlock) rfl rfl ?aP (fun k_ hk_ => ((Kd.R_mono (ok' := fun k_ => ((fun k_ => some k_ ≠ (.slice (some ad305) t296.length co12 : Value).ownBlock ∧ some k_ ≠ (v303 : Value).ownBlock)) k_ ∧ some k_ ≠ (u9 : Value).ownBlock) (Kd.R_apart' (Kd.R_apart' (HO308.out) (Kd.S_typed HO_8.out) (by decide)) (Kd.S_typed HO_9.out) (by decide)) (fun k_ hk => ⟨⟨hk.1.2, hk.1.1.2⟩, hk.2⟩))).1 k_ hk_.symm) ?aF ?aO ?aB ?aS ?aL ?_; (case aP => exact Kd.M_row (Kd.R_mono (Kd.R_tight rfl (Kd.R_mono (ok' := fun k_ => ((fun k_ => some k_ ≠ (.slice (some ad305) t296.length co12 : Value).ownBlock ∧ some k_ ≠ (v303 : Value).ownBlock)) k_ ∧ some k_ ≠ (u9 : Value).ownBlock) (Kd.R_apart' (Kd.R_apart' (HO308.out) (Kd.S_typed HO_8.out) (by decide)) (Kd.S_typed HO_9.out) (by decide)) (fun k_ hk => ⟨⟨hk.1.2, hk.1.1.2⟩, hk.2⟩))) (fun _ h_ => h_))); (case aB => exact (by repeat (first | (with_reducible first | exact HB.out | apply below_alloc | apply pw_below_drewN | apply below_drew1) | exact HB.out))); (case aF => exact (fun k_ hk => ⟨Kd.fresh' (Kd.S_lt (by (with_reducible repeat (first | apply Kd.S_alloc | apply Kd.S_drewN | apply Kd.S_drew)); exact HO_8.out)) k_ hk, Kd.fresh' (Kd.R_lt (by (with_reducible repeat (first | apply Kd.R_alloc | apply Kd.R_drewN | apply Kd.R_drew)); exact HO_11.out)) k_ hk⟩)); (case aO => exact (by (with_reducible repeat (first | apply Kd.S_alloc | apply Kd.S_drewN | apply Kd.S_drew)); exact Kd.S_mono HO_9.out (fun k_ hk => ⟨⟨hk.1.1, hk.1.2⟩, fun e_ => hk.2 e_⟩))); (case aS => exact (below_size (by repeat (first | (with_reducible first | exact HB.out | apply below_alloc | apply pw_below_drewN | apply below_drew1) | exact HB.out)))); (case aL => have := LMc29.out; omega); intro v310 w31 ho hb hg hat; rw [← Ny309.out] at ho; have nT_ := Aside0.mk (HwTabs.over (by (with_reducible repeat (first | exact HT.out | apply HwTabs.alloc | apply HwTabs.drewN | apply HwTabs.drew))) (Kd.S_typed (by (with_reducible repeat (first | apply Kd.S_alloc | apply Kd.S_drewN | apply Kd.S_drew)); exact HO_9.out)) hg); clear HT; have HT := nT_; clear nT_; have n0_ := Aside0.mk (Kd.S_after (ok := (fun k_ => some k_ ≠ (v303 : Value).ownBlock ∧ some k_ ≠ (.slice Ao32 t306.length co32 : Value).ownBlock)) (by (with_reducible repeat (first | apply Kd.S_alloc | apply Kd.S_drewN | apply Kd.S_drew)); exact Kd.S_mono HO_8.out (fun _ hk => ⟨⟨hk.1.2, hk.2⟩, hk.1.1⟩)) hg hat); have n1_ := Aside0.mk (Kd.R_over' (by (with_reducible repeat (first | apply Kd.R_alloc | apply Kd.R_drewN | apply Kd.R_drew)); exact HO_11.out) (Kd.S_typed (by (with_reducible repeat (first | apply Kd.S_alloc | apply Kd.S_drewN | apply Kd.S_drew)); exact HO_9.out)) (by decide) hg); have n2_ := Aside0.mk (hb); have n3_ := Aside0.mk (ho); clear HO_8; clear HO_11; clear HB; clear HO_9; clear HO308; have HO_8 := n0_; have HO_11 := n1_; have HB := n2_; have HO311 := n3_; clear n0_ n1_ n2_ n3_; clear ho hb hg hat)))
                        go_roundg k2
                        case measure => have := HK1.out; have := HK2.out; omega
                        case rel => exact ⟨(y309), (x13_2), (wrap64 (x31_1 + 1)), (by first | rfl | (simp; done) | (simp [*]; done)), (by first | rfl | (simp; done) | (simp [*]; done)), H', ⟨by have := HK1.out; have := HK2.out; omega⟩, ⟨by (with_reducible repeat (first | apply Kd.S_alloc | apply Kd.S_drewN | apply Kd.S_drew)); exact Kd.S_mono HO_8.out (fun _ hk => ⟨hk.2, hk.1.1⟩)⟩, ⟨by (with_reducible repeat (first | apply Kd.S_alloc | apply Kd.S_drewN | apply Kd.S_drew)); exact HO311.out⟩, ⟨by (with_reducible repeat (first | apply Kd.R_alloc | apply Kd.R_drewN | apply Kd.R_drew)); exact Kd.R_mono HO_11.out (fun _ hk => trivial)⟩, ⟨by (with_reducible repeat (first | exact HT.out | apply HwTabs.alloc | apply HwTabs.drewN | apply HwTabs.drew))⟩, ⟨by repeat (first | (with_reducible first | exact HB.out | apply below_alloc | apply pw_below_drewN | apply below_drew1) | exact HB.out)⟩⟩
                      · rw [if_neg c29] at H
                        exact absurd H (by simp)
            · rw [if_neg c16] at H
              exact absurd H (by simp)
          · rw [if_neg c15] at H
            exact absurd H (by simp)
        · rw [if_neg c14] at H
          have c14b0 : decide (x31_1 < a1) = false := decide_eq_false c14
          clear c14
          simp only [Option.some.injEq, Prod.mk.injEq] at H
          obtain ⟨rfl, rfl⟩ := H
          go_wp2
          repeat (go_quiet (fail); try go_wp2)
          go_ret2
          exact ⟨_, by first | rfl | (simp [errW_none, errW_some] <;> rfl) | (simp [*, errW_none, errW_some] <;> rfl), by (with_reducible repeat (first | apply Kd.S_alloc | apply Kd.S_drewN | apply Kd.S_drew)); exact Kd.S_mono HO_9.out (fun _ hk => trivial), by repeat (first | (with_reducible first | exact HB.out | apply below_alloc | apply pw_below_drewN | apply below_drew1) | exact HB.out)⟩
  · replace c5 := Bool.eq_false_iff.mpr c5
    subst c5
    have H1 : (some (([] : List (List Int)), false)) = some (r1, r2) := by rw [if_neg (show ¬ (false = true) by decide)] at H; exact H
    clear H
    have H := H1
    clear H1
    simp only [Option.some.injEq, Prod.mk.injEq] at H
    obtain ⟨rfl, rfl⟩ := H
    go_enter Try.func84, Try.ntmps84
    go_wp2_with (first | (go_at_call 71; (with_reducible refine (impl_arePayments.calls k _ _ l0 a1 a2 false _ ?side1 ?side2 A4.out).mono ?_); (case side1 => repeat (first | exact HR0.out | (with_reducible refine Kd.C_alloc ?_ _) | (with_reducible refine Kd.C_drewN ?_ _) | (with_reducible refine Kd.C_drew ?_))); (case side2 => exact HC0.out); rintro e w33 ⟨rfl, hb⟩; have n0_ := Aside0.mk (below_step (by repeat (first | (with_reducible first | exact HB.out | apply below_alloc | apply pw_below_drewN | apply below_drew1) | exact HB.out)) hb); clear HB; have HB := n0_; clear n0_; (try clear hb); (try clear hb2); (try clear hk); (try clear hi)))
    repeat (go_quiet (first | (go_at_call 71; (with_reducible refine (impl_arePayments.calls k _ _ l0 a1 a2 false _ ?side1 ?side2 A4.out).mono ?_); (case side1 => repeat (first | exact HR0.out | (with_reducible refine Kd.C_alloc ?_ _) | (with_reducible refine Kd.C_drewN ?_ _) | (with_reducible refine Kd.C_drew ?_))); (case side2 => exact HC0.out); rintro e w33 ⟨rfl, hb⟩; have n0_ := Aside0.mk (below_step (by repeat (first | (with_reducible first | exact HB.out | apply below_alloc | apply pw_below_drewN | apply below_drew1) | exact HB.out)) hb); clear HB; have HB := n0_; clear n0_; (try clear hb); (try clear hb2); (try clear hk); (try clear hi))); try go_wp2_with (first | (go_at_call 71; (with_reducible refine (impl_arePayments.calls k _ _ l0 a1 a2 false _ ?side1 ?side2 A4.out).mono ?_); (case side1 => repeat (first | exact HR0.out | (with_reducible refine Kd.C_alloc ?_ _) | (with_reducible refine Kd.C_drewN ?_ _) | (with_reducible refine Kd.C_drew ?_))); (case side2 => exact HC0.out); rintro e w33 ⟨rfl, hb⟩; have n0_ := Aside0.mk (below_step (by repeat (first | (with_reducible first | exact HB.out | apply below_alloc | apply pw_below_drewN | apply below_drew1) | exact HB.out)) hb); clear HB; have HB := n0_; clear n0_; (try clear hb); (try clear hb2); (try clear hk); (try clear hi))))
    go_ret2
    exact ⟨_, by first | rfl | (simp [errW_none, errW_some] <;> rfl) | (simp [*, errW_none, errW_some] <;> rfl), by first | exact Kd.S_nil _ _ _ _ _ | exact Kd.N_nil _ _ _ _ _ | exact Kd.V_nil _ _ _ _ _ | exact Kd.Q_nil _ _ _ _ _ | exact Kd.R_nil _ _ _ _ _, by repeat (first | (with_reducible first | exact HB.out | apply below_alloc | apply pw_below_drewN | apply below_drew1) | exact HB.out)⟩


end Go.Proofs.Ytfldgimmdeijjaa.PFnExactFewestMoves
