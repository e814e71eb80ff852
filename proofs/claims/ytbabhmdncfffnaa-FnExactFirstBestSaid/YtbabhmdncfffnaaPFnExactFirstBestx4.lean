-- Laid by this session by the help of the print: contracts proved by hand beside printed ones.
import Derived.Test.YtbabhmdncfffnaaPFnExactFirstBestx0
import Derived.Test.YtbabhmdncfffnaaPFnExactFirstBestx1
import Derived.Test.YtbabhmdncfffnaaPFnExactFirstBestx3
namespace Go.Proofs.Ytbabhmdncfffnaa.PFnExactFirstBest
open Go.RowKit Go.Proofs.YtbabhmdncfffnaaW.PrintWords Go.Proofs.YtbabhmdncfffnaaW.PrintLast Go.Proofs.YtbabhmdncfffnaaW.PrintMore
attribute [local go_sem] max2_int min2_int max_two min_two max_three min_three max_four min_four   -- for this text's walks alone
set_option linter.unusedVariables false
set_option linter.unusedSimpArgs false

/-! ### impl_FirstBest: function 44 -/
/-- What the search has: the sets with the greatest reach so far, and this. -/
abbrev hwSt := List (List Int) × Int
def hwFor (f : Int → hwSt → Option hwSt) : Nat → Int → hwSt → Option hwSt
  | 0, _, s => some s
  | n + 1, v, s => (f v s).bind (hwFor f n (v + 1))
def hwLeaf (st : List Int) (r : Int) (s : hwSt) : hwSt := if s.2 < r then ([st], r) else if r = s.2 then (s.1 ++ [st], s.2) else s
/-- The search behind a list to which so many kinds are to come. -/
def hwAdd (k : Nat) (room : Int) : Nat → List Int → hwSt → Option hwSt
  | 0, st, s => (impl_reach.f k st room).bind fun r => if s.1.length < 1000000 then some (hwLeaf st r s) else none
  | d + 1, st, s => (impl_reach.f k st room).bind fun r => if 0 ≤ st.getD (st.length - 1) 0 ∧ st.getD (st.length - 1) 0 ≤ 1000000 ∧ 0 ≤ r ∧ r ≤ 1000000 ∧ st.length ≤ 1000000 then hwFor (fun v s => hwAdd k room d (st ++ [v]) s) (r + 1 - st.getD (st.length - 1) 0).toNat (st.getD (st.length - 1) 0 + 1) s else none
theorem hwFor_mono {f g : Int → hwSt → Option hwSt} (h : ∀ v s, LeO (f v s) (g v s)) : ∀ n v s, LeO (hwFor f n v s) (hwFor g n v s)
  | 0, _, _ => LeO.refl _
  | n + 1, v, s => LeO.bind (h v s) (fun _ => hwFor_mono h n _ _)
theorem hwAdd_mono (k : Nat) (room : Int) : ∀ d st s, LeO (hwAdd k room d st s) (hwAdd (k + 1) room d st s)
  | 0, st, s => LeO.bind (impl_reach.mono _ _ _) (fun _ => LeO.refl _)
  | d + 1, st, s => LeO.bind (impl_reach.mono _ _ _) (fun _ => LeO.ite (hwFor_mono (fun _ _ => hwAdd_mono k room d _ _) _ _ _) (LeO.none _))
theorem hw_narrow {w : World} {n0 : Nat} {ok : Nat → Prop} {v : Value} {xs : List Int} (h : Kd.R (Kd.int .i64) 3 w n0 ok v xs) : Kd.R (Kd.int .i64) 3 w n0 (fun k => v.ownBlock = some k) v xs :=
  Kd.R_of_own (Kd.own_of_R h) (fun _ hk => hk)
def hwJB (n0 bM bO : Nat) (own : Nat → Prop) (s : hwSt) (W : World) : Prop :=
  ∃ (vO : Value) (ok : Nat → Prop), own = (fun k => k = bM ∨ k = bO ∨ ok k) ∧ (∀ k, ok k → n0 ≤ k ∧ k < W.heap.size ∧ k ≠ bM ∧ k ≠ bO) ∧ n0 ≤ bM ∧ n0 ≤ bO ∧ bM ≠ bO ∧
    W.heap[bM]? = some (.cells #[.int .i64 s.2] 3 (0, 0)) ∧ W.heap[bO]? = some (.cells #[vO] 49 (0, 0)) ∧ Kd.R (Kd.slice 3 (Kd.int .i64)) 22 W n0 ok vO s.1
theorem hwJB.bound {n0 bM bO : Nat} {own : Nat → Prop} {s : hwSt} {W : World} (h : hwJB n0 bM bO own s W) : ∀ k, own k → n0 ≤ k ∧ k < W.heap.size := by
  obtain ⟨vO, ok, rfl, h0, h1, h2, h3, h4, h5, h6⟩ := h
  rintro k (rfl | rfl | hk)
  · exact ⟨h1, blk_lt h4⟩
  · exact ⟨h2, blk_lt h5⟩
  · exact ⟨(h0 k hk).1, (h0 k hk).2.1⟩
theorem hwJB.below {n0 bM bO : Nat} {own : Nat → Prop} {s : hwSt} {W W' : World} (h : hwJB n0 bM bO own s W) (hB : Below W.heap.size W W') : hwJB n0 bM bO own s W' := by
  have hb := h.bound
  obtain ⟨vO, ok, rfl, h0, h1, h2, h3, h4, h5, h6⟩ := h
  exact ⟨vO, ok, rfl, fun k hk => ⟨(h0 k hk).1, Nat.lt_of_lt_of_le (h0 k hk).2.1 hB.size, (h0 k hk).2.2⟩, h1, h2, h3, blk_below h4 hB, blk_below h5 hB, Kd.R_below h6 hB⟩
theorem hwJB.fresh {n0 bM bO : Nat} {own : Nat → Prop} {s : hwSt} {W W' : World} {ok : Nat → Prop} {v : Value} {xs : List Int} (h : hwJB n0 bM bO own s W) (hn : n0 ≤ W.heap.size) (hR : Kd.R (Kd.int .i64) 3 W' W.heap.size ok v xs) : Kd.R (Kd.int .i64) 3 W' n0 (fun k => ¬ own k) v xs :=
  Kd.R_lower (Kd.R_mono (Kd.R_bound hR) (fun k hk z => by have := (h.bound k z).2; omega)) hn
structure hwSB (n0 bR bK bA bM bO : Nat) (room kinds : Int) (own : Nat → Prop) (W : World) : Prop where
  r : W.heap[bR]? = some (.cells #[.int .i64 room] 3 (0, 0))
  k : W.heap[bK]? = some (.cells #[.int .i64 kinds] 3 (0, 0))
  a : W.heap[bA]? = some (.cells #[.func (.func 82) #[] #[.pointer (some ⟨bR, 0, none⟩), .pointer (some ⟨bK, 0, none⟩), .pointer (some ⟨bM, 0, none⟩), .pointer (some ⟨bO, 0, none⟩), .pointer (some ⟨bA, 0, none⟩)]] 57 (0, 0))
  nr : ¬ own bR
  nk : ¬ own bK
  na : ¬ own bA
  size : n0 ≤ W.heap.size
theorem hwSB.step {n0 bR bK bA bM bO : Nat} {room kinds : Int} {own own' S : Nat → Prop} {W W' : World} (h : hwSB n0 bR bK bA bM bO room kinds own W) (hB : Below n0 W W') (hK : Kept W W' S) (hS : ∀ k, S k → own k) (ho : ∀ k, own' k → own k ∨ W.heap.size ≤ k) : hwSB n0 bR bK bA bM bO room kinds own' W' := by
  have k1 := blk_lt h.r
  have k2 := blk_lt h.k
  have k3 := blk_lt h.a
  refine ⟨(hK.2 bR k1 (fun z => h.nr (hS _ z))).trans h.r, (hK.2 bK k2 (fun z => h.nk (hS _ z))).trans h.k, (hK.2 bA k3 (fun z => h.na (hS _ z))).trans h.a, fun z => ?_, fun z => ?_, fun z => ?_, Nat.le_trans h.size hB.size⟩
  · rcases ho _ z with z | z
    · exact h.nr z
    · omega
  · rcases ho _ z with z | z
    · exact h.nk z
    · omega
  · rcases ho _ z with z | z
    · exact h.na z
    · omega
theorem hwSB.below {n0 bR bK bA bM bO : Nat} {room kinds : Int} {own : Nat → Prop} {W W' : World} (h : hwSB n0 bR bK bA bM bO room kinds own W) (hB : Below W.heap.size W W') : hwSB n0 bR bK bA bM bO room kinds own W' :=
  h.step (S := fun _ => False) (hB.mono h.size) (Kept.of_below hB _) (fun _ z => z.elim) (fun _ z => .inl z)
theorem hw_app {n0 bM bO : Nat} {ok : Nat → Prop} {W w1 : World} {vO vX v1 u : Value} {out : List (List Int)} {st : List Int} {m : Int} (hok : ∀ k, ok k → n0 ≤ k ∧ k < W.heap.size ∧ k ≠ bM ∧ k ≠ bO) (h1 : n0 ≤ bM) (h2 : n0 ≤ bO) (hne : bM ≠ bO)
    (hM : W.heap[bM]? = some (.cells #[.int .i64 m] 3 (0, 0))) (hO : W.heap[bO]? = some (.cells #[vX] 49 (0, 0))) (hu : ∀ k, u.ownBlock = some k → k ≠ bM ∧ k ≠ bO) (hvo : ∀ k, vO.ownBlock = some k → ok k)
    (ho1 : Kd.R (Kd.slice 3 (Kd.int .i64)) 22 w1 n0 (fun k => ok k ∨ u.ownBlock = some k ∨ W.heap.size ≤ k) v1 (out ++ [st])) (hb1 : Below n0 W w1) (hg1 : W.grownBy w1 vO.ownBlock) :
    Below n0 W (w1.setCell ⟨bO, 0, none⟩ v1) ∧ Kept W (w1.setCell ⟨bO, 0, none⟩ v1) (fun k => k = bM ∨ k = bO ∨ ok k) ∧ ∃ own', hwJB n0 bM bO own' (out ++ [st], m) (w1.setCell ⟨bO, 0, none⟩ v1) ∧ ∀ k, own' k → (k = bM ∨ k = bO ∨ ok k) ∨ u.ownBlock = some k ∨ W.heap.size ≤ k := by
  have lM := blk_lt hM
  have lO := blk_lt hO
  have nM : some bM ≠ vO.ownBlock := fun e => (hok _ (hvo _ e.symm)).2.2.1 rfl
  have nO : some bO ≠ vO.ownBlock := fun e => (hok _ (hvo _ e.symm)).2.2.2 rfl
  have hM1 := blk_grown hM hg1 nM
  have hO1 := blk_grown hO hg1 nO
  refine ⟨hb1.setCell h2 _, Kept.setCell (Kept.of_grown hg1 (Kept.refl _ _) (fun k hk => .inl (.inr (.inr (hvo k hk))))) (.inl (.inr (.inl rfl))) _, _, ⟨v1, _, rfl, fun k hk => ?_, h1, h2, hne, blk_far hM1 (fun e => hne e) _, blk_put hO1 0 _ rfl, Kd.R_far (p := ⟨bO, 0, none⟩) (Kd.R_bound ho1) (fun k hk e => ?_) _⟩, fun k hk => ?_⟩
  · refine ⟨hk.2.1, by simpa using hk.2.2.1, ?_⟩
    rcases hk.1 with z | z | z
    · exact (hok k z).2.2
    · exact hu k z
    · exact ⟨by omega, by omega⟩
  · rcases hk.1 with z | z | z
    · exact (hok k z).2.2.2 e
    · exact (hu k z).2 e
    · have : k = bO := e
      omega
  · rcases hk with hk | hk | hk
    · exact .inl (.inl hk)
    · exact .inl (.inr (.inl hk))
    · rcases hk.1 with z | z | z
      · exact .inl (.inr (.inr z))
      · exact .inr (.inl z)
      · exact .inr (.inr z)
theorem hw_wrapB (x : Int) (h0 : -9223372036854775808 ≤ x) (h1 : x ≤ 9223372036854775807) : IntKind.i64.wrap x = x := by rw [i64_w]; unfold wrap64; omega
theorem hw_oneB {w : World} {b : Nat} {x : Int} (h : w.cell? ⟨b, 0, none⟩ = some (.int .i64 x)) : ReadsRow (fun (y : Int) (cs : List Value) => cs = [.int .i64 y]) 1 w (some ⟨b, 0, none⟩) 1 [x] := by
  refine ⟨rfl, by omega, fun _ => ⟨_, rfl, fun j p hj => ?_⟩⟩
  cases j with
  | zero =>
    have e : x = p := by simpa using hj
    subst e
    refine ⟨_, rfl, rfl, fun i u hu => ?_⟩
    cases i with
    | zero => have e : Value.int .i64 x = u := by simpa using hu
              subst e
              rw [add_plain]; exact h
    | succ i => simp at hu
  | succ j => simp at hj
theorem hw_infoS : (Try.prog.info? 22).map (fun i => (i.zero, i.size, i.bytes)) = some (some (.slice none 0 0), (Kd.slice 3 (Kd.int .i64)).sz, 24) := by kernel_rfl
theorem blk_new2B (W : World) (B C : Obj) : ((W.alloc B).alloc C).heap[W.heap.size + 1]? = some C := by
  have := blk_new (W.alloc B) C
  rwa [World.size_alloc] at this
set_option maxRecDepth 100000 in
set_option maxHeartbeats 8000000 in
theorem hw_add (k : Nat) (n0 bR bK bA bM bO : Nat) (room kinds : Int) :
    ∀ (d : Nat) (st : List Int) (own : Nat → Prop) (s s' : hwSt) (W : World) (u : Value), (st.length : Int) + d = kinds → 1 ≤ st.length → hwAdd k room d st s = some s' → hwJB n0 bM bO own s W → hwSB n0 bR bK bA bM bO room kinds own W → Kd.R (Kd.int .i64) 3 W n0 (fun k => ¬ own k) u st →
      Calls Try.prog 82 #[u, .pointer (some ⟨bR, 0, none⟩), .pointer (some ⟨bK, 0, none⟩), .pointer (some ⟨bM, 0, none⟩), .pointer (some ⟨bO, 0, none⟩), .pointer (some ⟨bA, 0, none⟩)] W fun e W' => e = .returned (.tuple #[]) ∧ Below n0 W W' ∧ Kept W W' own ∧
        ∃ own', hwJB n0 bM bO own' s' W' ∧ ∀ k, own' k → own k ∨ u.ownBlock = some k ∨ W.heap.size ≤ k
  | 0, st, own, s, s', W, u, hd, hp, h, hJ, hV, hu => by
    obtain ⟨ad, c, rfl⟩ := Kd.R_slice1 hu (by omega)
    unfold hwAdd at h
    obtain ⟨r, hr, h⟩ := Option.bind_eq_some_iff.mp h
    obtain ⟨out, m⟩ := s
    by_cases g : out.length < 1000000
    · rw [if_pos g] at h
      have h' := (Option.some.inj h).symm
      have HR := Aside0.mk (impl_reach.calls k (some ad) c st room r W (Kd.R_reads' hu).2.2 (Kd.R_reads' hu).2.1 hr)
      have hlb : ((st.length : Int) == kinds) = true := beq_iff_eq.mpr (by omega)
      have hcR : W.cell? ⟨bR, 0, none⟩ = some (.int .i64 room) := by simp [World.cell?, hV.r]
      obtain ⟨vO, ok, rfl, h0, h1, h2, hne, hM, hO, hRO⟩ := hJ
      have HN := Aside0.mk hV.size
      have HU := Aside0.mk hu
      have H0 := Aside0.mk h0
      have HM := Aside0.mk hM
      have HO := Aside0.mk hO
      have HRO := Aside0.mk hRO
      have HV := Aside0.mk hV
      have HL := Aside0.mk (show (out.length + 1) * 24 ≤ 140737488355328 by omega)
      clear hu h0 hM hO hRO hV h g hr hd hp
      rcases Int.lt_trichotomy r m with cc | cc | cc
      · have hs' : s' = (out, m) := by rw [h', hwLeaf, if_neg (by dsimp only; omega), if_neg (by dsimp only; omega)]
        subst hs'
        have k1 : decide (m < r) = false := decide_eq_false (by omega)
        have k2 : (r == m) = false := beq_eq_false_iff_ne.mpr (by omega)
        clear h' cc
        go_enter Try.func82, Try.ntmps82
        go_wp2_with (go_at_call 59; refine HR.out.mono ?_; rintro e w1 ⟨rfl, hb1⟩; have HB1 := Aside0.mk hb1; have hV1 := HV.out.below hb1; have hcK : w1.cell? ⟨bK, 0, none⟩ = some (.int .i64 kinds) := blk_cell hV1.k 0; have hcM : w1.cell? ⟨bM, 0, none⟩ = some (.int .i64 m) := blk_cell (blk_below HM.out hb1) 0; clear hb1 hV1)
        refine bodyPost_ret (w := w1) (results_none rfl _ _ _) (Eq.refl _) ?_
        exact ⟨rfl, HB1.out.mono HN.out, Kept.of_below HB1.out _, _, hwJB.below ⟨vO, ok, rfl, H0.out, h1, h2, hne, HM.out, HO.out, HRO.out⟩ HB1.out, fun k hk => .inl hk⟩
      · subst cc
        have hs' : s' = (out ++ [st], r) := by rw [h', hwLeaf, if_neg (by dsimp only; omega), if_pos rfl]
        subst hs'
        have k1 : decide (r < r) = false := decide_eq_false (by omega)
        clear h'
        go_enter Try.func82, Try.ntmps82
        go_wp2_with (first
          | ((with_reducible refine gate_builtin (b := .append) (xs := #[.tmp 23, .tmp 25]) rfl ?_); at_builtin; refine Kd.R_append (Kd.slice 3 (Kd.int .i64)) (w0 := w1) n0 rfl (.tmp 23) (.tmp 25) 49 22 (.slice none 0 0) 24 rfl Try.underlying49 hw_infoS rfl (by decide) (by decide) vO out st [.slice (some ad) st.length c] (fun k => ok k ∨ (Value.slice (some ad) st.length c).ownBlock = some k ∨ w1.heap.size ≤ k) (fun k => (Value.slice (some ad) st.length c).ownBlock = some k) rfl rfl (Kd.M_row (hw_narrow (Kd.R_below HU.out HB1.out))) (fun k hk => ⟨.inr (.inl hk), fun e => HU.out.1 k hk (.inr (.inr (HRO.out.1 k e.symm)))⟩) (fun _ hk => .inr (.inr hk)) (Kd.R_mono (Kd.R_below HRO.out HB1.out) (fun _ hk => .inl hk)) (Below.refl _ _) (Nat.le_trans HN.out HB1.out.size) HL.out ?_; intro v1 w2 ho1 hb1 hg1 hat1; have HA := Aside0.mk (hw_app (u := .slice (some ad) st.length c) (fun k hk => ⟨(H0.out k hk).1, Nat.lt_of_lt_of_le (H0.out k hk).2.1 HB1.out.size, (H0.out k hk).2.2⟩) h1 h2 hne (blk_below HM.out HB1.out) (blk_below HO.out HB1.out) (fun k hk => ⟨fun e => HU.out.1 k hk (.inl e), fun e => HU.out.1 k hk (.inr (.inl e))⟩) HRO.out.1 ho1 hb1 hg1); have h4a := blk_grown (blk_below HO.out HB1.out) hg1 (fun e => (H0.out _ (HRO.out.1 _ e.symm)).2.2.2 rfl); have c5 : w2.cell? ⟨bO, 0, none⟩ = some vO := blk_cell h4a 0; have f5 : w2.frozen? ⟨bO, 0, none⟩ = false := blk_frozen h4a 0; obtain ⟨A1, c1, n1, rfl⟩ : ∃ (A1 : Option Addr) (c1 n1 : Nat), v1 = .slice A1 n1 c1 := by { obtain ⟨a, b, e⟩ := Kd.R_slice ho1; exact ⟨a, b, _, e⟩ }; clear ho1 hb1 hg1 hat1 h4a)
          | (go_at_call 59; refine HR.out.mono ?_; rintro e w1 ⟨rfl, hb1⟩; have HB1 := Aside0.mk hb1; have hV1 := HV.out.below hb1; have hcK : w1.cell? ⟨bK, 0, none⟩ = some (.int .i64 kinds) := blk_cell hV1.k 0; have hcM : w1.cell? ⟨bM, 0, none⟩ = some (.int .i64 r) := blk_cell (blk_below HM.out hb1) 0; have hcO : w1.cell? ⟨bO, 0, none⟩ = some vO := blk_cell (blk_below HO.out hb1) 0; clear hb1 hV1))
        refine bodyPost_ret (w := w2.setCell ⟨bO, 0, none⟩ _) (results_none rfl _ _ _) (Eq.refl _) ?_
        obtain ⟨a1, a2, own', a3, a4⟩ := HA.out
        refine ⟨rfl, (HB1.out.mono HN.out).trans a1, Kept.then_ (Kept.of_below HB1.out _) a2 (fun k hk => .inl hk), own', a3, fun k hk => ?_⟩
        rcases a4 k hk with z | z | z
        · exact .inl z
        · exact .inr (.inl z)
        · exact .inr (.inr (Nat.le_trans HB1.out.size z))
      · have hs' : s' = ([] ++ [st], r) := by rw [h', hwLeaf, if_pos (by dsimp only; omega)]; rfl
        subst hs'
        have k1 : decide (m < r) = true := decide_eq_true (by omega)
        clear h' cc
        go_enter Try.func82, Try.ntmps82
        go_wp2_with (first
          | ((with_reducible refine gate_builtin (b := .append) (xs := #[.tmp 23, .tmp 25]) rfl ?_); at_builtin; refine Kd.R_append (Kd.slice 3 (Kd.int .i64)) (w0 := ((w1.setCell ⟨bO, 0, none⟩ (.slice none 0 0)).setCell ⟨bM, 0, none⟩ (.int .i64 r))) (W := ((w1.setCell ⟨bO, 0, none⟩ (.slice none 0 0)).setCell ⟨bM, 0, none⟩ (.int .i64 r))) n0 rfl (.tmp 23) (.tmp 25) 49 22 (.slice none 0 0) 24 rfl Try.underlying49 hw_infoS rfl (by decide) (by decide) (.slice none 0 0) [] st [.slice (some ad) st.length c] (fun k => ok k ∨ (Value.slice (some ad) st.length c).ownBlock = some k ∨ ((w1.setCell ⟨bO, 0, none⟩ (.slice none 0 0)).setCell ⟨bM, 0, none⟩ (.int .i64 r)).heap.size ≤ k) (fun k => (Value.slice (some ad) st.length c).ownBlock = some k) rfl (by show Value.slice (some ⟨w1.heap.size, 0, none⟩) 1 1 = _; simp) (Kd.M_row (hw_narrow HU2.out)) (fun k hk => ⟨.inr (.inl hk), by simp [Value.ownBlock]⟩) (fun _ hk => .inr (.inr hk)) (Kd.R_nil _ _ _ _ _) (Below.refl _ _) HN2.out (by decide) ?_; intro v1 w2 ho1 hb1 hg1 hat1; have HA := Aside0.mk (hw_app (u := .slice (some ad) st.length c) (fun k hk => ⟨(H0.out k hk).1, Nat.lt_of_lt_of_le (H0.out k hk).2.1 HS2.out, (H0.out k hk).2.2⟩) h1 h2 hne HM2.out HO2.out (fun k hk => ⟨fun e => HU.out.1 k hk (.inl e), fun e => HU.out.1 k hk (.inr (.inl e))⟩) (fun k hk => absurd hk (by simp [Value.ownBlock])) ho1 hb1 hg1); have h4a := blk_grown HO2.out hg1 (by simp [Value.ownBlock]); have c5 : w2.cell? ⟨bO, 0, none⟩ = some (.slice none 0 0) := blk_cell h4a 0; have f5 : w2.frozen? ⟨bO, 0, none⟩ = false := blk_frozen h4a 0; obtain ⟨A1, c1, n1, rfl⟩ : ∃ (A1 : Option Addr) (c1 n1 : Nat), v1 = .slice A1 n1 c1 := by { obtain ⟨a, b, e⟩ := Kd.R_slice ho1; exact ⟨a, b, _, e⟩ }; clear ho1 hb1 hg1 hat1 h4a)
          | (go_at_call 59; refine HR.out.mono ?_; rintro e w1 ⟨rfl, hb1⟩; have HB1 := Aside0.mk hb1; have hV1 := HV.out.below hb1; have hcK : w1.cell? ⟨bK, 0, none⟩ = some (.int .i64 kinds) := blk_cell hV1.k 0; have hcM : w1.cell? ⟨bM, 0, none⟩ = some (.int .i64 m) := blk_cell (blk_below HM.out hb1) 0; have fM : w1.frozen? ⟨bM, 0, none⟩ = false := blk_frozen (blk_below HM.out hb1) 0; have fO : w1.frozen? ⟨bO, 0, none⟩ = false := blk_frozen (blk_below HO.out hb1) 0; have hcO : w1.cell? ⟨bO, 0, none⟩ = some vO := blk_cell (blk_below HO.out hb1) 0; have HM2 := Aside0.mk (show ((w1.setCell ⟨bO, 0, none⟩ (.slice none 0 0)).setCell ⟨bM, 0, none⟩ (.int .i64 r)).heap[bM]? = some (.cells #[.int .i64 r] 3 (0, 0)) from blk_put (blk_far (blk_below HM.out hb1) (fun e => hne e) _) 0 _ rfl); have HO2 := Aside0.mk (show ((w1.setCell ⟨bO, 0, none⟩ (.slice none 0 0)).setCell ⟨bM, 0, none⟩ (.int .i64 r)).heap[bO]? = some (.cells #[.slice none 0 0] 49 (0, 0)) from blk_far (blk_put (blk_below HO.out hb1) 0 _ rfl) (fun e => hne e.symm) _); have HS2 := Aside0.mk (show W.heap.size ≤ ((w1.setCell ⟨bO, 0, none⟩ (.slice none 0 0)).setCell ⟨bM, 0, none⟩ (.int .i64 r)).heap.size by simpa using hb1.size); have HN2 := Aside0.mk (show n0 ≤ ((w1.setCell ⟨bO, 0, none⟩ (.slice none 0 0)).setCell ⟨bM, 0, none⟩ (.int .i64 r)).heap.size from Nat.le_trans HN.out HS2.out); have HB2 := Aside0.mk (show Below n0 W ((w1.setCell ⟨bO, 0, none⟩ (.slice none 0 0)).setCell ⟨bM, 0, none⟩ (.int .i64 r)) from ((hb1.mono HN.out).setCell h2 _).setCell h1 _); have HK2 := Aside0.mk (show Kept W ((w1.setCell ⟨bO, 0, none⟩ (.slice none 0 0)).setCell ⟨bM, 0, none⟩ (.int .i64 r)) (fun k => k = bM ∨ k = bO ∨ ok k) from Kept.setCell (Kept.setCell (Kept.of_below hb1 _) (.inl (.inr (.inl rfl))) _) (.inl (.inl rfl)) _); have HU2 := Aside0.mk (Kd.R_far (p := ⟨bM, 0, none⟩) (Kd.R_far (p := ⟨bO, 0, none⟩) (Kd.R_below HU.out hb1) (fun k hk e => hk (.inr (.inl e))) (.slice none 0 0)) (fun k hk e => hk (.inl e)) (.int .i64 r)); clear hb1 hV1))
        refine bodyPost_ret (w := w2.setCell ⟨bO, 0, none⟩ _) (results_none rfl _ _ _) (Eq.refl _) ?_
        obtain ⟨a1, a2, own', a3, a4⟩ := HA.out
        refine ⟨rfl, HB2.out.trans a1, Kept.then_ HK2.out a2 (fun k hk => .inl hk), own', a3, fun k hk => ?_⟩
        rcases a4 k hk with z | z | z
        · exact .inl z
        · exact .inr (.inl z)
        · exact .inr (.inr (Nat.le_trans HS2.out z))
    · rw [if_neg g] at h
      exact absurd h (by simp)
  | d + 1, st, own, s, s', W, u, hd, hp, h, hJ, hV, hu => by
    obtain ⟨ad, c, rfl⟩ := Kd.R_slice1 hu (by omega)
    have ih := hw_add k n0 bR bK bA bM bO room kinds d
    have IH := Aside0.mk ih
    clear ih
    unfold hwAdd at h
    obtain ⟨r, hr, h⟩ := Option.bind_eq_some_iff.mp h
    obtain ⟨j, hj⟩ : ∃ j : Nat, j + 1 = st.length := ⟨st.length - 1, by omega⟩
    rw [show st.length - 1 = j by omega] at h
    obtain ⟨last, hlast⟩ : ∃ last, st.getD j 0 = last := ⟨_, rfl⟩
    rw [hlast] at h
    by_cases g : 0 ≤ last ∧ last ≤ 1000000 ∧ 0 ≤ r ∧ r ≤ 1000000 ∧ st.length ≤ 1000000
    · rw [if_pos g] at h
      obtain ⟨g1, g2, g3, g4, g5⟩ := g
      have HR := Aside0.mk (impl_reach.calls k (some ad) c st room r W (Kd.R_reads' hu).2.2 (Kd.R_reads' hu).2.1 hr)
      have eg82 : ∀ args w, (callFunc 82 args).run Try.prog w = .ok (.enter 82 args) w := enters_of Try.func82 (by kernel_rfl) rfl
      have hlb : ((st.length : Int) == kinds) = false := beq_eq_false_iff_ne.mpr (by omega)
      have hcR : W.cell? ⟨bR, 0, none⟩ = some (.int .i64 room) := by simp [World.cell?, hV.r]
      obtain ⟨ad', ea, hce⟩ := Kd.at_int (Kd.R_reads' hu).2.2 (j : Int) (by omega) (by omega)
      injection ea with ea
      subst ea
      have hce2 : W.cell? (ad.add j) = some (.int .i64 last) := by rw [Int.toNat_natCast] at hce; rw [hce, ← hlast]; rfl
      clear hce
      have hwj : IntKind.i64.wrap ((st.length : Int) - 1) = (j : Int) := by rw [hw_wrapB _ (by omega) (by omega)]; omega
      have hj0 : (0 : Int) ≤ (j : Int) := by omega
      have hj1 : (j : Int) < (st.length : Int) := by omega
      have hwl : IntKind.i64.wrap (last + 1) = last + 1 := hw_wrapB _ (by omega) (by omega)
      have hwr : IntKind.i64.wrap (r + 1) = r + 1 := hw_wrapB _ (by omega) (by omega)
      have HN := Aside0.mk hV.size
      have HU := Aside0.mk hu
      have HJ := Aside0.mk hJ
      have HV := Aside0.mk hV
      have HH := Aside0.mk h
      have HD := Aside0.mk hd
      clear hu hJ hV h hr hd hlast hj
      go_enter Try.func82, Try.ntmps82
      go_wp2_with (go_at_call 59; refine HR.out.mono ?_; rintro e w1 ⟨rfl, hb1⟩; have HB1 := Aside0.mk hb1; have hV1 := HV.out.below hb1; have hcK : w1.cell? ⟨bK, 0, none⟩ = some (.int .i64 kinds) := blk_cell hV1.k 0; have hce1 : w1.cell? (ad.add j) = some (.int .i64 last) := (hb1.cell (p := ad.add j) (by have := World.block_lt_of_cell? W _ hce2; exact this)).trans hce2; clear hb1 hV1)
      obtain ⟨N, hN⟩ : ∃ N : Nat, (r + 1 - last).toNat = N := ⟨_, rfl⟩
      have HN2 := Aside0.mk hN
      clear hN
      go_loopg [8] N (fun gg s8 wr => ∃ (i : Nat) (v : Int) (sx : hwSt), i ≤ N ∧ N - i ≤ gg ∧ v = last + 1 + i ∧ s8 = .int .i64 v ∧ Aside0 (hwFor (fun v s => hwAdd k room d (st ++ [v]) s) (N - i) v sx = some s') ∧ Aside0 (Below n0 W wr) ∧ Aside0 (Kept W wr own) ∧
        Aside0 (∃ own1, hwJB n0 bM bO own1 sx wr ∧ ∀ k, own1 k → own k ∨ W.heap.size ≤ k))
      case atStart => exact ⟨0, last + 1, s, Nat.zero_le _, by omega, by omega, rfl, ⟨by rw [Nat.sub_zero, ← HN2.out]; exact HH.out⟩, ⟨HB1.out.mono HN.out⟩, ⟨Kept.of_below HB1.out _⟩, ⟨own, HJ.out.below HB1.out, fun k hk => .inl hk⟩⟩
      case round =>
        obtain ⟨i, v, sx, hi, hg, hv, rfl, HF, HB, HK, HO⟩ := hrel
        have hNr := HN2.out
        by_cases hlt : i < N
        · have hltz : v ≤ r + 1 := by omega
          have hwv : IntKind.i64.wrap (v + 1) = v + 1 := hw_wrapB _ (by omega) (by omega)
          obtain ⟨own1, hJ1, ho1⟩ := HO.out
          have hV1 := HV.out.step HB.out HK.out (fun _ h => h) ho1
          have hF := HF.out
          rw [show N - i = (N - (i + 1)) + 1 by omega] at hF
          simp only [hwFor] at hF
          obtain ⟨sy, hF1, hF2⟩ := Option.bind_eq_some_iff.mp hF
          have hu1 : Kd.R (Kd.int .i64) 3 wr n0 (fun k => ¬ own k ∧ k < W.heap.size) (.slice (some ad) st.length c) st := Kd.R_kept (Kd.R_mono (Kd.R_bound HU.out) (fun k hk => ⟨hk.1, hk.2.2.1⟩)) HK.out (fun k hk => hk.1)
          have hu2 := (Kd.R_reads' hu1).2
          have hcA : wr.cell? ⟨bA, 0, none⟩ = some (.func (.func 82) #[] #[.pointer (some ⟨bR, 0, none⟩), .pointer (some ⟨bK, 0, none⟩), .pointer (some ⟨bM, 0, none⟩), .pointer (some ⟨bO, 0, none⟩), .pointer (some ⟨bA, 0, none⟩)]) := blk_cell hV1.a 0
          have HF1 := Aside0.mk hF1
          have HF2 := Aside0.mk hF2
          have HU2 := Aside0.mk hu2
          have HV1 := Aside0.mk hV1
          have HJ1 := Aside0.mk hJ1
          have HO1 := Aside0.mk ho1
          have HNR := Aside0.mk hNr
          have HVV := Aside0.mk hv
          clear hu1 hu2 hV1 hJ1 ho1 HO hF hF1 hF2 HF hNr hv
          have hcl : slices_Clone_int_int.f st = some st := by unfold slices_Clone_int_int.f; rw [if_pos (by omega)]
          have HCl := Aside0.mk (fun (W' : World) (hW : Below wr.heap.size wr W') => slices_Clone_int_int.calls (some ad) c st st W' (Kd.C_below HU2.out.2 hW) HU2.out.1 hcl)
          clear hcl
          go_wp2
          go_region_held3 (fun w' => w'.cell? ⟨bA, 0, none⟩ = some (.func (.func 82) #[] #[.pointer (some ⟨bR, 0, none⟩), .pointer (some ⟨bK, 0, none⟩), .pointer (some ⟨bM, 0, none⟩), .pointer (some ⟨bO, 0, none⟩), .pointer (some ⟨bA, 0, none⟩)]))
            (first | assumption | go_keep)
            (first
              | (go_at_call 62; (with_reducible refine (HCl.out ((wr.alloc (.cells #[.int .i64 v] 3)).drew) ?sb).mono ?_); (case sb => repeat (first | exact Below.refl _ _ | apply below_alloc | apply pw_below_drewN | apply below_drew1)); rintro e w2 ⟨v1, rfl, ho, hb⟩; have HB2 := Aside0.mk (show Below wr.heap.size wr w2 from below_step (by repeat (first | exact Below.refl _ _ | apply below_alloc | apply pw_below_drewN | apply below_drew1)) hb); have HV2 := Aside0.mk (HV1.out.below HB2.out); have q1 : w2.cell? ⟨bA, 0, none⟩ = some (.func (.func 82) #[] #[.pointer (some ⟨bR, 0, none⟩), .pointer (some ⟨bK, 0, none⟩), .pointer (some ⟨bM, 0, none⟩), .pointer (some ⟨bO, 0, none⟩), .pointer (some ⟨bA, 0, none⟩)]) := blk_cell HV2.out.a 0; have HOa := Aside0.mk (show Kd.R (Kd.int .i64) 3 w2 wr.heap.size (fun _ => True) v1 st from Kd.R_lower ho (below_size (by repeat (first | exact Below.refl _ _ | apply below_alloc | apply pw_below_drewN | apply below_drew1)))); have hcn : w2.cell? ⟨wr.heap.size, 0, none⟩ = some (.int .i64 v) := (hb.cell (p := ⟨wr.heap.size, 0, none⟩) (by simp)).trans (by simp); clear ho hb)
              | (go_at_call 62; refine (HCl.out _ (by repeat (first | exact Below.refl _ _ | apply below_alloc | apply pw_below_drewN | apply below_drew1))).mono ?_; rintro e w2 ⟨v1, rfl, ho, hb⟩; have HB2 := Aside0.mk (show Below wr.heap.size wr w2 from below_step (by repeat (first | exact Below.refl _ _ | apply below_alloc | apply pw_below_drewN | apply below_drew1)) hb); have HV2 := Aside0.mk (HV1.out.below HB2.out); have q1 : w2.cell? ⟨bA, 0, none⟩ = some (.func (.func 82) #[] #[.pointer (some ⟨bR, 0, none⟩), .pointer (some ⟨bK, 0, none⟩), .pointer (some ⟨bM, 0, none⟩), .pointer (some ⟨bO, 0, none⟩), .pointer (some ⟨bA, 0, none⟩)]) := blk_cell HV2.out.a 0; have HOa := Aside0.mk (show Kd.R (Kd.int .i64) 3 w2 wr.heap.size (fun _ => True) v1 st from Kd.R_lower ho (below_size (by repeat (first | exact Below.refl _ _ | apply below_alloc | apply pw_below_drewN | apply below_drew1)))); clear ho hb)
              | (refine Kd.R_append_step (Kd.int .i64) (w0 := wr) wr.heap.size (by rfl) (.tmp 42) (.tmp 44) 22 3 (.int .i64 0) 8 (by rfl) Try.underlying22 info3 rfl (by decide) (by decide) v1 st v [.int .i64 v] (fun _ => True) (fun _ => False) (by rfl) (by rfl) rfl (fun _ h => h.elim) (fun _ _ => trivial) HOa.out HB2.out HB2.out.size (by omega) ?_; intro v2 w3 ho2 hb2 hg2 hat2; have HB3 := Aside0.mk hb2; have HV3 := Aside0.mk (HV1.out.below hb2); have q4 : w3.cell? ⟨bA, 0, none⟩ = some (.func (.func 82) #[] #[.pointer (some ⟨bR, 0, none⟩), .pointer (some ⟨bK, 0, none⟩), .pointer (some ⟨bM, 0, none⟩), .pointer (some ⟨bO, 0, none⟩), .pointer (some ⟨bA, 0, none⟩)]) := blk_cell HV3.out.a 0; have HOb := Aside0.mk ho2; clear ho2 hb2 hg2 hat2)
              | (refine Kd.R_append_rows_step (Kd.int .i64) (Rr := fun (y : Int) (cs : List Value) => cs = [.int .i64 y]) (w0 := wr) wr.heap.size (by rfl) (.tmp 42) (.tmp 44) 22 3 (.int .i64 0) 8 (by rfl) Try.underlying22 info3 rfl (by decide) (by decide) v1 st [v] (some ⟨wr.heap.size, 0, none⟩) 1 1 (fun _ => True) (fun _ => False) (by rfl) (by rfl) HOa.out (hw_oneB hcn) (fun _ _ h => h) (fun _ h => h.elim) (fun _ _ => trivial) HB2.out HB2.out.size (by omega) ?_; intro v2 w3 ho2 hb2 hg2 hat2; have HB3 := Aside0.mk hb2; have HV3 := Aside0.mk (HV1.out.below hb2); have q4 : w3.cell? ⟨bA, 0, none⟩ = some (.func (.func 82) #[] #[.pointer (some ⟨bR, 0, none⟩), .pointer (some ⟨bK, 0, none⟩), .pointer (some ⟨bM, 0, none⟩), .pointer (some ⟨bO, 0, none⟩), .pointer (some ⟨bA, 0, none⟩)]) := blk_cell HV3.out.a 0; have HOb := Aside0.mk ho2; clear ho2 hb2 hg2 hat2)
              | (go_at_call 82; refine (IH.out (st ++ [v]) own1 sx sy w3 v2 (by rw [List.length_append]; have := HD.out; simp; omega) (by rw [List.length_append]; simp) HF1.out (HJ1.out.below HB3.out) HV3.out (HJ1.out.fresh HV1.out.size HOb.out)).mono ?_; rintro e w4 ⟨rfl, hB4, hK4, hO4⟩; have HB4 := Aside0.mk hB4; have HK4 := Aside0.mk hK4; have HO4 := Aside0.mk hO4; have HV4 := Aside0.mk (HV3.out.step hB4 hK4 (fun _ z => z) (fun _ z => .inl z)); have q7 : w4.cell? ⟨bA, 0, none⟩ = some (.func (.func 82) #[] #[.pointer (some ⟨bR, 0, none⟩), .pointer (some ⟨bK, 0, none⟩), .pointer (some ⟨bM, 0, none⟩), .pointer (some ⟨bO, 0, none⟩), .pointer (some ⟨bA, 0, none⟩)]) := blk_cell HV4.out.a 0; clear hB4 hK4 hO4))
          all_goals
            have hBw := Aside0.mk (HB.out.trans ((HB3.out.mono HV1.out.size).trans HB4.out))
            have hKw := Aside0.mk (Kept.then_ (Kept.then_ HK.out (Kept.of_below HB3.out (fun _ => False)) (fun _ z => z.elim)) HK4.out (fun k hk => HO1.out k hk))
            have hJw := Aside0.mk (show ∃ own2, hwJB n0 bM bO own2 sy w4 ∧ ∀ k, own2 k → own k ∨ W.heap.size ≤ k by
              obtain ⟨own2, j1, j2⟩ := HO4.out
              refine ⟨own2, j1, fun k hk => ?_⟩
              have z1 := HB.out.size
              have z2 := HB3.out.size
              rcases j2 k hk with z | z | z
              · exact HO1.out k z
              · have := Kd.R_base HOb.out k z; exact .inr (Nat.le_trans (show W.heap.size ≤ wr.heap.size from z1) this)
              · exact .inr (by omega))
            have HF3 := Aside0.mk (show hwFor (fun v s => hwAdd k room d (st ++ [v]) s) (N - (i + 1)) (v + 1) sy = some s' from HF2.out)
            clear HO4 HK4 HB4 HOb HB3 HV3 HV4 HOa HB2 HV2 q1 q4 q7 HF1 HF2
            go_wp2
            go_roundg (N - (i + 1))
            case measure => omega
            case rel => exact ⟨i + 1, v + 1, sy, by omega, by omega, by have := HVV.out; omega, by first | rfl | go_num, HF3, hBw, hKw, hJw⟩
        · have hnlt : ¬ v ≤ r + 1 := by omega
          have hF := HF.out
          rw [show N - i = 0 by omega] at hF
          have hss : sx = s' := by simpa [hwFor] using hF
          subst hss
          clear hF HF
          clear hlt hi hg hNr
          go_wp2
          refine bodyPost_end (w := wr) (results_none rfl _ _ _) (Eq.refl _) ?_
          refine ⟨rfl, HB.out, HK.out, ?_⟩
          obtain ⟨own1, hJ1, ho1⟩ := HO.out
          exact ⟨own1, hJ1, fun k hk => (ho1 k hk).imp id .inr⟩
    · rw [if_neg g] at h
      exact absurd h (by simp)
theorem hw_atN {X : World} {B : Obj} {n : Nat} (h : X.heap.size = n) : (X.alloc B).heap[n]? = some B := by subst h; exact blk_new X B
theorem hw_bestIn (k n0 bK bR bE bO bM bA bN d : Nat) (a0 a1 : Int) (s : hwSt) (W : World) (hd : 1 + (d : Int) = a0) (h : hwAdd k a1 d [1] ([], -1) = some s) (hn : n0 ≤ W.heap.size) (h1 : n0 ≤ bM) (h2 : n0 ≤ bO) (h3 : n0 ≤ bE) (hne : bM ≠ bO) (e1 : bE ≠ bM) (e2 : bE ≠ bO)
    (r1 : bR ≠ bM ∧ bR ≠ bO ∧ bR ≠ bE) (r2 : bK ≠ bM ∧ bK ≠ bO ∧ bK ≠ bE) (r3 : bA ≠ bM ∧ bA ≠ bO ∧ bA ≠ bE) (r4 : bN ≠ bM ∧ bN ≠ bO ∧ bN ≠ bE) (hE : bE < W.heap.size)
    (b0 : W.heap[bK]? = some (.cells #[.int .i64 a0] 3 (0, 0))) (b1 : W.heap[bR]? = some (.cells #[.int .i64 a1] 3 (0, 0))) (b2 : W.heap[bO]? = some (.cells #[.slice (some ⟨bE, 0, none⟩) 0 0] 49 (0, 0))) (b3 : W.heap[bM]? = some (.cells #[.int .i64 (-1)] 3 (0, 0)))
    (b4 : W.heap[bA]? = some (.cells #[.func (.func 82) #[] #[.pointer (some ⟨bR, 0, none⟩), .pointer (some ⟨bK, 0, none⟩), .pointer (some ⟨bM, 0, none⟩), .pointer (some ⟨bO, 0, none⟩), .pointer (some ⟨bA, 0, none⟩)]] 57 (0, 0)))
    (hRE : Kd.R (Kd.slice 3 (Kd.int .i64)) 22 W n0 (fun k => k = bE) (.slice (some ⟨bE, 0, none⟩) 0 0) []) (hR : Kd.R (Kd.int .i64) 3 W n0 (fun k => k = bN) (.slice (some ⟨bN, 0, none⟩) 1 1) [1]) :
    Calls Try.prog 82 #[.slice (some ⟨bN, 0, none⟩) 1 1, .pointer (some ⟨bR, 0, none⟩), .pointer (some ⟨bK, 0, none⟩), .pointer (some ⟨bM, 0, none⟩), .pointer (some ⟨bO, 0, none⟩), .pointer (some ⟨bA, 0, none⟩)] W fun e W' => e = .returned (.tuple #[]) ∧ Below n0 W W' ∧
      ∃ own', hwJB n0 bM bO own' s W' := by
  have hJ : hwJB n0 bM bO (fun k => k = bM ∨ k = bO ∨ k = bE) ([], -1) W := ⟨.slice (some ⟨bE, 0, none⟩) 0 0, fun k => k = bE, rfl, fun k hk => by subst hk; exact ⟨h3, hE, e1, e2⟩, h1, h2, hne, b3, b2, hRE⟩
  have hV : hwSB n0 bR bK bA bM bO a1 a0 (fun k => k = bM ∨ k = bO ∨ k = bE) W :=
    { r := b1, k := b0, a := b4, nr := fun z => by rcases z with z | z | z <;> simp_all, nk := fun z => by rcases z with z | z | z <;> simp_all, na := fun z => by rcases z with z | z | z <;> simp_all, size := hn }
  have hu : Kd.R (Kd.int .i64) 3 W n0 (fun k => ¬ (k = bM ∨ k = bO ∨ k = bE)) (.slice (some ⟨bN, 0, none⟩) 1 1) [1] := Kd.R_mono hR (fun k hk z => by subst hk; rcases z with z | z | z <;> simp_all)
  refine (hw_add k n0 bR bK bA bM bO a1 a0 d [1] (fun k => k = bM ∨ k = bO ∨ k = bE) ([], -1) s W (.slice (some ⟨bN, 0, none⟩) 1 1) hd (Nat.le_refl 1) h hJ hV hu).mono ?_
  rintro e W' ⟨he, hB, _, own', hj, _⟩
  exact ⟨he, hB, own', hj⟩
set_option maxRecDepth 100000 in
set_option maxHeartbeats 1000000 in
/-- impl.bestSets, where the numbers are right. -/
theorem hw_bestYes (k d : Nat) (a0 a1 : Int) (s : hwSt) (w : World) (hk1 : impl_within.f a0 1 3 = some true) (hk2 : impl_within.f a1 1 5 = some true) (hd : 1 + (d : Int) = a0) (h : hwAdd k a1 d [1] ([], -1) = some s) :
    Calls Try.prog 70 #[.int .i64 a0, .int .i64 a1] w fun e w' => ∃ v : Value, e = .returned (.tuple #[v, .int .i64 s.2, .bool true]) ∧ Kd.R (Kd.slice 3 (Kd.int .i64)) 22 w' w.heap.size (fun _ => True) v s.1 ∧ Below w.heap.size w w' := by
  have HW1 := Aside0.mk (fun W => (impl_within.calls a0 1 3 true W hk1).mono (fun e w' (h : e = .returned (.bool true) ∧ Drawn0 W w') => (⟨h.1, by obtain ⟨_, q, rfl⟩ := h; exact pw_below_drewN (Below.refl _ _) q⟩ : e = .returned (.bool true) ∧ Below W.heap.size W w')))
  have HW2 := Aside0.mk (fun W => (impl_within.calls a1 1 5 true W hk2).mono (fun e w' (h : e = .returned (.bool true) ∧ Drawn0 W w') => (⟨h.1, by obtain ⟨_, q, rfl⟩ := h; exact pw_below_drewN (Below.refl _ _) q⟩ : e = .returned (.bool true) ∧ Below W.heap.size W w')))
  have eg82 : ∀ args w, (callFunc 82 args).run Try.prog w = .ok (.enter 82 args) w := enters_of Try.func82 (by kernel_rfl) rfl
  have HH := Aside0.mk h
  have HD := Aside0.mk hd
  clear h hk1 hk2 hd
  go_enter Try.func70, Try.ntmps70
  go_wp2_with (fail)
  refine (HW1.out _).mono ?_
  rintro e w1 ⟨rfl, hb1⟩
  have HB1 := Aside0.mk (show Below w.heap.size w w1 from below_step (by repeat (first | exact Below.refl _ _ | apply below_alloc)) hb1)
  have HP1 := Aside0.mk (show w1.heap[w.heap.size]? = some (.cells #[.int .i64 a0] 3 (0, 0)) from blk_below (blk_alloc (blk_new w _) _) hb1)
  have HQ1 := Aside0.mk (show w1.heap[w.heap.size + 1]? = some (.cells #[.int .i64 a1] 3 (0, 0)) from blk_below (blk_new2B w _ _) hb1)
  have hcq : w1.cell? ⟨w.heap.size + 1, 0, none⟩ = some (.int .i64 a1) := blk_cell HQ1.out 0
  clear hb1
  go_wp2_with (fail)
  refine (HW2.out _).mono ?_
  rintro e w2 ⟨rfl, hb2⟩
  have HB2 := Aside0.mk (below_step HB1.out hb2)
  have HP2 := Aside0.mk (blk_below HP1.out hb2)
  have HQ2 := Aside0.mk (blk_below HQ1.out hb2)
  clear hb2
  go_wp2_with (fail)
  have hz : w.heap.size + 1 < w2.heap.size := blk_lt HQ2.out
  have HZ := Aside0.mk hz
  refine (hw_bestIn k w.heap.size w.heap.size (w.heap.size + 1) w2.heap.size (w2.heap.size + 1) (w2.heap.size + 1 + 1) (w2.heap.size + 1 + 1 + 1) (w2.heap.size + 1 + 1 + 1 + 1) d a0 a1 s _ HD.out HH.out (by simp; omega) (by omega) (by omega) (by omega) (by omega) (by omega) (by omega) (by omega) (by omega) (by omega) (by omega) (by simp; omega)
    (blk_alloc (blk_alloc (blk_alloc (blk_alloc (blk_alloc HP2.out _) _) _) _) _) (blk_alloc (blk_alloc (blk_alloc (blk_alloc (blk_alloc HQ2.out _) _) _) _) _) (blk_alloc (blk_alloc (blk_alloc (hw_atN (by simp)) _) _) _) (blk_alloc (blk_alloc (hw_atN (by simp)) _) _) (blk_alloc (hw_atN (by simp)) _) ?hE ?hR).mono ?_
  case hE =>
    have o := own_lit w2 w.heap.size 22 .i64 [] (by omega) (by simp)
    refine ⟨fun k hk => by simpa [Value.ownBlock] using hk.symm, [], ?_, Reps.none _ _⟩
    have o2 := (((o.alloc (.cells #[.slice (some ⟨w2.heap.size, 0, none⟩) 0 0] 49)).alloc (.cells #[.int .i64 (-1)] 3)).alloc (.cells #[.func (.func 82) #[] #[.pointer (some ⟨w.heap.size + 1, 0, none⟩), .pointer (some ⟨w.heap.size, 0, none⟩), .pointer (some ⟨w2.heap.size + 1 + 1, 0, none⟩), .pointer (some ⟨w2.heap.size + 1, 0, none⟩), .pointer (some ⟨w2.heap.size + 1 + 1 + 1, 0, none⟩)]] 57)).alloc (.cells #[.int .i64 1] 3)
    simp [nums] at o2
    exact o2
  case hR =>
    refine Kd.R_of_own ?_ (fun k hk => by simpa [Value.ownBlock] using hk.symm)
    have o := own_lit ((((w2.alloc (.cells #[] 22)).alloc (.cells #[.slice (some ⟨w2.heap.size, 0, none⟩) 0 0] 49)).alloc (.cells #[.int .i64 (-1)] 3)).alloc (.cells #[.func (.func 82) #[] #[.pointer (some ⟨w.heap.size + 1, 0, none⟩), .pointer (some ⟨w.heap.size, 0, none⟩), .pointer (some ⟨w2.heap.size + 1 + 1, 0, none⟩), .pointer (some ⟨w2.heap.size + 1, 0, none⟩), .pointer (some ⟨w2.heap.size + 1 + 1 + 1, 0, none⟩)]] 57)) w.heap.size 3 .i64 [1] (by simp; omega) (by simp)
    simpa [nums, encs] using o
  rintro e w3 ⟨rfl, hB3, hJ3⟩
  have HB3 := Aside0.mk hB3
  have HJ3 := Aside0.mk hJ3
  clear hB3 hJ3
  obtain ⟨own', vO, ok, _, _, _, _, _, j4, j5, j6⟩ := HJ3.out
  have hcM : w3.cell? ⟨w2.heap.size + 1 + 1, 0, none⟩ = some (.int .i64 s.2) := blk_cell j4 0
  have hcO : w3.cell? ⟨w2.heap.size + 1, 0, none⟩ = some vO := blk_cell j5 0
  have HR3 := Aside0.mk j6
  clear j4 j5 j6
  go_wp2_with (fail)
  go_region_held3 (fun w' => w'.cell? ⟨w2.heap.size + 1 + 1, 0, none⟩ = some (.int .i64 s.2) ∧ w'.cell? ⟨w2.heap.size + 1, 0, none⟩ = some vO) (first | exact ⟨by assumption, by assumption⟩ | go_keep) (fail)
  go_wp2
  go_ret3
  exact ⟨_, rfl, Kd.R_mono (Kd.R_drew HR3.out) (fun _ _ => trivial), below_drew (Below.trans (by repeat (first | exact HB2.out | apply below_alloc)) HB3.out)⟩
set_option maxHeartbeats 1000000 in
theorem hw_bestNo1 (a0 a1 : Int) (w : World) (hk1 : impl_within.f a0 1 3 = some false) :
    Calls Try.prog 70 #[.int .i64 a0, .int .i64 a1] w fun e w' => e = .returned (.tuple #[.slice none 0 0, .int .i64 0, .bool false]) ∧ Below w.heap.size w w' := by
  have HW1 := Aside0.mk (fun W => (impl_within.calls a0 1 3 false W hk1).mono (fun e w' (h : e = .returned (.bool false) ∧ Drawn0 W w') => (⟨h.1, by obtain ⟨_, q, rfl⟩ := h; exact pw_below_drewN (Below.refl _ _) q⟩ : e = .returned (.bool false) ∧ Below W.heap.size W w')))
  clear hk1
  go_enter Try.func70, Try.ntmps70
  go_wp2_with (fail)
  refine (HW1.out _).mono ?_
  rintro e w1 ⟨rfl, hb1⟩
  have HB1 := Aside0.mk (show Below w.heap.size w w1 from below_step (by repeat (first | exact Below.refl _ _ | apply below_alloc)) hb1)
  clear hb1
  go_wp2_with (fail)
  go_ret3
  exact ⟨rfl, HB1.out⟩
set_option maxHeartbeats 1000000 in
theorem hw_bestNo2 (a0 a1 : Int) (w : World) (hk1 : impl_within.f a0 1 3 = some true) (hk2 : impl_within.f a1 1 5 = some false) :
    Calls Try.prog 70 #[.int .i64 a0, .int .i64 a1] w fun e w' => e = .returned (.tuple #[.slice none 0 0, .int .i64 0, .bool false]) ∧ Below w.heap.size w w' := by
  have HW1 := Aside0.mk (fun W => (impl_within.calls a0 1 3 true W hk1).mono (fun e w' (h : e = .returned (.bool true) ∧ Drawn0 W w') => (⟨h.1, by obtain ⟨_, q, rfl⟩ := h; exact pw_below_drewN (Below.refl _ _) q⟩ : e = .returned (.bool true) ∧ Below W.heap.size W w')))
  have HW2 := Aside0.mk (fun W => (impl_within.calls a1 1 5 false W hk2).mono (fun e w' (h : e = .returned (.bool false) ∧ Drawn0 W w') => (⟨h.1, by obtain ⟨_, q, rfl⟩ := h; exact pw_below_drewN (Below.refl _ _) q⟩ : e = .returned (.bool false) ∧ Below W.heap.size W w')))
  clear hk1 hk2
  go_enter Try.func70, Try.ntmps70
  go_wp2_with (fail)
  refine (HW1.out _).mono ?_
  rintro e w1 ⟨rfl, hb1⟩
  have HB1 := Aside0.mk (show Below w.heap.size w w1 from below_step (by repeat (first | exact Below.refl _ _ | apply below_alloc)) hb1)
  have HQ1 := Aside0.mk (show w1.heap[w.heap.size + 1]? = some (.cells #[.int .i64 a1] 3 (0, 0)) from blk_below (blk_new2B w _ _) hb1)
  have hcq : w1.cell? ⟨w.heap.size + 1, 0, none⟩ = some (.int .i64 a1) := blk_cell HQ1.out 0
  clear hb1
  go_wp2_with (fail)
  refine (HW2.out _).mono ?_
  rintro e w2 ⟨rfl, hb2⟩
  have HB2 := Aside0.mk (below_step HB1.out hb2)
  clear hb2
  go_wp2_with (fail)
  go_ret3
  exact ⟨rfl, HB2.out⟩
/-- impl.bestSets: the sets with the greatest reach and this, and whether the numbers are right. -/
def hwBest (k : Nat) (a0 a1 : Int) : Option (hwSt × Bool) := (impl_within.f a0 1 3).bind fun t => (if t = true then ((impl_within.f a1 1 5).bind fun t2 => (if t2 = true then (if 1 ≤ a0 then ((hwAdd k a1 (a0 - 1).toNat [1] ([], -1)).bind fun s => some (s, true)) else none) else some (([], 0), false))) else some (([], 0), false))
theorem hwBest_mono (a0 a1 : Int) (k : Nat) : LeO (hwBest k a0 a1) (hwBest (k + 1) a0 a1) := by
  unfold hwBest
  exact LeO.bind (LeO.refl _) (fun _ => LeO.ite (LeO.bind (LeO.refl _) (fun _ => LeO.ite (LeO.ite (LeO.bind (hwAdd_mono _ _ _ _ _) (fun _ => LeO.refl _)) (LeO.refl _)) (LeO.refl _))) (LeO.refl _))
theorem hw_best (k : Nat) (a0 a1 : Int) (s : hwSt) (b : Bool) (w : World) (h : hwBest k a0 a1 = some (s, b)) :
    Calls Try.prog 70 #[.int .i64 a0, .int .i64 a1] w fun e w' => ∃ u : Value, e = .returned (.tuple #[u, .int .i64 s.2, .bool b]) ∧ Kd.R (Kd.slice 3 (Kd.int .i64)) 22 w' w.heap.size (fun _ => True) u s.1 ∧ Below w.heap.size w w' := by
  unfold hwBest at h
  obtain ⟨t1, h1, h⟩ := Option.bind_eq_some_iff.mp h
  cases t1 with
  | false =>
    rw [if_neg (by decide)] at h
    obtain ⟨rfl, rfl⟩ := Prod.mk.inj (Option.some.inj h)
    exact (hw_bestNo1 a0 a1 w h1).mono fun e w' ⟨he, hb⟩ => ⟨_, he, Kd.R_nil _ _ _ _ _, hb⟩
  | true =>
    rw [if_pos rfl] at h
    obtain ⟨t2, h2, h⟩ := Option.bind_eq_some_iff.mp h
    cases t2 with
    | false =>
      rw [if_neg (by decide)] at h
      obtain ⟨rfl, rfl⟩ := Prod.mk.inj (Option.some.inj h)
      exact (hw_bestNo2 a0 a1 w h1 h2).mono fun e w' ⟨he, hb⟩ => ⟨_, he, Kd.R_nil _ _ _ _ _, hb⟩
    | true =>
      rw [if_pos rfl] at h
      by_cases c : 1 ≤ a0
      · rw [if_pos c] at h
        obtain ⟨s', h3, h⟩ := Option.bind_eq_some_iff.mp h
        obtain ⟨rfl, rfl⟩ := Prod.mk.inj (Option.some.inj h)
        exact hw_bestYes k (a0 - 1).toNat a0 a1 s' w h1 h2 (by omega) h3
      · rw [if_neg c] at h
        exact absurd h (by simp)
/-- The first row of a row of rows. -/
theorem hw_head0 {w : World} {base : Nat} {v : Value} {xss : List (List Int)} (h : Kd.R (Kd.slice 3 (Kd.int .i64)) 22 w base (fun _ => True) v xss) (hn : 0 < xss.length) (y : List Int) (hy : xss.headD [] = y) :
    ∃ (g c : Nat) (u : Value), v = .slice (some ⟨g, 0, none⟩) xss.length c ∧ w.cell? ⟨g, 0, none⟩ = some u ∧ Kd.R (Kd.int .i64) 3 w base (fun _ => True) u y := by
  subst hy
  obtain ⟨g, c, rfl, _⟩ := Kd.R_form h hn
  obtain ⟨cs, _, ⟨u, rfl, hR⟩, hc⟩ := Kd.R_getA h [] 0 (by omega) (by omega)
  refine ⟨g, c, u, rfl, ?_, ?_⟩
  · have := hc 0 u rfl
    simpa [Addr.add] using this
  · have e : xss.getD (0 : Int).toNat [] = xss.headD [] := by cases xss with
      | nil => rfl
      | cons a t => rfl
    rw [e] at hR
    exact Kd.R_mono hR (fun _ _ => trivial)
/-- The first set with the greatest reach. -/
def impl_FirstBest.f (k : Nat) (a0 a1 : Int) : Option (List Int × Bool) := (hwBest k a0 a1).bind fun x => (if x.2 = true then (if 0 < x.1.1.length then some (x.1.1.headD [], true) else none) else some ([], false))
theorem impl_FirstBest.mono : ∀ a0 a1 k, LeO (impl_FirstBest.f k a0 a1) (impl_FirstBest.f (k + 1) a0 a1) := by
  intro a0 a1 k
  unfold impl_FirstBest.f
  exact LeO.bind (hwBest_mono _ _ _) (fun _ => LeO.refl _)
set_option maxRecDepth 100000 in
set_option maxHeartbeats 4000000 in
theorem impl_FirstBest.calls (k : Nat) (a0 a1 : Int) (r1 : List Int) (r2 : Bool) (w : World) (h : impl_FirstBest.f k a0 a1 = some (r1, r2)) :
    Calls Try.prog 44 #[.int .i64 a0, .int .i64 a1] w fun e w' => ∃ v0_ : Value, e = .returned (.tuple #[v0_, .bool r2]) ∧ Kd.R (Kd.int .i64) 3 w' w.heap.size (fun _ => True) v0_ r1 ∧ Below w.heap.size w w' := by
  have HB := Aside0.mk (Below.refl w.heap.size w)
  unfold impl_FirstBest.f at h
  obtain ⟨⟨s, b⟩, h1, h⟩ := Option.bind_eq_some_iff.mp h
  have HB := Aside0.mk (hw_best k a0 a1 s b w h1)
  clear h1
  cases b with
  | false =>
    rw [if_neg Bool.false_ne_true] at h
    obtain ⟨rfl, rfl⟩ := Prod.mk.inj (Option.some.inj h)
    clear h
    go_enter Try.func44, Try.ntmps44
    go_wp2_with (go_at_call 70; refine HB.out.mono ?_; rintro e w1 ⟨u, rfl, hR, hb1⟩; obtain ⟨A, c, rfl⟩ := Kd.R_slice hR; clear hR)
    go_ret2
    exact ⟨_, rfl, Kd.R_nil _ _ _ _ _, hb1⟩
  | true =>
    rw [if_pos rfl] at h
    dsimp only at h
    by_cases c0 : 0 < s.1.length
    · rw [if_pos c0] at h
      obtain ⟨hy, rfl⟩ := Prod.mk.inj (Option.some.inj h)
      have HY := Aside0.mk hy
      clear h hy
      go_enter Try.func44, Try.ntmps44
      go_wp2_with (go_at_call 70; refine HB.out.mono ?_; rintro e w1 ⟨u, rfl, hR, hb1⟩; obtain ⟨g1, c1, v1, rfl, hcell, hR1⟩ := hw_head0 hR c0 r1 HY.out; have HR1 := Aside0.mk hR1; obtain ⟨A2, c2, rfl⟩ := Kd.R_slice hR1; clear hR hR1)
      go_ret2
      exact ⟨_, rfl, HR1.out, hb1⟩
    · rw [if_neg c0] at h
      exact absurd h (by simp)

/-! ### laws_FnExactFirstBest: function 14 -/
mutual
def laws_FnExactFirstBest.j0 : Nat → Int → Int → List Int → Bool → List Int → Bool → Option (Bool)
  | 0, _, _, _, _, _, _ => none
  | k + 1, x0, x1, x5, x6, x7, x33 => if x33 = true then (some false) else ((laws_markIntS.f k x7 1).bind fun bt167 => ((laws_heldIntS.f k bt167.2 1).bind fun t169 => (if t169 < 0 then (some false) else (if t169 = bt167.1 then ((impl_FirstBest.f k x0 x1).bind fun bt170 => ((laws_eqIntS.f k bt170.1 x5).bind fun t174 => (if t174 = true then (laws_FnExactFirstBest.j1 k bt167.2 bt167.1 (bt170.2 != x6)) else (laws_FnExactFirstBest.j1 k bt167.2 bt167.1 true)))) else (some false)))))
def laws_FnExactFirstBest.j1 : Nat → List Int → Int → Bool → Option (Bool)
  | 0, _, _, _ => none
  | k + 1, x7, x9, x59 => if x59 = true then (some false) else ((laws_heldIntS.f k x7 1).bind fun t175 => (if t175 < 0 then (some false) else (if t175 = x9 then (some true) else (some false))))
end
def laws_FnExactFirstBest.f (k : Nat) (a0 : Int) (a1 : Int) : Option (Bool) := (spec_FirstBest.f k a0 a1).bind fun bt158 => ((impl_FirstBest.f k a0 a1).bind fun bt162 => ((laws_eqIntS.f k bt162.1 bt158.1).bind fun t166 => (if t166 = true then (laws_FnExactFirstBest.j0 k a0 a1 bt158.1 bt158.2 bt162.1 (bt162.2 != bt158.2)) else (laws_FnExactFirstBest.j0 k a0 a1 bt158.1 bt158.2 bt162.1 true))))
theorem laws_FnExactFirstBest.mono_l : ∀ k, (∀ y0 y1 y2 y3 y4 y5, LeO (laws_FnExactFirstBest.j0 k y0 y1 y2 y3 y4 y5) (laws_FnExactFirstBest.j0 (k + 1) y0 y1 y2 y3 y4 y5)) ∧ (∀ y0 y1 y2, LeO (laws_FnExactFirstBest.j1 k y0 y1 y2) (laws_FnExactFirstBest.j1 (k + 1) y0 y1 y2))
  | 0 => ⟨fun _ _ _ _ _ _ r h => by simp [laws_FnExactFirstBest.j0] at h, fun _ _ _ r h => by simp [laws_FnExactFirstBest.j1] at h⟩
  | k + 1 => by
    obtain ⟨ih0, ih1⟩ := laws_FnExactFirstBest.mono_l k
    refine ⟨?_, ?_⟩
    · intro y0 y1 y2 y3 y4 y5
      unfold laws_FnExactFirstBest.j0
      repeat' first
      | (with_reducible exact ih0 _ _ _ _ _ _)
      | (with_reducible exact ih1 _ _ _)
      | (with_reducible exact impl_FirstBest.mono _ _ _)
      | (with_reducible exact laws_eqIntS.mono _ _ _)
      | (with_reducible exact laws_heldIntS.mono _ _ _)
      | (with_reducible exact laws_markIntS.mono _ _ _)
      | (with_reducible exact spec_FirstBest.mono _ _ _)
      | (with_reducible exact LeO.refl _)
      | (with_reducible exact LeO.none _)
      | (with_reducible refine LeO.ite ?_ ?_)
      | (with_reducible refine LeO.bind ?_ (fun _ => ?_))
      | exact ih0 _ _ _ _ _ _
      | exact ih1 _ _ _
      | exact impl_FirstBest.mono _ _ _
      | exact laws_eqIntS.mono _ _ _
      | exact laws_heldIntS.mono _ _ _
      | exact laws_markIntS.mono _ _ _
      | exact spec_FirstBest.mono _ _ _
      | exact LeO.none _
      | refine LeO.ite ?_ ?_
      | refine LeO.bind ?_ (fun _ => ?_)
    · intro y0 y1 y2
      unfold laws_FnExactFirstBest.j1
      repeat' first
      | (with_reducible exact ih0 _ _ _ _ _ _)
      | (with_reducible exact ih1 _ _ _)
      | (with_reducible exact impl_FirstBest.mono _ _ _)
      | (with_reducible exact laws_eqIntS.mono _ _ _)
      | (with_reducible exact laws_heldIntS.mono _ _ _)
      | (with_reducible exact laws_markIntS.mono _ _ _)
      | (with_reducible exact spec_FirstBest.mono _ _ _)
      | (with_reducible exact LeO.refl _)
      | (with_reducible exact LeO.none _)
      | (with_reducible refine LeO.ite ?_ ?_)
      | (with_reducible refine LeO.bind ?_ (fun _ => ?_))
      | exact ih0 _ _ _ _ _ _
      | exact ih1 _ _ _
      | exact impl_FirstBest.mono _ _ _
      | exact laws_eqIntS.mono _ _ _
      | exact laws_heldIntS.mono _ _ _
      | exact laws_markIntS.mono _ _ _
      | exact spec_FirstBest.mono _ _ _
      | exact LeO.none _
      | refine LeO.ite ?_ ?_
      | refine LeO.bind ?_ (fun _ => ?_)
theorem laws_FnExactFirstBest.mono : ∀ a0 a1 k, LeO (laws_FnExactFirstBest.f k a0 a1) (laws_FnExactFirstBest.f (k + 1) a0 a1) := by
  intro a0 a1 k
  obtain ⟨ih0, ih1⟩ := laws_FnExactFirstBest.mono_l k
  unfold laws_FnExactFirstBest.f
  repeat' first
      | (with_reducible exact ih0 _ _ _ _ _ _)
      | (with_reducible exact ih1 _ _ _)
      | (with_reducible exact impl_FirstBest.mono _ _ _)
      | (with_reducible exact laws_eqIntS.mono _ _ _)
      | (with_reducible exact laws_heldIntS.mono _ _ _)
      | (with_reducible exact laws_markIntS.mono _ _ _)
      | (with_reducible exact spec_FirstBest.mono _ _ _)
      | (with_reducible exact LeO.refl _)
      | (with_reducible exact LeO.none _)
      | (with_reducible refine LeO.ite ?_ ?_)
      | (with_reducible refine LeO.bind ?_ (fun _ => ?_))
      | exact ih0 _ _ _ _ _ _
      | exact ih1 _ _ _
      | exact impl_FirstBest.mono _ _ _
      | exact laws_eqIntS.mono _ _ _
      | exact laws_heldIntS.mono _ _ _
      | exact laws_markIntS.mono _ _ _
      | exact spec_FirstBest.mono _ _ _
      | exact LeO.none _
      | refine LeO.ite ?_ ?_
      | refine LeO.bind ?_ (fun _ => ?_)
set_option maxHeartbeats 8000000 in
set_option maxRecDepth 100000 in
theorem laws_FnExactFirstBest.calls (k : Nat) (a0 : Int) (a1 : Int) (r : Bool) (w : World) (h : laws_FnExactFirstBest.f k a0 a1 = some r) :
    Calls Try.prog 14 #[.int .i64 a0, .int .i64 a1] w fun e w' => e = .returned (.bool r) ∧ Below w.heap.size w w' := by
  have HB := Aside0.mk (Below.refl w.heap.size w)
  have H : ((spec_FirstBest.f k a0 a1).bind fun bt158 => ((impl_FirstBest.f k a0 a1).bind fun bt162 => ((laws_eqIntS.f k bt162.1 bt158.1).bind fun t166 => (if t166 = true then (laws_FnExactFirstBest.j0 k a0 a1 bt158.1 bt158.2 bt162.1 (bt162.2 != bt158.2)) else (laws_FnExactFirstBest.j0 k a0 a1 bt158.1 bt158.2 bt162.1 true))))) = some r := h
  clear h
  replace H := Option.bind_eq_some_iff.mp H
  obtain ⟨⟨t158, t159⟩, A30, H⟩ := H
  replace H : ((impl_FirstBest.f k a0 a1).bind fun bt162 => ((laws_eqIntS.f k bt162.1 t158).bind fun t166 => (if t166 = true then (laws_FnExactFirstBest.j0 k a0 a1 t158 t159 bt162.1 (bt162.2 != t159)) else (laws_FnExactFirstBest.j0 k a0 a1 t158 t159 bt162.1 true)))) = some r := H
  have A3 := Aside0.mk A30
  clear A30
  replace H := Option.bind_eq_some_iff.mp H
  obtain ⟨⟨t162, t163⟩, A40, H⟩ := H
  replace H : ((laws_eqIntS.f k t162 t158).bind fun t166 => (if t166 = true then (laws_FnExactFirstBest.j0 k a0 a1 t158 t159 t162 (t163 != t159)) else (laws_FnExactFirstBest.j0 k a0 a1 t158 t159 t162 true))) = some r := H
  have A4 := Aside0.mk A40
  clear A40
  have HC5 := Aside0.mk H
  clear H
  go_enter Try.func14, Try.ntmps14
  go_upto_region 3 with (first | ((with_reducible refine gate_callee (f := 43) rfl ?_); refine goesL_ (some 16) rfl rfl Try.func43 (by kernel_rfl) rfl #[.int .i64 a0, .int .i64 a1] rfl (by (try simp only [List.map_toArray, List.map_cons, List.map_nil]); first | done | rfl | (simp only [List.length_drop, List.length_take]; rfl)) ?_; (with_reducible refine (spec_FirstBest.calls k a0 a1 t158 t159 _ A3.out).mono ?_); rintro e w6 ⟨v160, rfl, ho0, hb⟩; refine ⟨_, rfl, ?_⟩; have n0_ := Aside0.mk (Kd.R_lower ho0 (below_size (by repeat (first | (with_reducible first | exact HB.out | apply below_alloc | apply pw_below_drewN | apply below_drew1) | exact HB.out)))); have n1_ := Aside0.mk (below_step (by repeat (first | (with_reducible first | exact HB.out | apply below_alloc | apply pw_below_drewN | apply below_drew1) | exact HB.out)) hb); clear HB; have HO161 := n0_; have HB := n1_; clear n0_ n1_; (try clear hb); (try clear hb2); (try clear hk); (try clear hi); (try clear ho0)) | ((with_reducible refine gate_callee (f := 44) rfl ?_); refine goesL_ (some 22) rfl rfl Try.func44 (by kernel_rfl) rfl #[.int .i64 a0, .int .i64 a1] rfl (by (try simp only [List.map_toArray, List.map_cons, List.map_nil]); first | done | rfl | (simp only [List.length_drop, List.length_take]; rfl)) ?_; (with_reducible refine (impl_FirstBest.calls k a0 a1 t162 t163 _ A4.out).mono ?_); rintro e w7 ⟨v164, rfl, ho0, hb⟩; refine ⟨_, rfl, ?_⟩; have n0_ := Aside0.mk (Kd.R_elder' (by (with_reducible repeat (first | apply Kd.R_alloc | apply Kd.R_drewN | apply Kd.R_drew)); exact HO161.out) (Kd.R_base ho0) hb); have n1_ := Aside0.mk (Kd.R_lower (Kd.R_new' ho0 (Kd.R_lt (by (with_reducible repeat (first | apply Kd.R_alloc | apply Kd.R_drewN | apply Kd.R_drew)); exact HO161.out))) (below_size (by repeat (first | (with_reducible first | exact HB.out | apply below_alloc | apply pw_below_drewN | apply below_drew1) | exact HB.out)))); have n2_ := Aside0.mk (below_step (by repeat (first | (with_reducible first | exact HB.out | apply below_alloc | apply pw_below_drewN | apply below_drew1) | exact HB.out)) hb); clear HO161; clear HB; have HO161 := n0_; have HO165 := n1_; have HB := n2_; clear n0_ n1_ n2_; (try clear hb); (try clear hb2); (try clear hk); (try clear hi); (try clear ho0)))
  (try simp only [Act.put, List.setIfInBounds_toArray, List.set_cons_zero, List.set_cons_succ])
  go_cut [33] (fun v33 wc => ∃ (kq : Nat) (x33_4 : Bool), v33 = .bool x33_4 ∧ Aside0 (laws_FnExactFirstBest.j0 kq a0 a1 t158 t159 t162 x33_4 = some r) ∧ Aside0 (kq ≤ k) ∧ Aside0 (Kd.R (Kd.int .i64) 3 wc w.heap.size (fun k_ => some k_ ≠ (v164 : Value).ownBlock) v160 t158) ∧ Aside0 (Kd.R (Kd.int .i64) 3 wc w.heap.size (fun k_ => some k_ ≠ (v160 : Value).ownBlock) v164 t162) ∧ Aside0 (Below w.heap.size w wc))
  case first =>
    have H := HC5.out
    clear HC5
    replace H := Option.bind_eq_some_iff.mp H
    obtain ⟨t166, A80, H⟩ := H
    replace H : (if t166 = true then (laws_FnExactFirstBest.j0 k a0 a1 t158 t159 t162 (t163 != t159)) else (laws_FnExactFirstBest.j0 k a0 a1 t158 t159 t162 true)) = some r := H
    have A8 := Aside0.mk A80
    clear A80
    by_cases c9 : t166 = true
    · subst c9
      have H1 : (laws_FnExactFirstBest.j0 k a0 a1 t158 t159 t162 (t163 != t159)) = some r := by rw [if_pos rfl] at H; exact H
      clear H
      have H := H1
      clear H1
      have H' := Aside0.mk H
      clear H
      obtain ⟨Ao10, co10, eo10⟩ := Kd.R_slice HO165.out
      subst eo10
      obtain ⟨Ao11, co11, eo11⟩ := Kd.R_slice HO161.out
      subst eo11
      go_wp2_with (first | ((with_reducible refine gate_callee (f := 20) rfl ?_); refine goesL_ (some 27) rfl rfl Try.func20 (by kernel_rfl) rfl #[.slice Ao10 t162.length co10, .slice Ao11 t158.length co11] rfl (by (try simp only [List.map_toArray, List.map_cons, List.map_nil]); first | done | rfl | (simp only [List.length_drop, List.length_take]; rfl)) ?_; (with_reducible refine (laws_eqIntS.calls k _ _ t162 _ _ t158 true _ ?side1 ?side2 ?side3 ?side4 A8.out).mono ?_); (case side1 => repeat (first | exact (Kd.R_reads' HO165.out).2.2 | (with_reducible refine Kd.C_alloc ?_ _) | (with_reducible refine Kd.C_drewN ?_ _) | (with_reducible refine Kd.C_drew ?_))); (case side2 => exact (Kd.R_reads' HO165.out).2.1); (case side3 => repeat (first | exact (Kd.R_reads' HO161.out).2.2 | (with_reducible refine Kd.C_alloc ?_ _) | (with_reducible refine Kd.C_drewN ?_ _) | (with_reducible refine Kd.C_drew ?_))); (case side4 => exact (Kd.R_reads' HO161.out).2.1); rintro e w' ⟨rfl, ⟨nd, rfl⟩⟩; refine ⟨_, rfl, ?_⟩))
      go_meet
      case rel => exact ⟨_, ((t163 != t159)), (by first | rfl | (simp; done) | (simp [*]; done)), H', ⟨by first | omega | exact Nat.le_refl _⟩, ⟨by (with_reducible repeat (first | apply Kd.R_alloc | apply Kd.R_drewN | apply Kd.R_drew)); exact Kd.R_mono HO161.out (fun _ hk => hk.2)⟩, ⟨by (with_reducible repeat (first | apply Kd.R_alloc | apply Kd.R_drewN | apply Kd.R_drew)); exact Kd.R_mono HO165.out (fun _ hk => hk.2)⟩, ⟨by repeat (first | (with_reducible first | exact HB.out | apply below_alloc | apply pw_below_drewN | apply below_drew1) | exact HB.out)⟩⟩
    · replace c9 := Bool.eq_false_iff.mpr c9
      subst c9
      have H1 : (laws_FnExactFirstBest.j0 k a0 a1 t158 t159 t162 true) = some r := by rw [if_neg (show ¬ (false = true) by decide)] at H; exact H
      clear H
      have H := H1
      clear H1
      have H' := Aside0.mk H
      clear H
      obtain ⟨Ao12, co12, eo12⟩ := Kd.R_slice HO165.out
      subst eo12
      obtain ⟨Ao13, co13, eo13⟩ := Kd.R_slice HO161.out
      subst eo13
      go_wp2_with (first | ((with_reducible refine gate_callee (f := 20) rfl ?_); refine goesL_ (some 27) rfl rfl Try.func20 (by kernel_rfl) rfl #[.slice Ao12 t162.length co12, .slice Ao13 t158.length co13] rfl (by (try simp only [List.map_toArray, List.map_cons, List.map_nil]); first | done | rfl | (simp only [List.length_drop, List.length_take]; rfl)) ?_; (with_reducible refine (laws_eqIntS.calls k _ _ t162 _ _ t158 false _ ?side1 ?side2 ?side3 ?side4 A8.out).mono ?_); (case side1 => repeat (first | exact (Kd.R_reads' HO165.out).2.2 | (with_reducible refine Kd.C_alloc ?_ _) | (with_reducible refine Kd.C_drewN ?_ _) | (with_reducible refine Kd.C_drew ?_))); (case side2 => exact (Kd.R_reads' HO165.out).2.1); (case side3 => repeat (first | exact (Kd.R_reads' HO161.out).2.2 | (with_reducible refine Kd.C_alloc ?_ _) | (with_reducible refine Kd.C_drewN ?_ _) | (with_reducible refine Kd.C_drew ?_))); (case side4 => exact (Kd.R_reads' HO161.out).2.1); rintro e w' ⟨rfl, ⟨nd, rfl⟩⟩; refine ⟨_, rfl, ?_⟩))
      go_meet
      case rel => exact ⟨_, (true), (by first | rfl | (simp; done) | (simp [*]; done)), H', ⟨by first | omega | exact Nat.le_refl _⟩, ⟨by (with_reducible repeat (first | apply Kd.R_alloc | apply Kd.R_drewN | apply Kd.R_drew)); exact Kd.R_mono HO161.out (fun _ hk => hk.2)⟩, ⟨by (with_reducible repeat (first | apply Kd.R_alloc | apply Kd.R_drewN | apply Kd.R_drew)); exact Kd.R_mono HO165.out (fun _ hk => hk.2)⟩, ⟨by repeat (first | (with_reducible first | exact HB.out | apply below_alloc | apply pw_below_drewN | apply below_drew1) | exact HB.out)⟩⟩
  case rest =>
    clear HC5
    try clear c1
    try clear c2
    try clear p2
    try clear c4
    try clear c9
    obtain ⟨kq, x33_4, rfl, HA, HJ4, HO_5, HO_7, HB⟩ := hcut
    cases kq with
    | zero => exact absurd HA.out (by simp [laws_FnExactFirstBest.j0])
    | succ kj4 =>
      have H := HA.out
      clear HA
      simp only [laws_FnExactFirstBest.j0] at H
      by_cases c14 : x33_4 = true
      · subst c14
        have H1 : (some false) = some r := by rw [if_pos rfl] at H; exact H
        clear H
        have H := H1
        clear H1
        obtain rfl := Option.some.inj H
        go_wp2
        go_ret
        exact ⟨by first | rfl | (simp [errW_none, errW_some] <;> rfl) | (simp [*, errW_none, errW_some] <;> rfl), by repeat (first | (with_reducible first | exact HB.out | apply below_alloc | apply pw_below_drewN | apply below_drew1) | exact HB.out)⟩
      · replace c14 := Bool.eq_false_iff.mpr c14
        subst c14
        have H1 : ((laws_markIntS.f kj4 t162 1).bind fun bt167 => ((laws_heldIntS.f kj4 bt167.2 1).bind fun t169 => (if t169 < 0 then (some false) else (if t169 = bt167.1 then ((impl_FirstBest.f kj4 a0 a1).bind fun bt170 => ((laws_eqIntS.f kj4 bt170.1 t158).bind fun t174 => (if t174 = true then (laws_FnExactFirstBest.j1 kj4 bt167.2 bt167.1 (bt170.2 != t159)) else (laws_FnExactFirstBest.j1 kj4 bt167.2 bt167.1 true)))) else (some false))))) = some r := by rw [if_neg (show ¬ (false = true) by decide)] at H; exact H
        clear H
        have H := H1
        clear H1
        replace H := Option.bind_eq_some_iff.mp H
        obtain ⟨⟨t167, t168⟩, A150, H⟩ := H
        replace H : ((laws_heldIntS.f kj4 t168 1).bind fun t169 => (if t169 < 0 then (some false) else (if t169 = t167 then ((impl_FirstBest.f kj4 a0 a1).bind fun bt170 => ((laws_eqIntS.f kj4 bt170.1 t158).bind fun t174 => (if t174 = true then (laws_FnExactFirstBest.j1 kj4 t168 t167 (bt170.2 != t159)) else (laws_FnExactFirstBest.j1 kj4 t168 t167 true)))) else (some false)))) = some r := H
        have A15 := Aside0.mk A150
        clear A150
        replace H := Option.bind_eq_some_iff.mp H
        obtain ⟨t169, A160, H⟩ := H
        replace H : (if t169 < 0 then (some false) else (if t169 = t167 then ((impl_FirstBest.f kj4 a0 a1).bind fun bt170 => ((laws_eqIntS.f kj4 bt170.1 t158).bind fun t174 => (if t174 = true then (laws_FnExactFirstBest.j1 kj4 t168 t167 (bt170.2 != t159)) else (laws_FnExactFirstBest.j1 kj4 t168 t167 true)))) else (some false))) = some r := H
        have A16 := Aside0.mk A160
        clear A160
        by_cases c17 : t169 < 0
        · rw [if_pos c17] at H
          have c17b0 : decide (t169 < 0) = true := decide_eq_true c17
          clear c17
          obtain rfl := Option.some.inj H
          obtain ⟨Ao18, co18, eo18⟩ := Kd.R_slice HO_7.out
          subst eo18
          go_wp2_with (first | ((with_reducible refine gate_callee (f := 33) rfl ?_); refine goesL_ (some 36) rfl rfl Try.func33 (by kernel_rfl) rfl #[.slice Ao18 t162.length co18, .int .i64 1] rfl (by (try simp only [List.map_toArray, List.map_cons, List.map_nil]); first | done | rfl | (simp only [List.length_drop, List.length_take]; rfl)) ?_; (with_reducible refine (laws_markIntS.calls kj4 (fun k_ => some k_ = (.slice Ao18 t162.length co18 : Value).ownBlock) (.slice Ao18 t162.length co18) t162 1 t167 t168 w _ ?side1 ?side2 A15.out).mono ?_); (case side1 => repeat (first | (with_reducible first | exact HB.out | apply below_alloc | apply pw_below_drewN | apply below_drew1) | exact HB.out)); (case side2 => exact Kd.R_tight rfl HO_7.out); rintro e w19 ⟨rfl, hy0, hb, hkp⟩; refine ⟨_, rfl, ?_⟩; have n0_ := Aside0.mk (Kd.R_mono (ok' := fun k_ => some k_ ≠ (.slice Ao18 t162.length co18 : Value).ownBlock) (Kd.R_keptB (HO_5.out) hkp (fun k_ hk_ hs_ => (hk_) hs_)) (fun k_ hk_ => hk_.1)); have n1_ := Aside0.mk (Kd.R_reok rfl hy0 (fun k_ e_ => HO_7.out.1 k_ e_)); have n2_ := Aside0.mk (hb); clear HO_5; clear HO_7; clear HB; have HO_5 := n0_; have HO_7 := n1_; have HB := n2_; clear n0_ n1_ n2_; (try clear hb); (try clear hkp); (try clear hy0)) | ((with_reducible refine gate_callee (f := 34) rfl ?_); refine goesL_ (some 39) rfl rfl Try.func34 (by kernel_rfl) rfl #[.slice Ao18 t168.length co18, .int .i64 1] rfl (by (try simp only [List.map_toArray, List.map_cons, List.map_nil]); first | done | (rw [show t168.length = t162.length from (Kd.R_reads' HO_7.out).1.symm] <;> rfl) | rfl | (simp only [List.length_drop, List.length_take]; rfl)) ?_; (with_reducible refine (laws_heldIntS.calls kj4 _ _ t168 1 t169 _ ?side1 ?side2 A16.out).mono ?_); (case side1 => repeat (first | exact (Kd.R_reads' HO_7.out).2.2 | (with_reducible refine Kd.C_alloc ?_ _) | (with_reducible refine Kd.C_drewN ?_ _) | (with_reducible refine Kd.C_drew ?_))); (case side2 => rw [show t168.length = t162.length from (Kd.R_reads' HO_7.out).1.symm]; exact (Kd.R_reads' HO_7.out).2.1); rintro e w' ⟨rfl, ⟨nd, rfl⟩⟩; refine ⟨_, rfl, ?_⟩))
          go_ret
          exact ⟨by first | rfl | (simp [errW_none, errW_some] <;> rfl) | (simp [*, errW_none, errW_some] <;> rfl), by repeat (first | (with_reducible first | exact HB.out | apply below_alloc | apply pw_below_drewN | apply below_drew1) | exact HB.out)⟩
        · rw [if_neg c17] at H
          have c17b0 : decide (t169 < 0) = false := decide_eq_false c17
          clear c17
          by_cases c20 : t169 = t167
          · rw [if_pos c20] at H
            have c20b0 : (t169 == t167) = true := beq_iff_eq.mpr c20
            have c20b1 : (t169 != t167) = false := bne_eq_false_iff_eq.mpr c20
            clear c20
            replace H := Option.bind_eq_some_iff.mp H
            obtain ⟨⟨t170, t171⟩, A210, H⟩ := H
            replace H : ((laws_eqIntS.f kj4 t170 t158).bind fun t174 => (if t174 = true then (laws_FnExactFirstBest.j1 kj4 t168 t167 (t171 != t159)) else (laws_FnExactFirstBest.j1 kj4 t168 t167 true))) = some r := H
            have A21 := Aside0.mk A210
            clear A210
            have HC22 := Aside0.mk H
            clear H
            obtain ⟨Ao23, co23, eo23⟩ := Kd.R_slice HO_7.out
            subst eo23
            go_upto_region 14 with (first | ((with_reducible refine gate_callee (f := 33) rfl ?_); refine goesL_ (some 36) rfl rfl Try.func33 (by kernel_rfl) rfl #[.slice Ao23 t162.length co23, .int .i64 1] rfl (by (try simp only [List.map_toArray, List.map_cons, List.map_nil]); first | done | rfl | (simp only [List.length_drop, List.length_take]; rfl)) ?_; (with_reducible refine (laws_markIntS.calls kj4 (fun k_ => some k_ = (.slice Ao23 t162.length co23 : Value).ownBlock) (.slice Ao23 t162.length co23) t162 1 t167 t168 w _ ?side1 ?side2 A15.out).mono ?_); (case side1 => repeat (first | (with_reducible first | exact HB.out | apply below_alloc | apply pw_below_drewN | apply below_drew1) | exact HB.out)); (case side2 => exact Kd.R_tight rfl HO_7.out); rintro e w24 ⟨rfl, hy0, hb, hkp⟩; refine ⟨_, rfl, ?_⟩; have n0_ := Aside0.mk (Kd.R_mono (ok' := fun k_ => some k_ ≠ (.slice Ao23 t162.length co23 : Value).ownBlock) (Kd.R_keptB (HO_5.out) hkp (fun k_ hk_ hs_ => (hk_) hs_)) (fun k_ hk_ => hk_.1)); have n1_ := Aside0.mk (Kd.R_reok rfl hy0 (fun k_ e_ => HO_7.out.1 k_ e_)); have n2_ := Aside0.mk (hb); clear HO_5; clear HO_7; clear HB; have HO_5 := n0_; have HO_7 := n1_; have HB := n2_; clear n0_ n1_ n2_; (try clear hb); (try clear hkp); (try clear hy0)) | ((with_reducible refine gate_callee (f := 34) rfl ?_); refine goesL_ (some 39) rfl rfl Try.func34 (by kernel_rfl) rfl #[.slice Ao23 t168.length co23, .int .i64 1] rfl (by (try simp only [List.map_toArray, List.map_cons, List.map_nil]); first | done | (rw [show t168.length = t162.length from (Kd.R_reads' HO_7.out).1.symm] <;> rfl) | rfl | (simp only [List.length_drop, List.length_take]; rfl)) ?_; (with_reducible refine (laws_heldIntS.calls kj4 _ _ t168 1 t169 _ ?side1 ?side2 A16.out).mono ?_); (case side1 => repeat (first | exact (Kd.R_reads' HO_7.out).2.2 | (with_reducible refine Kd.C_alloc ?_ _) | (with_reducible refine Kd.C_drewN ?_ _) | (with_reducible refine Kd.C_drew ?_))); (case side2 => rw [show t168.length = t162.length from (Kd.R_reads' HO_7.out).1.symm]; exact (Kd.R_reads' HO_7.out).2.1); rintro e w' ⟨rfl, ⟨nd, rfl⟩⟩; refine ⟨_, rfl, ?_⟩) | ((with_reducible refine gate_callee (f := 44) rfl ?_); refine goesL_ (some 48) rfl rfl Try.func44 (by kernel_rfl) rfl #[.int .i64 a0, .int .i64 a1] rfl (by (try simp only [List.map_toArray, List.map_cons, List.map_nil]); first | done | rfl | (simp only [List.length_drop, List.length_take]; rfl)) ?_; (with_reducible refine (impl_FirstBest.calls kj4 a0 a1 t170 t171 _ A21.out).mono ?_); rintro e w25 ⟨v172, rfl, ho0, hb⟩; refine ⟨_, rfl, ?_⟩; have n0_ := Aside0.mk (Kd.R_elder' (by (with_reducible repeat (first | apply Kd.R_alloc | apply Kd.R_drewN | apply Kd.R_drew)); exact HO_5.out) (Kd.R_base ho0) hb); have n1_ := Aside0.mk (Kd.R_elder' (by (with_reducible repeat (first | apply Kd.R_alloc | apply Kd.R_drewN | apply Kd.R_drew)); exact HO_7.out) (Kd.R_base ho0) hb); have n2_ := Aside0.mk (Kd.R_lower (Kd.R_new' (Kd.R_new' ho0 (Kd.R_lt (by (with_reducible repeat (first | apply Kd.R_alloc | apply Kd.R_drewN | apply Kd.R_drew)); exact HO_5.out))) (Kd.R_lt (by (with_reducible repeat (first | apply Kd.R_alloc | apply Kd.R_drewN | apply Kd.R_drew)); exact HO_7.out))) (below_size (by repeat (first | (with_reducible first | exact HB.out | apply below_alloc | apply pw_below_drewN | apply below_drew1) | exact HB.out)))); have n3_ := Aside0.mk (below_step (by repeat (first | (with_reducible first | exact HB.out | apply below_alloc | apply pw_below_drewN | apply below_drew1) | exact HB.out)) hb); clear HO_5; clear HO_7; clear HB; have HO_5 := n0_; have HO_7 := n1_; have HO173 := n2_; have HB := n3_; clear n0_ n1_ n2_ n3_; (try clear hb); (try clear hb2); (try clear hk); (try clear hi); (try clear ho0)))
            (try simp only [Act.put, List.setIfInBounds_toArray, List.set_cons_zero, List.set_cons_succ])
            go_cut [59] (fun v59 wc => ∃ (kq : Nat) (x59_21 : Bool), v59 = .bool x59_21 ∧ Aside0 (laws_FnExactFirstBest.j1 kq t168 t167 x59_21 = some r) ∧ Aside0 (kq ≤ kj4) ∧ Aside0 (Kd.R (Kd.int .i64) 3 wc w.heap.size (fun _ => True) (.slice Ao23 t162.length co23) t168) ∧ Aside0 (Below w.heap.size w wc))
            case first =>
              have H := HC22.out
              clear HC22
              replace H := Option.bind_eq_some_iff.mp H
              obtain ⟨t174, A260, H⟩ := H
              replace H : (if t174 = true then (laws_FnExactFirstBest.j1 kj4 t168 t167 (t171 != t159)) else (laws_FnExactFirstBest.j1 kj4 t168 t167 true)) = some r := H
              have A26 := Aside0.mk A260
              clear A260
              by_cases c27 : t174 = true
              · subst c27
                have H1 : (laws_FnExactFirstBest.j1 kj4 t168 t167 (t171 != t159)) = some r := by rw [if_pos rfl] at H; exact H
                clear H
                have H := H1
                clear H1
                have H' := Aside0.mk H
                clear H
                obtain ⟨Ao28, co28, eo28⟩ := Kd.R_slice HO173.out
                subst eo28
                obtain ⟨Ao29, co29, eo29⟩ := Kd.R_slice HO_5.out
                subst eo29
                go_wp2_with (first | ((with_reducible refine gate_callee (f := 20) rfl ?_); refine goesL_ (some 53) rfl rfl Try.func20 (by kernel_rfl) rfl #[.slice Ao28 t170.length co28, .slice Ao29 t158.length co29] rfl (by (try simp only [List.map_toArray, List.map_cons, List.map_nil]); first | done | rfl | (simp only [List.length_drop, List.length_take]; rfl)) ?_; (with_reducible refine (laws_eqIntS.calls kj4 _ _ t170 _ _ t158 true _ ?side1 ?side2 ?side3 ?side4 A26.out).mono ?_); (case side1 => repeat (first | exact (Kd.R_reads' HO173.out).2.2 | (with_reducible refine Kd.C_alloc ?_ _) | (with_reducible refine Kd.C_drewN ?_ _) | (with_reducible refine Kd.C_drew ?_))); (case side2 => exact (Kd.R_reads' HO173.out).2.1); (case side3 => repeat (first | exact (Kd.R_reads' HO_5.out).2.2 | (with_reducible refine Kd.C_alloc ?_ _) | (with_reducible refine Kd.C_drewN ?_ _) | (with_reducible refine Kd.C_drew ?_))); (case side4 => exact (Kd.R_reads' HO_5.out).2.1); rintro e w' ⟨rfl, ⟨nd, rfl⟩⟩; refine ⟨_, rfl, ?_⟩))
                go_meet
                case rel => exact ⟨_, ((t171 != t159)), (by first | rfl | (simp; done) | (simp [*]; done)), H', ⟨by have := HJ4.out; first | omega | exact Nat.le_refl _⟩, ⟨by (with_reducible repeat (first | apply Kd.R_alloc | apply Kd.R_drewN | apply Kd.R_drew)); exact Kd.R_mono HO_7.out (fun _ hk => trivial)⟩, ⟨by repeat (first | (with_reducible first | exact HB.out | apply below_alloc | apply pw_below_drewN | apply below_drew1) | exact HB.out)⟩⟩
              · replace c27 := Bool.eq_false_iff.mpr c27
                subst c27
                have H1 : (laws_FnExactFirstBest.j1 kj4 t168 t167 true) = some r := by rw [if_neg (show ¬ (false = true) by decide)] at H; exact H
                clear H
                have H := H1
                clear H1
                have H' := Aside0.mk H
                clear H
                obtain ⟨Ao30, co30, eo30⟩ := Kd.R_slice HO173.out
                subst eo30
                obtain ⟨Ao31, co31, eo31⟩ := Kd.R_slice HO_5.out
                subst eo31
                go_wp2_with (first | ((with_reducible refine gate_callee (f := 20) rfl ?_); refine goesL_ (some 53) rfl rfl Try.func20 (by kernel_rfl) rfl #[.slice Ao30 t170.length co30, .slice Ao31 t158.length co31] rfl (by (try simp only [List.map_toArray, List.map_cons, List.map_nil]); first | done | rfl | (simp only [List.length_drop, List.length_take]; rfl)) ?_; (with_reducible refine (laws_eqIntS.calls kj4 _ _ t170 _ _ t158 false _ ?side1 ?side2 ?side3 ?side4 A26.out).mono ?_); (case side1 => repeat (first | exact (Kd.R_reads' HO173.out).2.2 | (with_reducible refine Kd.C_alloc ?_ _) | (with_reducible refine Kd.C_drewN ?_ _) | (with_reducible refine Kd.C_drew ?_))); (case side2 => exact (Kd.R_reads' HO173.out).2.1); (case side3 => repeat (first | exact (Kd.R_reads' HO_5.out).2.2 | (with_reducible refine Kd.C_alloc ?_ _) | (with_reducible refine Kd.C_drewN ?_ _) | (with_reducible refine Kd.C_drew ?_))); (case side4 => exact (Kd.R_reads' HO_5.out).2.1); rintro e w' ⟨rfl, ⟨nd, rfl⟩⟩; refine ⟨_, rfl, ?_⟩))
                go_meet
                case rel => exact ⟨_, (true), (by first | rfl | (simp; done) | (simp [*]; done)), H', ⟨by have := HJ4.out; first | omega | exact Nat.le_refl _⟩, ⟨by (with_reducible repeat (first | apply Kd.R_alloc | apply Kd.R_drewN | apply Kd.R_drew)); exact Kd.R_mono HO_7.out (fun _ hk => trivial)⟩, ⟨by repeat (first | (with_reducible first | exact HB.out | apply below_alloc | apply pw_below_drewN | apply below_drew1) | exact HB.out)⟩⟩
            case rest =>
              clear HC22
              try clear c1
              try clear c2
              try clear p2
              try clear c3
              try clear c4
              try clear c9
              try clear c14
              try clear c17
              try clear c17b0
              try clear c20
              try clear c20b0
              try clear c20b1
              try clear c27
              try clear p2
              obtain ⟨kq, x59_21, rfl, HA, HJ21, HO_7, HB⟩ := hcut
              have hl7_21 := (Kd.R_reads' HO_7.out).1
              rw [hl7_21] at HO_7
              (try simp only [hl7_21])
              cases kq with
              | zero => exact absurd HA.out (by simp [laws_FnExactFirstBest.j1])
              | succ kj21 =>
                have H := HA.out
                clear HA
                simp only [laws_FnExactFirstBest.j1] at H
                by_cases c32 : x59_21 = true
                · subst c32
                  have H1 : (some false) = some r := by rw [if_pos rfl] at H; exact H
                  clear H
                  have H := H1
                  clear H1
                  obtain rfl := Option.some.inj H
                  go_wp2
                  go_ret
                  exact ⟨by first | rfl | (simp [errW_none, errW_some] <;> rfl) | (simp [*, errW_none, errW_some] <;> rfl), by repeat (first | (with_reducible first | exact HB.out | apply below_alloc | apply pw_below_drewN | apply below_drew1) | exact HB.out)⟩
                · replace c32 := Bool.eq_false_iff.mpr c32
                  subst c32
                  have H1 : ((laws_heldIntS.f kj21 t168 1).bind fun t175 => (if t175 < 0 then (some false) else (if t175 = t167 then (some true) else (some false)))) = some r := by rw [if_neg (show ¬ (false = true) by decide)] at H; exact H
                  clear H
                  have H := H1
                  clear H1
                  replace H := Option.bind_eq_some_iff.mp H
                  obtain ⟨t175, A330, H⟩ := H
                  replace H : (if t175 < 0 then (some false) else (if t175 = t167 then (some true) else (some false))) = some r := H
                  have A33 := Aside0.mk A330
                  clear A330
                  by_cases c34 : t175 < 0
                  · rw [if_pos c34] at H
                    have c34b0 : decide (t175 < 0) = true := decide_eq_true c34
                    clear c34
                    obtain rfl := Option.some.inj H
                    go_wp2_with (first | ((with_reducible refine gate_callee (f := 34) rfl ?_); refine goesL_ (some 62) rfl rfl Try.func34 (by kernel_rfl) rfl #[.slice Ao23 t168.length co23, .int .i64 1] rfl (by (try simp only [List.map_toArray, List.map_cons, List.map_nil]); first | done | rfl | (simp only [List.length_drop, List.length_take]; rfl)) ?_; (with_reducible refine (laws_heldIntS.calls kj21 _ _ t168 1 t175 _ ?side1 ?side2 A33.out).mono ?_); (case side1 => repeat (first | exact (Kd.R_reads' HO_7.out).2.2 | (with_reducible refine Kd.C_alloc ?_ _) | (with_reducible refine Kd.C_drewN ?_ _) | (with_reducible refine Kd.C_drew ?_))); (case side2 => exact (Kd.R_reads' HO_7.out).2.1); rintro e w' ⟨rfl, ⟨nd, rfl⟩⟩; refine ⟨_, rfl, ?_⟩))
                    go_ret
                    exact ⟨by first | rfl | (simp [errW_none, errW_some] <;> rfl) | (simp [*, errW_none, errW_some] <;> rfl), by repeat (first | (with_reducible first | exact HB.out | apply below_alloc | apply pw_below_drewN | apply below_drew1) | exact HB.out)⟩
                  · rw [if_neg c34] at H
                    have c34b0 : decide (t175 < 0) = false := decide_eq_false c34
                    clear c34
                    by_cases c35 : t175 = t167
                    · rw [if_pos c35] at H
                      have c35b0 : (t175 == t167) = true := beq_iff_eq.mpr c35
                      have c35b1 : (t175 != t167) = false := bne_eq_false_iff_eq.mpr c35
                      clear c35
                      obtain rfl := Option.some.inj H
                      go_wp2_with (first | ((with_reducible refine gate_callee (f := 34) rfl ?_); refine goesL_ (some 62) rfl rfl Try.func34 (by kernel_rfl) rfl #[.slice Ao23 t168.length co23, .int .i64 1] rfl (by (try simp only [List.map_toArray, List.map_cons, List.map_nil]); first | done | rfl | (simp only [List.length_drop, List.length_take]; rfl)) ?_; (with_reducible refine (laws_heldIntS.calls kj21 _ _ t168 1 t175 _ ?side1 ?side2 A33.out).mono ?_); (case side1 => repeat (first | exact (Kd.R_reads' HO_7.out).2.2 | (with_reducible refine Kd.C_alloc ?_ _) | (with_reducible refine Kd.C_drewN ?_ _) | (with_reducible refine Kd.C_drew ?_))); (case side2 => exact (Kd.R_reads' HO_7.out).2.1); rintro e w' ⟨rfl, ⟨nd, rfl⟩⟩; refine ⟨_, rfl, ?_⟩))
                      go_ret
                      exact ⟨by first | rfl | (simp [errW_none, errW_some] <;> rfl) | (simp [*, errW_none, errW_some] <;> rfl), by repeat (first | (with_reducible first | exact HB.out | apply below_alloc | apply pw_below_drewN | apply below_drew1) | exact HB.out)⟩
                    · rw [if_neg c35] at H
                      have c35b0 : (t175 == t167) = false := beq_eq_false_iff_ne.mpr c35
                      have c35b1 : (t175 != t167) = true := bne_iff_ne.mpr c35
                      obtain rfl := Option.some.inj H
                      go_wp2_with (first | ((with_reducible refine gate_callee (f := 34) rfl ?_); refine goesL_ (some 62) rfl rfl Try.func34 (by kernel_rfl) rfl #[.slice Ao23 t168.length co23, .int .i64 1] rfl (by (try simp only [List.map_toArray, List.map_cons, List.map_nil]); first | done | rfl | (simp only [List.length_drop, List.length_take]; rfl)) ?_; (with_reducible refine (laws_heldIntS.calls kj21 _ _ t168 1 t175 _ ?side1 ?side2 A33.out).mono ?_); (case side1 => repeat (first | exact (Kd.R_reads' HO_7.out).2.2 | (with_reducible refine Kd.C_alloc ?_ _) | (with_reducible refine Kd.C_drewN ?_ _) | (with_reducible refine Kd.C_drew ?_))); (case side2 => exact (Kd.R_reads' HO_7.out).2.1); rintro e w' ⟨rfl, ⟨nd, rfl⟩⟩; refine ⟨_, rfl, ?_⟩))
                      go_ret
                      exact ⟨by first | rfl | (simp [errW_none, errW_some] <;> rfl) | (simp [*, errW_none, errW_some] <;> rfl), by repeat (first | (with_reducible first | exact HB.out | apply below_alloc | apply pw_below_drewN | apply below_drew1) | exact HB.out)⟩
          · rw [if_neg c20] at H
            have c20b0 : (t169 == t167) = false := beq_eq_false_iff_ne.mpr c20
            have c20b1 : (t169 != t167) = true := bne_iff_ne.mpr c20
            obtain rfl := Option.some.inj H
            obtain ⟨Ao36, co36, eo36⟩ := Kd.R_slice HO_7.out
            subst eo36
            go_wp2_with (first | ((with_reducible refine gate_callee (f := 33) rfl ?_); refine goesL_ (some 36) rfl rfl Try.func33 (by kernel_rfl) rfl #[.slice Ao36 t162.length co36, .int .i64 1] rfl (by (try simp only [List.map_toArray, List.map_cons, List.map_nil]); first | done | rfl | (simp only [List.length_drop, List.length_take]; rfl)) ?_; (with_reducible refine (laws_markIntS.calls kj4 (fun k_ => some k_ = (.slice Ao36 t162.length co36 : Value).ownBlock) (.slice Ao36 t162.length co36) t162 1 t167 t168 w _ ?side1 ?side2 A15.out).mono ?_); (case side1 => repeat (first | (with_reducible first | exact HB.out | apply below_alloc | apply pw_below_drewN | apply below_drew1) | exact HB.out)); (case side2 => exact Kd.R_tight rfl HO_7.out); rintro e w37 ⟨rfl, hy0, hb, hkp⟩; refine ⟨_, rfl, ?_⟩; have n0_ := Aside0.mk (Kd.R_mono (ok' := fun k_ => some k_ ≠ (.slice Ao36 t162.length co36 : Value).ownBlock) (Kd.R_keptB (HO_5.out) hkp (fun k_ hk_ hs_ => (hk_) hs_)) (fun k_ hk_ => hk_.1)); have n1_ := Aside0.mk (Kd.R_reok rfl hy0 (fun k_ e_ => HO_7.out.1 k_ e_)); have n2_ := Aside0.mk (hb); clear HO_5; clear HO_7; clear HB; have HO_5 := n0_; have HO_7 := n1_; have HB := n2_; clear n0_ n1_ n2_; (try clear hb); (try clear hkp); (try clear hy0)) | ((with_reducible refine gate_callee (f := 34) rfl ?_); refine goesL_ (some 39) rfl rfl Try.func34 (by kernel_rfl) rfl #[.slice Ao36 t168.length co36, .int .i64 1] rfl (by (try simp only [List.map_toArray, List.map_cons, List.map_nil]); first | done | (rw [show t168.length = t162.length from (Kd.R_reads' HO_7.out).1.symm] <;> rfl) | rfl | (simp only [List.length_drop, List.length_take]; rfl)) ?_; (with_reducible refine (laws_heldIntS.calls kj4 _ _ t168 1 t169 _ ?side1 ?side2 A16.out).mono ?_); (case side1 => repeat (first | exact (Kd.R_reads' HO_7.out).2.2 | (with_reducible refine Kd.C_alloc ?_ _) | (with_reducible refine Kd.C_drewN ?_ _) | (with_reducible refine Kd.C_drew ?_))); (case side2 => rw [show t168.length = t162.length from (Kd.R_reads' HO_7.out).1.symm]; exact (Kd.R_reads' HO_7.out).2.1); rintro e w' ⟨rfl, ⟨nd, rfl⟩⟩; refine ⟨_, rfl, ?_⟩))
            go_ret
            exact ⟨by first | rfl | (simp [errW_none, errW_some] <;> rfl) | (simp [*, errW_none, errW_some] <;> rfl), by repeat (first | (with_reducible first | exact HB.out | apply below_alloc | apply pw_below_drewN | apply below_drew1) | exact HB.out)⟩

/-- THE ONE PURE STATEMENT of laws_FnExactFirstBest: yours. -/
def laws_FnExactFirstBest.Pure : Prop := ∀ (a0 : Int) (a1 : Int), (Lit.int .i64 a0).wf = true → (Lit.int .i64 a1).wf = true → ∃ k, laws_FnExactFirstBest.f k a0 a1 = some true
theorem laws_FnExactFirstBest.walk (P : laws_FnExactFirstBest.Pure) (a0 : Int) (a1 : Int) (w : World) (w0 : (Lit.int .i64 a0).wf = true) (w1 : (Lit.int .i64 a1).wf = true) :
    Calls Try.prog 14 #[.int .i64 a0, .int .i64 a1] w fun e w' => e = .returned (.bool true) ∧ Below w.heap.size w w' := by
  obtain ⟨k, h⟩ := P a0 a1 w0 w1
  refine (laws_FnExactFirstBest.calls k a0 a1 true w h).mono ?_
  rintro e w' ⟨rfl, hd⟩
  exact ⟨rfl, hd⟩

end Go.Proofs.Ytbabhmdncfffnaa.PFnExactFirstBest
