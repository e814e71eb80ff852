-- Laid by this session by the help of the print: contracts proved by hand beside printed ones.
import Derived.Test.YtfldgimmdeijjaaPFnExactFewestMovesx0
import Derived.Test.YtfldgimmdeijjaaPFnExactFewestMovesx5
import Derived.Test.YtfldgimmdeijjaaPFnExactFewestMovesx6
import Derived.Test.YtfldgimmdeijjaaPFnExactFewestMovesx7
namespace Go.Proofs.Ytfldgimmdeijjaa.PFnExactFewestMoves
open Go.RowKit Go.Proofs.YtfldgimmdeijjaaW.PrintWords Go.Proofs.YtfldgimmdeijjaaW.PrintLast Go.Proofs.YtfldgimmdeijjaaW.PrintMore
attribute [local go_sem] max2_int min2_int max_two min_two max_three min_three max_four min_four   -- for this text's walks alone
set_option linter.unusedVariables false
set_option linter.unusedSimpArgs false

/-! ### impl_paying: function 80 -/
/-- An append to a row of one's own never takes a draw back. -/
theorem hw_append_drawn {P : Program} (w : World) (base : Nat) (t ty e : TypeId) (i : TypeInfo) (z : Value) (size bytes : Nat) (ht : P.underlying t = some (.slice e)) (hi : P.info? e = some i) (hz : i.zero = some z)
    (hsize : i.size = size) (hby : i.bytes = bytes) (hzs : z.cells.size = size) (hsz : 0 < size) (v : Value) (n : Nat) (xs : List Value) (hown : w.ownsRow base e size v n xs)
    (a : Addr) (m c : Nat) (news : List Value) (hl : news.length = m * size) (hnews : ∀ j u, news[j]? = some u → w.cell? (a.add j) = some u) (h1 : ∀ u ∈ news, u.oneCell' = true)
    (h63 : n + m ≤ maxLen) (hbytes : (n + m) * bytes ≤ 140737488355328) {v' : Value} {w' : World} (hr : (Builtin.append_ #[t, t] ty #[v, .slice (some a) m c]).run P w = .ok v' w') : w.drawn ≤ w'.drawn := by
  subst hsize
  subst hby
  have hsmall : n + m ≤ 9223372036854775807 := by simp only [maxLen] at h63; omega
  rcases hown.2 with ⟨rfl, rfl⟩ | ⟨g, cap, cur, rfl, hbg, hg, hnc, hcm, hcs, htake⟩
  · by_cases hm : m = 0
    · subst hm
      have hr2 : (Builtin.append_ #[t, t] ty #[.slice none 0 0, .slice (some a) 0 c]).run P w = .ok (.slice none 0 0) w := by
        simp [Builtin.append_, run_underlying ht, sizeOf, typeInfo, hi, Builtin.lenOf, Builtin.firstCells, loadCells, loadCellsFrom]
      rw [hr2] at hr
      injection hr with _ e1
      rw [← e1]
      exact Nat.le_refl _
    · have hr2 := run_append_nil (P := P) w t ty e i z ht hi hz a m c news hl hnews (by omega) (by omega) (by have hb := hbytes; simp only [Nat.zero_add] at hb; omega)
      rw [hr2] at hr
      injection hr with _ e1
      rw [← e1]
      exact Nat.le_succ _
  · by_cases hroom : n + m ≤ cap
    · have hfit : n * i.size + news.length ≤ cur.size := by rw [hl, hcs, ← Nat.add_mul]; exact Nat.mul_le_mul_right _ hroom
      have hr2 := run_append_room (P := P) w t ty e i ht hi g n cap cur hg a m c news hl hnews h1 hroom hfit
      rw [hr2] at hr
      injection hr with _ e1
      rw [← e1]
      exact Nat.le_refl _
    · have holds : ∀ j u, xs[j]? = some u → w.cell? ((⟨g, 0, none⟩ : Addr).add j) = some u := hown.cells (g := g) rfl
      have hr2 := run_append_grow (P := P) w t ty e i z ht hi hz ⟨g, 0, none⟩ n cap xs hown.1 holds a m c news hl hnews (by omega) (by omega) (growslice_fits (by omega) hbytes)
      rw [hr2] at hr
      injection hr with _ e1
      rw [← e1]
      exact Nat.le_succ _
/-- The print's law on append, and how far the draws have come. -/
theorem hw_appendD {P : Program} {ops : Array Oper} {rest : List Oper} {o : Oper} {a : Act} {Q : Exit → Act → World → Prop} {w0 W : World} (base : Nat) (hgd : o.guard = none) (s x : Operand) (t e : TypeId) (z : Value) (bytes : Nat)
    (ho : o.op = .call { callee := .builtin .append, args := #[s, x], argTypes := #[t, t] })
    (ht : P.underlying t = some (.slice e)) (hinfo : (P.info? e).map (fun i => (i.zero, i.size, i.bytes)) = some (some z, 1, bytes)) (hz : z.cells.size = 1) (hb0 : 0 < bytes)
    (v : Value) (xs : List Int) (p : Int) (hs : a.eval s = v) (hx : a.eval x = .slice (some ⟨W.heap.size, 0, none⟩) 1 1)
    (HO : Kd.R (Kd.int .i64) e W base (fun _ => True) v xs) (HB : Below base w0 W) (hbase : base ≤ W.heap.size) (hl : (xs.length + 1) * bytes ≤ 140737488355328)
    (h : ∀ v1 w1, Kd.R (Kd.int .i64) e w1 base (fun _ => True) v1 (xs ++ [p]) → Below base w0 w1 → W.drawn ≤ w1.drawn → wpList P ops Q rest (a.put o.dst v1) w1) :
    wpList P ops Q (o :: rest) a (W.alloc (.cells [Value.int .i64 p].toArray e)) := by
  have hown := Kd.own_of_R HO
  obtain ⟨i0, hi, hzz⟩ := Option.map_eq_some_iff.1 hinfo
  simp only [Prod.mk.injEq] at hzz
  obtain ⟨hz0, hz1, hz2⟩ := hzz
  have hlen : xs.length + 1 ≤ 140737488355328 := Nat.le_trans (Nat.le_mul_of_pos_right _ hb0) hl
  refine wpList_plain hgd fun _ hK => ?_
  have hnews : ∀ j u, [Value.int .i64 p][j]? = some u → (W.alloc (.cells [Value.int .i64 p].toArray e)).cell? ((⟨W.heap.size, 0, none⟩ : Addr).add j) = some u := cell_one_new W (.int .i64 p) e
  have h1 : ∀ u ∈ [Value.int .i64 p], u.oneCell' = true := fun u hu => by rw [List.mem_singleton.1 hu]; rfl
  obtain ⟨v1, w1, hr, hown1, hg, _, hat⟩ := run_append_own_at (P := P) (W.alloc (.cells [Value.int .i64 p].toArray e)) base t o.type e i0 z 1 bytes ht hi hz0 hz1 hz2 hz (by decide) v xs.length (encs (Value.int .i64) xs) (hown.alloc _) ⟨W.heap.size, 0, none⟩ 1 1 [.int .i64 p] rfl hnews h1 (by simp only [maxLen]; omega) hl (by simp; omega)
  have hd := hw_append_drawn (P := P) (W.alloc (.cells [Value.int .i64 p].toArray e)) base t o.type e i0 z 1 bytes ht hi hz0 hz1 hz2 hz (by decide) v xs.length (encs (Value.int .i64) xs) (hown.alloc _) ⟨W.heap.size, 0, none⟩ 1 1 [.int .i64 p] rfl hnews h1 (by simp only [maxLen]; omega) hl hr
  unfold Oper.wp execOp
  simp only [ho, resolve, invoke, builtin, Sem.run_bind, Sem.run_pure, Result.andThen_ok, List.map_toArray, List.map_cons, List.map_nil, hs, hx, hr]
  refine hK _ _ (h v1 w1 (Kd.R_of_own ?_ (fun _ _ => trivial)) ((HB.alloc hbase _).grown hg (by simp; omega) (own_base hown)) hd)
  rw [List.length_append, List.length_singleton]
  simpa [encs] using hown1
/-- What lies below stays, and no draw is taken back: some draws, some blocks more. -/
theorem hw_grow_of {W w' : World} (hb : Below W.heap.size W w') (hd : W.drawn ≤ w'.drawn) : ∃ (q : Nat) (os : Array Obj), w' = Go.Sort.grow (W.drewN q) os := by
  obtain ⟨h1, h2, h3, h4, h5⟩ := hb
  refine ⟨w'.drawn - W.drawn, w'.heap.extract W.heap.size w'.heap.size, ?_⟩
  have e1 : ∀ q, (W.drewN q).heap = W.heap ∧ (W.drewN q).os = W.os ∧ (W.drewN q).tape = W.tape ∧ (W.drewN q).output = W.output ∧ (W.drewN q).drawn = W.drawn + q := by
    intro q
    exact ⟨rfl, rfl, rfl, rfl, rfl⟩
  obtain ⟨g1, g2, g3, g4, g5⟩ := e1 (w'.drawn - W.drawn)
  have eh : w'.heap = W.heap ++ w'.heap.extract W.heap.size w'.heap.size := by
    apply Array.ext_getElem?
    intro k
    rcases Nat.lt_or_ge k W.heap.size with z | z
    · rw [h5 k z, Array.getElem?_append_left z]
    · rw [Array.getElem?_append_right z, Array.getElem?_extract]
      split
      · congr 1; omega
      · exact Array.getElem?_eq_none (by omega)
  cases w' with
  | mk heap tape drawn os output =>
    cases W with
    | mk heap' tape' drawn' os' output' =>
      unfold Go.Sort.grow
      simp only [World.mk.injEq] at *
      subst h1 h2 h3
      exact ⟨eh, g3.symm, by rw [g5]; omega, g2.symm, g4.symm⟩
/-- The indices below i of a set. -/
def hwIdxTo (x : Int) (i : Nat) : List Int := ((List.range i).filter fun (j : Nat) => decide (Go.bits .and .i64 (shr .i64 x (j : Int)) 1 = 1)).map fun (j : Nat) => (j : Int)
theorem hwIdxTo_yes (x : Int) (i : Nat) (h : Go.bits .and .i64 (shr .i64 x (i : Int)) 1 = 1) : hwIdxTo x (i + 1) = hwIdxTo x i ++ [(i : Int)] := by
  unfold hwIdxTo
  rw [List.range_succ, List.filter_append, List.map_append]
  congr 1
  simp [h]
theorem hwIdxTo_no (x : Int) (i : Nat) (h : ¬ Go.bits .and .i64 (shr .i64 x (i : Int)) 1 = 1) : hwIdxTo x (i + 1) = hwIdxTo x i := by
  unfold hwIdxTo
  rw [List.range_succ, List.filter_append, List.map_append]
  simp [h]
theorem hwIdxTo_len (x : Int) (i : Nat) : (hwIdxTo x i).length ≤ i := by
  unfold hwIdxTo
  rw [List.length_map]
  exact Nat.le_trans (List.length_filter_le _ _) (by simp)
def hwIdx8 (x : Int) : List Int := hwIdxTo x 8
theorem hwIdx8_len (x : Int) : (hwIdx8 x).length ≤ 8 := hwIdxTo_len x 8
set_option maxHeartbeats 4000000 in
set_option maxRecDepth 100000 in
theorem hw_indicesD (a0 : Int) (w : World) :
    Calls Try.prog 99 #[.int .i64 a0] w fun e w' => ∃ v0_ : Value, e = .returned v0_ ∧ Kd.R (Kd.int .i64) 3 w' w.heap.size (fun _ => True) v0_ (hwIdx8 a0) ∧ Below w.heap.size w w' ∧ w.drawn ≤ w'.drawn := by
  have HB := Aside0.mk (Below.refl w.heap.size w)
  have own0 : (w.alloc (.cells #[] 3)).ownsRow w.heap.size 3 1 (.slice (some ⟨w.heap.size, 0, none⟩) 0 0) 0 [] := by have := own_lit w w.heap.size 3 .i64 [] (Nat.le_refl _) (by simp); simpa [nums] using this
  have HO := Aside0.mk (show Kd.R (Kd.int .i64) 3 (w.alloc (.cells #[] 3)) w.heap.size (fun _ => True) (.slice (some ⟨w.heap.size, 0, none⟩) 0 0) (hwIdxTo a0 0) from Kd.R_of_own (show (w.alloc (.cells #[] 3)).ownsRow w.heap.size 3 1 (.slice (some ⟨w.heap.size, 0, none⟩) 0 0) (hwIdxTo a0 0).length (encs (Value.int .i64) (hwIdxTo a0 0)) from own0) (fun _ _ => trivial))
  clear own0
  go_enter Try.func99, Try.ntmps99
  go_wp2
  go_loopg [3, 6] 8 (fun kq v3 v6 w' => ∃ (x6_1 : Int), v6 = .int .i64 x6_1 ∧ Aside0 (0 ≤ x6_1 ∧ x6_1 + kq = 8) ∧ Aside0 (Kd.R (Kd.int .i64) 3 w' w.heap.size (fun _ => True) v3 (hwIdxTo a0 x6_1.toNat)) ∧ Aside0 (Below w.heap.size w w' ∧ w.drawn ≤ w'.drawn))
  case atStart => exact ⟨0, rfl, ⟨by omega⟩, HO, ⟨below_alloc (Below.refl _ _) _, Nat.le_refl _⟩⟩
  case round =>
    clear HO HB
    obtain ⟨x6_1, rfl, HX, HO_3, HB⟩ := hrel
    cases gk with
    | zero =>
      have hx := HX.out
      have c4b0 : decide (x6_1 < 8) = false := decide_eq_false (by omega)
      have HO := Aside0.mk (show Kd.R (Kd.int .i64) 3 wr w.heap.size (fun _ => True) u3 (hwIdx8 a0) from by
        have e : x6_1.toNat = 8 := by omega
        have h := HO_3.out
        rw [e] at h
        exact h)
      clear HO_3 hx HX
      go_wp2
      go_ret
      exact ⟨_, rfl, HO.out, HB.out⟩
    | succ k1 =>
      have hx := HX.out
      have c4b0 : decide (x6_1 < 8) = true := decide_eq_true (by omega)
      have c5b1 : decide (0 ≤ x6_1) = true := decide_eq_true hx.1
      have c5b0 := eq_true hx.1
      have HXn := Aside0.mk (show 0 ≤ x6_1 ∧ x6_1 ≤ 7 ∧ x6_1 + k1 = 7 by omega)
      have HW := Aside0.mk (show wrap64 (x6_1 + 1) = x6_1 + 1 by unfold wrap64; omega)
      clear hx HX
      obtain ⟨ji6, hji6⟩ : ∃ j_ : Int, (shr .i64 a0 x6_1) = j_ := ⟨_, rfl⟩
      have hji6_ : (a0 / 2 ^ min x6_1.toNat 64) = ji6 := hji6
      have hji6z : x6_1 ≤ 64 → (a0 / 2 ^ x6_1.toNat) = ji6 := shr_small hji6
      have hn : shr .i64 a0 ((x6_1.toNat : Nat) : Int) = ji6 := by rw [show ((x6_1.toNat : Nat) : Int) = x6_1 by have := HXn.out; omega]; exact hji6
      have HL := Aside0.mk (hwIdxTo_len a0 x6_1.toNat)
      by_cases c7 : (Go.bits .and .i64 (ji6) 1) = 1
      · have HY := Aside0.mk (hwIdxTo_yes a0 x6_1.toNat (by rw [hn]; exact c7))
        have c7b0 : ((Go.bits .and .i64 (ji6) 1) == 1) = true := beq_iff_eq.mpr c7
        have c7b1 : ((Go.bits .and .i64 (ji6) 1) != 1) = false := bne_eq_false_iff_eq.mpr c7
        clear c7 hn
        go_wp2_with ((with_reducible refine gate_builtin (b := .append) (xs := #[.tmp 14, .tmp 16]) rfl ?_); at_builtin; refine hw_appendD (w0 := w) w.heap.size rfl (.tmp 14) (.tmp 16) 22 3 (.int .i64 0) 8 rfl Try.underlying22 info3 rfl (by decide) u3 (hwIdxTo a0 x6_1.toNat) x6_1 rfl rfl (by (with_reducible repeat (first | apply Kd.R_alloc | apply Kd.R_drewN | apply Kd.R_drew)); exact HO_3.out) (by repeat (first | exact HB.out.1 | apply below_drew1)) (below_size (by repeat (first | exact HB.out.1 | apply below_drew1))) (by have := HL.out; have := HXn.out; omega) ?_; intro v151 w9 ho hb hd; have HO := Aside0.mk ho; have HB9 := Aside0.mk hb; have HD9 := Aside0.mk hd; clear ho hb hd)
        go_roundg k1
        case measure => omega
        case rel => exact ⟨wrap64 (x6_1 + 1), rfl, ⟨by rw [HW.out]; have := HXn.out; omega⟩, ⟨by rw [HW.out, show (x6_1 + 1).toNat = x6_1.toNat + 1 by have := HXn.out; omega, HY.out, show ((x6_1.toNat : Nat) : Int) = x6_1 by have := HXn.out; omega]; exact HO.out⟩, ⟨HB9.out, Nat.le_trans HB.out.2 (Nat.le_trans (by simp) HD9.out)⟩⟩
      · have HY := Aside0.mk (hwIdxTo_no a0 x6_1.toNat (by rw [hn]; exact c7))
        have c7b0 : ((Go.bits .and .i64 (ji6) 1) == 1) = false := beq_eq_false_iff_ne.mpr c7
        have c7b1 : ((Go.bits .and .i64 (ji6) 1) != 1) = true := bne_iff_ne.mpr c7
        clear c7 hn
        go_wp2
        go_roundg k1
        case measure => omega
        case rel => exact ⟨wrap64 (x6_1 + 1), rfl, ⟨by rw [HW.out]; have := HXn.out; omega⟩, ⟨by rw [HW.out, show (x6_1 + 1).toNat = x6_1.toNat + 1 by have := HXn.out; omega, HY.out]; (with_reducible repeat (first | apply Kd.R_alloc | apply Kd.R_drewN | apply Kd.R_drew)); exact HO_3.out⟩, ⟨by repeat (first | exact HB.out.1 | apply below_drew1), by first | exact HB.out.2 | exact Nat.le_trans HB.out.2 (by simp)⟩⟩
/-- Two lists in the order of a dictionary. -/
def hwCmp : List Int → List Int → Int
  | [], [] => 0
  | [], _ :: _ => -1
  | _ :: _, [] => 1
  | a :: s, b :: t => if a < b then -1 else if a > b then 1 else hwCmp s t
theorem hwCmp_self : ∀ s, hwCmp s s = 0
  | [] => rfl
  | a :: s => by rw [hwCmp, if_neg (by omega), if_neg (by omega)]; exact hwCmp_self s
theorem hwCmp_trans : ∀ s t u, hwCmp s t < 0 → hwCmp t u < 0 → hwCmp s u < 0
  | [], [], u, h, _ => absurd h (by simp [hwCmp])
  | [], _ :: _, [], _, h => absurd h (by simp [hwCmp])
  | [], _ :: _, _ :: _, _, _ => by simp [hwCmp]
  | _ :: _, [], _, h, _ => absurd h (by simp [hwCmp])
  | _ :: _, _ :: _, [], _, h => absurd h (by simp [hwCmp])
  | a :: s, b :: t, c :: u, h1, h2 => by
    have ih := hwCmp_trans s t u
    rw [hwCmp] at h1 h2 ⊢
    by_cases p : a < b
    · by_cases q : b < c
      · rw [if_pos (by omega)]; omega
      · rw [if_neg q] at h2
        by_cases q2 : b > c
        · rw [if_pos q2] at h2; omega
        · rw [if_pos (by omega)]; omega
    · rw [if_neg p] at h1
      by_cases p2 : a > b
      · rw [if_pos p2] at h1; omega
      · rw [if_neg p2] at h1
        by_cases q : b < c
        · rw [if_pos (by omega)]; omega
        · rw [if_neg q] at h2
          by_cases q2 : b > c
          · rw [if_pos q2] at h2; omega
          · rw [if_neg q2] at h2
            rw [if_neg (by omega), if_neg (by omega)]
            exact ih h1 h2
theorem hwCmp_ntrans : ∀ s t u, ¬ hwCmp s t < 0 → ¬ hwCmp t u < 0 → ¬ hwCmp s u < 0
  | [], [], _, _, h => h
  | [], _ :: _, _, h, _ => absurd (by simp [hwCmp]) h
  | _ :: _, [], [], _, _ => by simp [hwCmp]
  | _ :: _, [], _ :: _, _, h => absurd (by simp [hwCmp]) h
  | _ :: _, _ :: _, [], _, _ => by simp [hwCmp]
  | a :: s, b :: t, c :: u, h1, h2 => by
    have ih := hwCmp_ntrans s t u
    rw [hwCmp] at h1 h2 ⊢
    by_cases p : a < b
    · rw [if_pos p] at h1; omega
    · rw [if_neg p] at h1
      by_cases q : b < c
      · rw [if_pos q] at h2; omega
      · rw [if_neg q] at h2
        rw [if_neg (by omega)]
        by_cases p2 : a > c
        · rw [if_pos p2]; omega
        · rw [if_neg p2]
          rw [if_neg (by omega)] at h1 h2
          exact ih h1 h2
theorem hwCmp_eq : ∀ s t, ¬ hwCmp s t < 0 → ¬ hwCmp t s < 0 → s = t
  | [], [], _, _ => rfl
  | [], _ :: _, h, _ => absurd (by simp [hwCmp]) h
  | _ :: _, [], _, h => absurd (by simp [hwCmp]) h
  | a :: s, b :: t, h1, h2 => by
    have ih := hwCmp_eq s t
    rw [hwCmp] at h1 h2
    by_cases p : a < b
    · rw [if_pos p] at h1; omega
    · by_cases q : b < a
      · rw [if_pos q] at h2; omega
      · rw [if_neg p, if_neg (by omega)] at h1
        rw [if_neg q, if_neg (by omega)] at h2
        rw [ih h1 h2, show a = b by omega]
theorem hw_cmpInt (a b : Int) : cmp_Compare_int.f a b = some (if a < b then -1 else if a > b then 1 else 0) := by
  unfold cmp_Compare_int.f cmp_isNaN_int.f
  simp
  split <;> (try split) <;> rfl
theorem hw_cmpLoop (x y : List Int) (hx : x.length ≤ 1000) : ∀ (d i k : Nat), i + d = x.length → d < k → i ≤ y.length → slices_Compare_int_int.l0 k x y x (x.length : Int) (i : Int) = some (hwCmp (x.drop i) (y.drop i))
  | 0, i, k, h, hk, hy => by
    obtain ⟨k, rfl⟩ : ∃ m, k = m + 1 := ⟨k - 1, by omega⟩
    rw [slices_Compare_int_int.l0, if_neg (by omega), List.drop_of_length_le (show x.length ≤ i by omega)]
    cases hd : y.drop i with
    | nil =>
      have := congrArg List.length hd
      rw [List.length_drop, List.length_nil] at this
      rw [if_neg (by omega)]
      rfl
    | cons b t =>
      have := congrArg List.length hd
      rw [List.length_drop, List.length_cons] at this
      rw [if_pos (by omega)]
      rfl
  | d + 1, i, k, h, hk, hy => by
    obtain ⟨k, rfl⟩ : ∃ m, k = m + 1 := ⟨k - 1, by omega⟩
    have hi : i < x.length := by omega
    have ex : x.drop i = rd x (i : Int) :: x.drop (i + 1) := by
      rw [List.drop_eq_getElem_cons hi]
      congr 1
      show x[i] = x.getD i 0
      rw [List.getD_eq_getElem?_getD, List.getElem?_eq_getElem hi]
      rfl
    rw [slices_Compare_int_int.l0, if_pos (by omega), if_pos (by omega), if_pos (by omega), ex]
    by_cases c : i < y.length
    · have ey : y.drop i = rd y (i : Int) :: y.drop (i + 1) := by
        rw [List.drop_eq_getElem_cons c]
        congr 1
        show y[i] = y.getD i 0
        rw [List.getD_eq_getElem?_getD, List.getElem?_eq_getElem c]
        rfl
      rw [if_neg (by omega), if_pos (by omega), ey, hw_cmpInt, Option.bind_some, hwCmp]
      by_cases p : rd x (i : Int) < rd y (i : Int)
      · simp only [if_pos p]
        rw [if_neg (by decide)]
      · simp only [if_neg p]
        by_cases q : rd x (i : Int) > rd y (i : Int)
        · simp only [if_pos q]
          rw [if_neg (by decide)]
        · simp only [if_neg q]
          simp only [if_true]
          rw [show wrap64 ((i : Int) + 1) = ((i + 1 : Nat) : Int) by unfold wrap64; omega]
          exact hw_cmpLoop x y hx d (i + 1) k (by omega) (by omega) (by omega)
    · rw [if_pos (by omega), List.drop_of_length_le (show y.length ≤ i by omega), hwCmp]
theorem hw_cmpSome (x y : List Int) (hx : x.length ≤ 1000) : slices_Compare_int_int.f 1001 x y = some (hwCmp x y) := by
  unfold slices_Compare_int_int.f
  have := hw_cmpLoop x y hx x.length 0 1001 (by omega) (by omega) (Nat.zero_le _)
  simpa using this
/-- How two sets stand, told by their indices. -/
def hwCf (a b : Fin 256) : Int := hwCmp (hwIdx8 (a.val : Int)) (hwIdx8 (b.val : Int))
def hwBackOk (a : Nat) : Bool := decide ((hwIdx8 (a : Int)).foldr (fun i s => 2 ^ i.toNat + s) 0 = a)
theorem hwBack_all : (List.range 256).all hwBackOk = true := by decide +kernel
theorem hwIdx8_back (a : Fin 256) : (hwIdx8 (a.val : Int)).foldr (fun i s => 2 ^ i.toNat + s) 0 = a.val :=
  of_decide_eq_true (List.all_eq_true.mp hwBack_all a.val (List.mem_range.mpr a.isLt))
theorem hwCf_swo : Go.Sort.SWO (Go.Proofs.ltOf hwCf) where
  irrefl := fun x => by unfold Go.Proofs.ltOf hwCf; rw [hwCmp_self]; rfl
  trans := fun x y z h1 h2 => decide_eq_true (hwCmp_trans _ _ _ (of_decide_eq_true h1) (of_decide_eq_true h2))
  ntrans := fun x y z h1 h2 => decide_eq_false (hwCmp_ntrans _ _ _ (of_decide_eq_false h1) (of_decide_eq_false h2))
theorem hwCf_total (x y : Fin 256) (h1 : Go.Proofs.ltOf hwCf x y = false) (h2 : Go.Proofs.ltOf hwCf y x = false) : x = y := by
  have e := hwCmp_eq _ _ (of_decide_eq_false h1) (of_decide_eq_false h2)
  have a := hwIdx8_back x
  have b := hwIdx8_back y
  rw [e] at a
  exact Fin.ext (a.symm.trans b)
set_option maxHeartbeats 4000000 in
set_option maxRecDepth 100000 in
theorem hw_cmpClosure (a b : Int) (w : World) :
    Calls Try.prog 101 #[.int .i64 a, .int .i64 b] w fun e w' => e = .returned (.int .i64 (hwCmp (hwIdx8 a) (hwIdx8 b))) ∧ ∃ q os', w' = Go.Sort.grow (w.drewN q) os' := by
  have HC := Aside0.mk (hw_cmpSome (hwIdx8 a) (hwIdx8 b) (Nat.le_trans (hwIdx8_len a) (by decide)))
  go_enter Try.func101, Try.ntmps101
  go_wp2_with (first
    | (go_at_call 99; (with_reducible refine (hw_indicesD a w).mono ?_); rintro e w1 ⟨v1, rfl, hR1, hb1, hd1⟩; have HR1 := Aside0.mk hR1; have HB1 := Aside0.mk hb1; have HD1 := Aside0.mk hd1; obtain ⟨A1, c1, rfl⟩ := Kd.R_slice hR1; clear hR1 hb1 hd1)
    | (go_at_call 99; (with_reducible refine (hw_indicesD b _).mono ?_); rintro e w2 ⟨v2, rfl, hR2, hb2, hd2⟩; have HR2 := Aside0.mk hR2; have HB2 := Aside0.mk hb2; have HD2 := Aside0.mk hd2; obtain ⟨A2, c2, rfl⟩ := Kd.R_slice hR2; clear hR2 hb2 hd2)
    | (go_at_call 102; (with_reducible refine (slices_Compare_int_int.calls 1001 A1 c1 (hwIdx8 a) A2 c2 (hwIdx8 b) _ _ ?s1 ?s2 ?s3 ?s4 HC.out).mono ?_); (case s1 => exact (Kd.R_reads' (Kd.R_below HR1.out HB2.out)).2.2); (case s2 => exact (Kd.R_reads' (Kd.R_below HR1.out HB2.out)).2.1); (case s3 => exact (Kd.R_reads' HR2.out).2.2); (case s4 => exact (Kd.R_reads' HR2.out).2.1); rintro e w3 ⟨rfl, nd, rfl⟩))
  go_ret
  refine ⟨rfl, hw_grow_of (pw_below_drewN (below_step HB1.out HB2.out) nd) (Nat.le_trans HD1.out (Nat.le_trans HD2.out ?_))⟩
  exact Nat.le_add_right _ _
def hwEnc (x : Fin 256) : Value := .int .i64 (x.val : Int)
def hwVal (x : Fin 256) : Int := (x.val : Int)
/-- May x stand ahead of y? -/
def hwLe (x y : Int) : Bool := !(decide (hwCmp (hwIdx8 y) (hwIdx8 x) < 0))
/-- Sets in the order of their indices. -/
def hwSortSets (xs : List Int) : Option (List Int) := if xs.all (fun x => decide (0 ≤ x ∧ x < 256)) = true then (if xs.length < 4611686018427387904 then some (xs.mergeSort hwLe) else none) else none
theorem hw_asFin : ∀ xs : List Int, (∀ x ∈ xs, 0 ≤ x ∧ x < 256) → ∃ ys : List (Fin 256), xs = ys.map hwVal
  | [], _ => ⟨[], rfl⟩
  | x :: xs, h => by
    obtain ⟨ys, rfl⟩ := hw_asFin xs (fun y hy => h y (List.mem_cons_of_mem _ hy))
    have hx := h x List.mem_cons_self
    exact ⟨⟨x.toNat, by omega⟩ :: ys, by simp only [List.map_cons]; congr 1; unfold hwVal; simp only; omega⟩
theorem hw_putCells (l : List (Fin 256)) (c : Array Value) : Go.Sort.putCells hwEnc 0 l.toArray c = Go.Sort.putCells (Value.int .i64) 0 (l.map hwVal).toArray c := by
  unfold Go.Sort.putCells
  congr 1
  funext k x
  simp only [List.size_toArray, List.length_map]
  by_cases h : 0 ≤ k ∧ k < 0 + l.length
  · rw [if_pos h, if_pos h]
    have hk : k < l.length := by omega
    rw [getElem!_pos _ (k - 0) (by simpa using hk), getElem!_pos _ (k - 0) (by simpa using hk)]
    simp [hwEnc, hwVal]
  · rw [if_neg h, if_neg h]
theorem hw_holdsF {w : World} {g : Nat} {cur : Array Value} {e : TypeId} {ys : List (Fin 256)} (hb : w.heap[g]? = some (.cells cur e (0, 0))) (ht : cur.toList.take ys.length = ys.map hwEnc) : Go.Sort.Holds hwEnc w g 0 ys.toArray := by
  intro j hj
  have hj' : j < ys.length := by simpa using hj
  refine ⟨?_, by simp [World.frozen?, hb]⟩
  have h1 : (cur.toList.take ys.length)[j]? = (ys.map hwEnc)[j]? := by rw [ht]
  rw [List.getElem?_take_of_lt hj'] at h1
  rw [getElem!_pos _ j (by simpa using hj')]
  simp only [List.getElem?_map, List.getElem?_eq_getElem hj', Option.map_some] at h1
  simp only [World.cell?, hb, Nat.zero_add, List.getElem_toArray]
  simpa using h1
set_option maxHeartbeats 1000000 in
theorem hw_sortSets {w0 W : World} {base : Nat} {ad : Addr} {n cap : Nat} {xs : List (List Int)} (HB : Below base w0 W) (hn : base ≤ W.heap.size) (HS : Kd.S (Kd.slice 3 (Kd.int .i64)) 22 W base (fun _ => True) (.slice (some ad) n cap) xs) (i : Int) (h0 : 0 ≤ i) (h1 : i < (n : Int)) {A : Option Addr} {m c : Nat} {y : List Int}
    (hx : W.cell? (ad.add i.toNat) = some (.slice A m c)) (h : hwSortSets (rd_L1 xs i) = some y) :
    Calls Try.prog 100 #[.slice A m c, .func (.func 101) #[] #[]] W fun e w' => e = .returned (.tuple #[]) ∧ Kd.S (Kd.slice 3 (Kd.int .i64)) 22 w' base (fun _ => True) (.slice (some ad) n cap) (xs.set i.toNat y) ∧ Below base w0 w' := by
  obtain ⟨oki, c', hcl, ⟨u, rfl, hR⟩, hcc, hoki, back⟩ := Kd.S_borrow HS [] i h0 h1
  have hu := hcc 0 u rfl
  rw [Nat.add_zero, show (Kd.slice 3 (Kd.int .i64)).sz = 1 from rfl, Nat.mul_one] at hu
  obtain rfl : u = .slice A m c := Option.some.inj (hu.symm.trans hx)
  change Kd.R (Kd.int .i64) 3 W base oki (.slice A m c) (rd_L1 xs i) at hR
  obtain ⟨zs, hzs⟩ : ∃ zs, rd_L1 xs i = zs := ⟨_, rfl⟩
  rw [hzs] at hR h
  unfold hwSortSets at h
  split at h
  · rename_i g1
    split at h
    · rename_i g2
      obtain rfl := Option.some.inj h
      obtain ⟨ys, rfl⟩ := hw_asFin zs (fun x hx => of_decide_eq_true (List.all_eq_true.mp g1 x hx))
      have hown := Kd.own_of_R hR
      have hok := hR.1
      have hlen : (ys.map hwVal).length = ys.length := List.length_map _
      have hsl : ((ys.map hwVal).mergeSort hwLe).length = ys.length := by rw [List.length_mergeSort, hlen]
      have hmap : (ys.mergeSort fun x y => !(Go.Proofs.ltOf hwCf) y x).map hwVal = (ys.map hwVal).mergeSort hwLe := List.map_mergeSort (fun a _ b _ => rfl)
      rcases hown.2 with ⟨hv, hz⟩ | ⟨g, cap', cur, hv, hg, hb, q1, q2, q3, q4⟩
      · obtain ⟨rfl, rfl, rfl⟩ : A = none ∧ m = 0 ∧ c = 0 := by injection hv with a b d; exact ⟨a, b, d⟩
        have hy0 : ys = [] := List.eq_nil_of_length_eq_zero (by omega)
        subst hy0
        refine (Try.slices_SortFunc_none (α := Fin 256) none 0 (.func (.func 101) #[] #[]) W).mono ?_
        rintro e w' ⟨rfl, rfl⟩
        refine ⟨rfl, back (row := none) ⟨rfl, rfl, rfl, Nat.le_refl _, fun _ _ _ => rfl⟩ (fun k e => by cases e) ⟨_, rfl, ?_⟩, HB⟩
        simpa using hR
      · obtain ⟨rfl, rfl, rfl⟩ : A = some ⟨g, 0, none⟩ ∧ m = (ys.map hwVal).length ∧ c = cap' := by injection hv with a b d; exact ⟨a, b, d⟩
        have hH : Go.Sort.Holds hwEnc W g 0 ys.toArray := hw_holdsF hb (by
          rw [Nat.mul_one, hlen] at q4
          rw [q4]
          simp [encs, hwVal, hwEnc])
        have eg : ∀ args w, (callFunc 101 args).run Try.prog w = .ok (.enter 101 args) w := enters_of Try.func101 (by kernel_rfl) rfl
        have hc := Try.slices_SortFunc_total hwEnc (fun _ => rfl) hwCf hwCf_swo 101 #[] g 0 c ys.toArray W eg (fun mm os dk _ x y => by
          have hq := hw_cmpClosure (x.val : Int) (y.val : Int) (Go.Proofs.sortWorld hwEnc W g 0 mm dk os)
          simpa [hwEnc, hwCf] using hq) hH (Array.getElem?_eq_some_iff.1 hb).1 (by rw [List.size_toArray]; omega) hwCf_total
        rw [List.size_toArray, ← hlen] at hc
        refine hc.mono ?_
        rintro e w' ⟨rfl, nn, os, rfl⟩
        have ew : Go.Proofs.sortWorld hwEnc W g 0 nn (ys.toArray.toList.mergeSort fun x y => !(Go.Proofs.ltOf hwCf) y x).toArray os = Go.Sort.grow (Go.Sort.putRow (Value.int .i64) (Go.Sort.ahead W nn) g 0 ((ys.map hwVal).mergeSort hwLe).toArray) os := by
          unfold Go.Proofs.sortWorld Go.Sort.putRow
          rw [← hmap, List.toList_toArray]
          congr 2
          funext c
          exact hw_putCells _ _
        have gr := Go.grownBy_sortedI (w := W) (g := g) (n := nn) (os := os) ((ys.map hwVal).mergeSort hwLe).toArray
        have own2 := Go.ownsRow_sortedI (n := nn) (os := os) (show ((ys.map hwVal).mergeSort hwLe).length = (ys.map hwVal).length by rw [hsl, hlen]) hg hb q1 q2 q3
        rw [ew]
        refine ⟨rfl, back gr (fun k e => by injection e with e; subst e; exact hok _ rfl) ⟨_, rfl, Kd.R_of_own (by rw [hsl, ← hlen]; exact own2) (fun k hk => hok k hk)⟩, HB.grown gr hn (fun k e => by injection e with e; subst e; exact hg)⟩
    · exact absurd h (by simp)
  · exact absurd h (by simp)
mutual
def impl_paying.l0 : Nat → List Int → Int → Int → List (List Int) → Int → Int → Option ((List (List Int)))
  | 0, _, _, _, _, _, _ => none
  | k + 1, x0, x1, x2, x7, x17, x18 => if x18 < x17 then ((impl_indices.f k x18).bind fun t156 => ((impl_sumAt.f k x0 t156).bind fun t159 => (if x2 = 0 then (none) else (if (Int.tmod t159 x2) = 0 then ((impl_within.f (wrap64 ((wrap64 (Int.tdiv t159 x2)) - 1)) 0 (wrap64 (x1 - 1))).bind fun t160 => (if t160 = true then (if 0 ≤ (wrap64 ((wrap64 (Int.tdiv t159 x2)) - 1)) then (if (wrap64 ((wrap64 (Int.tdiv t159 x2)) - 1)) < (x7.length : Int) then (if (rd_L1 x7 (wrap64 ((wrap64 (Int.tdiv t159 x2)) - 1))).length < 17592186044416 then (impl_paying.l0 k x0 x1 x2 (x7.set ((wrap64 ((wrap64 (Int.tdiv t159 x2)) - 1)) : Int).toNat ((rd_L1 x7 (wrap64 ((wrap64 (Int.tdiv t159 x2)) - 1))) ++ [x18])) x17 (wrap64 (x18 + 1))) else (none)) else (none)) else (none)) else (impl_paying.l0 k x0 x1 x2 x7 x17 (wrap64 (x18 + 1))))) else (impl_paying.l0 k x0 x1 x2 x7 x17 (wrap64 (x18 + 1))))))) else (impl_paying.l1 k x7 0)
def impl_paying.l1 : Nat → List (List Int) → Int → Option ((List (List Int)))
  | 0, _, _ => none
  | k + 1, x7, x52 => if x52 < (x7.length : Int) then (if 0 ≤ x52 then ((hwSortSets (rd_L1 x7 x52)).bind fun y => (impl_paying.l1 k (x7.set x52.toNat y) (wrap64 (x52 + 1)))) else (none)) else (some x7)
end
def impl_paying.f (k : Nat) (l0 : List Int) (a1 : Int) (a2 : Int) : Option ((List (List Int))) := if 0 ≤ a1 then (if (a1 : Int).toNat ≤ 11728124029610 then (impl_paying.l0 k l0 a1 a2 (List.replicate (a1 : Int).toNat []) (shl .i64 1 (l0.length : Int)) 0) else (none)) else (none)
theorem impl_paying.mono_l : ∀ k, (∀ y0 y1 y2 y3 y4 y5, LeO (impl_paying.l0 k y0 y1 y2 y3 y4 y5) (impl_paying.l0 (k + 1) y0 y1 y2 y3 y4 y5)) ∧ (∀ y0 y1, LeO (impl_paying.l1 k y0 y1) (impl_paying.l1 (k + 1) y0 y1))
  | 0 => ⟨fun _ _ _ _ _ _ r h => by simp [impl_paying.l0] at h, fun _ _ r h => by simp [impl_paying.l1] at h⟩
  | k + 1 => by
    obtain ⟨ih0, ih1⟩ := impl_paying.mono_l k
    refine ⟨?_, ?_⟩
    · intro y0 y1 y2 y3 y4 y5
      unfold impl_paying.l0
      repeat' first
      | (with_reducible exact ih0 _ _ _ _ _ _)
      | (with_reducible exact ih1 _ _)
      | (with_reducible exact impl_indices.mono _ _)
      | (with_reducible exact impl_sumAt.mono _ _ _)
      | (with_reducible exact LeO.refl _)
      | (with_reducible exact LeO.none _)
      | (with_reducible refine LeO.ite ?_ ?_)
      | (with_reducible refine LeO.bind ?_ (fun _ => ?_))
      | exact ih0 _ _ _ _ _ _
      | exact ih1 _ _
      | exact impl_indices.mono _ _
      | exact impl_sumAt.mono _ _ _
      | exact LeO.none _
      | refine LeO.ite ?_ ?_
      | refine LeO.bind ?_ (fun _ => ?_)
    · intro y0 y1
      unfold impl_paying.l1
      repeat' first
      | (with_reducible exact ih0 _ _ _ _ _ _)
      | (with_reducible exact ih1 _ _)
      | (with_reducible exact impl_indices.mono _ _)
      | (with_reducible exact impl_sumAt.mono _ _ _)
      | (with_reducible exact LeO.refl _)
      | (with_reducible exact LeO.none _)
      | (with_reducible refine LeO.ite ?_ ?_)
      | (with_reducible refine LeO.bind ?_ (fun _ => ?_))
      | exact ih0 _ _ _ _ _ _
      | exact ih1 _ _
      | exact impl_indices.mono _ _
      | exact impl_sumAt.mono _ _ _
      | exact LeO.none _
      | refine LeO.ite ?_ ?_
      | refine LeO.bind ?_ (fun _ => ?_)
theorem impl_paying.mono : ∀ a0 a1 a2 k, LeO (impl_paying.f k a0 a1 a2) (impl_paying.f (k + 1) a0 a1 a2) := by
  intro a0 a1 a2 k
  obtain ⟨ih0, ih1⟩ := impl_paying.mono_l k
  unfold impl_paying.f
  repeat' first
      | (with_reducible exact ih0 _ _ _ _ _ _)
      | (with_reducible exact ih1 _ _)
      | (with_reducible exact impl_indices.mono _ _)
      | (with_reducible exact impl_sumAt.mono _ _ _)
      | (with_reducible exact LeO.refl _)
      | (with_reducible exact LeO.none _)
      | (with_reducible refine LeO.ite ?_ ?_)
      | (with_reducible refine LeO.bind ?_ (fun _ => ?_))
      | exact ih0 _ _ _ _ _ _
      | exact ih1 _ _
      | exact impl_indices.mono _ _
      | exact impl_sumAt.mono _ _ _
      | exact LeO.none _
      | refine LeO.ite ?_ ?_
      | refine LeO.bind ?_ (fun _ => ?_)
set_option maxHeartbeats 8000000 in
set_option maxRecDepth 100000 in
theorem impl_paying.calls (k : Nat) (A0 : Option Addr) (c0 : Nat) (l0 : List Int) (a1 : Int) (a2 : Int) (r : List (List Int)) (w : World) (hr0 : Kd.C (Kd.int .i64) w A0 l0.length l0) (hc0 : l0.length ≤ c0) (h : impl_paying.f k l0 a1 a2 = some r) :
    Calls Try.prog 80 #[.slice A0 l0.length c0, .int .i64 a1, .int .i64 a2] w fun e w' => ∃ v0_ : Value, e = .returned (v0_) ∧ Kd.S (Kd.slice 3 (Kd.int .i64)) 22 w' w.heap.size (fun _ => True) v0_ r ∧ Below w.heap.size w w' := by
  have HR0 := Aside0.mk hr0
  have HC0 := Aside0.mk hc0
  clear hr0 hc0
  have HB := Aside0.mk (Below.refl w.heap.size w)
  have H : (if 0 ≤ a1 then (if (a1 : Int).toNat ≤ 11728124029610 then (impl_paying.l0 k l0 a1 a2 (List.replicate (a1 : Int).toNat []) (shl .i64 1 (l0.length : Int)) 0) else (none)) else (none)) = some r := h
  clear h
  by_cases c4 : 0 ≤ a1
  · rw [if_pos c4] at H
    have c4b0 := eq_true c4
    have c4b1 : decide (0 ≤ a1) = true := decide_eq_true c4
    clear c4
    by_cases c5 : (a1 : Int).toNat ≤ 11728124029610
    · rw [if_pos c5] at H
      have c5b0 := eq_true c5
      have c5b1 : decide ((a1 : Int).toNat ≤ 11728124029610) = true := decide_eq_true c5
      clear c5
      obtain ⟨y153, hy153⟩ : ∃ y_ : List (List Int), y_ = (List.replicate (a1 : Int).toNat []) := ⟨_, rfl⟩
      replace H : (impl_paying.l0 k l0 a1 a2 y153 (shl .i64 1 (l0.length : Int)) 0) = some r := by first | (rw [hy153]; with_reducible exact H) | (have H2_ := (Option.bind_some _ _).symm.trans H; rw [hy153]; with_reducible exact H2_) | (have H2_ := (Option.bind_some _ _).symm.trans H; with_reducible exact H2_) | with_reducible exact H | (rw [hy153]; exact H) | exact H
      have Ny153 := Aside0.mk hy153
      clear hy153
      obtain ⟨ji6, hji6⟩ : ∃ j_ : Int, (shl .i64 1 (l0.length : Int)) = j_ := ⟨_, rfl⟩
      replace H : (impl_paying.l0 k l0 a1 a2 y153 ji6 0) = some r := by first | (rw [hji6] at H; exact H) | (simp only [hji6] at H ⊢; exact H)
      have hji6_ : (IntKind.i64.wrap (1 * 2 ^ min (l0.length : Int).toNat 64)) = ji6 := hji6
      have hji6z : (l0.length : Int) ≤ 64 → (IntKind.i64.wrap (1 * 2 ^ (l0.length : Int).toNat)) = ji6 := shl_small hji6
      have hji6p : (IntKind.i64.wrap (1 * 2 ^ min l0.length 64)) = ji6 := hji6_
      have hji6q : (l0.length : Int) ≤ 64 → (IntKind.i64.wrap (1 * 2 ^ l0.length)) = ji6 := hji6z
      have hji6r : (IntKind.i64.wrap (2 ^ min l0.length 64)) = ji6 := by have h_ := hji6p; rw [Int.one_mul] at h_; exact h_
      have hji6s : (l0.length : Int) ≤ 64 → (IntKind.i64.wrap (2 ^ l0.length)) = ji6 := fun hle_ => by have h_ := hji6q hle_; rw [Int.one_mul] at h_; exact h_
      have hji6u : (IntKind.i64.wrap (2 ^ min (l0.length : Int).toNat 64)) = ji6 := by have h_ := hji6_; rw [Int.one_mul] at h_; exact h_
      have hji6v : (l0.length : Int) ≤ 64 → (IntKind.i64.wrap (2 ^ (l0.length : Int).toNat)) = ji6 := fun hle_ => by have h_ := hji6z hle_; rw [Int.one_mul] at h_; exact h_
      have hji6y : (wrap64 (1 * 2 ^ min (l0.length : Int).toNat 64)) = ji6 := (i64_w _).symm.trans hji6_
      have hji6x : (l0.length : Int) ≤ 64 → (wrap64 (1 * 2 ^ (l0.length : Int).toNat)) = ji6 := fun h_ => (i64_w _).symm.trans (hji6z h_)
      have H' := Aside0.mk H
      clear H
      go_enter Try.func80, Try.ntmps80
      go_wp2_with (first | ((with_reducible refine gate_dst (N := 14) rfl ?_); refine Kd.S_make (Kd.slice 3 (Kd.int .i64)) _ 22 rfl (N := 14) rfl 23 _ _ rfl a1 rfl rfl Try.underlying23 (.slice none 0 0) 24 info22 rfl (by decide) (by omega) [] (ok := fun _ => True) (okp := fun _ => True) ⟨_, rfl, Kd.R_nil _ _ _ _ _⟩ (fun _ hk => hk) trivial (of_decide_eq_true (by first | (with_reducible assumption) | assumption)) (Nat.le_trans (Nat.mul_le_mul_right _ (of_decide_eq_true (by first | (with_reducible assumption) | assumption) : a1.toNat ≤ 11728124029610)) (by omega)) (Below.refl _ _) (Nat.le_refl _) ?_; intro v154 w7 ho8 hb hg_ hnew_; clear hg_ hnew_; (first | rw [← Ny153.out] at ho8 | (simp only [Int.reduceToNat] at ho8; rw [← Ny153.out] at ho8)); have n0_ := Aside0.mk (Kd.S_lower ho8 (below_size (by repeat (first | (with_reducible first | exact HB.out | apply below_alloc | apply pw_below_drewN | apply below_drew1) | exact HB.out)))); have n1_ := Aside0.mk (below_step (by repeat (first | (with_reducible first | exact HB.out | apply below_alloc | apply pw_below_drewN | apply below_drew1) | exact HB.out)) hb); clear HB; have HO155 := n0_; have HB := n1_; clear n0_ n1_; clear hb ho8))
      go_loopg [18] k (fun kq v18 w' => ∃ (x7_1 : List (List Int)) (x18_1 : Int), v18 = .int .i64 x18_1 ∧ Aside0 (impl_paying.l0 kq l0 a1 a2 x7_1 ji6 x18_1 = some r) ∧ Aside0 (kq ≤ k) ∧ Aside0 (Kd.S (Kd.slice 3 (Kd.int .i64)) 22 w' w.heap.size (fun _ => True) v154 x7_1) ∧ Aside0 (Below w.heap.size w w'))
      case atStart => exact ⟨(y153), (0), (by first | rfl | (simp; done) | (simp [*]; done)), H', ⟨Nat.le_refl _⟩, ⟨by (with_reducible repeat (first | apply Kd.S_alloc | apply Kd.S_drewN | apply Kd.S_drew)); exact HO155.out⟩, ⟨by repeat (first | (with_reducible first | exact HB.out | apply below_alloc | apply pw_below_drewN | apply below_drew1) | exact HB.out)⟩⟩
      case round =>
        clear H'
        try clear c2
        try clear p2
        try clear c4
        try clear c4b0
        try clear c4b1
        try clear c5
        try clear c5b0
        try clear c5b1
        try clear p6
        obtain ⟨x7_1, x18_1, rfl, HA, HK1, HO_7, HB⟩ := hrel
        cases gk with
        | zero => exact absurd HA.out (by simp [impl_paying.l0])
        | succ k1 =>
          have H := HA.out
          clear HA
          simp only [impl_paying.l0] at H
          by_cases c9 : x18_1 < ji6
          · rw [if_pos c9] at H
            have c9b0 : decide (x18_1 < ji6) = true := decide_eq_true c9
            clear c9
            replace H := Option.bind_eq_some_iff.mp H
            obtain ⟨t156, A100, H⟩ := H
            replace H : ((impl_sumAt.f k1 l0 t156).bind fun t159 => (if a2 = 0 then (none) else (if (Int.tmod t159 a2) = 0 then ((impl_within.f (wrap64 ((wrap64 (Int.tdiv t159 a2)) - 1)) 0 (wrap64 (a1 - 1))).bind fun t160 => (if t160 = true then (if 0 ≤ (wrap64 ((wrap64 (Int.tdiv t159 a2)) - 1)) then (if (wrap64 ((wrap64 (Int.tdiv t159 a2)) - 1)) < (x7_1.length : Int) then (if (rd_L1 x7_1 (wrap64 ((wrap64 (Int.tdiv t159 a2)) - 1))).length < 17592186044416 then (impl_paying.l0 k1 l0 a1 a2 (x7_1.set ((wrap64 ((wrap64 (Int.tdiv t159 a2)) - 1)) : Int).toNat ((rd_L1 x7_1 (wrap64 ((wrap64 (Int.tdiv t159 a2)) - 1))) ++ [x18_1])) ji6 (wrap64 (x18_1 + 1))) else (none)) else (none)) else (none)) else (impl_paying.l0 k1 l0 a1 a2 x7_1 ji6 (wrap64 (x18_1 + 1))))) else (impl_paying.l0 k1 l0 a1 a2 x7_1 ji6 (wrap64 (x18_1 + 1)))))) = some r := H
            have A10 := Aside0.mk A100
            clear A100
            replace H := Option.bind_eq_some_iff.mp H
            obtain ⟨t159, A110, H⟩ := H
            replace H : (if a2 = 0 then (none) else (if (Int.tmod t159 a2) = 0 then ((impl_within.f (wrap64 ((wrap64 (Int.tdiv t159 a2)) - 1)) 0 (wrap64 (a1 - 1))).bind fun t160 => (if t160 = true then (if 0 ≤ (wrap64 ((wrap64 (Int.tdiv t159 a2)) - 1)) then (if (wrap64 ((wrap64 (Int.tdiv t159 a2)) - 1)) < (x7_1.length : Int) then (if (rd_L1 x7_1 (wrap64 ((wrap64 (Int.tdiv t159 a2)) - 1))).length < 17592186044416 then (impl_paying.l0 k1 l0 a1 a2 (x7_1.set ((wrap64 ((wrap64 (Int.tdiv t159 a2)) - 1)) : Int).toNat ((rd_L1 x7_1 (wrap64 ((wrap64 (Int.tdiv t159 a2)) - 1))) ++ [x18_1])) ji6 (wrap64 (x18_1 + 1))) else (none)) else (none)) else (none)) else (impl_paying.l0 k1 l0 a1 a2 x7_1 ji6 (wrap64 (x18_1 + 1))))) else (impl_paying.l0 k1 l0 a1 a2 x7_1 ji6 (wrap64 (x18_1 + 1))))) = some r := H
            have A11 := Aside0.mk A110
            clear A110
            by_cases c12 : a2 = 0
            · rw [if_pos c12] at H
              exact absurd H (by simp)
            · rw [if_neg c12] at H
              have c12b0 : (a2 == 0) = false := beq_eq_false_iff_ne.mpr c12
              have c12b1 : (a2 != 0) = true := bne_iff_ne.mpr c12
              by_cases c13 : (Int.tmod t159 a2) = 0
              · rw [if_pos c13] at H
                have c13b0 : ((Int.tmod t159 a2) == 0) = true := beq_iff_eq.mpr c13
                have c13b1 : ((Int.tmod t159 a2) != 0) = false := bne_eq_false_iff_eq.mpr c13
                clear c13
                replace H := Option.bind_eq_some_iff.mp H
                obtain ⟨t160, A140, H⟩ := H
                replace H : (if t160 = true then (if 0 ≤ (wrap64 ((wrap64 (Int.tdiv t159 a2)) - 1)) then (if (wrap64 ((wrap64 (Int.tdiv t159 a2)) - 1)) < (x7_1.length : Int) then (if (rd_L1 x7_1 (wrap64 ((wrap64 (Int.tdiv t159 a2)) - 1))).length < 17592186044416 then (impl_paying.l0 k1 l0 a1 a2 (x7_1.set ((wrap64 ((wrap64 (Int.tdiv t159 a2)) - 1)) : Int).toNat ((rd_L1 x7_1 (wrap64 ((wrap64 (Int.tdiv t159 a2)) - 1))) ++ [x18_1])) ji6 (wrap64 (x18_1 + 1))) else (none)) else (none)) else (none)) else (impl_paying.l0 k1 l0 a1 a2 x7_1 ji6 (wrap64 (x18_1 + 1)))) = some r := H
                have A14 := Aside0.mk A140
                clear A140
                by_cases c15 : t160 = true
                · subst c15
                  have H1 : (if 0 ≤ (wrap64 ((wrap64 (Int.tdiv t159 a2)) - 1)) then (if (wrap64 ((wrap64 (Int.tdiv t159 a2)) - 1)) < (x7_1.length : Int) then (if (rd_L1 x7_1 (wrap64 ((wrap64 (Int.tdiv t159 a2)) - 1))).length < 17592186044416 then (impl_paying.l0 k1 l0 a1 a2 (x7_1.set ((wrap64 ((wrap64 (Int.tdiv t159 a2)) - 1)) : Int).toNat ((rd_L1 x7_1 (wrap64 ((wrap64 (Int.tdiv t159 a2)) - 1))) ++ [x18_1])) ji6 (wrap64 (x18_1 + 1))) else (none)) else (none)) else (none)) = some r := by rw [if_pos rfl] at H; exact H
                  clear H
                  have H := H1
                  clear H1
                  obtain ⟨ji16, hji16⟩ : ∃ j_ : Int, (wrap64 ((wrap64 (Int.tdiv t159 a2)) - 1)) = j_ := ⟨_, rfl⟩
                  replace H : (if 0 ≤ (ji16) then (if (ji16) < (x7_1.length : Int) then (if (rd_L1 x7_1 (ji16)).length < 17592186044416 then (impl_paying.l0 k1 l0 a1 a2 (x7_1.set ((ji16) : Int).toNat ((rd_L1 x7_1 (ji16)) ++ [x18_1])) ji6 (wrap64 (x18_1 + 1))) else (none)) else (none)) else (none)) = some r := by first | (rw [hji16] at H; exact H) | (simp only [hji16] at H ⊢; exact H)
                  (try rw [hji16] at A10)
                  (try rw [hji16] at A11)
                  (try rw [hji16] at A14)
                  have hji16w : (IntKind.i64.wrap ((wrap64 (Int.tdiv t159 a2)) - 1)) = ji16 := (i64_w _).trans hji16
                  by_cases c17 : 0 ≤ (ji16)
                  · rw [if_pos c17] at H
                    have c17b0 : decide (0 ≤ (ji16)) = true := decide_eq_true c17
                    clear c17
                    by_cases c18 : (ji16) < (x7_1.length : Int)
                    · rw [if_pos c18] at H
                      have c18b0 : decide ((ji16) < (x7_1.length : Int)) = true := decide_eq_true c18
                      clear c18
                      by_cases c19 : (rd_L1 x7_1 (ji16)).length < 17592186044416
                      · rw [if_pos c19] at H
                        have LMc19 := Aside0.mk c19
                        clear c19
                        obtain ⟨y162, hy162⟩ : ∃ y_ : List Int, y_ = ((rd_L1 x7_1 (ji16)) ++ [x18_1]) := ⟨_, rfl⟩
                        replace H : (impl_paying.l0 k1 l0 a1 a2 (x7_1.set ((ji16) : Int).toNat y162) ji6 (wrap64 (x18_1 + 1))) = some r := by first | (rw [hy162]; with_reducible exact H) | (have H2_ := (Option.bind_some _ _).symm.trans H; rw [hy162]; with_reducible exact H2_) | (have H2_ := (Option.bind_some _ _).symm.trans H; with_reducible exact H2_) | with_reducible exact H | (rw [hy162]; exact H) | exact H
                        have Ny162 := Aside0.mk hy162
                        clear hy162
                        obtain ⟨y165, hy165⟩ : ∃ y_ : List (List Int), y_ = (x7_1.set ((ji16) : Int).toNat y162) := ⟨_, rfl⟩
                        replace H : (impl_paying.l0 k1 l0 a1 a2 y165 ji6 (wrap64 (x18_1 + 1))) = some r := by first | (rw [hy165]; with_reducible exact H) | (have H2_ := (Option.bind_some _ _).symm.trans H; rw [hy165]; with_reducible exact H2_) | (have H2_ := (Option.bind_some _ _).symm.trans H; with_reducible exact H2_) | with_reducible exact H | (rw [hy165]; exact H) | exact H
                        have Ny165 := Aside0.mk hy165
                        clear hy165
                        have H' := Aside0.mk H
                        clear H
                        go_wp2_with (first | ((with_reducible refine gate_callee (f := 99) rfl ?_); refine goesL_ (some 23) rfl rfl Try.func99 (by kernel_rfl) rfl #[.int .i64 x18_1] rfl (by (try simp only [List.map_toArray, List.map_cons, List.map_nil]); first | done | rfl | (simp only [List.length_drop, List.length_take]; rfl)) ?_; (with_reducible refine (impl_indices.calls k1 x18_1 t156 _ A10.out).mono ?_); rintro e w21 ⟨v157, rfl, ho0, hb⟩; refine ⟨_, rfl, ?_⟩; have n0_ := Aside0.mk (Kd.S_elder' (by (with_reducible repeat (first | apply Kd.S_alloc | apply Kd.S_drewN | apply Kd.S_drew)); exact HO_7.out) (Kd.R_base ho0) hb); have n1_ := Aside0.mk (Kd.R_lower ho0 (below_size (by repeat (first | (with_reducible first | exact HB.out | apply below_alloc | apply pw_below_drewN | apply below_drew1) | exact HB.out)))); have n2_ := Aside0.mk (below_step (by repeat (first | (with_reducible first | exact HB.out | apply below_alloc | apply pw_below_drewN | apply below_drew1) | exact HB.out)) hb); clear HO_7; clear HB; have HO_7 := n0_; have HO158 := n1_; have HB := n2_; clear n0_ n1_ n2_; (try clear hb); (try clear hb2); (try clear hk); (try clear hi); (try clear ho0); obtain ⟨Ao22, co22, eo22⟩ := Kd.R_slice HO158.out; subst eo22) | ((with_reducible refine gate_callee (f := 63) rfl ?_); refine goesL_ (some 24) rfl rfl Try.func63 (by kernel_rfl) rfl #[.slice A0 l0.length c0, .slice Ao22 t156.length co22] rfl (by (try simp only [List.map_toArray, List.map_cons, List.map_nil]); first | done | rfl | (simp only [List.length_drop, List.length_take]; rfl)) ?_; (with_reducible refine (impl_sumAt.calls k1 _ _ l0 _ _ t156 t159 _ ?side1 ?side2 ?side3 ?side4 A11.out).mono ?_); (case side1 => repeat (first | exact (Kd.C_below HR0.out HB.out) | (with_reducible refine Kd.C_alloc ?_ _) | (with_reducible refine Kd.C_drewN ?_ _) | (with_reducible refine Kd.C_drew ?_))); (case side2 => exact HC0.out); (case side3 => repeat (first | exact (Kd.R_reads' HO158.out).2.2 | (with_reducible refine Kd.C_alloc ?_ _) | (with_reducible refine Kd.C_drewN ?_ _) | (with_reducible refine Kd.C_drew ?_))); (case side4 => exact (Kd.R_reads' HO158.out).2.1); rintro e w' ⟨rfl, ⟨nd, rfl⟩⟩; refine ⟨_, rfl, ?_⟩; (try (rw [drewN_self w21]; generalize hq_ : World.drewN w21 _ = w21; have n0_ : Aside0 (Kd.R (Kd.int .i64) 3 w21 w.heap.size (fun _ => True) (.slice Ao22 t156.length co22) t156) := ⟨by rw [← hq_]; exact (by (with_reducible repeat (first | apply Kd.R_alloc | apply Kd.R_drewN | apply Kd.R_drew)); exact HO158.out)⟩; have n1_ : Aside0 (Kd.S (Kd.slice 3 (Kd.int .i64)) 22 w21 w.heap.size (fun k_ => some k_ ≠ (.slice Ao22 t156.length co22 : Value).ownBlock) v154 x7_1) := ⟨by rw [← hq_]; exact (by (with_reducible repeat (first | apply Kd.S_alloc | apply Kd.S_drewN | apply Kd.S_drew)); exact Kd.S_mono HO_7.out (fun _ hk => by first | exact hk.2 | exact hk))⟩; have n2_ : Aside0 (Below w.heap.size w w21) := ⟨by rw [← hq_]; exact (by repeat (first | (with_reducible first | exact HB.out | apply below_alloc | apply pw_below_drewN | apply below_drew1) | exact HB.out))⟩; clear HO158 HO_7 HB hq_; have HO158 := n0_; have HO_7 := n1_; have HB := n2_; clear n0_ n1_ n2_))) | (go_at_call 76; (with_reducible refine (impl_within.calls ji16 0 (wrap64 (a1 - 1)) true _ A14.out).mono ?_); rintro e w' ⟨rfl, ⟨nd, rfl⟩⟩; (try (rw [drewN_self w21]; generalize hq_ : World.drewN w21 _ = w21; have n0_ : Aside0 (Kd.R (Kd.int .i64) 3 w21 w.heap.size (fun _ => True) (.slice Ao22 t156.length co22) t156) := ⟨by rw [← hq_]; exact (by (with_reducible repeat (first | apply Kd.R_alloc | apply Kd.R_drewN | apply Kd.R_drew)); exact HO158.out)⟩; have n1_ : Aside0 (Kd.S (Kd.slice 3 (Kd.int .i64)) 22 w21 w.heap.size (fun k_ => some k_ ≠ (.slice Ao22 t156.length co22 : Value).ownBlock) v154 x7_1) := ⟨by rw [← hq_]; exact (by (with_reducible repeat (first | apply Kd.S_alloc | apply Kd.S_drewN | apply Kd.S_drew)); exact Kd.S_mono HO_7.out (fun _ hk => by first | exact hk.2 | exact hk))⟩; have n2_ : Aside0 (Below w.heap.size w w21) := ⟨by rw [← hq_]; exact (by repeat (first | (with_reducible first | exact HB.out | apply below_alloc | apply pw_below_drewN | apply below_drew1) | exact HB.out))⟩; clear HO158 HO_7 HB hq_; have HO158 := n0_; have HO_7 := n1_; have HB := n2_; clear n0_ n1_ n2_)); obtain ⟨Ao23, co23, eo23⟩ := Kd.S_slice HO_7.out; subst eo23; have p161 : 0 ≤ ((ji16) : Int) := of_decide_eq_true (by first | (with_reducible assumption) | assumption); have q161 : (ji16) < (x7_1.length : Int) := of_decide_eq_true (by first | (with_reducible assumption) | assumption); obtain ⟨ad161, A161_0, c161_0, e161, hx161_0, hl161_0, hi161_0⟩ := at_L1 (Kd.S_reads' HO_7.out).2.2 (ji16) p161 q161; cases e161; obtain ⟨ce161, hce161, hMe161, hcc161⟩ := Kd.S_get HO_7.out [] (ji16) p161 (by first | exact q161 | exact of_decide_eq_true (by first | (with_reducible assumption) | assumption) | (have e_ := (Kd.S_reads' HO_7.out).1; omega)); obtain ⟨ve161_0, rfl, ge161_0⟩ := hMe161; have hv161_0 := hcc161 0 _ rfl; rw [Nat.add_zero, show ((Kd.slice 3 (Kd.int .i64))).sz = 1 from rfl, Nat.mul_one] at hv161_0; replace hv161_0 := Option.some.inj (hv161_0.symm.trans hx161_0); rw [hv161_0] at ge161_0; have HL161_0 := Aside0.mk (show Kd.R (Kd.int .i64) 3 _ _ _ _ (rd_L1 x7_1 (ji16)) from ge161_0); clear hv161_0 ge161_0; have HX161_0 := Aside0.mk hx161_0; clear hcc161 hce161; have HR161_0 := Aside0.mk hi161_0; have HC161_0 := Aside0.mk hl161_0; clear hi161_0 hl161_0; replace p161 := eq_true p161; replace q161 := eq_true q161; have n_ := Aside0.mk (Kd.S_mono (ok' := (fun k_ => some k_ ≠ (.slice Ao22 t156.length co22 : Value).ownBlock)) HO_7.out (fun k_ hk => by first | exact hk.2 | exact hk)); clear HO_7; have HO_7 := n_; clear n_; obtain ⟨go24, co24, eo24, gb24, gl24, cl24, HG24⟩ := Kd.S_form HO_7.out (by have h_ : ((ji16) : Int) < ((x7_1.length : Int) : Int) := of_decide_eq_true (by first | (with_reducible assumption) | assumption); have h2_ : 0 ≤ ((ji16) : Int) := (of_decide_eq_true (by first | (with_reducible assumption) | assumption)); omega); (first | cases eo24 | (injection eo24 with ea_ en_ ec_; (first | subst ea_ | (injection ea_ with ea_; subst ea_)); subst ec_; clear en_)); have GB24 := Aside0.mk gb24; have GG24 := Aside0.mk HG24; clear gb24 gl24 HG24; (first | simp only [add_plain] at hx161_0 | skip); obtain ⟨oki24, ce24, hcl24, hM24, hcc24, _, _, hH24⟩ := Kd.S_elem HO_7.out [] ((ji16) : Int) (of_decide_eq_true (by first | (with_reducible assumption) | assumption)) (by have h_ : ((ji16) : Int) < ((x7_1.length : Int) : Int) := of_decide_eq_true (by first | (with_reducible assumption) | assumption); first | exact h_ | (have e_ := (Kd.S_reads' HO_7.out).1; omega) | simpa using h_); obtain ⟨ve24_0, rfl, ge24_0⟩ := hM24; have hv24 := hcc24 0 _ rfl; have hX24 := HX161_0.out; (try simp only [add_plain] at hX24); (try simp only [Nat.add_zero] at hv24); (try rw [show ((Kd.slice 3 (Kd.int .i64))).sz = 1 from rfl, Nat.mul_one] at hv24); replace hv24 := Option.some.inj (hv24.symm.trans hX24); subst hv24; clear hX24 hcc24 hcl24; have UU24 := Aside0.mk (show Kd.R (Kd.int .i64) 3 _ w.heap.size oki24 (.slice A161_0 (rd_L1 x7_1 (ji16)).length c161_0) (rd_L1 x7_1 (ji16)) from ge24_0); have HH24 := Aside0.mk hH24; have HN24 := Aside0.mk (Kd.S_reads' HO_7.out).1; clear hH24 ge24_0) | ((with_reducible refine gate_builtin (b := .append) (xs := #[.tmp 44, .tmp 46]) rfl ?_); at_builtin; refine Kd.R_append (Kd.int .i64) (w0 := w) w.heap.size rfl (.tmp 44) (.tmp 46) 22 3 (.int .i64 0) 8 rfl Try.underlying22 info3 rfl (by decide) (by omega) (.slice A161_0 (rd_L1 x7_1 (ji16)).length c161_0) (rd_L1 x7_1 (ji16)) x18_1 [.int .i64 x18_1] (fun k_ => oki24 k_ ∨ ((fun k_ => some k_ ≠ (.slice Ao22 t156.length co22 : Value).ownBlock)) k_ ∧ w21.heap.size ≤ k_) (fun _ => False) rfl rfl ?aP (fun _ hk => hk.elim) ?aF ?aO ?aB ?aS ?aL ?_; (case aP => exact rfl); (case aB => exact (by repeat (first | (with_reducible first | exact HB.out | apply below_alloc | apply pw_below_drewN | apply below_drew1) | exact HB.out))); (case aF => exact (fun k_ hk => .inr ⟨Kd.fresh' (Kd.R_lt (by (with_reducible repeat (first | apply Kd.R_alloc | apply Kd.R_drewN | apply Kd.R_drew)); exact HO158.out)) k_ hk, hk⟩)); (case aO => exact (by (with_reducible repeat (first | apply Kd.R_alloc | apply Kd.R_drewN | apply Kd.R_drew)); exact Kd.R_mono UU24.out (fun _ hk => .inl hk))); (case aS => exact (below_size (by repeat (first | (with_reducible first | exact HB.out | apply below_alloc | apply pw_below_drewN | apply below_drew1) | exact HB.out)))); (case aL => have := LMc19.out; omega); intro v163 w25 ho hb hg hat; rw [← Ny162.out] at ho; have n0_ := Aside0.mk (Kd.R_grown2 (by (with_reducible repeat (first | apply Kd.R_alloc | apply Kd.R_drewN | apply Kd.R_drew)); exact HO158.out) rfl hg (fun k_ e_ => by first | exact (HL161_0.out.1 k_ e_).1.2 | exact (HL161_0.out.1 k_ e_).1)); have n1_ := Aside0.mk (hb); have n2_ := Aside0.mk (Kd.H_grown (Kd.H_widen (by repeat (first | exact HH24.out | refine Kd.H_alloc ?_ _ | refine Kd.H_drewN ?_ _ | refine Kd.H_drew ?_))) hg (fun k_ e_ => .inl (UU24.out.1 k_ e_))); have n3_ := Aside0.mk (ho); clear HO158; clear HB; clear HH24; clear HO_7; clear UU24; clear HL161_0; have HO158 := n0_; have HB := n1_; have HH24 := n2_; have HO164 := n3_; clear n0_ n1_ n2_ n3_; clear ho hb hg hat; have p20 : 0 ≤ ((ji16) : Int) := of_decide_eq_true (by first | (with_reducible assumption) | assumption); have q20 : ((ji16) : Int) < ((x7_1.length : Int) : Int) := of_decide_eq_true (by first | (with_reducible assumption) | assumption); replace p20 := eq_true p20; replace q20 := eq_true q20; obtain ⟨Ao28, co28, eo28⟩ := Kd.R_slice HO164.out; subst eo28; obtain ⟨_, _, hraw26, _, _, hcc26, _⟩ := Kd.H_raw HH24.out (of_decide_eq_true (by first | (with_reducible assumption) | assumption)) (by have h_ : ((ji16) : Int) < ((x7_1.length : Int) : Int) := of_decide_eq_true (by first | (with_reducible assumption) | assumption); first | exact h_ | (have e_ := (HN24.out); omega) | simpa using h_); obtain ⟨_, hfr26⟩ := Kd.H_at HH24.out (of_decide_eq_true (by first | (with_reducible assumption) | assumption)) (by have h_ : ((ji16) : Int) < ((x7_1.length : Int) : Int) := of_decide_eq_true (by first | (with_reducible assumption) | assumption); first | exact h_ | (have e_ := (HN24.out); omega) | simpa using h_); have hx26_0 := hcc26 0 _ rfl; have hf26_0 := hfr26 0; (try simp only [Nat.add_zero] at hx26_0 hf26_0); (try rw [show ((Kd.slice 3 (Kd.int .i64))).sz = 1 from rfl, Nat.mul_one] at hx26_0); (try rw [show ((Kd.slice 3 (Kd.int .i64))).sz = 1 from rfl, Nat.mul_one] at hf26_0); have HP26 := Kd.S_seg0 HH24.out (of_decide_eq_true (by first | (with_reducible assumption) | assumption)) (by have h_ : ((ji16) : Int) < ((x7_1.length : Int) : Int) := of_decide_eq_true (by first | (with_reducible assumption) | assumption); first | exact h_ | (have e_ := (HN24.out); omega) | simpa using h_) (seg := [.slice Ao28 y162.length co28]) (j := 0) (show 1 ≤ 1 from by decide) (x' := y162) (Kd.M_row HO164.out) (fun _ hk => hk); (try simp only [show ((Kd.slice 3 (Kd.int .i64))).sz = 1 from rfl, Nat.mul_one, Nat.add_zero] at HP26); clear hcc26 hfr26) | ((with_reducible refine gate_store (t := 22) (p := 48) rfl ?_); refine store_event (t := 22) (p := 48) (v := ?vo_w27) (w1 := (w25.setCell ⟨go24, ((ji16) : Int).toNat, none⟩ (.slice Ao28 y162.length co28))) ?hg ?ho ?hn ?hr ?_; (case ho => rfl); (case hg => rfl); (case hn => rfl); (case hr => first | (go_simp; done) | (go_simp; rfl)); intro w27 hw; have hg : w25.grownBy w27 (some go24) := (by rw [hw]; exact HP26.2); have hp_ : Kd.S (Kd.slice 3 (Kd.int .i64)) 22 w27 w.heap.size (fun k_ => some k_ ≠ (.slice Ao22 t156.length co22 : Value).ownBlock) (.slice (some ⟨go24, 0, none⟩) x7_1.length co23) y165 := (by rw [hw, Ny165.out]; exact HP26.1); clear HP26; have n0_ := Aside0.mk (Kd.R_over' (v := (.slice (some ⟨go24, 0, none⟩) x7_1.length co23)) (by (with_reducible repeat (first | apply Kd.R_alloc | apply Kd.R_drewN | apply Kd.R_drew)); exact HO158.out) (Kd.R_typed hraw26) (by decide) hg); have n1_ := Aside0.mk ((by rw [hw]; exact below_set HB.out GB24.out : Below w.heap.size w w27)); have n2_ := Aside0.mk (hp_); clear HO158; clear HB; clear HO164; clear HH24; have HO158 := n0_; have HB := n1_; have HO_7 := n2_; clear n0_ n1_ n2_; clear hg hw hp_ hraw26))
                        go_roundg k1
                        case measure => have := HK1.out; omega
                        case rel => exact ⟨(y165), (wrap64 (x18_1 + 1)), (by first | rfl | (simp; done) | (simp [*]; done)), H', ⟨by have := HK1.out; omega⟩, ⟨by (with_reducible repeat (first | apply Kd.S_alloc | apply Kd.S_drewN | apply Kd.S_drew)); exact Kd.S_mono HO_7.out (fun _ hk => trivial)⟩, ⟨by repeat (first | (with_reducible first | exact HB.out | apply below_alloc | apply pw_below_drewN | apply below_drew1) | exact HB.out)⟩⟩
                      · rw [if_neg c19] at H
                        exact absurd H (by simp)
                    · rw [if_neg c18] at H
                      exact absurd H (by simp)
                  · rw [if_neg c17] at H
                    exact absurd H (by simp)
                · replace c15 := Bool.eq_false_iff.mpr c15
                  subst c15
                  have H1 : (impl_paying.l0 k1 l0 a1 a2 x7_1 ji6 (wrap64 (x18_1 + 1))) = some r := by rw [if_neg (show ¬ (false = true) by decide)] at H; exact H
                  clear H
                  have H := H1
                  clear H1
                  have H' := Aside0.mk H
                  clear H
                  go_wp2_with (first | ((with_reducible refine gate_callee (f := 99) rfl ?_); refine goesL_ (some 23) rfl rfl Try.func99 (by kernel_rfl) rfl #[.int .i64 x18_1] rfl (by (try simp only [List.map_toArray, List.map_cons, List.map_nil]); first | done | rfl | (simp only [List.length_drop, List.length_take]; rfl)) ?_; (with_reducible refine (impl_indices.calls k1 x18_1 t156 _ A10.out).mono ?_); rintro e w29 ⟨v157, rfl, ho0, hb⟩; refine ⟨_, rfl, ?_⟩; have n0_ := Aside0.mk (Kd.S_elder' (by (with_reducible repeat (first | apply Kd.S_alloc | apply Kd.S_drewN | apply Kd.S_drew)); exact HO_7.out) (Kd.R_base ho0) hb); have n1_ := Aside0.mk (Kd.R_lower ho0 (below_size (by repeat (first | (with_reducible first | exact HB.out | apply below_alloc | apply pw_below_drewN | apply below_drew1) | exact HB.out)))); have n2_ := Aside0.mk (below_step (by repeat (first | (with_reducible first | exact HB.out | apply below_alloc | apply pw_below_drewN | apply below_drew1) | exact HB.out)) hb); clear HO_7; clear HB; have HO_7 := n0_; have HO158 := n1_; have HB := n2_; clear n0_ n1_ n2_; (try clear hb); (try clear hb2); (try clear hk); (try clear hi); (try clear ho0); obtain ⟨Ao30, co30, eo30⟩ := Kd.R_slice HO158.out; subst eo30) | ((with_reducible refine gate_callee (f := 63) rfl ?_); refine goesL_ (some 24) rfl rfl Try.func63 (by kernel_rfl) rfl #[.slice A0 l0.length c0, .slice Ao30 t156.length co30] rfl (by (try simp only [List.map_toArray, List.map_cons, List.map_nil]); first | done | rfl | (simp only [List.length_drop, List.length_take]; rfl)) ?_; (with_reducible refine (impl_sumAt.calls k1 _ _ l0 _ _ t156 t159 _ ?side1 ?side2 ?side3 ?side4 A11.out).mono ?_); (case side1 => repeat (first | exact (Kd.C_below HR0.out HB.out) | (with_reducible refine Kd.C_alloc ?_ _) | (with_reducible refine Kd.C_drewN ?_ _) | (with_reducible refine Kd.C_drew ?_))); (case side2 => exact HC0.out); (case side3 => repeat (first | exact (Kd.R_reads' HO158.out).2.2 | (with_reducible refine Kd.C_alloc ?_ _) | (with_reducible refine Kd.C_drewN ?_ _) | (with_reducible refine Kd.C_drew ?_))); (case side4 => exact (Kd.R_reads' HO158.out).2.1); rintro e w' ⟨rfl, ⟨nd, rfl⟩⟩; refine ⟨_, rfl, ?_⟩) | (go_at_call 76; (with_reducible refine (impl_within.calls (wrap64 ((wrap64 (Int.tdiv t159 a2)) - 1)) 0 (wrap64 (a1 - 1)) false _ A14.out).mono ?_); rintro e w' ⟨rfl, ⟨nd, rfl⟩⟩))
                  go_roundg k1
                  case measure => have := HK1.out; omega
                  case rel => exact ⟨(x7_1), (wrap64 (x18_1 + 1)), (by first | rfl | (simp; done) | (simp [*]; done)), H', ⟨by have := HK1.out; omega⟩, ⟨by (with_reducible repeat (first | apply Kd.S_alloc | apply Kd.S_drewN | apply Kd.S_drew)); exact Kd.S_mono HO_7.out (fun _ hk => trivial)⟩, ⟨by repeat (first | (with_reducible first | exact HB.out | apply below_alloc | apply pw_below_drewN | apply below_drew1) | exact HB.out)⟩⟩
              · rw [if_neg c13] at H
                have c13b0 : ((Int.tmod t159 a2) == 0) = false := beq_eq_false_iff_ne.mpr c13
                have c13b1 : ((Int.tmod t159 a2) != 0) = true := bne_iff_ne.mpr c13
                have H' := Aside0.mk H
                clear H
                go_wp2_with (first | ((with_reducible refine gate_callee (f := 99) rfl ?_); refine goesL_ (some 23) rfl rfl Try.func99 (by kernel_rfl) rfl #[.int .i64 x18_1] rfl (by (try simp only [List.map_toArray, List.map_cons, List.map_nil]); first | done | rfl | (simp only [List.length_drop, List.length_take]; rfl)) ?_; (with_reducible refine (impl_indices.calls k1 x18_1 t156 _ A10.out).mono ?_); rintro e w31 ⟨v157, rfl, ho0, hb⟩; refine ⟨_, rfl, ?_⟩; have n0_ := Aside0.mk (Kd.S_elder' (by (with_reducible repeat (first | apply Kd.S_alloc | apply Kd.S_drewN | apply Kd.S_drew)); exact HO_7.out) (Kd.R_base ho0) hb); have n1_ := Aside0.mk (Kd.R_lower ho0 (below_size (by repeat (first | (with_reducible first | exact HB.out | apply below_alloc | apply pw_below_drewN | apply below_drew1) | exact HB.out)))); have n2_ := Aside0.mk (below_step (by repeat (first | (with_reducible first | exact HB.out | apply below_alloc | apply pw_below_drewN | apply below_drew1) | exact HB.out)) hb); clear HO_7; clear HB; have HO_7 := n0_; have HO158 := n1_; have HB := n2_; clear n0_ n1_ n2_; (try clear hb); (try clear hb2); (try clear hk); (try clear hi); (try clear ho0); obtain ⟨Ao32, co32, eo32⟩ := Kd.R_slice HO158.out; subst eo32) | ((with_reducible refine gate_callee (f := 63) rfl ?_); refine goesL_ (some 24) rfl rfl Try.func63 (by kernel_rfl) rfl #[.slice A0 l0.length c0, .slice Ao32 t156.length co32] rfl (by (try simp only [List.map_toArray, List.map_cons, List.map_nil]); first | done | rfl | (simp only [List.length_drop, List.length_take]; rfl)) ?_; (with_reducible refine (impl_sumAt.calls k1 _ _ l0 _ _ t156 t159 _ ?side1 ?side2 ?side3 ?side4 A11.out).mono ?_); (case side1 => repeat (first | exact (Kd.C_below HR0.out HB.out) | (with_reducible refine Kd.C_alloc ?_ _) | (with_reducible refine Kd.C_drewN ?_ _) | (with_reducible refine Kd.C_drew ?_))); (case side2 => exact HC0.out); (case side3 => repeat (first | exact (Kd.R_reads' HO158.out).2.2 | (with_reducible refine Kd.C_alloc ?_ _) | (with_reducible refine Kd.C_drewN ?_ _) | (with_reducible refine Kd.C_drew ?_))); (case side4 => exact (Kd.R_reads' HO158.out).2.1); rintro e w' ⟨rfl, ⟨nd, rfl⟩⟩; refine ⟨_, rfl, ?_⟩))
                go_roundg k1
                case measure => have := HK1.out; omega
                case rel => exact ⟨(x7_1), (wrap64 (x18_1 + 1)), (by first | rfl | (simp; done) | (simp [*]; done)), H', ⟨by have := HK1.out; omega⟩, ⟨by (with_reducible repeat (first | apply Kd.S_alloc | apply Kd.S_drewN | apply Kd.S_drew)); exact Kd.S_mono HO_7.out (fun _ hk => trivial)⟩, ⟨by repeat (first | (with_reducible first | exact HB.out | apply below_alloc | apply pw_below_drewN | apply below_drew1) | exact HB.out)⟩⟩
          · rw [if_neg c9] at H
            have c9b0 : decide (x18_1 < ji6) = false := decide_eq_false c9
            clear c9
            have H' := Aside0.mk H
            clear H
            obtain ⟨Ao33, co33, eo33⟩ := Kd.S_slice HO_7.out
            subst eo33
            go_wp2
            go_loopg [52] k1 (fun kq v52 w' => ∃ (x7_2 : List (List Int)) (x52_2 : Int), v52 = .int .i64 x52_2 ∧ Aside0 (x7_2.length = x7_1.length) ∧ Aside0 (impl_paying.l1 kq x7_2 x52_2 = some r) ∧ Aside0 (kq ≤ k1) ∧ Aside0 (Kd.S (Kd.slice 3 (Kd.int .i64)) 22 w' w.heap.size (fun _ => True) (.slice Ao33 x7_1.length co33) x7_2) ∧ Aside0 (Below w.heap.size w w'))
            case atStart => exact ⟨x7_1, (0), (by first | rfl | (simp; done) | (simp [*]; done)), ⟨rfl⟩, H', ⟨Nat.le_refl _⟩, ⟨by (with_reducible repeat (first | apply Kd.S_alloc | apply Kd.S_drewN | apply Kd.S_drew)); exact HO_7.out⟩, ⟨by repeat (first | (with_reducible first | exact HB.out | apply below_alloc | apply pw_below_drewN | apply below_drew1) | exact HB.out)⟩⟩
            case round =>
              clear H' HO_7 HB
              try clear c9b0
              obtain ⟨x7_2, x52_2, rfl, HLn, HA, HK2, HO_7, HB⟩ := hrel
              cases gk with
              | zero => exact absurd HA.out (by simp [impl_paying.l1])
              | succ k2 =>
                have H := HA.out
                clear HA
                simp only [impl_paying.l1] at H
                by_cases c34 : x52_2 < (x7_2.length : Int)
                · rw [if_pos c34] at H
                  have c34b0 : decide (x52_2 < (x7_1.length : Int)) = true := decide_eq_true (by rw [← HLn.out]; exact c34)
                  by_cases c35 : 0 ≤ x52_2
                  · rw [if_pos c35] at H
                    have c35b0 : decide (0 ≤ x52_2) = true := decide_eq_true c35
                    obtain ⟨y37, A370, H⟩ := Option.bind_eq_some_iff.mp H
                    have H' := Aside0.mk H
                    clear H
                    obtain ⟨ad166, A166_0, c166_0, e166, hx166_0, hl166_0, hi166_0⟩ := at_L1 (Kd.S_reads' HO_7.out).2.2 x52_2 c35 c34
                    cases e166
                    have c36 : x52_2 < ((x7_1.length : Nat) : Int) := by rw [← HLn.out]; exact c34
                    have HSt := Aside0.mk (hw_sortSets HB.out HB.out.size HO_7.out x52_2 c35 c36 hx166_0 A370)
                    have HLn2 := Aside0.mk (show (x7_2.set x52_2.toNat y37).length = x7_1.length by rw [List.length_set]; exact HLn.out)
                    clear HO_7 HB hl166_0 hi166_0 A370 c34 HLn
                    have p166 := eq_true c35
                    have q166 := eq_true c36
                    clear c35 c36
                    go_wp2_with (go_at_call 100; refine HSt.out.mono ?_; rintro e w40 ⟨rfl, hS40, hB40⟩; have HO_7 := Aside0.mk hS40; have HB := Aside0.mk hB40; clear hS40 hB40)
                    go_roundg k2
                    case measure => have := HK1.out; have := HK2.out; omega
                    case rel => exact ⟨_, (wrap64 (x52_2 + 1)), (by first | rfl | (simp; done) | (simp [*]; done)), HLn2, H', ⟨by have := HK1.out; have := HK2.out; omega⟩, ⟨by (with_reducible repeat (first | apply Kd.S_alloc | apply Kd.S_drewN | apply Kd.S_drew)); exact HO_7.out⟩, ⟨by repeat (first | (with_reducible first | exact HB.out | apply below_alloc | apply pw_below_drewN | apply below_drew1) | exact HB.out)⟩⟩
                  · rw [if_neg c35] at H
                    exact absurd H (by simp)
                · rw [if_neg c34] at H
                  have c34b0 : decide (x52_2 < (x7_1.length : Int)) = false := decide_eq_false (by rw [← HLn.out]; exact c34)
                  clear c34
                  obtain rfl := Option.some.inj H
                  go_wp2
                  go_ret
                  exact ⟨_, by first | rfl | (simp [errW_none, errW_some] <;> rfl) | (simp only [← hji6]; first | rfl | (simp [errW_none, errW_some] <;> rfl)) | (simp [*, errW_none, errW_some] <;> rfl), by (with_reducible repeat (first | apply Kd.S_alloc | apply Kd.S_drewN | apply Kd.S_drew)); exact HO_7.out, by repeat (first | (with_reducible first | exact HB.out | apply below_alloc | apply pw_below_drewN | apply below_drew1) | exact HB.out)⟩
    · rw [if_neg c5] at H
      exact absurd H (by simp)
  · rw [if_neg c4] at H
    exact absurd H (by simp)


/-! ### bits_OnesCount64: function 142 -/
def bits_OnesCount64.f (a0 : Int) : Option (Int) := some (Go.bits .and .i64 (wrap64 (IntKind.u64.wrap ((IntKind.u64.wrap ((IntKind.u64.wrap ((Go.bits .and .u64 (IntKind.u64.wrap (((IntKind.u64.wrap ((Go.bits .and .u64 ((IntKind.u64.wrap ((Go.bits .and .u64 (a0 / 2) 6148914691236517205) + (Go.bits .and .u64 a0 6148914691236517205))) / 4) 3689348814741910323) + (Go.bits .and .u64 (IntKind.u64.wrap ((Go.bits .and .u64 (a0 / 2) 6148914691236517205) + (Go.bits .and .u64 a0 6148914691236517205))) 3689348814741910323))) / 16) + (IntKind.u64.wrap ((Go.bits .and .u64 ((IntKind.u64.wrap ((Go.bits .and .u64 (a0 / 2) 6148914691236517205) + (Go.bits .and .u64 a0 6148914691236517205))) / 4) 3689348814741910323) + (Go.bits .and .u64 (IntKind.u64.wrap ((Go.bits .and .u64 (a0 / 2) 6148914691236517205) + (Go.bits .and .u64 a0 6148914691236517205))) 3689348814741910323))))) 1085102592571150095) + ((Go.bits .and .u64 (IntKind.u64.wrap (((IntKind.u64.wrap ((Go.bits .and .u64 ((IntKind.u64.wrap ((Go.bits .and .u64 (a0 / 2) 6148914691236517205) + (Go.bits .and .u64 a0 6148914691236517205))) / 4) 3689348814741910323) + (Go.bits .and .u64 (IntKind.u64.wrap ((Go.bits .and .u64 (a0 / 2) 6148914691236517205) + (Go.bits .and .u64 a0 6148914691236517205))) 3689348814741910323))) / 16) + (IntKind.u64.wrap ((Go.bits .and .u64 ((IntKind.u64.wrap ((Go.bits .and .u64 (a0 / 2) 6148914691236517205) + (Go.bits .and .u64 a0 6148914691236517205))) / 4) 3689348814741910323) + (Go.bits .and .u64 (IntKind.u64.wrap ((Go.bits .and .u64 (a0 / 2) 6148914691236517205) + (Go.bits .and .u64 a0 6148914691236517205))) 3689348814741910323))))) 1085102592571150095) / 256))) + ((IntKind.u64.wrap ((Go.bits .and .u64 (IntKind.u64.wrap (((IntKind.u64.wrap ((Go.bits .and .u64 ((IntKind.u64.wrap ((Go.bits .and .u64 (a0 / 2) 6148914691236517205) + (Go.bits .and .u64 a0 6148914691236517205))) / 4) 3689348814741910323) + (Go.bits .and .u64 (IntKind.u64.wrap ((Go.bits .and .u64 (a0 / 2) 6148914691236517205) + (Go.bits .and .u64 a0 6148914691236517205))) 3689348814741910323))) / 16) + (IntKind.u64.wrap ((Go.bits .and .u64 ((IntKind.u64.wrap ((Go.bits .and .u64 (a0 / 2) 6148914691236517205) + (Go.bits .and .u64 a0 6148914691236517205))) / 4) 3689348814741910323) + (Go.bits .and .u64 (IntKind.u64.wrap ((Go.bits .and .u64 (a0 / 2) 6148914691236517205) + (Go.bits .and .u64 a0 6148914691236517205))) 3689348814741910323))))) 1085102592571150095) + ((Go.bits .and .u64 (IntKind.u64.wrap (((IntKind.u64.wrap ((Go.bits .and .u64 ((IntKind.u64.wrap ((Go.bits .and .u64 (a0 / 2) 6148914691236517205) + (Go.bits .and .u64 a0 6148914691236517205))) / 4) 3689348814741910323) + (Go.bits .and .u64 (IntKind.u64.wrap ((Go.bits .and .u64 (a0 / 2) 6148914691236517205) + (Go.bits .and .u64 a0 6148914691236517205))) 3689348814741910323))) / 16) + (IntKind.u64.wrap ((Go.bits .and .u64 ((IntKind.u64.wrap ((Go.bits .and .u64 (a0 / 2) 6148914691236517205) + (Go.bits .and .u64 a0 6148914691236517205))) / 4) 3689348814741910323) + (Go.bits .and .u64 (IntKind.u64.wrap ((Go.bits .and .u64 (a0 / 2) 6148914691236517205) + (Go.bits .and .u64 a0 6148914691236517205))) 3689348814741910323))))) 1085102592571150095) / 256))) / 65536))) + ((IntKind.u64.wrap ((IntKind.u64.wrap ((Go.bits .and .u64 (IntKind.u64.wrap (((IntKind.u64.wrap ((Go.bits .and .u64 ((IntKind.u64.wrap ((Go.bits .and .u64 (a0 / 2) 6148914691236517205) + (Go.bits .and .u64 a0 6148914691236517205))) / 4) 3689348814741910323) + (Go.bits .and .u64 (IntKind.u64.wrap ((Go.bits .and .u64 (a0 / 2) 6148914691236517205) + (Go.bits .and .u64 a0 6148914691236517205))) 3689348814741910323))) / 16) + (IntKind.u64.wrap ((Go.bits .and .u64 ((IntKind.u64.wrap ((Go.bits .and .u64 (a0 / 2) 6148914691236517205) + (Go.bits .and .u64 a0 6148914691236517205))) / 4) 3689348814741910323) + (Go.bits .and .u64 (IntKind.u64.wrap ((Go.bits .and .u64 (a0 / 2) 6148914691236517205) + (Go.bits .and .u64 a0 6148914691236517205))) 3689348814741910323))))) 1085102592571150095) + ((Go.bits .and .u64 (IntKind.u64.wrap (((IntKind.u64.wrap ((Go.bits .and .u64 ((IntKind.u64.wrap ((Go.bits .and .u64 (a0 / 2) 6148914691236517205) + (Go.bits .and .u64 a0 6148914691236517205))) / 4) 3689348814741910323) + (Go.bits .and .u64 (IntKind.u64.wrap ((Go.bits .and .u64 (a0 / 2) 6148914691236517205) + (Go.bits .and .u64 a0 6148914691236517205))) 3689348814741910323))) / 16) + (IntKind.u64.wrap ((Go.bits .and .u64 ((IntKind.u64.wrap ((Go.bits .and .u64 (a0 / 2) 6148914691236517205) + (Go.bits .and .u64 a0 6148914691236517205))) / 4) 3689348814741910323) + (Go.bits .and .u64 (IntKind.u64.wrap ((Go.bits .and .u64 (a0 / 2) 6148914691236517205) + (Go.bits .and .u64 a0 6148914691236517205))) 3689348814741910323))))) 1085102592571150095) / 256))) + ((IntKind.u64.wrap ((Go.bits .and .u64 (IntKind.u64.wrap (((IntKind.u64.wrap ((Go.bits .and .u64 ((IntKind.u64.wrap ((Go.bits .and .u64 (a0 / 2) 6148914691236517205) + (Go.bits .and .u64 a0 6148914691236517205))) / 4) 3689348814741910323) + (Go.bits .and .u64 (IntKind.u64.wrap ((Go.bits .and .u64 (a0 / 2) 6148914691236517205) + (Go.bits .and .u64 a0 6148914691236517205))) 3689348814741910323))) / 16) + (IntKind.u64.wrap ((Go.bits .and .u64 ((IntKind.u64.wrap ((Go.bits .and .u64 (a0 / 2) 6148914691236517205) + (Go.bits .and .u64 a0 6148914691236517205))) / 4) 3689348814741910323) + (Go.bits .and .u64 (IntKind.u64.wrap ((Go.bits .and .u64 (a0 / 2) 6148914691236517205) + (Go.bits .and .u64 a0 6148914691236517205))) 3689348814741910323))))) 1085102592571150095) + ((Go.bits .and .u64 (IntKind.u64.wrap (((IntKind.u64.wrap ((Go.bits .and .u64 ((IntKind.u64.wrap ((Go.bits .and .u64 (a0 / 2) 6148914691236517205) + (Go.bits .and .u64 a0 6148914691236517205))) / 4) 3689348814741910323) + (Go.bits .and .u64 (IntKind.u64.wrap ((Go.bits .and .u64 (a0 / 2) 6148914691236517205) + (Go.bits .and .u64 a0 6148914691236517205))) 3689348814741910323))) / 16) + (IntKind.u64.wrap ((Go.bits .and .u64 ((IntKind.u64.wrap ((Go.bits .and .u64 (a0 / 2) 6148914691236517205) + (Go.bits .and .u64 a0 6148914691236517205))) / 4) 3689348814741910323) + (Go.bits .and .u64 (IntKind.u64.wrap ((Go.bits .and .u64 (a0 / 2) 6148914691236517205) + (Go.bits .and .u64 a0 6148914691236517205))) 3689348814741910323))))) 1085102592571150095) / 256))) / 65536))) / 4294967296)))) 127)
set_option maxHeartbeats 8000000 in
set_option maxRecDepth 100000 in
theorem bits_OnesCount64.calls (a0 : Int) (r : Int) (w : World) (h : bits_OnesCount64.f a0 = some r) :
    Calls Try.prog 142 #[.int .u64 a0] w fun e w' => e = .returned (.int .i64 r) ∧ Drawn0 w w' := by
  have H : (some (Go.bits .and .i64 (wrap64 (IntKind.u64.wrap ((IntKind.u64.wrap ((IntKind.u64.wrap ((Go.bits .and .u64 (IntKind.u64.wrap (((IntKind.u64.wrap ((Go.bits .and .u64 ((IntKind.u64.wrap ((Go.bits .and .u64 (a0 / 2) 6148914691236517205) + (Go.bits .and .u64 a0 6148914691236517205))) / 4) 3689348814741910323) + (Go.bits .and .u64 (IntKind.u64.wrap ((Go.bits .and .u64 (a0 / 2) 6148914691236517205) + (Go.bits .and .u64 a0 6148914691236517205))) 3689348814741910323))) / 16) + (IntKind.u64.wrap ((Go.bits .and .u64 ((IntKind.u64.wrap ((Go.bits .and .u64 (a0 / 2) 6148914691236517205) + (Go.bits .and .u64 a0 6148914691236517205))) / 4) 3689348814741910323) + (Go.bits .and .u64 (IntKind.u64.wrap ((Go.bits .and .u64 (a0 / 2) 6148914691236517205) + (Go.bits .and .u64 a0 6148914691236517205))) 3689348814741910323))))) 1085102592571150095) + ((Go.bits .and .u64 (IntKind.u64.wrap (((IntKind.u64.wrap ((Go.bits .and .u64 ((IntKind.u64.wrap ((Go.bits .and .u64 (a0 / 2) 6148914691236517205) + (Go.bits .and .u64 a0 6148914691236517205))) / 4) 3689348814741910323) + (Go.bits .and .u64 (IntKind.u64.wrap ((Go.bits .and .u64 (a0 / 2) 6148914691236517205) + (Go.bits .and .u64 a0 6148914691236517205))) 3689348814741910323))) / 16) + (IntKind.u64.wrap ((Go.bits .and .u64 ((IntKind.u64.wrap ((Go.bits .and .u64 (a0 / 2) 6148914691236517205) + (Go.bits .and .u64 a0 6148914691236517205))) / 4) 3689348814741910323) + (Go.bits .and .u64 (IntKind.u64.wrap ((Go.bits .and .u64 (a0 / 2) 6148914691236517205) + (Go.bits .and .u64 a0 6148914691236517205))) 3689348814741910323))))) 1085102592571150095) / 256))) + ((IntKind.u64.wrap ((Go.bits .and .u64 (IntKind.u64.wrap (((IntKind.u64.wrap ((Go.bits .and .u64 ((IntKind.u64.wrap ((Go.bits .and .u64 (a0 / 2) 6148914691236517205) + (Go.bits .and .u64 a0 6148914691236517205))) / 4) 3689348814741910323) + (Go.bits .and .u64 (IntKind.u64.wrap ((Go.bits .and .u64 (a0 / 2) 6148914691236517205) + (Go.bits .and .u64 a0 6148914691236517205))) 3689348814741910323))) / 16) + (IntKind.u64.wrap ((Go.bits .and .u64 ((IntKind.u64.wrap ((Go.bits .and .u64 (a0 / 2) 6148914691236517205) + (Go.bits .and .u64 a0 6148914691236517205))) / 4) 3689348814741910323) + (Go.bits .and .u64 (IntKind.u64.wrap ((Go.bits .and .u64 (a0 / 2) 6148914691236517205) + (Go.bits .and .u64 a0 6148914691236517205))) 3689348814741910323))))) 1085102592571150095) + ((Go.bits .and .u64 (IntKind.u64.wrap (((IntKind.u64.wrap ((Go.bits .and .u64 ((IntKind.u64.wrap ((Go.bits .and .u64 (a0 / 2) 6148914691236517205) + (Go.bits .and .u64 a0 6148914691236517205))) / 4) 3689348814741910323) + (Go.bits .and .u64 (IntKind.u64.wrap ((Go.bits .and .u64 (a0 / 2) 6148914691236517205) + (Go.bits .and .u64 a0 6148914691236517205))) 3689348814741910323))) / 16) + (IntKind.u64.wrap ((Go.bits .and .u64 ((IntKind.u64.wrap ((Go.bits .and .u64 (a0 / 2) 6148914691236517205) + (Go.bits .and .u64 a0 6148914691236517205))) / 4) 3689348814741910323) + (Go.bits .and .u64 (IntKind.u64.wrap ((Go.bits .and .u64 (a0 / 2) 6148914691236517205) + (Go.bits .and .u64 a0 6148914691236517205))) 3689348814741910323))))) 1085102592571150095) / 256))) / 65536))) + ((IntKind.u64.wrap ((IntKind.u64.wrap ((Go.bits .and .u64 (IntKind.u64.wrap (((IntKind.u64.wrap ((Go.bits .and .u64 ((IntKind.u64.wrap ((Go.bits .and .u64 (a0 / 2) 6148914691236517205) + (Go.bits .and .u64 a0 6148914691236517205))) / 4) 3689348814741910323) + (Go.bits .and .u64 (IntKind.u64.wrap ((Go.bits .and .u64 (a0 / 2) 6148914691236517205) + (Go.bits .and .u64 a0 6148914691236517205))) 3689348814741910323))) / 16) + (IntKind.u64.wrap ((Go.bits .and .u64 ((IntKind.u64.wrap ((Go.bits .and .u64 (a0 / 2) 6148914691236517205) + (Go.bits .and .u64 a0 6148914691236517205))) / 4) 3689348814741910323) + (Go.bits .and .u64 (IntKind.u64.wrap ((Go.bits .and .u64 (a0 / 2) 6148914691236517205) + (Go.bits .and .u64 a0 6148914691236517205))) 3689348814741910323))))) 1085102592571150095) + ((Go.bits .and .u64 (IntKind.u64.wrap (((IntKind.u64.wrap ((Go.bits .and .u64 ((IntKind.u64.wrap ((Go.bits .and .u64 (a0 / 2) 6148914691236517205) + (Go.bits .and .u64 a0 6148914691236517205))) / 4) 3689348814741910323) + (Go.bits .and .u64 (IntKind.u64.wrap ((Go.bits .and .u64 (a0 / 2) 6148914691236517205) + (Go.bits .and .u64 a0 6148914691236517205))) 3689348814741910323))) / 16) + (IntKind.u64.wrap ((Go.bits .and .u64 ((IntKind.u64.wrap ((Go.bits .and .u64 (a0 / 2) 6148914691236517205) + (Go.bits .and .u64 a0 6148914691236517205))) / 4) 3689348814741910323) + (Go.bits .and .u64 (IntKind.u64.wrap ((Go.bits .and .u64 (a0 / 2) 6148914691236517205) + (Go.bits .and .u64 a0 6148914691236517205))) 3689348814741910323))))) 1085102592571150095) / 256))) + ((IntKind.u64.wrap ((Go.bits .and .u64 (IntKind.u64.wrap (((IntKind.u64.wrap ((Go.bits .and .u64 ((IntKind.u64.wrap ((Go.bits .and .u64 (a0 / 2) 6148914691236517205) + (Go.bits .and .u64 a0 6148914691236517205))) / 4) 3689348814741910323) + (Go.bits .and .u64 (IntKind.u64.wrap ((Go.bits .and .u64 (a0 / 2) 6148914691236517205) + (Go.bits .and .u64 a0 6148914691236517205))) 3689348814741910323))) / 16) + (IntKind.u64.wrap ((Go.bits .and .u64 ((IntKind.u64.wrap ((Go.bits .and .u64 (a0 / 2) 6148914691236517205) + (Go.bits .and .u64 a0 6148914691236517205))) / 4) 3689348814741910323) + (Go.bits .and .u64 (IntKind.u64.wrap ((Go.bits .and .u64 (a0 / 2) 6148914691236517205) + (Go.bits .and .u64 a0 6148914691236517205))) 3689348814741910323))))) 1085102592571150095) + ((Go.bits .and .u64 (IntKind.u64.wrap (((IntKind.u64.wrap ((Go.bits .and .u64 ((IntKind.u64.wrap ((Go.bits .and .u64 (a0 / 2) 6148914691236517205) + (Go.bits .and .u64 a0 6148914691236517205))) / 4) 3689348814741910323) + (Go.bits .and .u64 (IntKind.u64.wrap ((Go.bits .and .u64 (a0 / 2) 6148914691236517205) + (Go.bits .and .u64 a0 6148914691236517205))) 3689348814741910323))) / 16) + (IntKind.u64.wrap ((Go.bits .and .u64 ((IntKind.u64.wrap ((Go.bits .and .u64 (a0 / 2) 6148914691236517205) + (Go.bits .and .u64 a0 6148914691236517205))) / 4) 3689348814741910323) + (Go.bits .and .u64 (IntKind.u64.wrap ((Go.bits .and .u64 (a0 / 2) 6148914691236517205) + (Go.bits .and .u64 a0 6148914691236517205))) 3689348814741910323))))) 1085102592571150095) / 256))) / 65536))) / 4294967296)))) 127)) = some r := h
  clear h
  obtain rfl := Option.some.inj H
  go_enter Try.func142, Try.ntmps142
  go_wp2
  go_ret
  exact ⟨by first | rfl | (simp; done) | (simp [*]; done), by repeat (first | exact Drawn0.refl _ | apply Drawn0.step)⟩

/-! ### bits_OnesCount: function 125 -/
def bits_OnesCount.f (a0 : Int) : Option (Int) := (bits_OnesCount64.f a0).bind fun t237 => (some t237)
set_option maxHeartbeats 8000000 in
set_option maxRecDepth 100000 in
theorem bits_OnesCount.calls (a0 : Int) (r : Int) (w : World) (h : bits_OnesCount.f a0 = some r) :
    Calls Try.prog 125 #[.int .u64 a0] w fun e w' => e = .returned (.int .i64 r) ∧ Drawn0 w w' := by
  have H : ((bits_OnesCount64.f a0).bind fun t237 => (some t237)) = some r := h
  clear h
  replace H := Option.bind_eq_some_iff.mp H
  obtain ⟨t237, A20, H⟩ := H
  replace H : (some t237) = some r := H
  have A2 := Aside0.mk A20
  clear A20
  obtain rfl := Option.some.inj H
  go_enter Try.func125, Try.ntmps125
  go_wp2_with (first | ((with_reducible refine gate_callee (f := 142) rfl ?_); refine goesL_ (some 7) rfl rfl Try.func142 (by kernel_rfl) rfl #[.int .u64 a0] rfl (by (try simp only [List.map_toArray, List.map_cons, List.map_nil]); first | done | rfl | (simp only [List.length_drop, List.length_take]; rfl)) ?_; (with_reducible refine (bits_OnesCount64.calls a0 t237 _ A2.out).mono ?_); rintro e w' ⟨rfl, ⟨nd, rfl⟩⟩; refine ⟨_, rfl, ?_⟩))
  go_ret
  exact ⟨by first | rfl | (simp; done) | (simp [*]; done), by repeat (first | exact Drawn0.refl _ | apply Drawn0.step)⟩


/-! ### impl_moves: function 105 -/
def impl_moves.f (a0 : Int) (a1 : Int) : Option (Int) := (bits_OnesCount.f (IntKind.u64.wrap (Go.bits .xor .i64 a0 a1))).bind fun t241 => (some t241)
set_option maxHeartbeats 8000000 in
set_option maxRecDepth 100000 in
theorem impl_moves.calls (a0 : Int) (a1 : Int) (r : Int) (w : World) (h : impl_moves.f a0 a1 = some r) :
    Calls Try.prog 105 #[.int .i64 a0, .int .i64 a1] w fun e w' => e = .returned (.int .i64 r) ∧ Drawn0 w w' := by
  have H : ((bits_OnesCount.f (IntKind.u64.wrap (Go.bits .xor .i64 a0 a1))).bind fun t241 => (some t241)) = some r := h
  clear h
  replace H := Option.bind_eq_some_iff.mp H
  obtain ⟨t241, A30, H⟩ := H
  replace H : (some t241) = some r := H
  have A3 := Aside0.mk A30
  clear A30
  obtain rfl := Option.some.inj H
  go_enter Try.func105, Try.ntmps105
  go_wp2_with (first | ((with_reducible refine gate_callee (f := 125) rfl ?_); refine goesL_ (some 9) rfl rfl Try.func125 (by kernel_rfl) rfl #[.int .u64 (IntKind.u64.wrap (Go.bits .xor .i64 a0 a1))] rfl (by (try simp only [List.map_toArray, List.map_cons, List.map_nil]); first | done | rfl | (simp only [List.length_drop, List.length_take]; rfl)) ?_; (with_reducible refine (bits_OnesCount.calls (IntKind.u64.wrap (Go.bits .xor .i64 a0 a1)) t241 _ A3.out).mono ?_); rintro e w' ⟨rfl, ⟨nd, rfl⟩⟩; refine ⟨_, rfl, ?_⟩))
  go_ret
  exact ⟨by first | rfl | (simp; done) | (simp [*]; done), by repeat (first | exact Drawn0.refl _ | apply Drawn0.step)⟩

end Go.Proofs.Ytfldgimmdeijjaa.PFnExactFewestMoves
