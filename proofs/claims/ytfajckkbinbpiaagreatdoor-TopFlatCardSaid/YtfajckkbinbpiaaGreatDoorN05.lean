/- Walks: whether objects are small; views, points and radii that are made tame. -/
import Derived.Test.YtfajckkbinbpiaaGreatDoorN04
namespace Go.Proofs.YtfajckkbinbpiaaGreatDoor
set_option maxRecDepth 100000
set_option maxHeartbeats 32000000
set_option linter.unusedVariables false
set_option linter.unusedSimpArgs false
open Go.RowKit
theorem small21 (v : Value) (w : World) (hP : PartsRd 14 w v) : Calls Tryz.prog 18 #[v] w (SomeBool w) := by
  obtain ⟨pp, np, cp, rfl, hnp⟩ := hP.len
  have ih := small_any 13 (by omega)
  unfold SmallIs at ih
  rw [show (13 : Int) - ((13 : Nat) : Int) = 0 from rfl] at ih
  have HI := Lib.hid ih
  have HP := Lib.hid hP
  clear ih hP
  rcases Nat.lt_or_ge 20 np with c1 | c1
  · have q1 : decide (np > 20) = true := by simp; omega
    have q2 : decide ((np : Int) > 20) = true := by simp; omega
    go_enter Tryz.func18, Tryz.ntmps18
    go_wp2_with fail
    go_ret
    exact ⟨_, rfl, by exact blw⟩
  have q1 : decide (np > 20) = false := by simp; omega
  have q2 : decide ((np : Int) > 20) = false := by simp; omega
  go_enter Tryz.func18, Tryz.ntmps18
  go_wp2_with fail
  go_loopw [3] (fun i wr => ∃ q : Nat, i = .int .i64 (q : Int) ∧ q ≤ np ∧ Below w.heap.size w wr) (fun i wr => np - (intOf i).toNat)
  case atStart => exact ⟨0, rfl, Nat.zero_le _, by exact blw⟩
  case round =>
  obtain ⟨q, rfl, hq, hB⟩ := hrel
  by_cases hlq : q < np
  · obtain ⟨p', n', cap', e1, _, h1⟩ := HP.out.below hB (Nat.le_refl _)
    injection e1 with e1 e1n e1c
    subst e1 e1n e1c
    obtain ⟨b, off, rfl, lb, h1⟩ := h1 (by omega)
    obtain ⟨dk, k1, x1, y1, cc1, d1, ee1, f1, r1, L1, P1, _, h2, h3, h4⟩ := h1 q hlq
    have z0 := h2 0 _ rfl
    have z1 := h2 1 _ rfl
    have z2 := h2 2 _ rfl
    have z3 := h2 3 _ rfl
    have z4 := h2 4 _ rfl
    have z5 := h2 5 _ rfl
    have z6 := h2 6 _ rfl
    have z7 := h2 7 _ rfl
    have z8 := h2 8 _ rfl
    have z9 := h2 9 _ rfl
    simp only [Nat.reduceAdd] at z0 z1 z2 z3 z4 z5 z6 z7 z8 z9
    obtain ⟨pp1, np1, cp1, eP1, _⟩ := h4.len
    obtain ⟨pl1, nl1, cl1, eL1, _⟩ := id h3
    subst eP1 eL1
    have HC := Lib.hid (HI.out k1 x1 y1 cc1 d1 ee1 f1 r1 _ _ wr h3 h4)
    have HB := Lib.hid hB
    have sB := hB.size
    clear h1 h2 h3 h4 hB
    go_wp2_with fail
    have hc := HC.out
    unfold shV at hc
    refine hc.mono ?_
    rintro e z ⟨r, rfl, hb⟩
    have hB2 : Below w.heap.size w z := HB.out.trans (hb.mono sB)
    have HB2 := Lib.hid hB2
    clear hb hB2 hc z0 z1 z2 z3 z4 z5 z6 z7 z8 z9
    cases r
    · go_wp2_with fail
      go_ret
      exact ⟨_, rfl, HB2.out⟩
    · go_wp2_with fail
      go_roundw
      case rel =>
        have hr2 : ∃ q' : Nat, Value.int .i64 ((q : Int) + 1) = .int .i64 (q' : Int) ∧ q' ≤ np ∧ Below w.heap.size w z := ⟨q + 1, by go_num, by omega, HB2.out⟩
        first | exact hr2 | ((repeat apply Exists.intro); exact ⟨hr2, rfl⟩)
      case measure => simp [intOf]; omega
  · have e : q = np := by omega
    subst e
    have HB := Lib.hid hB
    clear hB
    go_wp2_with fail
    go_ret
    exact ⟨_, rfl, HB.out⟩
theorem tmod_rng (x m : Int) (h : 0 < m) : -(m - 1) ≤ x.tmod m ∧ x.tmod m ≤ m - 1 := by
  have h1 := Int.tmod_lt_of_pos x h
  have h2 := Int.lt_tmod_of_pos x h
  omega
def SomePt (n : Int) (w : World) (e : Ending) (w' : World) : Prop := ∃ x y : Int, -n ≤ x ∧ x ≤ n ∧ -n ≤ y ∧ y ≤ n ∧ e = .returned (.agg #[.int .i64 x, .int .i64 y]) ∧ Below w.heap.size w w'
def SomeNum (lo hi : Int) (w : World) (e : Ending) (w' : World) : Prop := ∃ x : Int, lo ≤ x ∧ x ≤ hi ∧ e = .returned (.int .i64 x) ∧ w = w'
theorem SomePt.mk {n x y : Int} {w w' : World} (hx : -n ≤ x ∧ x ≤ n) (hy : -n ≤ y ∧ y ≤ n) (hb : Below w.heap.size w w') : SomePt n w (.returned (.agg #[.int .i64 x, .int .i64 y])) w' := ⟨x, y, hx.1, hx.2, hy.1, hy.2, rfl, hb⟩
theorem close20 (x y : Int) (w : World) :
    Calls Tryz.prog 42 #[.agg #[.int .i64 x, .int .i64 y], .int .i64 20] w (SomePt 20 w) := by
  obtain ⟨a, ea⟩ : ∃ a, x.tmod 21 = a := ⟨_, rfl⟩
  obtain ⟨b, eb⟩ : ∃ b, y.tmod 21 = b := ⟨_, rfl⟩
  have ha := tmod_rng x 21 (by decide)
  have hb := tmod_rng y 21 (by decide)
  rw [ea] at ha
  rw [eb] at hb
  have HA := Lib.hid ha
  have HB := Lib.hid hb
  clear ha hb
  go_enter Tryz.func42, Tryz.ntmps42
  go_wp2
  go_region
  all_goals go_wp2
  all_goals
    refine bodyPost_ret (v := .agg #[.int .i64 a, .int .i64 b]) (by simp [results, Tryz.results42, go_sem]) rfl (SomePt.mk HA.out HB.out ?_)
    go_grown
theorem close15 (x y : Int) (w : World) :
    Calls Tryz.prog 42 #[.agg #[.int .i64 x, .int .i64 y], .int .i64 15] w (SomePt 15 w) := by
  obtain ⟨a, ea⟩ : ∃ a, x.tmod 16 = a := ⟨_, rfl⟩
  obtain ⟨b, eb⟩ : ∃ b, y.tmod 16 = b := ⟨_, rfl⟩
  have ha := tmod_rng x 16 (by decide)
  have hb := tmod_rng y 16 (by decide)
  rw [ea] at ha
  rw [eb] at hb
  have HA := Lib.hid ha
  have HB := Lib.hid hb
  clear ha hb
  go_enter Tryz.func42, Tryz.ntmps42
  go_wp2
  go_region
  all_goals go_wp2
  all_goals
    refine bodyPost_ret (v := .agg #[.int .i64 a, .int .i64 b]) (by simp [results, Tryz.results42, go_sem]) rfl (SomePt.mk HA.out HB.out ?_)
    go_grown
theorem pt_any (x y : Int) (w : World) :
    Calls Tryz.prog 43 #[.agg #[.int .i64 x, .int .i64 y]] w (SomePt 536870912 w) := by
  obtain ⟨a, ea⟩ : ∃ a, x.tmod 536870913 = a := ⟨_, rfl⟩
  obtain ⟨b, eb⟩ : ∃ b, y.tmod 536870913 = b := ⟨_, rfl⟩
  have ha := tmod_rng x 536870913 (by decide)
  have hb := tmod_rng y 536870913 (by decide)
  rw [ea] at ha
  rw [eb] at hb
  have HA := Lib.hid ha
  have HB := Lib.hid hb
  clear ha hb
  go_enter Tryz.func43, Tryz.ntmps43
  go_wp2
  all_goals
    refine bodyPost_ret (v := .agg #[.int .i64 a, .int .i64 b]) (by simp [results, Tryz.results43, go_sem]) rfl (SomePt.mk HA.out HB.out ?_)
    go_grown
theorem r_any (r : Int) (w : World) : Calls Tryz.prog 40 #[.int .i64 r] w (SomeNum 1 536870912 w) := by
  obtain ⟨u, eu⟩ : ∃ u, IntKind.u64.wrap r = u := ⟨_, rfl⟩
  have u0 : 0 ≤ u := by rw [← eu, IntKind.wrap_u64]; omega
  go_enter Tryz.func40, Tryz.ntmps40
  go_wp2
  go_ret
  exact ⟨_, by omega, by omega, rfl, rfl⟩
theorem in_one (a b c d P : Int) (w : World) (hc : c = a + P) (hd : d = b + P) (p0 : 1 ≤ P) (p1 : P ≤ 1000) (a0 : -1000 ≤ a) (a1 : a ≤ 1000) (b0 : -1000 ≤ b) (b1 : b ≤ 1000) :
    Calls Tryz.prog 24 #[.agg #[.int .i64 a, .int .i64 b, .int .i64 c, .int .i64 d], .int .i64 1, .int .i64 1] w fun e w' => e = .returned (.agg #[.int .i64 (a + 1), .int .i64 (b + 1)]) ∧ Below w.heap.size w w' := by
  have s1 : c - a = P := by omega
  have s2 : d - b = P := by omega
  have w1 : IntKind.i64.wrap (c - a) = P := by rw [s1]; exact IntWalk.i64_in _ (by omega)
  have w2 : IntKind.i64.wrap (d - b) = P := by rw [s2]; exact IntWalk.i64_in _ (by omega)
  have w3 : IntKind.i64.wrap (P + 1) = P + 1 := IntWalk.i64_in _ (by omega)
  have w4 : IntKind.u64.wrap (P + 1) = P + 1 := by rw [IntKind.wrap_u64]; omega
  have w5 : (1 : Int).tmod (P + 1) = 1 := by rw [Int.tmod_eq_emod_of_nonneg (by omega)]; exact Int.emod_eq_of_lt (by omega) (by omega)
  have w6 : IntKind.i64.wrap (a + 1) = a + 1 := IntWalk.i64_in _ (by omega)
  have w7 : IntKind.i64.wrap (b + 1) = b + 1 := IntWalk.i64_in _ (by omega)
  have w8 : (P + 1 == 0) = false := by simp; omega
  clear hc hd s1 s2
  go_enter Tryz.func24, Tryz.ntmps24
  go_wp2
  go_region
  all_goals
    go_wp2
    refine bodyPost_ret (v := .agg #[.int .i64 (a + 1), .int .i64 (b + 1)]) (by simp [results, Tryz.results24, go_sem]) rfl ⟨rfl, ?_⟩
    go_grown
def SomeView (w : World) (e : Ending) (w' : World) : Prop := ∃ X Y P W H D k : Int, (-29 ≤ X ∧ X ≤ 29) ∧ (-29 ≤ Y ∧ Y ≤ 29) ∧ (1 ≤ P ∧ P ≤ 32) ∧ (1 ≤ W ∧ W ≤ 8) ∧ (1 ≤ H ∧ H ≤ 8) ∧ ((D = 0 ∧ k = 1) ∨ (D = 1 ∧ k = 2) ∨ (D = 2 ∧ k = 4) ∨ (D = 3 ∧ k = 8)) ∧ P % k = 0 ∧ e = .returned (.agg #[.int .i64 X, .int .i64 Y, .int .i64 P, .int .i64 W, .int .i64 H, .int .i64 D]) ∧ Below w.heap.size w w'
theorem SomeView.mk {w w' : World} {X Y P W H D : Int} (k : Int) (h : (-29 ≤ X ∧ X ≤ 29) ∧ (-29 ≤ Y ∧ Y ≤ 29) ∧ (1 ≤ P ∧ P ≤ 32) ∧ (1 ≤ W ∧ W ≤ 8) ∧ (1 ≤ H ∧ H ≤ 8) ∧ ((D = 0 ∧ k = 1) ∨ (D = 1 ∧ k = 2) ∨ (D = 2 ∧ k = 4) ∨ (D = 3 ∧ k = 8)) ∧ P % k = 0) (hb : Below w.heap.size w w') : SomeView w (.returned (.agg #[.int .i64 X, .int .i64 Y, .int .i64 P, .int .i64 W, .int .i64 H, .int .i64 D])) w' :=
  ⟨X, Y, P, W, H, D, k, h.1, h.2.1, h.2.2.1, h.2.2.2.1, h.2.2.2.2.1, h.2.2.2.2.2.1, h.2.2.2.2.2.2, rfl, hb⟩
theorem tame22_0 (X Y P W H D : Int) (w : World) (hd : D % 4 = 0) :
    Calls Tryz.prog 15 #[.agg #[.int .i64 X, .int .i64 Y, .int .i64 P, .int .i64 W, .int .i64 H, .int .i64 D], .bool true] w (SomeView w) := by
  obtain ⟨u, eu⟩ : ∃ u, IntKind.u64.wrap P = u := ⟨_, rfl⟩
  obtain ⟨x, ex⟩ : ∃ u, X.tmod 300000000 = u := ⟨_, rfl⟩
  obtain ⟨y, ey⟩ : ∃ u, Y.tmod 300000000 = u := ⟨_, rfl⟩
  obtain ⟨x2, ex2⟩ : ∃ u, X.tmod 30 = u := ⟨_, rfl⟩
  obtain ⟨y2, ey2⟩ : ∃ u, Y.tmod 30 = u := ⟨_, rfl⟩
  obtain ⟨W2, eW2⟩ : ∃ u, W % 8 = u := ⟨_, rfl⟩
  obtain ⟨H2, eH2⟩ : ∃ u, H % 8 = u := ⟨_, rfl⟩
  obtain ⟨P2, eP2⟩ : ∃ u, P % 4 = u := ⟨_, rfl⟩
  have eW := mask7 W
  have eH := mask7 H
  have eP := mask3 P
  rw [eW2] at eW
  rw [eH2] at eH
  rw [eP2] at eP
  have u0 : 0 ≤ u := by rw [← eu, IntKind.wrap_u64]; omega
  have x0 := tmod_rng X 300000000 (by decide)
  have y0 := tmod_rng Y 300000000 (by decide)
  have x3 := tmod_rng X 30 (by decide)
  have y3 := tmod_rng Y 30 (by decide)
  rw [ex] at x0
  rw [ey] at y0
  rw [ex2] at x3
  rw [ey2] at y3
  have b1 : 0 ≤ W2 ∧ W2 ≤ 7 := by omega
  have b2 : 0 ≤ H2 ∧ H2 ≤ 7 := by omega
  have b3 : 0 ≤ P2 ∧ P2 ≤ 3 := by omega
  have eD : bits .and .i64 D 3 = 0 := by rw [mask3, hd]
  clear hd eW2 eH2 eP2
  go_enter Tryz.func15, Tryz.ntmps15
  go_wp2
  go_region
  all_goals
    go_wp2
    go_region
    all_goals
      go_wp2
      refine bodyPost_ret (v := .agg #[.int .i64 x2, .int .i64 y2, .int .i64 (P2 + 1), .int .i64 (W2 + 1), .int .i64 (H2 + 1), .int .i64 0]) (by simp [results, Tryz.results15, go_sem]) rfl (SomeView.mk 1 (by omega) ?_)
      go_grown
theorem tame22_1 (X Y P W H D : Int) (w : World) (hd : D % 4 = 1) :
    Calls Tryz.prog 15 #[.agg #[.int .i64 X, .int .i64 Y, .int .i64 P, .int .i64 W, .int .i64 H, .int .i64 D], .bool true] w (SomeView w) := by
  obtain ⟨u, eu⟩ : ∃ u, IntKind.u64.wrap P = u := ⟨_, rfl⟩
  obtain ⟨x, ex⟩ : ∃ u, X.tmod 300000000 = u := ⟨_, rfl⟩
  obtain ⟨y, ey⟩ : ∃ u, Y.tmod 300000000 = u := ⟨_, rfl⟩
  obtain ⟨x2, ex2⟩ : ∃ u, X.tmod 30 = u := ⟨_, rfl⟩
  obtain ⟨y2, ey2⟩ : ∃ u, Y.tmod 30 = u := ⟨_, rfl⟩
  obtain ⟨W2, eW2⟩ : ∃ u, W % 8 = u := ⟨_, rfl⟩
  obtain ⟨H2, eH2⟩ : ∃ u, H % 8 = u := ⟨_, rfl⟩
  obtain ⟨P2, eP2⟩ : ∃ u, P % 4 = u := ⟨_, rfl⟩
  have eW := mask7 W
  have eH := mask7 H
  have eP := mask3 P
  rw [eW2] at eW
  rw [eH2] at eH
  rw [eP2] at eP
  have u0 : 0 ≤ u := by rw [← eu, IntKind.wrap_u64]; omega
  have x0 := tmod_rng X 300000000 (by decide)
  have y0 := tmod_rng Y 300000000 (by decide)
  have x3 := tmod_rng X 30 (by decide)
  have y3 := tmod_rng Y 30 (by decide)
  rw [ex] at x0
  rw [ey] at y0
  rw [ex2] at x3
  rw [ey2] at y3
  have b1 : 0 ≤ W2 ∧ W2 ≤ 7 := by omega
  have b2 : 0 ≤ H2 ∧ H2 ≤ 7 := by omega
  have b3 : 0 ≤ P2 ∧ P2 ≤ 3 := by omega
  have eD : bits .and .i64 D 3 = 1 := by rw [mask3, hd]
  clear hd eW2 eH2 eP2
  go_enter Tryz.func15, Tryz.ntmps15
  go_wp2
  go_region
  all_goals
    go_wp2
    go_region
    all_goals
      go_wp2
      refine bodyPost_ret (v := .agg #[.int .i64 x2, .int .i64 y2, .int .i64 (2 * (P2 + 1)), .int .i64 (W2 + 1), .int .i64 (H2 + 1), .int .i64 1]) (by simp [results, Tryz.results15, go_sem]) rfl (SomeView.mk 2 (by omega) ?_)
      go_grown
theorem tame22_2 (X Y P W H D : Int) (w : World) (hd : D % 4 = 2) :
    Calls Tryz.prog 15 #[.agg #[.int .i64 X, .int .i64 Y, .int .i64 P, .int .i64 W, .int .i64 H, .int .i64 D], .bool true] w (SomeView w) := by
  obtain ⟨u, eu⟩ : ∃ u, IntKind.u64.wrap P = u := ⟨_, rfl⟩
  obtain ⟨x, ex⟩ : ∃ u, X.tmod 300000000 = u := ⟨_, rfl⟩
  obtain ⟨y, ey⟩ : ∃ u, Y.tmod 300000000 = u := ⟨_, rfl⟩
  obtain ⟨x2, ex2⟩ : ∃ u, X.tmod 30 = u := ⟨_, rfl⟩
  obtain ⟨y2, ey2⟩ : ∃ u, Y.tmod 30 = u := ⟨_, rfl⟩
  obtain ⟨W2, eW2⟩ : ∃ u, W % 8 = u := ⟨_, rfl⟩
  obtain ⟨H2, eH2⟩ : ∃ u, H % 8 = u := ⟨_, rfl⟩
  obtain ⟨P2, eP2⟩ : ∃ u, P % 4 = u := ⟨_, rfl⟩
  have eW := mask7 W
  have eH := mask7 H
  have eP := mask3 P
  rw [eW2] at eW
  rw [eH2] at eH
  rw [eP2] at eP
  have u0 : 0 ≤ u := by rw [← eu, IntKind.wrap_u64]; omega
  have x0 := tmod_rng X 300000000 (by decide)
  have y0 := tmod_rng Y 300000000 (by decide)
  have x3 := tmod_rng X 30 (by decide)
  have y3 := tmod_rng Y 30 (by decide)
  rw [ex] at x0
  rw [ey] at y0
  rw [ex2] at x3
  rw [ey2] at y3
  have b1 : 0 ≤ W2 ∧ W2 ≤ 7 := by omega
  have b2 : 0 ≤ H2 ∧ H2 ≤ 7 := by omega
  have b3 : 0 ≤ P2 ∧ P2 ≤ 3 := by omega
  have eD : bits .and .i64 D 3 = 2 := by rw [mask3, hd]
  clear hd eW2 eH2 eP2
  go_enter Tryz.func15, Tryz.ntmps15
  go_wp2
  go_region
  all_goals
    go_wp2
    go_region
    all_goals
      go_wp2
      refine bodyPost_ret (v := .agg #[.int .i64 x2, .int .i64 y2, .int .i64 (4 * (P2 + 1)), .int .i64 (W2 + 1), .int .i64 (H2 + 1), .int .i64 2]) (by simp [results, Tryz.results15, go_sem]) rfl (SomeView.mk 4 (by omega) ?_)
      go_grown
theorem tame22_3 (X Y P W H D : Int) (w : World) (hd : D % 4 = 3) :
    Calls Tryz.prog 15 #[.agg #[.int .i64 X, .int .i64 Y, .int .i64 P, .int .i64 W, .int .i64 H, .int .i64 D], .bool true] w (SomeView w) := by
  obtain ⟨u, eu⟩ : ∃ u, IntKind.u64.wrap P = u := ⟨_, rfl⟩
  obtain ⟨x, ex⟩ : ∃ u, X.tmod 300000000 = u := ⟨_, rfl⟩
  obtain ⟨y, ey⟩ : ∃ u, Y.tmod 300000000 = u := ⟨_, rfl⟩
  obtain ⟨x2, ex2⟩ : ∃ u, X.tmod 30 = u := ⟨_, rfl⟩
  obtain ⟨y2, ey2⟩ : ∃ u, Y.tmod 30 = u := ⟨_, rfl⟩
  obtain ⟨W2, eW2⟩ : ∃ u, W % 8 = u := ⟨_, rfl⟩
  obtain ⟨H2, eH2⟩ : ∃ u, H % 8 = u := ⟨_, rfl⟩
  obtain ⟨P2, eP2⟩ : ∃ u, P % 4 = u := ⟨_, rfl⟩
  have eW := mask7 W
  have eH := mask7 H
  have eP := mask3 P
  rw [eW2] at eW
  rw [eH2] at eH
  rw [eP2] at eP
  have u0 : 0 ≤ u := by rw [← eu, IntKind.wrap_u64]; omega
  have x0 := tmod_rng X 300000000 (by decide)
  have y0 := tmod_rng Y 300000000 (by decide)
  have x3 := tmod_rng X 30 (by decide)
  have y3 := tmod_rng Y 30 (by decide)
  rw [ex] at x0
  rw [ey] at y0
  rw [ex2] at x3
  rw [ey2] at y3
  have b1 : 0 ≤ W2 ∧ W2 ≤ 7 := by omega
  have b2 : 0 ≤ H2 ∧ H2 ≤ 7 := by omega
  have b3 : 0 ≤ P2 ∧ P2 ≤ 3 := by omega
  have eD : bits .and .i64 D 3 = 3 := by rw [mask3, hd]
  clear hd eW2 eH2 eP2
  go_enter Tryz.func15, Tryz.ntmps15
  go_wp2
  go_region
  all_goals
    go_wp2
    go_region
    all_goals
      go_wp2
      refine bodyPost_ret (v := .agg #[.int .i64 x2, .int .i64 y2, .int .i64 (8 * (P2 + 1)), .int .i64 (W2 + 1), .int .i64 (H2 + 1), .int .i64 3]) (by simp [results, Tryz.results15, go_sem]) rfl (SomeView.mk 8 (by omega) ?_)
      go_grown
theorem tame22 (X Y P W H D : Int) (w : World) : Calls Tryz.prog 15 #[.agg #[.int .i64 X, .int .i64 Y, .int .i64 P, .int .i64 W, .int .i64 H, .int .i64 D], .bool true] w (SomeView w) := by
  rcases (show D % 4 = 0 ∨ D % 4 = 1 ∨ D % 4 = 2 ∨ D % 4 = 3 by omega) with h | h | h | h
  · exact tame22_0 X Y P W H D w h
  · exact tame22_1 X Y P W H D w h
  · exact tame22_2 X Y P W H D w h
  · exact tame22_3 X Y P W H D w h
end Go.Proofs.YtfajckkbinbpiaaGreatDoor
