/- What board.Render is made of: views that may be, the meter, package mix, what is looked at first, how tones are laid. -/
import Derived.Test.YtfajckkbinbpiaaGreatDoorJ07
import Derived.Test.YtfajckkbinbpiaaGreatDoorJ16
import Derived.Test.YtfajckkbinbpiaaGreatDoorJ25
namespace Go.Proofs.YtfajckkbinbpiaaGreatDoor
set_option maxRecDepth 100000
set_option maxHeartbeats 32000000
set_option linter.unusedVariables false
set_option linter.unusedSimpArgs false
open Go.RowKit
def covC2 (acc : List (Int × Int)) : List Value := acc.flatMap fun c => [.int .i64 c.1, .int .i64 c.2]
structure VOk (X Y P W H D k : Int) : Prop where
  x0 : -536870912 ≤ X
  xw : X + W * P ≤ 536870912
  y0 : -536870912 ≤ Y
  yh : Y + H * P ≤ 536870912
  p0 : 1 ≤ P
  p1 : P ≤ 536870912
  w0 : 1 ≤ W
  w1 : W ≤ 256
  h0 : 1 ≤ H
  h1 : H ≤ 256
  d : (D = 0 ∧ k = 1) ∨ (D = 1 ∧ k = 2) ∨ (D = 2 ∧ k = 4) ∨ (D = 3 ∧ k = 8)
  m : P % k = 0
theorem mul_bounds {a b A B : Int} (h0 : 0 ≤ a) (h1 : a ≤ A) (g0 : 0 ≤ b) (g1 : b ≤ B) : 0 ≤ a * b ∧ a * b ≤ A * B := ⟨Int.mul_nonneg h0 g0, Int.mul_le_mul h1 g1 g0 (by omega)⟩
theorem viewok_g (X Y P W H D k : Int) (w : World) (hv : VOk X Y P W H D k) :
    Calls Tryz.prog 51 #[.agg #[.int .i64 X, .int .i64 Y, .int .i64 P, .int .i64 W, .int .i64 H, .int .i64 D]] w fun e w' => e = .returned (.bool true) ∧ Below w.heap.size w w' := by
  obtain ⟨x0, xw, y0, yh, p0, p1, w0, w1, h0, h1, d, m⟩ := hv
  have bW := mul_bounds (by omega) w1 (by omega) p1 (a := W) (b := P)
  have bH := mul_bounds (by omega) h1 (by omega) p1 (a := H) (b := P)
  obtain ⟨A, eA⟩ : ∃ A, W * P = A := ⟨_, rfl⟩
  obtain ⟨B, eB⟩ : ∃ A, H * P = A := ⟨_, rfl⟩
  rw [eA] at bW xw
  rw [eB] at bH yh
  obtain ⟨a0, a1⟩ := bW
  obtain ⟨b0, b1⟩ := bH
  have sA : IntKind.i64.wrap (W * P) = A := by rw [eA]; exact IntWalk.i64_in _ (by omega)
  have sB : IntKind.i64.wrap (H * P) = B := by rw [eB]; exact IntWalk.i64_in _ (by omega)
  have hXX : X ≤ 536870912 := by omega
  have hYY : Y ≤ 536870912 := by omega
  have d1 : decide (P < 1) = false := by simp; omega
  have d2 : decide (536870912 < P) = false := by simp; omega
  have d4 : decide (W < 1) = false := by simp; omega
  have d5 : decide (H < 1) = false := by simp; omega
  have d6 : decide (256 < W) = false := by simp; omega
  have d7 : decide (256 < H) = false := by simp; omega
  have d8 : decide (X < -536870912) = false := by simp; omega
  have d9 : decide (536870912 < X) = false := by simp; omega
  have d10 : decide (Y < -536870912) = false := by simp; omega
  have d11 : decide (536870912 < Y) = false := by simp; omega
  clear eA eB
  rcases d with ⟨rfl, rfl⟩ | ⟨rfl, rfl⟩ | ⟨rfl, rfl⟩ | ⟨rfl, rfl⟩
  all_goals
    first | (have d3 : (P % 8 != 0) = false := by simp; omega) | (have d3 : (P % 4 != 0) = false := by simp; omega) | (have d3 : (P % 2 != 0) = false := by simp; omega) | (have d3 : (P % 1 != 0) = false := by simp)
    have M := Lib.hid m
    clear m
    go_enter Tryz.func51, Tryz.ntmps51
    go_wp2
    go_quiet (fail)
    go_wp2_with (go_at_call 85; refine (boxok_yes _ _ _ _ _ (by omega) (by omega) (by omega) (by omega) (by omega) (by omega)).mono ?_; rintro e w1 ⟨rfl, hb⟩)
    go_ret
    exact ⟨rfl, (((Below.refl _ _).alloc (Nat.le_refl _) _).trans (below_drewN (Below.refl _ _) _)).trans (hb.mono (by simp))⟩
theorem newMeter_g (n : Int) (w : World) : Calls Tryz.prog 30 #[.int .i64 n] w fun e w' => e = .returned (.pointer (some ⟨w.heap.size, 0, none⟩)) ∧ w' = w.alloc (.cells #[.int .i64 (max 0 (min n 100000000)), .int .i64 0] 133) := by
  go_enter Tryz.func30, Tryz.ntmps30
  go_wp2
  go_ret
  exact ⟨rfl, rfl⟩
namespace Mx
def mixN (D C b W : Int) : Int := b * (D - W) + C * W
def leastOf (D C tl W0 W1 : Int) : Int := min (mixN D C tl W0) (mixN D C tl W1)
def mostOf (D C th W0 W1 : Int) : Int := max (mixN D C th W0) (mixN D C th W1)
def loOf (D C tl W0 W1 : Int) : Int := leastOf D C tl W0 W1 / D
def hiOf (D C th W0 W1 : Int) : Int := (mostOf D C th W0 W1 + D - 1) / D
theorem mixN_mono (D C b b' W : Int) (h : b ≤ b') (hW : W ≤ D) : mixN D C b W ≤ mixN D C b' W := by
  unfold mixN
  have := Int.mul_le_mul_of_nonneg_right h (show 0 ≤ D - W by omega)
  omega
theorem mixN_nonneg (D C b W : Int) (hb : 0 ≤ b) (hC : 0 ≤ C) (h0 : 0 ≤ W) (h1 : W ≤ D) : 0 ≤ mixN D C b W := by
  unfold mixN
  have a := Int.mul_nonneg hb (show 0 ≤ D - W by omega)
  have b := Int.mul_nonneg hC h0
  omega
theorem mixN_le (D C b W T : Int) (hb : b ≤ T) (hC : C ≤ T) (h0 : 0 ≤ W) (h1 : W ≤ D) : mixN D C b W ≤ T * D := by
  unfold mixN
  have a := Int.mul_le_mul_of_nonneg_right hb (show 0 ≤ D - W by omega)
  have b := Int.mul_le_mul_of_nonneg_right hC h0
  have c : T * (D - W) + T * W = T * D := by rw [← Int.mul_add]; congr 1; omega
  omega
theorem lo_nonneg (D C tl W0 W1 : Int) (d : 1 ≤ D) (ht : 0 ≤ tl) (hC : 0 ≤ C) (h0 : 0 ≤ W0) (h1 : W0 ≤ W1) (h2 : W1 ≤ D) : 0 ≤ loOf D C tl W0 W1 := by
  have a := mixN_nonneg D C tl W0 ht hC h0 (by omega)
  have b := mixN_nonneg D C tl W1 ht hC (by omega) h2
  exact Int.ediv_nonneg (by unfold leastOf; omega) (by omega)
theorem hi_le (D C th W0 W1 T : Int) (d : 1 ≤ D) (ht : th ≤ T) (hC : C ≤ T) (h0 : 0 ≤ W0) (h1 : W0 ≤ W1) (h2 : W1 ≤ D) : hiOf D C th W0 W1 ≤ T := by
  have a := mixN_le D C th W0 T ht hC h0 (by omega)
  have b := mixN_le D C th W1 T ht hC (by omega) h2
  have m : mostOf D C th W0 W1 + D - 1 < (T + 1) * D := by rw [Int.add_mul]; unfold mostOf; omega
  have := Int.ediv_lt_of_lt_mul (show 0 < D by omega) m
  unfold hiOf
  omega
theorem lo_le_hi (D C tl th W0 W1 : Int) (d : 1 ≤ D) (ht : tl ≤ th) (h1 : W0 ≤ W1) (h2 : W1 ≤ D) : loOf D C tl W0 W1 ≤ hiOf D C th W0 W1 := by
  have a := mixN_mono D C tl th W0 ht (by omega)
  exact Int.ediv_le_ediv (by omega) (by unfold leastOf mostOf; omega)
theorem okcov_yes (lo hi n : Int) (h0 : 1 ≤ n) (h1 : n ≤ 4096) (h2 : 0 ≤ lo) (h3 : lo ≤ hi) (h4 : hi ≤ n) (w : World) :
    Calls Tryz.prog 58 #[.agg #[.int .i64 lo, .int .i64 hi], .int .i64 n] w fun e w' => e = .returned (.bool true) ∧ Below w.heap.size w w' := by
  go_enter Tryz.func58, Tryz.ntmps58
  go_wp2
  go_ret
  exact ⟨rfl, by go_grown⟩
theorem oktone_yes (lo hi : Int) (h2 : 0 ≤ lo) (h3 : lo ≤ hi) (h4 : hi ≤ 16711680) (w : World) :
    Calls Tryz.prog 59 #[.agg #[.int .i64 lo, .int .i64 hi]] w fun e w' => e = .returned (.bool true) ∧ Below w.heap.size w w' := by
  go_enter Tryz.func59, Tryz.ntmps59
  go_wp2
  go_ret
  exact ⟨rfl, by go_grown⟩
def OverIs (m M D : Int) (w : World) (e : Ending) (w' : World) : Prop := e = .returned (.tuple #[.agg #[.int .i64 (m / D), .int .i64 ((M + D - 1) / D)], .bool true]) ∧ Below w.heap.size w w'
theorem overIs_mk {m M D x y : Int} {w w' : World} (hx : x = m) (hy : y = M) (hb : Below w.heap.size w w') : OverIs m M D w (.returned (.tuple #[.agg #[.int .i64 (x / D), .int .i64 ((y + D - 1) / D)], .bool true])) w' := by
  subst hx hy; exact ⟨rfl, hb⟩
theorem leaf {w w2 : World} {X Y D m M : Int} (tm : Array Value) (h10 : tm.getD 10 undef = .pointer (some ⟨w.heap.size + 1 + 1, 0, none⟩)) (h11 : tm.getD 11 undef = .bool true)
    (c : ∀ i, w2.cell? ⟨w.heap.size + 1 + 1, i, none⟩ = (#[.int .i64 0, .int .i64 0] : Array Value)[i]?) (hB : Below w.heap.size w w2) (hx : X = m) (hy : Y = M) :
    bodyPost Tryz.prog Tryz.f32 (OverIs m M D w) Exit.ret { tmps := tm, defers := [] }
      ((w2.setCell ⟨w.heap.size + 1 + 1, 0, none⟩ (.int .i64 (X / D))).setCell ⟨w.heap.size + 1 + 1, 1, none⟩ (.int .i64 ((Y + D - 1) / D))).drew := by
  refine bodyPost_ret (v := .tuple #[.agg #[.int .i64 (X / D), .int .i64 ((Y + D - 1) / D)], .bool true]) ?_ rfl (overIs_mk hx hy ?_)
  · have g10 : tm[10]?.getD undef = .pointer (some ⟨w.heap.size + 1 + 1, 0, none⟩) := by simpa using h10
    have g11 : tm[11]?.getD undef = .bool true := by simpa using h11
    simp [results, Tryz.results32, go_sem, c, g10, g11]
  · exact blw
theorem over_core (tl th c al vl vh n D C6 W0 W1 A1 A2 A3 A4 B0 B1 : Int) (t0 : 0 ≤ tl) (t1 : tl ≤ th) (t2 : th ≤ 16711680) (c0 : 0 ≤ c) (c1 : c ≤ 255) (a0 : 0 ≤ al) (a1 : al ≤ 255) (n0 : 1 ≤ n) (n1 : n ≤ 4096)
    (v0 : 0 ≤ vl) (v1 : vl ≤ vh) (v2 : vh ≤ n) (eD : 255 * n = D) (eC : 65536 * c = C6) (eW0 : al * vl = W0) (eW1 : al * vh = W1) (e1 : tl * (D - W0) = A1) (e2 : th * (D - W0) = A2) (e3 : tl * (D - W1) = A3) (e4 : th * (D - W1) = A4)
    (e5 : C6 * W0 = B0) (e6 : C6 * W1 = B1) (b0 : 0 ≤ W0) (b1 : W0 ≤ W1) (b2 : W1 ≤ D) (f1 : 0 ≤ A1) (f2 : A1 ≤ 17592186044416) (f3 : 0 ≤ A2) (f4 : A2 ≤ 17592186044416) (f5 : 0 ≤ A3) (f6 : A3 ≤ 17592186044416) (f7 : 0 ≤ A4) (f8 : A4 ≤ 17592186044416)
    (o1 : A1 ≤ A2) (o2 : A3 ≤ A4) (g0 : 0 ≤ B0) (g1 : B0 ≤ 17592186044416) (g2 : 0 ≤ B1) (g3 : B1 ≤ 17592186044416) (w : World) :
    Calls Tryz.prog 32 #[.agg #[.int .i64 tl, .int .i64 th], .int .i64 c, .int .i64 al, .agg #[.int .i64 vl, .int .i64 vh], .int .i64 n] w (OverIs (min (A1 + B0) (A3 + B1)) (max (A2 + B0) (A4 + B1)) D w) := by
  have i0 : ∀ w, (Instr.index 140 (.agg #[.int .i64 vl, .int .i64 vh]) (.int .i64 0)).run Tryz.prog w = .ok (.int .i64 vl) w := fun _ => by kernel_rfl
  have i1 : ∀ w, (Instr.index 140 (.agg #[.int .i64 vl, .int .i64 vh]) (.int .i64 1)).run Tryz.prog w = .ok (.int .i64 vh) w := fun _ => by kernel_rfl
  have i2 : ∀ w, (Instr.index 141 (.agg #[.int .i64 tl, .int .i64 th]) (.int .i64 0)).run Tryz.prog w = .ok (.int .i64 tl) w := fun _ => by kernel_rfl
  have i3 : ∀ w, (Instr.index 141 (.agg #[.int .i64 tl, .int .i64 th]) (.int .i64 1)).run Tryz.prog w = .ok (.int .i64 th) w := fun _ => by kernel_rfl
  go_enter Tryz.func32, Tryz.ntmps32
  go_wp2_with fail
  refine (okcov_yes _ _ _ n0 n1 v0 v1 v2 _).mono ?_
  rintro e w1 ⟨rfl, hb⟩
  have hB1 : Below w.heap.size w w1 := Below.trans (by exact blw) (hb.mono (by first | omega | (simp; done) | (simp; omega)))
  have k1_0 : Blk w1 (w.heap.size) 87 #[.int .i64 tl, .int .i64 th] := Blk.below (by exact bkw) hb (by first | omega | (simp; done) | (simp; omega))
  have k1_1 : Blk w1 (w.heap.size + 1) 75 #[.int .i64 vl, .int .i64 vh] := Blk.below (by exact bkw) hb (by first | omega | (simp; done) | (simp; omega))
  have k1_2 : Blk w1 (w.heap.size + 1 + 1) 87 #[.int .i64 0, .int .i64 0] := Blk.below (by exact bkw) hb (by first | omega | (simp; done) | (simp; omega))
  have c1_0 := k1_0.cell
  have f1_0 := k1_0.frozen
  have l1_0 := k1_0.lt
  have c1_1 := k1_1.cell
  have f1_1 := k1_1.frozen
  have l1_1 := k1_1.lt
  have c1_2 := k1_2.cell
  have f1_2 := k1_2.frozen
  have l1_2 := k1_2.lt
  have l1 := hB1.size
  clear hb
  go_wp2_with fail
  as_aux_lemma =>
    refine (oktone_yes _ _ t0 t1 t2 _).mono ?_
    rintro e w2 ⟨rfl, hb⟩
    have hB2 : Below w.heap.size w w2 := Below.trans (by exact blw) (hb.mono (by first | omega | (simp; done) | (simp; omega)))
    have k2_0 : Blk w2 (w.heap.size) 87 #[.int .i64 tl, .int .i64 th] := Blk.below (by exact bkw) hb (by first | omega | (simp; done) | (simp; omega))
    have k2_1 : Blk w2 (w.heap.size + 1) 75 #[.int .i64 vl, .int .i64 vh] := Blk.below (by exact bkw) hb (by first | omega | (simp; done) | (simp; omega))
    have k2_2 : Blk w2 (w.heap.size + 1 + 1) 87 #[.int .i64 0, .int .i64 0] := Blk.below (by exact bkw) hb (by first | omega | (simp; done) | (simp; omega))
    have c2_0 := k2_0.cell
    have f2_0 := k2_0.frozen
    have l2_0 := k2_0.lt
    have c2_1 := k2_1.cell
    have f2_1 := k2_1.frozen
    have l2_1 := k2_1.lt
    have c2_2 := k2_2.cell
    have f2_2 := k2_2.frozen
    have l2_2 := k2_2.lt
    have l2 := hB2.size
    clear hb k1_0 c1_0 f1_0 l1_0 k1_1 c1_1 f1_1 l1_1 k1_2 c1_2 f1_2 l1_2 hB1 l1
    have c22 : ∀ i, w2.cell? ⟨w.heap.size + 2, i, none⟩ = (#[.int .i64 0, .int .i64 0] : Array Value)[i]? := c2_2
    have D0 : 1 ≤ D := by omega
    have D1 : D ≤ 1044480 := by omega
    go_wp2_with fail
    refine wp_loop_rounds 3 ?_
    rw [rounds_succ]
    go_wp2_with fail
    refine wp_loop_rounds 3 ?_
    rw [rounds_succ]
    go_wp2_with fail
    rw [rounds_succ]
    go_wp2_with fail
    all_goals as_aux_lemma =>
      rw [rounds_succ]
      go_wp2_with fail
      rw [rounds_succ]
      go_wp2_with fail
      refine wp_loop_rounds 3 ?_
      rw [rounds_succ]
      go_wp2_with fail
      all_goals as_aux_lemma =>
        rw [rounds_succ]
        go_wp2_with fail
        all_goals as_aux_lemma =>
          rw [rounds_succ]
          go_wp2_with fail
          rw [rounds_succ]
          go_wp2_with fail
          go_region
          all_goals
            go_wp2
            exact leaf _ rfl rfl c2_2 hB2 (by omega) (by omega)
def clamp (c : Int) : Int := if c < 0 then 0 else if 255 < c then 255 else c
theorem clamp_in (c : Int) (h0 : 0 ≤ c) (h1 : c ≤ 255) : clamp c = c := by unfold clamp; rw [if_neg (by omega), if_neg (by omega)]
theorem start (c : Int) (w : World) : Calls Tryz.prog 28 #[.int .i64 c] w fun e w' => e = .returned (.agg #[.int .i64 (65536 * clamp c), .int .i64 (65536 * clamp c)]) ∧ Below w.heap.size w w' := by
  by_cases h : c < 0
  · rw [show clamp c = 0 by unfold clamp; rw [if_pos h]]
    go_enter Tryz.func28, Tryz.ntmps28
    go_wp2
    all_goals exact bodyPost_ret (v := .agg #[.int .i64 (65536 * 0), .int .i64 (65536 * 0)]) (by simp [results, Tryz.results28, go_sem] <;> omega) rfl ⟨rfl, by go_grown⟩
  · by_cases h1 : 255 < c
    · rw [show clamp c = 255 by unfold clamp; rw [if_neg h, if_pos h1]]
      go_enter Tryz.func28, Tryz.ntmps28
      go_wp2
      all_goals exact bodyPost_ret (v := .agg #[.int .i64 (65536 * 255), .int .i64 (65536 * 255)]) (by simp [results, Tryz.results28, go_sem] <;> omega) rfl ⟨rfl, by go_grown⟩
    · rw [clamp_in c (by omega) (by omega)]
      by_cases h2 : c = 255
      · subst h2
        go_enter Tryz.func28, Tryz.ntmps28
        go_wp2
        all_goals exact bodyPost_ret (v := .agg #[.int .i64 (65536 * 255), .int .i64 (65536 * 255)]) (by simp [results, Tryz.results28, go_sem] <;> omega) rfl ⟨rfl, by go_grown⟩
      · by_cases h3 : c = 0
        · subst h3
          go_enter Tryz.func28, Tryz.ntmps28
          go_wp2
          all_goals exact bodyPost_ret (v := .agg #[.int .i64 (65536 * 0), .int .i64 (65536 * 0)]) (by simp [results, Tryz.results28, go_sem] <;> omega) rfl ⟨rfl, by go_grown⟩
        · have h4 : 0 < c := by omega
          have h5 : c < 255 := by omega
          go_enter Tryz.func28, Tryz.ntmps28
          go_wp2
          all_goals exact bodyPost_ret (v := .agg #[.int .i64 (65536 * c), .int .i64 (65536 * c)]) (by simp [results, Tryz.results28, go_sem] <;> omega) rfl ⟨rfl, by go_grown⟩
def byteOf (lo hi : Int) : Int := (lo + hi + 65536) / 131072
theorem byte_yes (lo hi : Int) (h2 : 0 ≤ lo) (h3 : lo ≤ hi) (h4 : hi ≤ 16711680) (w : World) :
    Calls Tryz.prog 33 #[.agg #[.int .i64 lo, .int .i64 hi]] w fun e w' => e = .returned (.int .u8 (byteOf lo hi)) ∧ Below w.heap.size w w' := by
  obtain ⟨g, eg⟩ : ∃ g, (lo + hi + 65536) / 131072 = g := ⟨_, rfl⟩
  have g0 : 0 ≤ g := by omega
  have g1 : g ≤ 255 := by omega
  rw [show byteOf lo hi = g from eg]
  go_enter Tryz.func33, Tryz.ntmps33
  go_wp2_with fail
  refine (oktone_yes _ _ h2 h3 h4 _).mono ?_
  rintro e w1 ⟨rfl, hb⟩
  have hB1 : Below w.heap.size w w1 := Below.trans (by go_grown) (hb.mono (by simp))
  have k0 : Blk w1 w.heap.size 87 #[.int .i64 lo, .int .i64 hi] := Blk.below (Blk.new _ _ _) hb (by simp)
  have c0 := k0.cell
  clear hb
  go_wp2_with fail
  go_ret
  exact ⟨rfl, hB1⟩
theorem over (tl th c al vl vh n : Int) (t0 : 0 ≤ tl) (t1 : tl ≤ th) (t2 : th ≤ 16711680) (c0 : 0 ≤ c) (c1 : c ≤ 255) (a0 : 0 ≤ al) (a1 : al ≤ 255) (n0 : 1 ≤ n) (n1 : n ≤ 4096) (v0 : 0 ≤ vl) (v1 : vl ≤ vh) (v2 : vh ≤ n) (w : World) :
    Calls Tryz.prog 32 #[.agg #[.int .i64 tl, .int .i64 th], .int .i64 c, .int .i64 al, .agg #[.int .i64 vl, .int .i64 vh], .int .i64 n] w fun e w' =>
      e = .returned (.tuple #[.agg #[.int .i64 (loOf (255 * n) (65536 * c) tl (al * vl) (al * vh)), .int .i64 (hiOf (255 * n) (65536 * c) th (al * vl) (al * vh))], .bool true]) ∧ Below w.heap.size w w' := by
  have w0 := Int.mul_nonneg a0 v0
  have w1 : al * vl ≤ al * vh := Int.mul_le_mul_of_nonneg_left v1 a0
  have w2 : al * vh ≤ 255 * n := Int.mul_le_mul a1 v2 (by omega) (by omega)
  have bA : ∀ b W : Int, 0 ≤ b → b ≤ 16711680 → 0 ≤ W → W ≤ 255 * n → 0 ≤ b * (255 * n - W) ∧ b * (255 * n - W) ≤ 17592186044416 := by
    intro b W hb0 hb1 hW0 hW1
    have h1 := Int.mul_nonneg hb0 (show 0 ≤ 255 * n - W by omega)
    have h2 : b * (255 * n - W) ≤ 16711680 * 1044480 := Int.mul_le_mul hb1 (by omega) (by omega) (by omega)
    omega
  have bB : ∀ W : Int, 0 ≤ W → W ≤ 255 * n → 0 ≤ 65536 * c * W ∧ 65536 * c * W ≤ 17592186044416 := by
    intro W hW0 hW1
    have h1 := Int.mul_nonneg (show 0 ≤ 65536 * c by omega) hW0
    have h2 : 65536 * c * W ≤ 16711680 * 1044480 := Int.mul_le_mul (by omega) (by omega) (by omega) (by omega)
    omega
  have o1 : tl * (255 * n - al * vl) ≤ th * (255 * n - al * vl) := Int.mul_le_mul_of_nonneg_right t1 (by omega)
  have o2 : tl * (255 * n - al * vh) ≤ th * (255 * n - al * vh) := Int.mul_le_mul_of_nonneg_right t1 (by omega)
  obtain ⟨f1, f2⟩ := bA tl (al * vl) t0 (by omega) w0 (by omega)
  obtain ⟨f3, f4⟩ := bA th (al * vl) (by omega) t2 w0 (by omega)
  obtain ⟨f5, f6⟩ := bA tl (al * vh) t0 (by omega) (by omega) w2
  obtain ⟨f7, f8⟩ := bA th (al * vh) (by omega) t2 (by omega) w2
  obtain ⟨g0, g1⟩ := bB (al * vl) w0 (by omega)
  obtain ⟨g2, g3⟩ := bB (al * vh) (by omega) w2
  have h := over_core tl th c al vl vh n (255 * n) (65536 * c) (al * vl) (al * vh) _ _ _ _ _ _ t0 t1 t2 c0 c1 a0 a1 n0 n1 v0 v1 v2 rfl rfl rfl rfl rfl rfl rfl rfl rfl rfl w0 w1 w2 f1 f2 f3 f4 f5 f6 f7 f8 o1 o2 g0 g1 g2 g3 w
  exact h
end Mx
def IsB (c : Int) : Prop := 0 ≤ c ∧ c ≤ 255
theorem valid_g (X Y P k : Int) (W H n : Nat) (g : Nat) (k0 k1 k2 ob st : Int) (cr cg cb al : Int) (T : ByteArray) (w : World) (hv : VOk X Y P W H n k) (q0 : IsB k0) (q1 : IsB k1) (q2 : IsB k2) (q3 : IsB cr) (q4 : IsB cg) (q5 : IsB cb) (q6 : IsB al) (hL : Blk w g 34 #[.string T, .int .i64 cr, .int .i64 cg, .int .i64 cb, .int .i64 al, .bool false]) :
    Calls Tryz.prog 26 #[.agg #[.int .i64 X, .int .i64 Y, .int .i64 P, .int .i64 (W : Int), .int .i64 (H : Int), .int .i64 (n : Int), .slice (some ⟨g, 0, none⟩) 1 1, .slice none 0 0, .int .i64 k0, .int .i64 k1, .int .i64 k2, .int .i64 ob, .int .i64 st]] w fun e w' => e = .returned (.bool true) ∧ Below w.heap.size w w' := by
  have HL := Lib.hid hL
  have lg := hL.lt
  have n1 := fun w => viewok_g X Y P W H n k w hv
  have C1 := Lib.hid n1
  unfold IsB at q0 q1 q2 q3 q4 q5 q6
  clear hL n1 hv
  have hb1 := Lib.hid isByte_c
  go_enter Tryz.func26, Tryz.ntmps26
  go_wp2_with fail
  refine (C1.out _).mono ?_
  rintro e w1 ⟨rfl, hb⟩
  have hB1 : Below w.heap.size w w1 := Below.trans (by exact blw) (hb.mono (by first | omega | (simp; done) | (simp; omega)))
  have k1_0 : Blk w1 (w.heap.size) 31 #[.int .i64 X, .int .i64 Y, .int .i64 P, .int .i64 (W : Int), .int .i64 (H : Int), .int .i64 (n : Int), .slice (some ⟨g, 0, none⟩) 1 1, .slice none 0 0, .int .i64 k0, .int .i64 k1, .int .i64 k2, .int .i64 ob, .int .i64 st] := Blk.below (by exact bkw) hb (by first | omega | (simp; done) | (simp; omega))
  have c1_0 := k1_0.cell
  have f1_0 := k1_0.frozen
  have l1_0 := k1_0.lt
  have l1 := hB1.size
  clear hb
  have kL := HL.out.below hB1 lg
  have cL := kL.cell
  have lL := kL.lt
  have KJ := Lib.hid k1_0
  clear kL k1_0
  go_wp2_with fail
  refine wp_loop_rounds 2 ?_
  rw [rounds_succ]
  go_wp2_with (go_at_call 52; (with_reducible refine (hb1.out _ _ (by omega) (by omega)).mono ?_); rintro e' w' ⟨rfl, rfl⟩)
  rw [rounds_succ]
  go_wp2_with (go_at_call 52; (with_reducible refine (hb1.out _ _ (by omega) (by omega)).mono ?_); rintro e' w' ⟨rfl, rfl⟩)
  go_ret
  exact ⟨rfl, by exact blw⟩
theorem drilled_g (X Y P k : Int) (W H n : Nat) (g : Nat) (k0 k1 k2 ob st : Int) (w : World) : Calls Tryz.prog 27 #[.agg #[.int .i64 X, .int .i64 Y, .int .i64 P, .int .i64 (W : Int), .int .i64 (H : Int), .int .i64 (n : Int), .slice (some ⟨g, 0, none⟩) 1 1, .slice none 0 0, .int .i64 k0, .int .i64 k1, .int .i64 k2, .int .i64 ob, .int .i64 st]] w fun e w' => e = .returned (.tuple #[.slice none 0 0, .agg #[.int .i64 0, .int .i64 0, .int .i64 0, .int .i64 0]]) ∧ Below w.heap.size w w' := by
  go_enter Tryz.func27, Tryz.ntmps27
  go_wp2_with fail
  refine wp_loop_rounds 1 ?_
  rw [rounds_succ]
  go_wp2_with fail
  exact bodyPost_ret (v := .tuple #[.slice none 0 0, .agg #[.int .i64 0, .int .i64 0, .int .i64 0, .int .i64 0]]) (by simp [results, Tryz.results27, go_sem]) rfl ⟨rfl, by exact blw⟩
theorem cells_0 (X Y P k : Int) (W H : Nat) (w : World) (hv : VOk X Y P W H ((0 : Nat) : Int) k) : Calls Tryz.prog 29 #[.agg #[.int .i64 X, .int .i64 Y, .int .i64 P, .int .i64 (W : Int), .int .i64 (H : Int), .int .i64 ((0 : Nat) : Int)]] w fun e w' => e = .returned (.int .i64 1) ∧ Below w.heap.size w w' := by
  have n1 := fun w => viewok_g X Y P W H ((0 : Nat) : Int) k w hv
  have C1 := Lib.hid n1
  clear n1 hv
  go_enter Tryz.func29, Tryz.ntmps29
  go_wp2_with fail
  refine (C1.out _).mono ?_
  rintro e w1 ⟨rfl, hb⟩
  have hB1 : Below w.heap.size w w1 := Below.trans (by exact blw) (hb.mono (by first | omega | (simp; done) | (simp; omega)))
  have k1_0 : Blk w1 (w.heap.size) 27 #[.int .i64 X, .int .i64 Y, .int .i64 P, .int .i64 (W : Int), .int .i64 (H : Int), .int .i64 ((0 : Nat) : Int)] := Blk.below (by exact bkw) hb (by first | omega | (simp; done) | (simp; omega))
  have c1_0 := k1_0.cell
  have f1_0 := k1_0.frozen
  have l1_0 := k1_0.lt
  have l1 := hB1.size
  clear hb
  go_wp2_with fail
  go_ret
  exact ⟨rfl, hB1⟩
theorem cells_1 (X Y P k : Int) (W H : Nat) (w : World) (hv : VOk X Y P W H ((1 : Nat) : Int) k) : Calls Tryz.prog 29 #[.agg #[.int .i64 X, .int .i64 Y, .int .i64 P, .int .i64 (W : Int), .int .i64 (H : Int), .int .i64 ((1 : Nat) : Int)]] w fun e w' => e = .returned (.int .i64 4) ∧ Below w.heap.size w w' := by
  have n1 := fun w => viewok_g X Y P W H ((1 : Nat) : Int) k w hv
  have C1 := Lib.hid n1
  clear n1 hv
  go_enter Tryz.func29, Tryz.ntmps29
  go_wp2_with fail
  refine (C1.out _).mono ?_
  rintro e w1 ⟨rfl, hb⟩
  have hB1 : Below w.heap.size w w1 := Below.trans (by exact blw) (hb.mono (by first | omega | (simp; done) | (simp; omega)))
  have k1_0 : Blk w1 (w.heap.size) 27 #[.int .i64 X, .int .i64 Y, .int .i64 P, .int .i64 (W : Int), .int .i64 (H : Int), .int .i64 ((1 : Nat) : Int)] := Blk.below (by exact bkw) hb (by first | omega | (simp; done) | (simp; omega))
  have c1_0 := k1_0.cell
  have f1_0 := k1_0.frozen
  have l1_0 := k1_0.lt
  have l1 := hB1.size
  clear hb
  go_wp2_with fail
  go_ret
  exact ⟨rfl, hB1⟩
theorem cells_2 (X Y P k : Int) (W H : Nat) (w : World) (hv : VOk X Y P W H ((2 : Nat) : Int) k) : Calls Tryz.prog 29 #[.agg #[.int .i64 X, .int .i64 Y, .int .i64 P, .int .i64 (W : Int), .int .i64 (H : Int), .int .i64 ((2 : Nat) : Int)]] w fun e w' => e = .returned (.int .i64 16) ∧ Below w.heap.size w w' := by
  have n1 := fun w => viewok_g X Y P W H ((2 : Nat) : Int) k w hv
  have C1 := Lib.hid n1
  clear n1 hv
  go_enter Tryz.func29, Tryz.ntmps29
  go_wp2_with fail
  refine (C1.out _).mono ?_
  rintro e w1 ⟨rfl, hb⟩
  have hB1 : Below w.heap.size w w1 := Below.trans (by exact blw) (hb.mono (by first | omega | (simp; done) | (simp; omega)))
  have k1_0 : Blk w1 (w.heap.size) 27 #[.int .i64 X, .int .i64 Y, .int .i64 P, .int .i64 (W : Int), .int .i64 (H : Int), .int .i64 ((2 : Nat) : Int)] := Blk.below (by exact bkw) hb (by first | omega | (simp; done) | (simp; omega))
  have c1_0 := k1_0.cell
  have f1_0 := k1_0.frozen
  have l1_0 := k1_0.lt
  have l1 := hB1.size
  clear hb
  go_wp2_with fail
  go_ret
  exact ⟨rfl, hB1⟩
theorem cells_3 (X Y P k : Int) (W H : Nat) (w : World) (hv : VOk X Y P W H ((3 : Nat) : Int) k) : Calls Tryz.prog 29 #[.agg #[.int .i64 X, .int .i64 Y, .int .i64 P, .int .i64 (W : Int), .int .i64 (H : Int), .int .i64 ((3 : Nat) : Int)]] w fun e w' => e = .returned (.int .i64 64) ∧ Below w.heap.size w w' := by
  have n1 := fun w => viewok_g X Y P W H ((3 : Nat) : Int) k w hv
  have C1 := Lib.hid n1
  clear n1 hv
  go_enter Tryz.func29, Tryz.ntmps29
  go_wp2_with fail
  refine (C1.out _).mono ?_
  rintro e w1 ⟨rfl, hb⟩
  have hB1 : Below w.heap.size w w1 := Below.trans (by exact blw) (hb.mono (by first | omega | (simp; done) | (simp; omega)))
  have k1_0 : Blk w1 (w.heap.size) 27 #[.int .i64 X, .int .i64 Y, .int .i64 P, .int .i64 (W : Int), .int .i64 (H : Int), .int .i64 ((3 : Nat) : Int)] := Blk.below (by exact bkw) hb (by first | omega | (simp; done) | (simp; omega))
  have c1_0 := k1_0.cell
  have f1_0 := k1_0.frozen
  have l1_0 := k1_0.lt
  have l1 := hB1.size
  clear hb
  go_wp2_with fail
  go_ret
  exact ⟨rfl, hB1⟩
theorem cells_g (X Y P k : Int) (W H n : Nat) (w : World) (hv : VOk X Y P W H n k) : Calls Tryz.prog 29 #[.agg #[.int .i64 X, .int .i64 Y, .int .i64 P, .int .i64 (W : Int), .int .i64 (H : Int), .int .i64 (n : Int)]] w fun e w' => e = .returned (.int .i64 ((4 ^ n : Nat) : Int)) ∧ Below w.heap.size w w' := by
  rcases hv.d with ⟨h, rfl⟩ | ⟨h, rfl⟩ | ⟨h, rfl⟩ | ⟨h, rfl⟩
  · obtain rfl : n = 0 := by omega
    exact cells_0 X Y P 1 W H w hv
  · obtain rfl : n = 1 := by omega
    exact cells_1 X Y P 2 W H w hv
  · obtain rfl : n = 2 := by omega
    exact cells_2 X Y P 4 W H w hv
  · obtain rfl : n = 3 := by omega
    exact cells_3 X Y P 8 W H w hv
def kk (a b c : Int) : Nat → Int
  | 0 => a
  | 1 => b
  | _ => c
theorem kk_idx (a b c : Int) (j : Nat) (hj : j < 3) (w : World) : (Instr.index 29 (.agg #[.int .i64 a, .int .i64 b, .int .i64 c]) (.int .i64 (j : Int))).run Tryz.prog w = .ok (.int .i64 (kk a b c j)) w := by
  rcases (show j = 0 ∨ j = 1 ∨ j = 2 by omega) with rfl | rfl | rfl <;> kernel_rfl
theorem kk_byte {a b c : Int} (h0 : IsB a) (h1 : IsB b) (h2 : IsB c) (j : Nat) : IsB (kk a b c j) := by
  unfold kk; split <;> assumption
def basT (a b c : Int) (i : Nat) : Int × Int := (65536 * kk a b c (i % 3), 65536 * kk a b c (i % 3))
def ovT (a b c cr cg cb al C : Int) (cs : List (Int × Int)) (i : Nat) : Int × Int :=
  (Mx.loOf (255 * C) (65536 * kk cr cg cb (i % 3)) (basT a b c i).1 (al * (cs.getD (i / 3) (0, 0)).1) (al * (cs.getD (i / 3) (0, 0)).2),
   Mx.hiOf (255 * C) (65536 * kk cr cg cb (i % 3)) (basT a b c i).2 (al * (cs.getD (i / 3) (0, 0)).1) (al * (cs.getD (i / 3) (0, 0)).2))
def basL (f : Nat → Int × Int) (m : Nat) : List (Int × Int) := (List.range m).map f
def tst (o b : Nat → Int × Int) (N m : Nat) : List (Int × Int) := (List.range N).map fun i => if i < m then o i else b i
def pixB (o : Nat → Int × Int) (m : Nat) : List Value := (List.range m).map fun i => .int .u8 (Mx.byteOf (o i).1 (o i).2)
theorem basL_len (f : Nat → Int × Int) (m : Nat) : (basL f m).length = m := by simp [basL]
theorem basL_succ (f : Nat → Int × Int) (m : Nat) : basL f (m + 1) = basL f m ++ [f m] := by simp [basL, List.range_succ]
theorem pixB_succ (f : Nat → Int × Int) (m : Nat) : pixB f (m + 1) = pixB f m ++ [.int .u8 (Mx.byteOf (f m).1 (f m).2)] := by simp [pixB, List.range_succ]
theorem tst_len (o b : Nat → Int × Int) (N m : Nat) : (tst o b N m).length = N := by simp [tst]
theorem tst_zero (o b : Nat → Int × Int) (N : Nat) : tst o b N 0 = basL b N := by simp [tst, basL]
theorem tst_all (o b : Nat → Int × Int) (N : Nat) : tst o b N N = basL o N := by
  unfold tst basL
  apply List.map_congr_left
  intro i hi
  rw [List.mem_range] at hi
  rw [if_pos hi]
theorem tst_get (o b : Nat → Int × Int) (N m : Nat) (h : m < N) : (tst o b N m)[m]'(by rw [tst_len]; exact h) = b m := by simp [tst]
theorem basL_get (f : Nat → Int × Int) (N m : Nat) (h : m < N) : (basL f N)[m]'(by rw [basL_len]; exact h) = f m := by simp [basL]
theorem tst_set (o b : Nat → Int × Int) (N m : Nat) : (tst o b N m).set m (o m) = tst o b N (m + 1) := by
  apply List.ext_getElem
  · simp [tst]
  · intro i h1 h2
    rw [List.getElem_set]
    simp only [tst, List.getElem_map, List.getElem_range]
    by_cases h : m = i
    · subst h
      rw [if_pos rfl, if_pos (by omega)]
    · rw [if_neg h]
      by_cases h3 : i < m
      · rw [if_pos h3, if_pos (by omega)]
      · rw [if_neg h3, if_neg (by omega)]
theorem covC2_cons (c : Int × Int) (l : List (Int × Int)) : covC2 (c :: l) = .int .i64 c.1 :: .int .i64 c.2 :: covC2 l := by simp [covC2]
theorem covC2_set (a b : Int) : ∀ (l : List (Int × Int)) (m : Nat), m < l.length → setAt (covC2 l) (m * 2) [.int .i64 a, .int .i64 b] = covC2 (l.set m (a, b))
  | [], _, h => by simp at h
  | c :: l, 0, _ => by rw [List.set_cons_zero, covC2_cons, covC2_cons]; rfl
  | c :: l, m + 1, h => by
    have ih := covC2_set a b l m (by simpa using h)
    rw [List.set_cons_succ, covC2_cons, covC2_cons, ← ih, show (m + 1) * 2 = m * 2 + 1 + 1 by omega]
    rfl
theorem covC2_at : ∀ (l : List (Int × Int)) (m : Nat) (h : m < l.length), (covC2 l)[m * 2]? = some (.int .i64 (l[m]).1) ∧ (covC2 l)[m * 2 + 1]? = some (.int .i64 (l[m]).2)
  | [], _, h => by simp at h
  | c :: l, 0, _ => by rw [covC2_cons]; exact ⟨rfl, rfl⟩
  | c :: l, m + 1, h => by
    have ih := covC2_at l m (by simpa using h)
    rw [covC2_cons, show (m + 1) * 2 = m * 2 + 1 + 1 by omega]
    exact ih
structure BIn (w : World) (g : Nat) (J L : Array Value) (n : Nat) (acc : List (Int × Int)) (gt ct : Nat) (W : World) : Prop where
  kj : Blk W w.heap.size 31 J
  ki : Blk W (w.heap.size + 1) 37 #[.int .i64 0, .int .i64 0, .bool false, .slice none 0 0]
  kf : Blk W (w.heap.size + 1 + 1) 40 #[.int .i64 0, .int .i64 0, .int .i64 0, .int .i64 0]
  kl : Blk W g 34 L
  ot : W.ownsRow w.heap.size 87 2 (.slice (some ⟨gt, 0, none⟩) n ct) n (covC2 acc)
  om : Below w.heap.size w W
section
variable {w W W' : World} {g gt ct n : Nat} {J L : Array Value} {acc : List (Int × Int)}
theorem BIn.below (h : BIn w g J L n acc gt ct W) (hb : Below W.heap.size W W') : BIn w g J L n acc gt ct W' := ⟨h.kj.below hb h.kj.lt, h.ki.below hb h.ki.lt, h.kf.below hb h.kf.lt, h.kl.below hb h.kl.lt, own_below h.ot hb (Nat.le_refl _), h.om.trans (hb.mono h.om.size)⟩
theorem BIn.alloc (h : BIn w g J L n acc gt ct W) (x : Obj) : BIn w g J L n acc gt ct (W.alloc x) := h.below ((Below.refl _ _).alloc (Nat.le_refl _) x)
theorem BIn.drew (h : BIn w g J L n acc gt ct W) : BIn w g J L n acc gt ct W.drew := h.below (Below.refl _ _).drew
theorem BIn.gt_lt (h : BIn w g J L n acc gt ct W) : gt < W.heap.size := own_lt h.ot rfl
theorem BIn.meter (h : BIn w g J L n acc gt ct W) {M : Nat} {mc : Array Value} (km : Blk W M 133 mc) (hM : w.heap.size ≤ M) (ho : Only [M] W W') : BIn w g J L n acc gt ct W' :=
  ⟨ho.blk h.kj (by simpa using h.kj.ne_ km (by decide)), ho.blk h.ki (by simpa using h.ki.ne_ km (by decide)), ho.blk h.kf (by simpa using h.kf.ne_ km (by decide)), ho.blk h.kl (by simpa using h.kl.ne_ km (by decide)), ho.own h.ot (fun b hb hm => by simp at hm; subst hm; exact own_blk_ne h.ot km (by decide) hb), h.om.trans (ho.toBelow h.om.size (by simpa using hM))⟩
theorem BIn.grown {n' ct' gt' : Nat} {row : Option Nat} {acc' : List (Int × Int)} (h : BIn w g J L n acc gt ct W) (hg : W.grownBy W' row) (hr : row = some gt) (ht : W'.ownsRow w.heap.size 87 2 (.slice (some ⟨gt', 0, none⟩) n' ct') n' (covC2 acc')) : BIn w g J L n' acc' gt' ct' W' := by
  subst hr
  exact ⟨h.kj.grown hg (fun e => own_blk_ne h.ot h.kj (by decide) e.symm), h.ki.grown hg (fun e => own_blk_ne h.ot h.ki (by decide) e.symm), h.kf.grown hg (fun e => own_blk_ne h.ot h.kf (by decide) e.symm), h.kl.grown hg (fun e => own_blk_ne h.ot h.kl (by decide) e.symm), ht, Below.grown h.om hg h.om.size (fun b hb => own_ge h.ot (by rw [← hb]; rfl))⟩
theorem BIn.grown2 {e2 s2 n2 : Nat} {v2 : Value} {x2 : List Value} (h : BIn w g J L n acc gt ct W) (o2 : W.ownsRow w.heap.size e2 s2 v2 n2 x2) (hne : e2 = 5) (hg : W.grownBy W' v2.ownBlock) : BIn w g J L n acc gt ct W' := by
  subst hne
  exact ⟨h.kj.grown hg (fun e => own_blk_ne o2 h.kj (by decide) e.symm), h.ki.grown hg (fun e => own_blk_ne o2 h.ki (by decide) e.symm), h.kf.grown hg (fun e => own_blk_ne o2 h.kf (by decide) e.symm), h.kl.grown hg (fun e => own_blk_ne o2 h.kl (by decide) e.symm), own_same h.ot fun b hb => hg.block b (own_lt h.ot hb) (fun e => own_own_ne2 h.ot o2 (by decide) hb e.symm), Below.grown h.om hg h.om.size (fun b hb => own_ge o2 hb)⟩
end
structure XIn (w : World) (Lb : Nat) (L : Array Value) (n : Nat) (gc cc : Nat) (cs : List (Int × Int)) (W : World) : Prop where
  kL : Blk W Lb 34 L
  oc : W.ownsRow w.heap.size 75 2 (.slice (some ⟨gc, 0, none⟩) n cc) n (covC2 cs)
section
variable {w W W' : World} {Lb gc cc n : Nat} {L : Array Value} {cs : List (Int × Int)}
theorem XIn.below (h : XIn w Lb L n gc cc cs W) (hb : Below W.heap.size W W') : XIn w Lb L n gc cc cs W' := ⟨h.kL.below hb h.kL.lt, own_below h.oc hb (Nat.le_refl _)⟩
theorem XIn.alloc (h : XIn w Lb L n gc cc cs W) (x : Obj) : XIn w Lb L n gc cc cs (W.alloc x) := h.below ((Below.refl _ _).alloc (Nat.le_refl _) x)
theorem XIn.drew (h : XIn w Lb L n gc cc cs W) : XIn w Lb L n gc cc cs W.drew := h.below (Below.refl _ _).drew
theorem XIn.grown {n1 gt ct : Nat} {acc : List (Int × Int)} {row : Option Nat} (h : XIn w Lb L n gc cc cs W) (ht : W.ownsRow w.heap.size 87 2 (.slice (some ⟨gt, 0, none⟩) n1 ct) n1 (covC2 acc)) (hg : W.grownBy W' row) (hr : row = some gt) : XIn w Lb L n gc cc cs W' := by
  subst hr
  exact ⟨h.kL.grown hg (fun e => own_blk_ne ht h.kL (by decide) e.symm), own_same h.oc fun b hb => hg.block b (own_lt h.oc hb) (fun e => own_own_ne2 h.oc ht (by decide) hb e.symm)⟩
end
end Go.Proofs.YtfajckkbinbpiaaGreatDoor
