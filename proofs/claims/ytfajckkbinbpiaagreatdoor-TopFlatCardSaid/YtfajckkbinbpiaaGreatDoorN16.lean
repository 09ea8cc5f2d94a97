/- Walks: boxes and points, any (2). Walks: the class of a box in a disc. -/
import Derived.Test.YtfajckkbinbpiaaGreatDoorN03
import Derived.Test.YtfajckkbinbpiaaGreatDoorN15
namespace Go.Proofs.YtfajckkbinbpiaaGreatDoor
set_option maxRecDepth 100000
set_option maxHeartbeats 32000000
set_option linter.unusedVariables false
set_option linter.unusedSimpArgs false
open Go.RowKit
theorem mul_range {u v M N : Int} (h0 : -M ≤ u) (h1 : u ≤ M) (g0 : -N ≤ v) (g1 : v ≤ N) : -(M * N) ≤ u * v ∧ u * v ≤ M * N := by
  have a1 : 0 ≤ (M - u) * (N - v) := Int.mul_nonneg (by omega) (by omega)
  have a2 : 0 ≤ (M + u) * (N + v) := Int.mul_nonneg (by omega) (by omega)
  have a3 : 0 ≤ (M - u) * (N + v) := Int.mul_nonneg (by omega) (by omega)
  have a4 : 0 ≤ (M + u) * (N - v) := Int.mul_nonneg (by omega) (by omega)
  rw [Int.mul_sub, Int.sub_mul, Int.sub_mul] at a1
  rw [Int.mul_add, Int.add_mul, Int.add_mul] at a2
  rw [Int.mul_add, Int.sub_mul, Int.sub_mul] at a3
  rw [Int.mul_sub, Int.add_mul, Int.add_mul] at a4
  omega
theorem prod_range {u v : Int} (h0 : -1073741824 ≤ u) (h1 : u ≤ 1073741824) (g0 : -1073741824 ≤ v) (g1 : v ≤ 1073741824) : -1152921504606846976 ≤ u * v ∧ u * v ≤ 1152921504606846976 := by
  have := mul_range h0 h1 g0 g1
  omega
theorem cross_range {ax ay ex ey px py : Int} (ax_0 : -536870912 ≤ ax) (ax_1 : ax ≤ 536870912) (ay_0 : -536870912 ≤ ay) (ay_1 : ay ≤ 536870912) (ex_0 : -536870912 ≤ ex) (ex_1 : ex ≤ 536870912) (ey_0 : -536870912 ≤ ey) (ey_1 : ey ≤ 536870912) (px_0 : -536870912 ≤ px) (px_1 : px ≤ 536870912) (py_0 : -536870912 ≤ py) (py_1 : py ≤ 536870912) : -2305843009213693952 ≤ Geo.cross ax ay ex ey px py ∧ Geo.cross ax ay ex ey px py ≤ 2305843009213693952 := by
  have h1 := prod_range (u := ex - ax) (v := py - ay) (by omega) (by omega) (by omega) (by omega)
  have h2 := prod_range (u := ey - ay) (v := px - ax) (by omega) (by omega) (by omega) (by omega)
  unfold Geo.cross
  omega
theorem cross_c (ax ay ex ey px py : Int) (w : World) (ax_0 : -536870912 ≤ ax) (ax_1 : ax ≤ 536870912) (ay_0 : -536870912 ≤ ay) (ay_1 : ay ≤ 536870912) (ex_0 : -536870912 ≤ ex) (ex_1 : ex ≤ 536870912) (ey_0 : -536870912 ≤ ey) (ey_1 : ey ≤ 536870912) (px_0 : -536870912 ≤ px) (px_1 : px ≤ 536870912) (py_0 : -536870912 ≤ py) (py_1 : py ≤ 536870912) :
    Calls Tryz.prog 340 #[.agg #[.int .i64 ax, .int .i64 ay], .agg #[.int .i64 ex, .int .i64 ey], .agg #[.int .i64 px, .int .i64 py]] w fun e w' => e = .returned (.int .i64 (Geo.cross ax ay ex ey px py)) ∧ Below w.heap.size w w' := by
  have h1 := prod_range (u := ex - ax) (v := py - ay) (by omega) (by omega) (by omega) (by omega)
  have h2 := prod_range (u := ey - ay) (v := px - ax) (by omega) (by omega) (by omega) (by omega)
  obtain ⟨P, eP⟩ : ∃ P, (ex - ax) * (py - ay) = P := ⟨_, rfl⟩
  obtain ⟨Q, eQ⟩ : ∃ Q, (ey - ay) * (px - ax) = Q := ⟨_, rfl⟩
  have ev : Geo.cross ax ay ex ey px py = P - Q := by unfold Geo.cross; rw [eP, eQ]
  rw [eP] at h1
  rw [eQ] at h2
  obtain ⟨P0, P1⟩ := h1
  obtain ⟨Q0, Q1⟩ := h2
  have sP : IntKind.i64.wrap ((ex - ax) * (py - ay)) = P := by rw [eP]; exact IntWalk.i64_in _ (by omega)
  have sQ : IntKind.i64.wrap ((ey - ay) * (px - ax)) = Q := by rw [eQ]; exact IntWalk.i64_in _ (by omega)
  rw [ev]
  clear ev eP eQ
  go_enter Tryz.func340, Tryz.ntmps340
  go_wp2
  go_ret
  exact ⟨rfl, by exact blw⟩
theorem corners_c (a b c d : Int) (w : World) :
    Calls Tryz.prog 287 #[.agg #[.int .i64 a, .int .i64 b, .int .i64 c, .int .i64 d]] w fun e w' => e = .returned (.agg #[.int .i64 a, .int .i64 b, .int .i64 c, .int .i64 b, .int .i64 a, .int .i64 d, .int .i64 c, .int .i64 d]) ∧ Below w.heap.size w w' := by
  go_enter Tryz.func287, Tryz.ntmps287
  go_wp2
  refine bodyPost_ret (results_cell_row (t := 236) Tryz.results287 _ _ (w.heap.size + 1) #[.int .i64 a, .int .i64 b, .int .i64 c, .int .i64 b, .int .i64 a, .int .i64 d, .int .i64 c, .int .i64 d] (0, 0) _ (by rfl) ?_ Tryz.underlying236 rfl (by kernel_rfl)) rfl ⟨rfl, by exact blw⟩
  exact bkw
theorem apart_c (x y z t a b c d : Int) (w : World) (xz : x ≤ z) (yt : y ≤ t) (ac : a ≤ c) (bd : b ≤ d) :
    Calls Tryz.prog 114 #[.agg #[.int .i64 x, .int .i64 y, .int .i64 z, .int .i64 t], .agg #[.int .i64 a, .int .i64 b, .int .i64 c, .int .i64 d]] w fun e w' => e = .returned (.bool (Geo.apart ⟨x, y, z, t⟩ ⟨a, b, c, d⟩)) ∧ Below w.heap.size w w' := by
  have ev : Geo.apart ⟨x, y, z, t⟩ ⟨a, b, c, d⟩ = (decide (z < a) || decide (c < x) || decide (t < b) || decide (d < y)) := rfl
  rw [ev]
  clear ev
  obtain ⟨b1, e1⟩ : ∃ v, decide (z < a) = v := ⟨_, rfl⟩
  obtain ⟨b2, e2⟩ : ∃ v, decide (c < x) = v := ⟨_, rfl⟩
  obtain ⟨b3, e3⟩ : ∃ v, decide (t < b) = v := ⟨_, rfl⟩
  obtain ⟨b4, e4⟩ : ∃ v, decide (d < y) = v := ⟨_, rfl⟩
  rw [e1, e2, e3, e4]
  cases b1
  · cases b2
    · cases b3
      · cases b4
        · all_goals
          go_enter Tryz.func114, Tryz.ntmps114
          go_wp2_with fail
          refine (empty_no x y z t _ xz yt).mono ?_
          rintro e w1 ⟨rfl, hb⟩
          have hB1 : Below w.heap.size w w1 := Below.trans (by exact blw) (hb.mono (by first | omega | (simp; done) | (simp; omega)))
          have k1_0 : Blk w1 (w.heap.size) 70 #[.int .i64 x, .int .i64 y, .int .i64 z, .int .i64 t] := Blk.below (by exact bkw) hb (by first | omega | (simp; done) | (simp; omega))
          have k1_1 : Blk w1 (w.heap.size + 1) 70 #[.int .i64 a, .int .i64 b, .int .i64 c, .int .i64 d] := Blk.below (by exact bkw) hb (by first | omega | (simp; done) | (simp; omega))
          have c1_0 := k1_0.cell
          have f1_0 := k1_0.frozen
          have l1_0 := k1_0.lt
          have c1_1 := k1_1.cell
          have f1_1 := k1_1.frozen
          have l1_1 := k1_1.lt
          have l1 := hB1.size
          clear hb
          go_wp2_with fail
          refine (empty_no a b c d _ ac bd).mono ?_
          rintro e w2 ⟨rfl, hb⟩
          have hB2 : Below w.heap.size w w2 := Below.trans (by exact blw) (hb.mono (by first | omega | (simp; done) | (simp; omega)))
          have k2_0 : Blk w2 (w.heap.size) 70 #[.int .i64 x, .int .i64 y, .int .i64 z, .int .i64 t] := Blk.below (by exact bkw) hb (by first | omega | (simp; done) | (simp; omega))
          have k2_1 : Blk w2 (w.heap.size + 1) 70 #[.int .i64 a, .int .i64 b, .int .i64 c, .int .i64 d] := Blk.below (by exact bkw) hb (by first | omega | (simp; done) | (simp; omega))
          have c2_0 := k2_0.cell
          have f2_0 := k2_0.frozen
          have l2_0 := k2_0.lt
          have c2_1 := k2_1.cell
          have f2_1 := k2_1.frozen
          have l2_1 := k2_1.lt
          have l2 := hB2.size
          clear hb k1_0 k1_1 c1_0 c1_1 f1_0 f1_1 l1_0 l1_1
          go_wp2_with fail
          go_ret
          exact ⟨rfl, hB2⟩
        · all_goals
          go_enter Tryz.func114, Tryz.ntmps114
          go_wp2_with fail
          refine (empty_no x y z t _ xz yt).mono ?_
          rintro e w1 ⟨rfl, hb⟩
          have hB1 : Below w.heap.size w w1 := Below.trans (by exact blw) (hb.mono (by first | omega | (simp; done) | (simp; omega)))
          have k1_0 : Blk w1 (w.heap.size) 70 #[.int .i64 x, .int .i64 y, .int .i64 z, .int .i64 t] := Blk.below (by exact bkw) hb (by first | omega | (simp; done) | (simp; omega))
          have k1_1 : Blk w1 (w.heap.size + 1) 70 #[.int .i64 a, .int .i64 b, .int .i64 c, .int .i64 d] := Blk.below (by exact bkw) hb (by first | omega | (simp; done) | (simp; omega))
          have c1_0 := k1_0.cell
          have f1_0 := k1_0.frozen
          have l1_0 := k1_0.lt
          have c1_1 := k1_1.cell
          have f1_1 := k1_1.frozen
          have l1_1 := k1_1.lt
          have l1 := hB1.size
          clear hb
          go_wp2_with fail
          refine (empty_no a b c d _ ac bd).mono ?_
          rintro e w2 ⟨rfl, hb⟩
          have hB2 : Below w.heap.size w w2 := Below.trans (by exact blw) (hb.mono (by first | omega | (simp; done) | (simp; omega)))
          have k2_0 : Blk w2 (w.heap.size) 70 #[.int .i64 x, .int .i64 y, .int .i64 z, .int .i64 t] := Blk.below (by exact bkw) hb (by first | omega | (simp; done) | (simp; omega))
          have k2_1 : Blk w2 (w.heap.size + 1) 70 #[.int .i64 a, .int .i64 b, .int .i64 c, .int .i64 d] := Blk.below (by exact bkw) hb (by first | omega | (simp; done) | (simp; omega))
          have c2_0 := k2_0.cell
          have f2_0 := k2_0.frozen
          have l2_0 := k2_0.lt
          have c2_1 := k2_1.cell
          have f2_1 := k2_1.frozen
          have l2_1 := k2_1.lt
          have l2 := hB2.size
          clear hb k1_0 k1_1 c1_0 c1_1 f1_0 f1_1 l1_0 l1_1
          go_wp2_with fail
          go_ret
          exact ⟨rfl, hB2⟩
      · all_goals
          go_enter Tryz.func114, Tryz.ntmps114
          go_wp2_with fail
          refine (empty_no x y z t _ xz yt).mono ?_
          rintro e w1 ⟨rfl, hb⟩
          have hB1 : Below w.heap.size w w1 := Below.trans (by exact blw) (hb.mono (by first | omega | (simp; done) | (simp; omega)))
          have k1_0 : Blk w1 (w.heap.size) 70 #[.int .i64 x, .int .i64 y, .int .i64 z, .int .i64 t] := Blk.below (by exact bkw) hb (by first | omega | (simp; done) | (simp; omega))
          have k1_1 : Blk w1 (w.heap.size + 1) 70 #[.int .i64 a, .int .i64 b, .int .i64 c, .int .i64 d] := Blk.below (by exact bkw) hb (by first | omega | (simp; done) | (simp; omega))
          have c1_0 := k1_0.cell
          have f1_0 := k1_0.frozen
          have l1_0 := k1_0.lt
          have c1_1 := k1_1.cell
          have f1_1 := k1_1.frozen
          have l1_1 := k1_1.lt
          have l1 := hB1.size
          clear hb
          go_wp2_with fail
          refine (empty_no a b c d _ ac bd).mono ?_
          rintro e w2 ⟨rfl, hb⟩
          have hB2 : Below w.heap.size w w2 := Below.trans (by exact blw) (hb.mono (by first | omega | (simp; done) | (simp; omega)))
          have k2_0 : Blk w2 (w.heap.size) 70 #[.int .i64 x, .int .i64 y, .int .i64 z, .int .i64 t] := Blk.below (by exact bkw) hb (by first | omega | (simp; done) | (simp; omega))
          have k2_1 : Blk w2 (w.heap.size + 1) 70 #[.int .i64 a, .int .i64 b, .int .i64 c, .int .i64 d] := Blk.below (by exact bkw) hb (by first | omega | (simp; done) | (simp; omega))
          have c2_0 := k2_0.cell
          have f2_0 := k2_0.frozen
          have l2_0 := k2_0.lt
          have c2_1 := k2_1.cell
          have f2_1 := k2_1.frozen
          have l2_1 := k2_1.lt
          have l2 := hB2.size
          clear hb k1_0 k1_1 c1_0 c1_1 f1_0 f1_1 l1_0 l1_1
          go_wp2_with fail
          go_ret
          exact ⟨rfl, hB2⟩
    · all_goals
          go_enter Tryz.func114, Tryz.ntmps114
          go_wp2_with fail
          refine (empty_no x y z t _ xz yt).mono ?_
          rintro e w1 ⟨rfl, hb⟩
          have hB1 : Below w.heap.size w w1 := Below.trans (by exact blw) (hb.mono (by first | omega | (simp; done) | (simp; omega)))
          have k1_0 : Blk w1 (w.heap.size) 70 #[.int .i64 x, .int .i64 y, .int .i64 z, .int .i64 t] := Blk.below (by exact bkw) hb (by first | omega | (simp; done) | (simp; omega))
          have k1_1 : Blk w1 (w.heap.size + 1) 70 #[.int .i64 a, .int .i64 b, .int .i64 c, .int .i64 d] := Blk.below (by exact bkw) hb (by first | omega | (simp; done) | (simp; omega))
          have c1_0 := k1_0.cell
          have f1_0 := k1_0.frozen
          have l1_0 := k1_0.lt
          have c1_1 := k1_1.cell
          have f1_1 := k1_1.frozen
          have l1_1 := k1_1.lt
          have l1 := hB1.size
          clear hb
          go_wp2_with fail
          refine (empty_no a b c d _ ac bd).mono ?_
          rintro e w2 ⟨rfl, hb⟩
          have hB2 : Below w.heap.size w w2 := Below.trans (by exact blw) (hb.mono (by first | omega | (simp; done) | (simp; omega)))
          have k2_0 : Blk w2 (w.heap.size) 70 #[.int .i64 x, .int .i64 y, .int .i64 z, .int .i64 t] := Blk.below (by exact bkw) hb (by first | omega | (simp; done) | (simp; omega))
          have k2_1 : Blk w2 (w.heap.size + 1) 70 #[.int .i64 a, .int .i64 b, .int .i64 c, .int .i64 d] := Blk.below (by exact bkw) hb (by first | omega | (simp; done) | (simp; omega))
          have c2_0 := k2_0.cell
          have f2_0 := k2_0.frozen
          have l2_0 := k2_0.lt
          have c2_1 := k2_1.cell
          have f2_1 := k2_1.frozen
          have l2_1 := k2_1.lt
          have l2 := hB2.size
          clear hb k1_0 k1_1 c1_0 c1_1 f1_0 f1_1 l1_0 l1_1
          go_wp2_with fail
          go_ret
          exact ⟨rfl, hB2⟩
  · all_goals
          go_enter Tryz.func114, Tryz.ntmps114
          go_wp2_with fail
          refine (empty_no x y z t _ xz yt).mono ?_
          rintro e w1 ⟨rfl, hb⟩
          have hB1 : Below w.heap.size w w1 := Below.trans (by exact blw) (hb.mono (by first | omega | (simp; done) | (simp; omega)))
          have k1_0 : Blk w1 (w.heap.size) 70 #[.int .i64 x, .int .i64 y, .int .i64 z, .int .i64 t] := Blk.below (by exact bkw) hb (by first | omega | (simp; done) | (simp; omega))
          have k1_1 : Blk w1 (w.heap.size + 1) 70 #[.int .i64 a, .int .i64 b, .int .i64 c, .int .i64 d] := Blk.below (by exact bkw) hb (by first | omega | (simp; done) | (simp; omega))
          have c1_0 := k1_0.cell
          have f1_0 := k1_0.frozen
          have l1_0 := k1_0.lt
          have c1_1 := k1_1.cell
          have f1_1 := k1_1.frozen
          have l1_1 := k1_1.lt
          have l1 := hB1.size
          clear hb
          go_wp2_with fail
          refine (empty_no a b c d _ ac bd).mono ?_
          rintro e w2 ⟨rfl, hb⟩
          have hB2 : Below w.heap.size w w2 := Below.trans (by exact blw) (hb.mono (by first | omega | (simp; done) | (simp; omega)))
          have k2_0 : Blk w2 (w.heap.size) 70 #[.int .i64 x, .int .i64 y, .int .i64 z, .int .i64 t] := Blk.below (by exact bkw) hb (by first | omega | (simp; done) | (simp; omega))
          have k2_1 : Blk w2 (w.heap.size + 1) 70 #[.int .i64 a, .int .i64 b, .int .i64 c, .int .i64 d] := Blk.below (by exact bkw) hb (by first | omega | (simp; done) | (simp; omega))
          have c2_0 := k2_0.cell
          have f2_0 := k2_0.frozen
          have l2_0 := k2_0.lt
          have c2_1 := k2_1.cell
          have f2_1 := k2_1.frozen
          have l2_1 := k2_1.lt
          have l2 := hB2.size
          clear hb k1_0 k1_1 c1_0 c1_1 f1_0 f1_1 l1_0 l1_1
          go_wp2_with fail
          go_ret
          exact ⟨rfl, hB2⟩
theorem near2_range {a b c d x y : Int} (a_0 : -536870912 ≤ a) (a_1 : a ≤ 536870912) (b_0 : -536870912 ≤ b) (b_1 : b ≤ 536870912) (c_0 : -536870912 ≤ c) (c_1 : c ≤ 536870912) (d_0 : -536870912 ≤ d) (d_1 : d ≤ 536870912) (x_0 : -536870912 ≤ x) (x_1 : x ≤ 536870912) (y_0 : -536870912 ≤ y) (y_1 : y ≤ 536870912) : 0 ≤ Geo.near2 a b c d x y ∧ Geo.near2 a b c d x y ≤ 2305843009213693952 := by
  have r1 := gap_range x_0 x_1 a_0 a_1 c_0 c_1
  have r2 := gap_range y_0 y_1 b_0 b_1 d_0 d_1
  have := sq_range r1.1 r1.2
  have := sq_range r2.1 r2.2
  unfold Geo.near2; omega
theorem most2_range {a b c d x y : Int} (a_0 : -536870912 ≤ a) (a_1 : a ≤ 536870912) (b_0 : -536870912 ≤ b) (b_1 : b ≤ 536870912) (c_0 : -536870912 ≤ c) (c_1 : c ≤ 536870912) (d_0 : -536870912 ≤ d) (d_1 : d ≤ 536870912) (x_0 : -536870912 ≤ x) (x_1 : x ≤ 536870912) (y_0 : -536870912 ≤ y) (y_1 : y ≤ 536870912) (ac : a ≤ c) (bd : b ≤ d) : 0 ≤ Geo.most2 a b c d x y ∧ Geo.most2 a b c d x y ≤ 2305843009213693952 := by
  have r1 := far_range x_0 x_1 a_0 a_1 c_0 c_1 ac
  have r2 := far_range y_0 y_1 b_0 b_1 d_0 d_1 bd
  have := sq_range r1.1 r1.2
  have := sq_range r2.1 r2.2
  unfold Geo.most2; omega
theorem discsquare_c (r : Int) (w : World) (r_0 : 1 ≤ r) (r_1 : r ≤ 536870912) :
    Calls Tryz.prog 283 #[.int .i64 r] w fun e w' => e = .returned (.int .i64 (r * r)) ∧ w = w' := by
  have hr := sq_range (z := r) (by omega) (by omega)
  obtain ⟨R, eR⟩ : ∃ R, r * r = R := ⟨_, rfl⟩
  rw [eR] at hr ⊢
  have sR : IntKind.i64.wrap (r * r) = R := by rw [eR]; exact IntWalk.i64_in _ (by omega)
  clear eR hr
  have hm : min r 2147483648 = r := by omega
  go_enter Tryz.func283, Tryz.ntmps283
  go_wp2
  go_ret
  exact ⟨rfl, rfl⟩
theorem linesquare_c (r : Int) (w : World) (r_0 : 1 ≤ r) (r_1 : r ≤ 536870912) :
    Calls Tryz.prog 289 #[.int .i64 r] w fun e w' => e = .returned (.int .i64 (r * r)) ∧ w = w' := by
  have hr := sq_range (z := r) (by omega) (by omega)
  obtain ⟨R, eR⟩ : ∃ R, r * r = R := ⟨_, rfl⟩
  rw [eR] at hr ⊢
  have sR : IntKind.i64.wrap (r * r) = R := by rw [eR]; exact IntWalk.i64_in _ (by omega)
  clear eR hr
  have hm : min r 2147483648 = r := by omega
  go_enter Tryz.func289, Tryz.ntmps289
  go_wp2
  go_ret
  exact ⟨rfl, rfl⟩
theorem discClass_c (a b c d x y r : Int) (w : World) (a_0 : -536870912 ≤ a) (a_1 : a ≤ 536870912) (b_0 : -536870912 ≤ b) (b_1 : b ≤ 536870912) (c_0 : -536870912 ≤ c) (c_1 : c ≤ 536870912) (d_0 : -536870912 ≤ d) (d_1 : d ≤ 536870912) (x_0 : -536870912 ≤ x) (x_1 : x ≤ 536870912) (y_0 : -536870912 ≤ y) (y_1 : y ≤ 536870912) (ac : a ≤ c) (bd : b ≤ d) (r_0 : 1 ≤ r) (r_1 : r ≤ 536870912) :
    Calls Tryz.prog 246 #[.agg #[.int .i64 a, .int .i64 b, .int .i64 c, .int .i64 d], .agg #[.int .i64 x, .int .i64 y], .int .i64 r] w fun e w' => e = .returned (.int .i64 (Geo.discC ⟨a, b, c, d⟩ x y r)) ∧ Below w.heap.size w w' := by
  have n1 := fun w => bnear_c a b c d x y w a_0 a_1 b_0 b_1 c_0 c_1 d_0 d_1 x_0 x_1 y_0 y_1
  have n2 := fun w => bmost_c a b c d x y w a_0 a_1 b_0 b_1 c_0 c_1 d_0 d_1 x_0 x_1 y_0 y_1 ac bd
  have n3 := fun w => discsquare_c r w r_0 r_1
  have n4 := fun w => has_corner a b c d w ac bd
  have N1 := near2_range a_0 a_1 b_0 b_1 c_0 c_1 d_0 d_1 x_0 x_1 y_0 y_1
  have N2 := most2_range a_0 a_1 b_0 b_1 c_0 c_1 d_0 d_1 x_0 x_1 y_0 y_1 ac bd
  have N3 := sq_range (z := r) (by omega) (by omega)
  obtain ⟨K, eK⟩ : ∃ K, Geo.discC ⟨a, b, c, d⟩ x y r = K := ⟨_, rfl⟩
  rw [eK]
  unfold Geo.discC at eK
  simp only [] at eK
  obtain ⟨N, eN⟩ : ∃ N, Geo.near2 a b c d x y = N := ⟨_, rfl⟩
  obtain ⟨M, eM⟩ : ∃ N, Geo.most2 a b c d x y = N := ⟨_, rfl⟩
  obtain ⟨R, eR⟩ : ∃ N, r * r = N := ⟨_, rfl⟩
  rw [eN] at n1 N1 eK
  rw [eM] at n2 N2 eK
  rw [eR] at n3 N3 eK
  obtain ⟨N10, N11⟩ := N1
  obtain ⟨N20, N21⟩ := N2
  obtain ⟨N30, N31⟩ := N3
  clear eN eM eR
  have C1 := Lib.hid n1
  have C2 := Lib.hid n2
  have C3 := Lib.hid n3
  have C4 := Lib.hid n4
  clear n1 n2 n3 n4
  rcases Int.lt_or_le R N with h | h
  · rw [if_pos h] at eK
    subst eK
    go_enter Tryz.func246, Tryz.ntmps246
    go_wp2_with fail
    refine (C4.out _).mono ?_
    rintro e w1 ⟨rfl, hb⟩
    have hB1 : Below w.heap.size w w1 := Below.trans (by exact blw) (hb.mono (by first | omega | (simp; done) | (simp; omega)))
    have k1_0 : Blk w1 (w.heap.size) 70 #[.int .i64 a, .int .i64 b, .int .i64 c, .int .i64 d] := Blk.below (by exact bkw) hb (by first | omega | (simp; done) | (simp; omega))
    have k1_1 : Blk w1 (w.heap.size + 1) 58 #[.int .i64 x, .int .i64 y] := Blk.below (by exact bkw) hb (by first | omega | (simp; done) | (simp; omega))
    have c1_0 := k1_0.cell
    have f1_0 := k1_0.frozen
    have l1_0 := k1_0.lt
    have c1_1 := k1_1.cell
    have f1_1 := k1_1.frozen
    have l1_1 := k1_1.lt
    have l1 := hB1.size
    clear hb
    go_wp2_with fail
    refine (C1.out _).mono ?_
    rintro e w2 ⟨rfl, hb⟩
    have hB2 : Below w.heap.size w w2 := Below.trans (by exact blw) (hb.mono (by first | omega | (simp; done) | (simp; omega)))
    have k2_0 : Blk w2 (w.heap.size) 70 #[.int .i64 a, .int .i64 b, .int .i64 c, .int .i64 d] := Blk.below (by exact bkw) hb (by first | omega | (simp; done) | (simp; omega))
    have k2_1 : Blk w2 (w.heap.size + 1) 58 #[.int .i64 x, .int .i64 y] := Blk.below (by exact bkw) hb (by first | omega | (simp; done) | (simp; omega))
    have c2_0 := k2_0.cell
    have f2_0 := k2_0.frozen
    have l2_0 := k2_0.lt
    have c2_1 := k2_1.cell
    have f2_1 := k2_1.frozen
    have l2_1 := k2_1.lt
    have l2 := hB2.size
    clear hb k1_0 c1_0 f1_0 l1_0 k1_1 c1_1 f1_1 l1_1
    go_wp2_with fail
    refine (C3.out _).mono ?_
    rintro e w' ⟨rfl, rfl⟩
    go_wp2_with fail
    go_ret
    exact ⟨rfl, hB2⟩
  · rw [if_neg (by omega)] at eK
    rcases Int.lt_or_le R M with h2 | h2
    · rw [if_neg (by omega)] at eK
      subst eK
      go_enter Tryz.func246, Tryz.ntmps246
      go_wp2_with fail
      refine (C4.out _).mono ?_
      rintro e w1 ⟨rfl, hb⟩
      have hB1 : Below w.heap.size w w1 := Below.trans (by exact blw) (hb.mono (by first | omega | (simp; done) | (simp; omega)))
      have k1_0 : Blk w1 (w.heap.size) 70 #[.int .i64 a, .int .i64 b, .int .i64 c, .int .i64 d] := Blk.below (by exact bkw) hb (by first | omega | (simp; done) | (simp; omega))
      have k1_1 : Blk w1 (w.heap.size + 1) 58 #[.int .i64 x, .int .i64 y] := Blk.below (by exact bkw) hb (by first | omega | (simp; done) | (simp; omega))
      have c1_0 := k1_0.cell
      have f1_0 := k1_0.frozen
      have l1_0 := k1_0.lt
      have c1_1 := k1_1.cell
      have f1_1 := k1_1.frozen
      have l1_1 := k1_1.lt
      have l1 := hB1.size
      clear hb
      go_wp2_with fail
      refine (C1.out _).mono ?_
      rintro e w2 ⟨rfl, hb⟩
      have hB2 : Below w.heap.size w w2 := Below.trans (by exact blw) (hb.mono (by first | omega | (simp; done) | (simp; omega)))
      have k2_0 : Blk w2 (w.heap.size) 70 #[.int .i64 a, .int .i64 b, .int .i64 c, .int .i64 d] := Blk.below (by exact bkw) hb (by first | omega | (simp; done) | (simp; omega))
      have k2_1 : Blk w2 (w.heap.size + 1) 58 #[.int .i64 x, .int .i64 y] := Blk.below (by exact bkw) hb (by first | omega | (simp; done) | (simp; omega))
      have c2_0 := k2_0.cell
      have f2_0 := k2_0.frozen
      have l2_0 := k2_0.lt
      have c2_1 := k2_1.cell
      have f2_1 := k2_1.frozen
      have l2_1 := k2_1.lt
      have l2 := hB2.size
      clear hb k1_0 c1_0 f1_0 l1_0 k1_1 c1_1 f1_1 l1_1
      go_wp2_with fail
      refine (C3.out _).mono ?_
      rintro e w' ⟨rfl, rfl⟩
      go_wp2_with fail
      refine (C2.out _).mono ?_
      rintro e w3 ⟨rfl, hb⟩
      have hB3 : Below w.heap.size w w3 := Below.trans (by exact blw) (hb.mono (by first | omega | (simp; done) | (simp; omega)))
      have k3_0 : Blk w3 (w.heap.size) 70 #[.int .i64 a, .int .i64 b, .int .i64 c, .int .i64 d] := Blk.below (by exact bkw) hb (by first | omega | (simp; done) | (simp; omega))
      have k3_1 : Blk w3 (w.heap.size + 1) 58 #[.int .i64 x, .int .i64 y] := Blk.below (by exact bkw) hb (by first | omega | (simp; done) | (simp; omega))
      have c3_0 := k3_0.cell
      have f3_0 := k3_0.frozen
      have l3_0 := k3_0.lt
      have c3_1 := k3_1.cell
      have f3_1 := k3_1.frozen
      have l3_1 := k3_1.lt
      have l3 := hB3.size
      clear hb k2_0 c2_0 f2_0 l2_0 k2_1 c2_1 f2_1 l2_1
      go_wp2_with fail
      refine (C3.out _).mono ?_
      rintro e w' ⟨rfl, rfl⟩
      go_wp2_with fail
      go_ret
      exact ⟨rfl, hB3⟩
    · rw [if_pos h2] at eK
      subst eK
      go_enter Tryz.func246, Tryz.ntmps246
      go_wp2_with fail
      refine (C4.out _).mono ?_
      rintro e w1 ⟨rfl, hb⟩
      have hB1 : Below w.heap.size w w1 := Below.trans (by exact blw) (hb.mono (by first | omega | (simp; done) | (simp; omega)))
      have k1_0 : Blk w1 (w.heap.size) 70 #[.int .i64 a, .int .i64 b, .int .i64 c, .int .i64 d] := Blk.below (by exact bkw) hb (by first | omega | (simp; done) | (simp; omega))
      have k1_1 : Blk w1 (w.heap.size + 1) 58 #[.int .i64 x, .int .i64 y] := Blk.below (by exact bkw) hb (by first | omega | (simp; done) | (simp; omega))
      have c1_0 := k1_0.cell
      have f1_0 := k1_0.frozen
      have l1_0 := k1_0.lt
      have c1_1 := k1_1.cell
      have f1_1 := k1_1.frozen
      have l1_1 := k1_1.lt
      have l1 := hB1.size
      clear hb
      go_wp2_with fail
      refine (C1.out _).mono ?_
      rintro e w2 ⟨rfl, hb⟩
      have hB2 : Below w.heap.size w w2 := Below.trans (by exact blw) (hb.mono (by first | omega | (simp; done) | (simp; omega)))
      have k2_0 : Blk w2 (w.heap.size) 70 #[.int .i64 a, .int .i64 b, .int .i64 c, .int .i64 d] := Blk.below (by exact bkw) hb (by first | omega | (simp; done) | (simp; omega))
      have k2_1 : Blk w2 (w.heap.size + 1) 58 #[.int .i64 x, .int .i64 y] := Blk.below (by exact bkw) hb (by first | omega | (simp; done) | (simp; omega))
      have c2_0 := k2_0.cell
      have f2_0 := k2_0.frozen
      have l2_0 := k2_0.lt
      have c2_1 := k2_1.cell
      have f2_1 := k2_1.frozen
      have l2_1 := k2_1.lt
      have l2 := hB2.size
      clear hb k1_0 c1_0 f1_0 l1_0 k1_1 c1_1 f1_1 l1_1
      go_wp2_with fail
      refine (C3.out _).mono ?_
      rintro e w' ⟨rfl, rfl⟩
      go_wp2_with fail
      refine (C2.out _).mono ?_
      rintro e w3 ⟨rfl, hb⟩
      have hB3 : Below w.heap.size w w3 := Below.trans (by exact blw) (hb.mono (by first | omega | (simp; done) | (simp; omega)))
      have k3_0 : Blk w3 (w.heap.size) 70 #[.int .i64 a, .int .i64 b, .int .i64 c, .int .i64 d] := Blk.below (by exact bkw) hb (by first | omega | (simp; done) | (simp; omega))
      have k3_1 : Blk w3 (w.heap.size + 1) 58 #[.int .i64 x, .int .i64 y] := Blk.below (by exact bkw) hb (by first | omega | (simp; done) | (simp; omega))
      have c3_0 := k3_0.cell
      have f3_0 := k3_0.frozen
      have l3_0 := k3_0.lt
      have c3_1 := k3_1.cell
      have f3_1 := k3_1.frozen
      have l3_1 := k3_1.lt
      have l3 := hB3.size
      clear hb k2_0 c2_0 f2_0 l2_0 k2_1 c2_1 f2_1 l2_1
      go_wp2_with fail
      refine (C3.out _).mono ?_
      rintro e w' ⟨rfl, rfl⟩
      go_wp2_with fail
      go_ret
      exact ⟨rfl, hB3⟩
end Go.Proofs.YtfajckkbinbpiaaGreatDoor
