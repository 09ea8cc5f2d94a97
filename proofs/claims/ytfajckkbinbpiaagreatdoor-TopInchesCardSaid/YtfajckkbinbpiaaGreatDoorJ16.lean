/- Walks: boxes and points, any. Walks: boxes, edges and pixels of the one fixed image. Walks: boxes and points, any (2). -/
import Derived.Test.YtfajckkbinbpiaaGreatDoorJ01
import Derived.Test.YtfajckkbinbpiaaGreatDoorJ02
import Derived.Test.YtfajckkbinbpiaaGreatDoorJ07
import Derived.Test.YtfajckkbinbpiaaGreatDoorJ15
namespace Go.Proofs.YtfajckkbinbpiaaGreatDoor
set_option maxRecDepth 100000
set_option maxHeartbeats 32000000
set_option linter.unusedVariables false
set_option linter.unusedSimpArgs false
open Go.RowKit
@[go_sem] theorem run_max_int4 {P : Program} (w : World) (ts : Array TypeId) (t : TypeId) (k k' k'' k3 : IntKind) (x y z u : Int) : (Builtin.max_ ts t #[.int k x, .int k' y, .int k'' z, .int k3 u]).run P w = .ok (.int k (if u > (if z > (if y > x then y else x) then z else (if y > x then y else x)) then u else (if z > (if y > x then y else x) then z else (if y > x then y else x)))) w := by
  simp [Builtin.max_, Builtin.max2]
theorem gap_c (v lo hi : Int) (w : World) (v_0 : -536870912 ≤ v) (v_1 : v ≤ 536870912) (lo_0 : -536870912 ≤ lo) (lo_1 : lo ≤ 536870912) (hi_0 : -536870912 ≤ hi) (hi_1 : hi ≤ 536870912) :
    Calls Tryz.prog 334 #[.int .i64 v, .int .i64 lo, .int .i64 hi] w fun e w' => e = .returned (.int .i64 (Geo.gap v lo hi)) ∧ w = w' := by
  rcases Int.lt_or_le v lo with h | h
  · have eg : Geo.gap v lo hi = lo - v := by unfold Geo.gap; rw [if_pos h]
    rw [eg]
    have dc0 : decide (v < lo) = true := by simp; omega
    go_enter Tryz.func334, Tryz.ntmps334
    go_wp2
    go_ret
    exact ⟨rfl, rfl⟩
  · rcases Int.lt_or_le hi v with h2 | h2
    · have eg : Geo.gap v lo hi = v - hi := by unfold Geo.gap; rw [if_neg (by omega), if_pos h2]
      rw [eg]
      have dc0 : decide (v < lo) = false := by simp; omega
      have dc1 : decide (hi < v) = true := by simp; omega
      go_enter Tryz.func334, Tryz.ntmps334
      go_wp2
      go_ret
      exact ⟨rfl, rfl⟩
    · have eg : Geo.gap v lo hi = 0 := by unfold Geo.gap; rw [if_neg (by omega), if_neg (by omega)]
      rw [eg]
      have dc0 : decide (v < lo) = false := by simp; omega
      have dc1 : decide (hi < v) = false := by simp; omega
      go_enter Tryz.func334, Tryz.ntmps334
      go_wp2
      go_ret
      exact ⟨rfl, rfl⟩
theorem breach_c (v lo hi : Int) (w : World) (v_0 : -536870912 ≤ v) (v_1 : v ≤ 536870912) (lo_0 : -536870912 ≤ lo) (lo_1 : lo ≤ 536870912) (hi_0 : -536870912 ≤ hi) (hi_1 : hi ≤ 536870912) :
    Calls Tryz.prog 336 #[.int .i64 v, .int .i64 lo, .int .i64 hi] w fun e w' => e = .returned (.int .i64 (Geo.far v lo hi)) ∧ w = w' := by
  rcases Int.lt_or_le (v - lo) (lo - v) with c3 | c3
  · rcases Int.lt_or_le (lo - v) (v - hi) with c2 | c2
    · rcases Int.lt_or_le (v - hi) (hi - v) with c1 | c1
      · go_enter Tryz.func336, Tryz.ntmps336
        go_wp2
        go_ret
        exact ⟨congrArg (fun z => Ending.returned (Value.int .i64 z)) (by unfold Geo.far; omega), rfl⟩
      · go_enter Tryz.func336, Tryz.ntmps336
        go_wp2
        go_ret
        exact ⟨congrArg (fun z => Ending.returned (Value.int .i64 z)) (by unfold Geo.far; omega), rfl⟩
    · rcases Int.lt_or_le (lo - v) (hi - v) with c1 | c1
      · go_enter Tryz.func336, Tryz.ntmps336
        go_wp2
        go_ret
        exact ⟨congrArg (fun z => Ending.returned (Value.int .i64 z)) (by unfold Geo.far; omega), rfl⟩
      · go_enter Tryz.func336, Tryz.ntmps336
        go_wp2
        go_ret
        exact ⟨congrArg (fun z => Ending.returned (Value.int .i64 z)) (by unfold Geo.far; omega), rfl⟩
  · rcases Int.lt_or_le (v - lo) (v - hi) with c2 | c2
    · rcases Int.lt_or_le (v - hi) (hi - v) with c1 | c1
      · go_enter Tryz.func336, Tryz.ntmps336
        go_wp2
        go_ret
        exact ⟨congrArg (fun z => Ending.returned (Value.int .i64 z)) (by unfold Geo.far; omega), rfl⟩
      · go_enter Tryz.func336, Tryz.ntmps336
        go_wp2
        go_ret
        exact ⟨congrArg (fun z => Ending.returned (Value.int .i64 z)) (by unfold Geo.far; omega), rfl⟩
    · rcases Int.lt_or_le (v - lo) (hi - v) with c1 | c1
      · go_enter Tryz.func336, Tryz.ntmps336
        go_wp2
        go_ret
        exact ⟨congrArg (fun z => Ending.returned (Value.int .i64 z)) (by unfold Geo.far; omega), rfl⟩
      · go_enter Tryz.func336, Tryz.ntmps336
        go_wp2
        go_ret
        exact ⟨congrArg (fun z => Ending.returned (Value.int .i64 z)) (by unfold Geo.far; omega), rfl⟩
theorem gap_range {v lo hi : Int} (v_0 : -536870912 ≤ v) (v_1 : v ≤ 536870912) (lo_0 : -536870912 ≤ lo) (lo_1 : lo ≤ 536870912) (hi_0 : -536870912 ≤ hi) (hi_1 : hi ≤ 536870912) : 0 ≤ Geo.gap v lo hi ∧ Geo.gap v lo hi ≤ 1073741824 := by
  unfold Geo.gap; split
  · omega
  · split <;> omega
theorem far_range {v lo hi : Int} (v_0 : -536870912 ≤ v) (v_1 : v ≤ 536870912) (lo_0 : -536870912 ≤ lo) (lo_1 : lo ≤ 536870912) (hi_0 : -536870912 ≤ hi) (hi_1 : hi ≤ 536870912) (h : lo ≤ hi) : 0 ≤ Geo.far v lo hi ∧ Geo.far v lo hi ≤ 1073741824 := by
  unfold Geo.far; omega
theorem sq_range {z : Int} (h0 : 0 ≤ z) (h1 : z ≤ 1073741824) : 0 ≤ z * z ∧ z * z ≤ 1152921504606846976 := by
  have h2 := Int.mul_le_mul h1 h1 h0 (by decide : (0 : Int) ≤ 1073741824)
  have h3 := Int.mul_nonneg h0 h0
  omega
theorem bnear_c (a b c d x y : Int) (w : World) (a_0 : -536870912 ≤ a) (a_1 : a ≤ 536870912) (b_0 : -536870912 ≤ b) (b_1 : b ≤ 536870912) (c_0 : -536870912 ≤ c) (c_1 : c ≤ 536870912) (d_0 : -536870912 ≤ d) (d_1 : d ≤ 536870912) (x_0 : -536870912 ≤ x) (x_1 : x ≤ 536870912) (y_0 : -536870912 ≤ y) (y_1 : y ≤ 536870912) :
    Calls Tryz.prog 280 #[.agg #[.int .i64 a, .int .i64 b, .int .i64 c, .int .i64 d], .agg #[.int .i64 x, .int .i64 y]] w fun e w' => e = .returned (.int .i64 (Geo.near2 a b c d x y)) ∧ Below w.heap.size w w' := by
  have rX := gap_range x_0 x_1 a_0 a_1 c_0 c_1
  have rY := gap_range y_0 y_1 b_0 b_1 d_0 d_1
  obtain ⟨P, eP⟩ : ∃ P, Geo.gap x a c * Geo.gap x a c = P := ⟨_, rfl⟩
  obtain ⟨Q, eQ⟩ : ∃ Q, Geo.gap y b d * Geo.gap y b d = Q := ⟨_, rfl⟩
  have rP : 0 ≤ P ∧ P ≤ 1152921504606846976 := by rw [← eP]; exact sq_range rX.1 rX.2
  have rQ : 0 ≤ Q ∧ Q ≤ 1152921504606846976 := by rw [← eQ]; exact sq_range rY.1 rY.2
  have ev : Geo.near2 a b c d x y = P + Q := by unfold Geo.near2; rw [eP, eQ]
  obtain ⟨P0, P1⟩ := rP
  obtain ⟨Q0, Q1⟩ := rQ
  have EP := Lib.hid eP
  have EQ := Lib.hid eQ
  clear eP eQ
  rw [ev]
  clear ev rX rY
  go_enter Tryz.func280, Tryz.ntmps280
  go_wp2
  go_quiet ((go_at_call 334; exact Calls.quiet_of_same ((gap_c _ _ _ _ (by omega) (by omega) (by omega) (by omega) (by omega) (by omega)).mono fun _ _ h => ⟨h.1, h.2.symm⟩)))
  have sP : IntKind.i64.wrap (Geo.gap x a c * Geo.gap x a c) = P := by rw [EP.out]; exact IntWalk.i64_in _ (by omega)
  have sQ : IntKind.i64.wrap (Geo.gap y b d * Geo.gap y b d) = Q := by rw [EQ.out]; exact IntWalk.i64_in _ (by omega)
  go_wp2
  go_ret
  exact ⟨rfl, by exact blw⟩
theorem bmost_c (a b c d x y : Int) (w : World) (a_0 : -536870912 ≤ a) (a_1 : a ≤ 536870912) (b_0 : -536870912 ≤ b) (b_1 : b ≤ 536870912) (c_0 : -536870912 ≤ c) (c_1 : c ≤ 536870912) (d_0 : -536870912 ≤ d) (d_1 : d ≤ 536870912) (x_0 : -536870912 ≤ x) (x_1 : x ≤ 536870912) (y_0 : -536870912 ≤ y) (y_1 : y ≤ 536870912) (ac : a ≤ c) (bd : b ≤ d) :
    Calls Tryz.prog 284 #[.agg #[.int .i64 a, .int .i64 b, .int .i64 c, .int .i64 d], .agg #[.int .i64 x, .int .i64 y]] w fun e w' => e = .returned (.int .i64 (Geo.most2 a b c d x y)) ∧ Below w.heap.size w w' := by
  have rX := far_range x_0 x_1 a_0 a_1 c_0 c_1 ac
  have rY := far_range y_0 y_1 b_0 b_1 d_0 d_1 bd
  obtain ⟨P, eP⟩ : ∃ P, Geo.far x a c * Geo.far x a c = P := ⟨_, rfl⟩
  obtain ⟨Q, eQ⟩ : ∃ Q, Geo.far y b d * Geo.far y b d = Q := ⟨_, rfl⟩
  have rP : 0 ≤ P ∧ P ≤ 1152921504606846976 := by rw [← eP]; exact sq_range rX.1 rX.2
  have rQ : 0 ≤ Q ∧ Q ≤ 1152921504606846976 := by rw [← eQ]; exact sq_range rY.1 rY.2
  have ev : Geo.most2 a b c d x y = P + Q := by unfold Geo.most2; rw [eP, eQ]
  obtain ⟨P0, P1⟩ := rP
  obtain ⟨Q0, Q1⟩ := rQ
  have EP := Lib.hid eP
  have EQ := Lib.hid eQ
  clear eP eQ
  rw [ev]
  clear ev rX rY
  go_enter Tryz.func284, Tryz.ntmps284
  go_wp2
  go_quiet ((go_at_call 336; exact Calls.quiet_of_same ((breach_c _ _ _ _ (by omega) (by omega) (by omega) (by omega) (by omega) (by omega)).mono fun _ _ h => ⟨h.1, h.2.symm⟩)))
  have sP : IntKind.i64.wrap (Geo.far x a c * Geo.far x a c) = P := by rw [EP.out]; exact IntWalk.i64_in _ (by omega)
  have sQ : IntKind.i64.wrap (Geo.far y b d * Geo.far y b d) = Q := by rw [EQ.out]; exact IntWalk.i64_in _ (by omega)
  go_wp2
  go_ret
  exact ⟨rfl, by exact blw⟩
def sqv : List Value := [.int .i64 (-20000000), .int .i64 (-20000000), .int .i64 20000000, .int .i64 (-20000000), .int .i64 20000000, .int .i64 20000000, .int .i64 (-20000000), .int .i64 20000000]
def SqAt (w : World) (gl gp cp : Nat) : Prop := w.cell? ⟨gl, 0, none⟩ = some (.slice (some ⟨gp, 0, none⟩) 4 cp) ∧ ∀ j v, sqv[j]? = some v → w.cell? ⟨gp, j, none⟩ = some v
section
variable {w w' : World} {gl gp cp : Nat}
theorem SqAt.lt1 (h : SqAt w gl gp cp) : gl < w.heap.size := blk_of_cell h.1
theorem SqAt.lt2 (h : SqAt w gl gp cp) : gp < w.heap.size := blk_of_cell (h.2 0 _ rfl)
theorem SqAt.same (h : SqAt w gl gp cp) (h1 : w'.heap[gl]? = w.heap[gl]?) (h2 : w'.heap[gp]? = w.heap[gp]?) : SqAt w' gl gp cp :=
  ⟨(World.cell?_of_block h1).trans h.1, fun j v hj => (World.cell?_of_block h2).trans (h.2 j v hj)⟩
theorem SqAt.below {B : Nat} (h : SqAt w gl gp cp) (hb : Below B w w') (hB : w.heap.size ≤ B) : SqAt w' gl gp cp :=
  h.same (hb.block _ (Nat.lt_of_lt_of_le h.lt1 hB)) (hb.block _ (Nat.lt_of_lt_of_le h.lt2 hB))
theorem SqAt.alloc (h : SqAt w gl gp cp) (o : Obj) : SqAt (w.alloc o) gl gp cp :=
  h.same (Below.heap_alloc w o _ h.lt1) (Below.heap_alloc w o _ h.lt2)
theorem SqAt.drew (h : SqAt w gl gp cp) : SqAt w.drew gl gp cp := h
theorem SqAt.drewN (h : SqAt w gl gp cp) (n : Nat) : SqAt (w.drewN n) gl gp cp := h
theorem SqAt.far (h : SqAt w gl gp cp) {p : Addr} (h1 : gl ≠ p.block) (h2 : gp ≠ p.block) (u : Value) : SqAt (w.setCell p u) gl gp cp :=
  h.same (Below.heap_setCell w p u _ h1) (Below.heap_setCell w p u _ h2)
theorem SqAt.only {S : List Nat} (h : SqAt w gl gp cp) (ho : Only S w w') (h1 : gl ∉ S) (h2 : gp ∉ S) : SqAt w' gl gp cp :=
  h.same (ho.block _ h.lt1 h1) (ho.block _ h.lt2 h2)
theorem SqAt.cells (h : SqAt w gl gp cp) : w.cell? ⟨gl, 0, none⟩ = some (.slice (some ⟨gp, 0, none⟩) 4 cp) ∧ w.cell? ⟨gp, 0, none⟩ = some (.int .i64 (-20000000)) ∧ w.cell? ⟨gp, 1, none⟩ = some (.int .i64 (-20000000)) ∧ w.cell? ⟨gp, 2, none⟩ = some (.int .i64 20000000) ∧ w.cell? ⟨gp, 3, none⟩ = some (.int .i64 (-20000000)) ∧ w.cell? ⟨gp, 4, none⟩ = some (.int .i64 20000000) ∧ w.cell? ⟨gp, 5, none⟩ = some (.int .i64 20000000) ∧ w.cell? ⟨gp, 6, none⟩ = some (.int .i64 (-20000000)) ∧ w.cell? ⟨gp, 7, none⟩ = some (.int .i64 20000000) :=
  ⟨h.1, h.2 0 _ rfl, h.2 1 _ rfl, h.2 2 _ rfl, h.2 3 _ rfl, h.2 4 _ rfl, h.2 5 _ rfl, h.2 6 _ rfl, h.2 7 _ rfl⟩
end
theorem boxok_yes (a b c d : Int) (w : World) (h0 : -536870912 ≤ a) (h1 : a ≤ c) (h2 : c ≤ 536870912) (g0 : -536870912 ≤ b) (g1 : b ≤ d) (g2 : d ≤ 536870912) :
    Calls Tryz.prog 85 #[.agg #[.int .i64 a, .int .i64 b, .int .i64 c, .int .i64 d]] w fun e w' => e = .returned (.bool true) ∧ Below w.heap.size w w' := by
  have e1 : -536870912 ≤ c := by omega
  have e2 : -536870912 ≤ d := by omega
  have e3 : a ≤ 536870912 := by omega
  have e4 : b ≤ 536870912 := by omega
  go_enter Tryz.func85, Tryz.ntmps85
  go_wp2
  go_ret
  exact ⟨rfl, by go_grown⟩
theorem empty_no (a b c d : Int) (w : World) (ac : a ≤ c) (bd : b ≤ d) :
    Calls Tryz.prog 173 #[.agg #[.int .i64 a, .int .i64 b, .int .i64 c, .int .i64 d]] w fun e w' => e = .returned (.bool false) ∧ Below w.heap.size w w' := by
  have dc0 : decide (c < a) = false := by simp; try omega
  have dc1 : decide (d < b) = false := by simp; try omega
  go_enter Tryz.func173, Tryz.ntmps173
  go_wp2
  go_ret
  exact ⟨rfl, by go_grown⟩
theorem has_corner (a b c d : Int) (w : World) (ac : a ≤ c) (bd : b ≤ d) :
    Calls Tryz.prog 282 #[.agg #[.int .i64 a, .int .i64 b, .int .i64 c, .int .i64 d], .agg #[.int .i64 a, .int .i64 b]] w fun e w' => e = .returned (.bool true) ∧ Below w.heap.size w w' := by
  have dc0 : decide (a ≤ c) = true := by simp; try omega
  have dc1 : decide (b ≤ d) = true := by simp; try omega
  go_enter Tryz.func282, Tryz.ntmps282
  go_wp2
  go_ret
  exact ⟨rfl, by go_grown⟩
theorem mul_range {u v M N : Int} (h0 : -M ≤ u) (h1 : u ≤ M) (g0 : -N ≤ v) (g1 : v ≤ N) : -(M * N) ≤ u * v ∧ u * v ≤ M * N := by
  have a1 : 0 ≤ (M - u) * (N - v) := Int.mul_nonneg (by omega) (by omega)
  have a2 : 0 ≤ (M + u) * (N + v) := Int.mul_nonneg (by omega) (by omega)
  have a3 : 0 ≤ (M - u) * (N + v) := Int.mul_nonneg (by omega) (by omega)
  have a4 : 0 ≤ (M + u) * (N - v) := Int.mul_nonneg (by omega) (by omega)
  rw [Int.mul_sub, Int.sub_mul, Int.sub_mul] at a1
  rw [Int.mul_add, Int.add_mul, Int.add_mul] at a2
  rw [Int.mul_add, Int.sub_mul, Int.sub_mul] at a3
  rw [Int.mul_sub, Int.add_mul, Int.add_mul] at a4
  omega
theorem prod_range {u v : Int} (h0 : -1073741824 ≤ u) (h1 : u ≤ 1073741824) (g0 : -1073741824 ≤ v) (g1 : v ≤ 1073741824) : -1152921504606846976 ≤ u * v ∧ u * v ≤ 1152921504606846976 := by
  have := mul_range h0 h1 g0 g1
  omega
theorem cross_range {ax ay ex ey px py : Int} (ax_0 : -536870912 ≤ ax) (ax_1 : ax ≤ 536870912) (ay_0 : -536870912 ≤ ay) (ay_1 : ay ≤ 536870912) (ex_0 : -536870912 ≤ ex) (ex_1 : ex ≤ 536870912) (ey_0 : -536870912 ≤ ey) (ey_1 : ey ≤ 536870912) (px_0 : -536870912 ≤ px) (px_1 : px ≤ 536870912) (py_0 : -536870912 ≤ py) (py_1 : py ≤ 536870912) : -2305843009213693952 ≤ Geo.cross ax ay ex ey px py ∧ Geo.cross ax ay ex ey px py ≤ 2305843009213693952 := by
  have h1 := prod_range (u := ex - ax) (v := py - ay) (by omega) (by omega) (by omega) (by omega)
  have h2 := prod_range (u := ey - ay) (v := px - ax) (by omega) (by omega) (by omega) (by omega)
  unfold Geo.cross
  omega
theorem cross_c (ax ay ex ey px py : Int) (w : World) (ax_0 : -536870912 ≤ ax) (ax_1 : ax ≤ 536870912) (ay_0 : -536870912 ≤ ay) (ay_1 : ay ≤ 536870912) (ex_0 : -536870912 ≤ ex) (ex_1 : ex ≤ 536870912) (ey_0 : -536870912 ≤ ey) (ey_1 : ey ≤ 536870912) (px_0 : -536870912 ≤ px) (px_1 : px ≤ 536870912) (py_0 : -536870912 ≤ py) (py_1 : py ≤ 536870912) :
    Calls Tryz.prog 340 #[.agg #[.int .i64 ax, .int .i64 ay], .agg #[.int .i64 ex, .int .i64 ey], .agg #[.int .i64 px, .int .i64 py]] w fun e w' => e = .returned (.int .i64 (Geo.cross ax ay ex ey px py)) ∧ Below w.heap.size w w' := by
  have h1 := prod_range (u := ex - ax) (v := py - ay) (by omega) (by omega) (by omega) (by omega)
  have h2 := prod_range (u := ey - ay) (v := px - ax) (by omega) (by omega) (by omega) (by omega)
  obtain ⟨P, eP⟩ : ∃ P, (ex - ax) * (py - ay) = P := ⟨_, rfl⟩
  obtain ⟨Q, eQ⟩ : ∃ Q, (ey - ay) * (px - ax) = Q := ⟨_, rfl⟩
  have ev : Geo.cross ax ay ex ey px py = P - Q := by unfold Geo.cross; rw [eP, eQ]
  rw [eP] at h1
  rw [eQ] at h2
  obtain ⟨P0, P1⟩ := h1
  obtain ⟨Q0, Q1⟩ := h2
  have sP : IntKind.i64.wrap ((ex - ax) * (py - ay)) = P := by rw [eP]; exact IntWalk.i64_in _ (by omega)
  have sQ : IntKind.i64.wrap ((ey - ay) * (px - ax)) = Q := by rw [eQ]; exact IntWalk.i64_in _ (by omega)
  rw [ev]
  clear ev eP eQ
  go_enter Tryz.func340, Tryz.ntmps340
  go_wp2
  go_ret
  exact ⟨rfl, by exact blw⟩
theorem corners_c (a b c d : Int) (w : World) :
    Calls Tryz.prog 287 #[.agg #[.int .i64 a, .int .i64 b, .int .i64 c, .int .i64 d]] w fun e w' => e = .returned (.agg #[.int .i64 a, .int .i64 b, .int .i64 c, .int .i64 b, .int .i64 a, .int .i64 d, .int .i64 c, .int .i64 d]) ∧ Below w.heap.size w w' := by
  go_enter Tryz.func287, Tryz.ntmps287
  go_wp2
  refine bodyPost_ret (results_cell_row (t := 236) Tryz.results287 _ _ (w.heap.size + 1) #[.int .i64 a, .int .i64 b, .int .i64 c, .int .i64 b, .int .i64 a, .int .i64 d, .int .i64 c, .int .i64 d] (0, 0) _ (by rfl) ?_ Tryz.underlying236 rfl (by kernel_rfl)) rfl ⟨rfl, by exact blw⟩
  exact bkw
theorem apart_c (x y z t a b c d : Int) (w : World) (xz : x ≤ z) (yt : y ≤ t) (ac : a ≤ c) (bd : b ≤ d) :
    Calls Tryz.prog 114 #[.agg #[.int .i64 x, .int .i64 y, .int .i64 z, .int .i64 t], .agg #[.int .i64 a, .int .i64 b, .int .i64 c, .int .i64 d]] w fun e w' => e = .returned (.bool (Geo.apart ⟨x, y, z, t⟩ ⟨a, b, c, d⟩)) ∧ Below w.heap.size w w' := by
  have ev : Geo.apart ⟨x, y, z, t⟩ ⟨a, b, c, d⟩ = (decide (z < a) || decide (c < x) || decide (t < b) || decide (d < y)) := rfl
  rw [ev]
  clear ev
  obtain ⟨b1, e1⟩ : ∃ v, decide (z < a) = v := ⟨_, rfl⟩
  obtain ⟨b2, e2⟩ : ∃ v, decide (c < x) = v := ⟨_, rfl⟩
  obtain ⟨b3, e3⟩ : ∃ v, decide (t < b) = v := ⟨_, rfl⟩
  obtain ⟨b4, e4⟩ : ∃ v, decide (d < y) = v := ⟨_, rfl⟩
  rw [e1, e2, e3, e4]
  cases b1
  · cases b2
    · cases b3
      · cases b4
        · all_goals
          go_enter Tryz.func114, Tryz.ntmps114
          go_wp2_with fail
          refine (empty_no x y z t _ xz yt).mono ?_
          rintro e w1 ⟨rfl, hb⟩
          have hB1 : Below w.heap.size w w1 := Below.trans (by exact blw) (hb.mono (by first | omega | (simp; done) | (simp; omega)))
          have k1_0 : Blk w1 (w.heap.size) 70 #[.int .i64 x, .int .i64 y, .int .i64 z, .int .i64 t] := Blk.below (by exact bkw) hb (by first | omega | (simp; done) | (simp; omega))
          have k1_1 : Blk w1 (w.heap.size + 1) 70 #[.int .i64 a, .int .i64 b, .int .i64 c, .int .i64 d] := Blk.below (by exact bkw) hb (by first | omega | (simp; done) | (simp; omega))
          have c1_0 := k1_0.cell
          have f1_0 := k1_0.frozen
          have l1_0 := k1_0.lt
          have c1_1 := k1_1.cell
          have f1_1 := k1_1.frozen
          have l1_1 := k1_1.lt
          have l1 := hB1.size
          clear hb
          go_wp2_with fail
          refine (empty_no a b c d _ ac bd).mono ?_
          rintro e w2 ⟨rfl, hb⟩
          have hB2 : Below w.heap.size w w2 := Below.trans (by exact blw) (hb.mono (by first | omega | (simp; done) | (simp; omega)))
          have k2_0 : Blk w2 (w.heap.size) 70 #[.int .i64 x, .int .i64 y, .int .i64 z, .int .i64 t] := Blk.below (by exact bkw) hb (by first | omega | (simp; done) | (simp; omega))
          have k2_1 : Blk w2 (w.heap.size + 1) 70 #[.int .i64 a, .int .i64 b, .int .i64 c, .int .i64 d] := Blk.below (by exact bkw) hb (by first | omega | (simp; done) | (simp; omega))
          have c2_0 := k2_0.cell
          have f2_0 := k2_0.frozen
          have l2_0 := k2_0.lt
          have c2_1 := k2_1.cell
          have f2_1 := k2_1.frozen
          have l2_1 := k2_1.lt
          have l2 := hB2.size
          clear hb k1_0 k1_1 c1_0 c1_1 f1_0 f1_1 l1_0 l1_1
          go_wp2_with fail
          go_ret
          exact ⟨rfl, hB2⟩
        · all_goals
          go_enter Tryz.func114, Tryz.ntmps114
          go_wp2_with fail
          refine (empty_no x y z t _ xz yt).mono ?_
          rintro e w1 ⟨rfl, hb⟩
          have hB1 : Below w.heap.size w w1 := Below.trans (by exact blw) (hb.mono (by first | omega | (simp; done) | (simp; omega)))
          have k1_0 : Blk w1 (w.heap.size) 70 #[.int .i64 x, .int .i64 y, .int .i64 z, .int .i64 t] := Blk.below (by exact bkw) hb (by first | omega | (simp; done) | (simp; omega))
          have k1_1 : Blk w1 (w.heap.size + 1) 70 #[.int .i64 a, .int .i64 b, .int .i64 c, .int .i64 d] := Blk.below (by exact bkw) hb (by first | omega | (simp; done) | (simp; omega))
          have c1_0 := k1_0.cell
          have f1_0 := k1_0.frozen
          have l1_0 := k1_0.lt
          have c1_1 := k1_1.cell
          have f1_1 := k1_1.frozen
          have l1_1 := k1_1.lt
          have l1 := hB1.size
          clear hb
          go_wp2_with fail
          refine (empty_no a b c d _ ac bd).mono ?_
          rintro e w2 ⟨rfl, hb⟩
          have hB2 : Below w.heap.size w w2 := Below.trans (by exact blw) (hb.mono (by first | omega | (simp; done) | (simp; omega)))
          have k2_0 : Blk w2 (w.heap.size) 70 #[.int .i64 x, .int .i64 y, .int .i64 z, .int .i64 t] := Blk.below (by exact bkw) hb (by first | omega | (simp; done) | (simp; omega))
          have k2_1 : Blk w2 (w.heap.size + 1) 70 #[.int .i64 a, .int .i64 b, .int .i64 c, .int .i64 d] := Blk.below (by exact bkw) hb (by first | omega | (simp; done) | (simp; omega))
          have c2_0 := k2_0.cell
          have f2_0 := k2_0.frozen
          have l2_0 := k2_0.lt
          have c2_1 := k2_1.cell
          have f2_1 := k2_1.frozen
          have l2_1 := k2_1.lt
          have l2 := hB2.size
          clear hb k1_0 k1_1 c1_0 c1_1 f1_0 f1_1 l1_0 l1_1
          go_wp2_with fail
          go_ret
          exact ⟨rfl, hB2⟩
      · all_goals
          go_enter Tryz.func114, Tryz.ntmps114
          go_wp2_with fail
          refine (empty_no x y z t _ xz yt).mono ?_
          rintro e w1 ⟨rfl, hb⟩
          have hB1 : Below w.heap.size w w1 := Below.trans (by exact blw) (hb.mono (by first | omega | (simp; done) | (simp; omega)))
          have k1_0 : Blk w1 (w.heap.size) 70 #[.int .i64 x, .int .i64 y, .int .i64 z, .int .i64 t] := Blk.below (by exact bkw) hb (by first | omega | (simp; done) | (simp; omega))
          have k1_1 : Blk w1 (w.heap.size + 1) 70 #[.int .i64 a, .int .i64 b, .int .i64 c, .int .i64 d] := Blk.below (by exact bkw) hb (by first | omega | (simp; done) | (simp; omega))
          have c1_0 := k1_0.cell
          have f1_0 := k1_0.frozen
          have l1_0 := k1_0.lt
          have c1_1 := k1_1.cell
          have f1_1 := k1_1.frozen
          have l1_1 := k1_1.lt
          have l1 := hB1.size
          clear hb
          go_wp2_with fail
          refine (empty_no a b c d _ ac bd).mono ?_
          rintro e w2 ⟨rfl, hb⟩
          have hB2 : Below w.heap.size w w2 := Below.trans (by exact blw) (hb.mono (by first | omega | (simp; done) | (simp; omega)))
          have k2_0 : Blk w2 (w.heap.size) 70 #[.int .i64 x, .int .i64 y, .int .i64 z, .int .i64 t] := Blk.below (by exact bkw) hb (by first | omega | (simp; done) | (simp; omega))
          have k2_1 : Blk w2 (w.heap.size + 1) 70 #[.int .i64 a, .int .i64 b, .int .i64 c, .int .i64 d] := Blk.below (by exact bkw) hb (by first | omega | (simp; done) | (simp; omega))
          have c2_0 := k2_0.cell
          have f2_0 := k2_0.frozen
          have l2_0 := k2_0.lt
          have c2_1 := k2_1.cell
          have f2_1 := k2_1.frozen
          have l2_1 := k2_1.lt
          have l2 := hB2.size
          clear hb k1_0 k1_1 c1_0 c1_1 f1_0 f1_1 l1_0 l1_1
          go_wp2_with fail
          go_ret
          exact ⟨rfl, hB2⟩
    · all_goals
          go_enter Tryz.func114, Tryz.ntmps114
          go_wp2_with fail
          refine (empty_no x y z t _ xz yt).mono ?_
          rintro e w1 ⟨rfl, hb⟩
          have hB1 : Below w.heap.size w w1 := Below.trans (by exact blw) (hb.mono (by first | omega | (simp; done) | (simp; omega)))
          have k1_0 : Blk w1 (w.heap.size) 70 #[.int .i64 x, .int .i64 y, .int .i64 z, .int .i64 t] := Blk.below (by exact bkw) hb (by first | omega | (simp; done) | (simp; omega))
          have k1_1 : Blk w1 (w.heap.size + 1) 70 #[.int .i64 a, .int .i64 b, .int .i64 c, .int .i64 d] := Blk.below (by exact bkw) hb (by first | omega | (simp; done) | (simp; omega))
          have c1_0 := k1_0.cell
          have f1_0 := k1_0.frozen
          have l1_0 := k1_0.lt
          have c1_1 := k1_1.cell
          have f1_1 := k1_1.frozen
          have l1_1 := k1_1.lt
          have l1 := hB1.size
          clear hb
          go_wp2_with fail
          refine (empty_no a b c d _ ac bd).mono ?_
          rintro e w2 ⟨rfl, hb⟩
          have hB2 : Below w.heap.size w w2 := Below.trans (by exact blw) (hb.mono (by first | omega | (simp; done) | (simp; omega)))
          have k2_0 : Blk w2 (w.heap.size) 70 #[.int .i64 x, .int .i64 y, .int .i64 z, .int .i64 t] := Blk.below (by exact bkw) hb (by first | omega | (simp; done) | (simp; omega))
          have k2_1 : Blk w2 (w.heap.size + 1) 70 #[.int .i64 a, .int .i64 b, .int .i64 c, .int .i64 d] := Blk.below (by exact bkw) hb (by first | omega | (simp; done) | (simp; omega))
          have c2_0 := k2_0.cell
          have f2_0 := k2_0.frozen
          have l2_0 := k2_0.lt
          have c2_1 := k2_1.cell
          have f2_1 := k2_1.frozen
          have l2_1 := k2_1.lt
          have l2 := hB2.size
          clear hb k1_0 k1_1 c1_0 c1_1 f1_0 f1_1 l1_0 l1_1
          go_wp2_with fail
          go_ret
          exact ⟨rfl, hB2⟩
  · all_goals
          go_enter Tryz.func114, Tryz.ntmps114
          go_wp2_with fail
          refine (empty_no x y z t _ xz yt).mono ?_
          rintro e w1 ⟨rfl, hb⟩
          have hB1 : Below w.heap.size w w1 := Below.trans (by exact blw) (hb.mono (by first | omega | (simp; done) | (simp; omega)))
          have k1_0 : Blk w1 (w.heap.size) 70 #[.int .i64 x, .int .i64 y, .int .i64 z, .int .i64 t] := Blk.below (by exact bkw) hb (by first | omega | (simp; done) | (simp; omega))
          have k1_1 : Blk w1 (w.heap.size + 1) 70 #[.int .i64 a, .int .i64 b, .int .i64 c, .int .i64 d] := Blk.below (by exact bkw) hb (by first | omega | (simp; done) | (simp; omega))
          have c1_0 := k1_0.cell
          have f1_0 := k1_0.frozen
          have l1_0 := k1_0.lt
          have c1_1 := k1_1.cell
          have f1_1 := k1_1.frozen
          have l1_1 := k1_1.lt
          have l1 := hB1.size
          clear hb
          go_wp2_with fail
          refine (empty_no a b c d _ ac bd).mono ?_
          rintro e w2 ⟨rfl, hb⟩
          have hB2 : Below w.heap.size w w2 := Below.trans (by exact blw) (hb.mono (by first | omega | (simp; done) | (simp; omega)))
          have k2_0 : Blk w2 (w.heap.size) 70 #[.int .i64 x, .int .i64 y, .int .i64 z, .int .i64 t] := Blk.below (by exact bkw) hb (by first | omega | (simp; done) | (simp; omega))
          have k2_1 : Blk w2 (w.heap.size + 1) 70 #[.int .i64 a, .int .i64 b, .int .i64 c, .int .i64 d] := Blk.below (by exact bkw) hb (by first | omega | (simp; done) | (simp; omega))
          have c2_0 := k2_0.cell
          have f2_0 := k2_0.frozen
          have l2_0 := k2_0.lt
          have c2_1 := k2_1.cell
          have f2_1 := k2_1.frozen
          have l2_1 := k2_1.lt
          have l2 := hB2.size
          clear hb k1_0 k1_1 c1_0 c1_1 f1_0 f1_1 l1_0 l1_1
          go_wp2_with fail
          go_ret
          exact ⟨rfl, hB2⟩
end Go.Proofs.YtfajckkbinbpiaaGreatDoor
