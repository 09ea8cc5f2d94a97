/- Walks: points and boxes of the reference. Walks: boxes and points, any. Walks: discs of the reference. Walks: discs of the reference: the class of a box, the points. -/
import Derived.IntWalk
import Derived.Lib.QuietBelow
import Derived.Outline
import Derived.Test.YtfajckkbinbpiaaGreatDoorN01
import Derived.Test.YtfajckkbinbpiaaGreatDoorN02
namespace Go.Proofs.YtfajckkbinbpiaaGreatDoor
set_option maxRecDepth 100000
set_option maxHeartbeats 32000000
set_option linter.unusedVariables false
set_option linter.unusedSimpArgs false
open Go.RowKit
theorem pr_rng {u v : Int} (h0 : -4000 ≤ u) (h1 : u ≤ 4000) (g0 : -4000 ≤ v) (g1 : v ≤ 4000) : -16000000 ≤ u * v ∧ u * v ≤ 16000000 := by
  have hu : u.natAbs ≤ 4000 := by omega
  have hv : v.natAbs ≤ 4000 := by omega
  have h := Nat.mul_le_mul hu hv
  rw [← Int.natAbs_mul] at h
  omega
theorem rdist_c (p q x y : Int) (w : World) (p_0 : -2000 ≤ p) (p_1 : p ≤ 2000) (q_0 : -2000 ≤ q) (q_1 : q ≤ 2000) (x_0 : -2000 ≤ x) (x_1 : x ≤ 2000) (y_0 : -2000 ≤ y) (y_1 : y ≤ 2000) :
    Calls Tryz.prog 127 #[.agg #[.int .i64 p, .int .i64 q], .agg #[.int .i64 x, .int .i64 y]] w fun e w' => e = .returned (.int .i64 (Geo.dist p q x y)) ∧ Below w.heap.size w w' := by
  have ev : Geo.dist p q x y = (p - x) * (p - x) + (q - y) * (q - y) := by unfold Geo.dist; rfl
  obtain ⟨Pa, ePa⟩ : ∃ P, (p - x) * (p - x) = P := ⟨_, rfl⟩
  have bPa : -16000000 ≤ Pa ∧ Pa ≤ 16000000 := by rw [← ePa]; exact pr_rng (by omega) (by omega) (by omega) (by omega)
  have sPa : IntKind.i64.wrap ((p - x) * (p - x)) = Pa := by rw [ePa]; exact IntWalk.i64_in _ (by omega)
  obtain ⟨Pb, ePb⟩ : ∃ P, (q - y) * (q - y) = P := ⟨_, rfl⟩
  have bPb : -16000000 ≤ Pb ∧ Pb ≤ 16000000 := by rw [← ePb]; exact pr_rng (by omega) (by omega) (by omega) (by omega)
  have sPb : IntKind.i64.wrap ((q - y) * (q - y)) = Pb := by rw [ePb]; exact IntWalk.i64_in _ (by omega)
  rw [ev, ePa, ePb]
  clear ev ePa ePb
  go_enter Tryz.func127, Tryz.ntmps127
  go_wp2_with fail
  go_ret
  exact ⟨rfl, by exact blw⟩
theorem rcross_c (a b c d x y : Int) (w : World) (a_0 : -2000 ≤ a) (a_1 : a ≤ 2000) (b_0 : -2000 ≤ b) (b_1 : b ≤ 2000) (c_0 : -2000 ≤ c) (c_1 : c ≤ 2000) (d_0 : -2000 ≤ d) (d_1 : d ≤ 2000) (x_0 : -2000 ≤ x) (x_1 : x ≤ 2000) (y_0 : -2000 ≤ y) (y_1 : y ≤ 2000) :
    Calls Tryz.prog 129 #[.agg #[.int .i64 a, .int .i64 b], .agg #[.int .i64 c, .int .i64 d], .agg #[.int .i64 x, .int .i64 y]] w fun e w' => e = .returned (.int .i64 (Geo.cross a b c d x y)) ∧ Below w.heap.size w w' := by
  have ev : Geo.cross a b c d x y = (c - a) * (y - b) - (d - b) * (x - a) := by unfold Geo.cross; rfl
  obtain ⟨Pa, ePa⟩ : ∃ P, (c - a) * (y - b) = P := ⟨_, rfl⟩
  have bPa : -16000000 ≤ Pa ∧ Pa ≤ 16000000 := by rw [← ePa]; exact pr_rng (by omega) (by omega) (by omega) (by omega)
  have sPa : IntKind.i64.wrap ((c - a) * (y - b)) = Pa := by rw [ePa]; exact IntWalk.i64_in _ (by omega)
  obtain ⟨Pb, ePb⟩ : ∃ P, (d - b) * (x - a) = P := ⟨_, rfl⟩
  have bPb : -16000000 ≤ Pb ∧ Pb ≤ 16000000 := by rw [← ePb]; exact pr_rng (by omega) (by omega) (by omega) (by omega)
  have sPb : IntKind.i64.wrap ((d - b) * (x - a)) = Pb := by rw [ePb]; exact IntWalk.i64_in _ (by omega)
  rw [ev, ePa, ePb]
  clear ev ePa ePb
  go_enter Tryz.func129, Tryz.ntmps129
  go_wp2_with fail
  go_ret
  exact ⟨rfl, by exact blw⟩
theorem rdot_c (a b c d x y : Int) (w : World) (a_0 : -2000 ≤ a) (a_1 : a ≤ 2000) (b_0 : -2000 ≤ b) (b_1 : b ≤ 2000) (c_0 : -2000 ≤ c) (c_1 : c ≤ 2000) (d_0 : -2000 ≤ d) (d_1 : d ≤ 2000) (x_0 : -2000 ≤ x) (x_1 : x ≤ 2000) (y_0 : -2000 ≤ y) (y_1 : y ≤ 2000) :
    Calls Tryz.prog 128 #[.agg #[.int .i64 a, .int .i64 b], .agg #[.int .i64 c, .int .i64 d], .agg #[.int .i64 x, .int .i64 y]] w fun e w' => e = .returned (.int .i64 (Geo.dt a b c d x y)) ∧ Below w.heap.size w w' := by
  have ev : Geo.dt a b c d x y = (c - a) * (x - a) + (d - b) * (y - b) := by unfold Geo.dt; rfl
  obtain ⟨Pa, ePa⟩ : ∃ P, (c - a) * (x - a) = P := ⟨_, rfl⟩
  have bPa : -16000000 ≤ Pa ∧ Pa ≤ 16000000 := by rw [← ePa]; exact pr_rng (by omega) (by omega) (by omega) (by omega)
  have sPa : IntKind.i64.wrap ((c - a) * (x - a)) = Pa := by rw [ePa]; exact IntWalk.i64_in _ (by omega)
  obtain ⟨Pb, ePb⟩ : ∃ P, (d - b) * (y - b) = P := ⟨_, rfl⟩
  have bPb : -16000000 ≤ Pb ∧ Pb ≤ 16000000 := by rw [← ePb]; exact pr_rng (by omega) (by omega) (by omega) (by omega)
  have sPb : IntKind.i64.wrap ((d - b) * (y - b)) = Pb := by rw [ePb]; exact IntWalk.i64_in _ (by omega)
  rw [ev, ePa, ePb]
  clear ev ePa ePb
  go_enter Tryz.func128, Tryz.ntmps128
  go_wp2_with fail
  go_ret
  exact ⟨rfl, by exact blw⟩
theorem rnearpt (x y : Int) (w : World) (x_0 : -2000 ≤ x) (x_1 : x ≤ 2000) (y_0 : -2000 ≤ y) (y_1 : y ≤ 2000) : Calls Tryz.prog 118 #[.agg #[.int .i64 x, .int .i64 y]] w fun e w' => e = .returned (.bool true) ∧ Below w.heap.size w w' := by
  have h1 : -536870912 ≤ x := by omega
  have h2 : x ≤ 536870912 := by omega
  have h3 : -536870912 ≤ y := by omega
  have h4 : y ≤ 536870912 := by omega
  go_enter Tryz.func118, Tryz.ntmps118
  go_wp2_with fail
  go_ret
  exact ⟨rfl, by exact blw⟩
theorem rapart_c (a b c d x y u v : Int) (w : World) : Calls Tryz.prog 177 #[.agg #[.int .i64 a, .int .i64 b, .int .i64 c, .int .i64 d], .agg #[.int .i64 x, .int .i64 y, .int .i64 u, .int .i64 v]] w fun e w' => e = .returned (.bool (Geo.apart ⟨a, b, c, d⟩ ⟨x, y, u, v⟩)) ∧ Below w.heap.size w w' := by
  by_cases h0 : c < x
  · have ev : Geo.apart ⟨a, b, c, d⟩ ⟨x, y, u, v⟩ = true := by unfold Geo.apart; simp [h0]
    rw [ev]
    clear ev
    go_enter Tryz.func177, Tryz.ntmps177
    go_wp2_with fail
    go_ret
    exact ⟨rfl, by exact blw⟩
  by_cases h1 : u < a
  · have ev : Geo.apart ⟨a, b, c, d⟩ ⟨x, y, u, v⟩ = true := by unfold Geo.apart; simp [h0, h1]
    rw [ev]
    clear ev
    go_enter Tryz.func177, Tryz.ntmps177
    go_wp2_with fail
    go_ret
    exact ⟨rfl, by exact blw⟩
  by_cases h2 : d < y
  · have ev : Geo.apart ⟨a, b, c, d⟩ ⟨x, y, u, v⟩ = true := by unfold Geo.apart; simp [h0, h1, h2]
    rw [ev]
    clear ev
    go_enter Tryz.func177, Tryz.ntmps177
    go_wp2_with fail
    go_ret
    exact ⟨rfl, by exact blw⟩
  by_cases h3 : v < b
  · have ev : Geo.apart ⟨a, b, c, d⟩ ⟨x, y, u, v⟩ = true := by unfold Geo.apart; simp [h0, h1, h2, h3]
    rw [ev]
    clear ev
    go_enter Tryz.func177, Tryz.ntmps177
    go_wp2_with fail
    go_ret
    exact ⟨rfl, by exact blw⟩
  have ev : Geo.apart ⟨a, b, c, d⟩ ⟨x, y, u, v⟩ = false := by unfold Geo.apart; simp [h0, h1, h2, h3]; try omega
  rw [ev]
  clear ev
  go_enter Tryz.func177, Tryz.ntmps177
  go_wp2_with fail
  go_ret
  exact ⟨rfl, by exact blw⟩
theorem rcorners_c (a b c d : Int) (w : World) : Calls Tryz.prog 125 #[.agg #[.int .i64 a, .int .i64 b, .int .i64 c, .int .i64 d]] w fun e w' => e = .returned (.agg #[.int .i64 a, .int .i64 b, .int .i64 c, .int .i64 b, .int .i64 a, .int .i64 d, .int .i64 c, .int .i64 d]) ∧ Below w.heap.size w w' := by
  go_enter Tryz.func125, Tryz.ntmps125
  go_wp2_with fail
  refine bodyPost_ret (results_cell_row (t := 236) Tryz.results125 _ _ (w.heap.size + 1) #[.int .i64 a, .int .i64 b, .int .i64 c, .int .i64 b, .int .i64 a, .int .i64 d, .int .i64 c, .int .i64 d] (0, 0) _ (by rfl) ?_ Tryz.underlying236 rfl (by kernel_rfl)) rfl (⟨rfl, by exact blw⟩)
  exact bkw
theorem clamp_gap {v lo hi : Int} (h : lo ≤ hi) : (v - min (max v lo) hi) * (v - min (max v lo) hi) = Geo.gap v lo hi * Geo.gap v lo hi := by
  unfold Geo.gap
  split
  · rw [show v - min (max v lo) hi = -(lo - v) by omega, Int.neg_mul_neg]
  · split
    · rw [show v - min (max v lo) hi = v - hi by omega]
    · rw [show v - min (max v lo) hi = 0 by omega]
theorem dist_near {a b c d x y : Int} (ac : a ≤ c) (bd : b ≤ d) : Geo.dist x y (min (max x a) c) (min (max y b) d) = Geo.near2 a b c d x y := by
  unfold Geo.dist Geo.near2
  rw [clamp_gap ac, clamp_gap bd]
theorem rnear_c (a b c d x y : Int) (w : World) (a_0 : -2000 ≤ a) (a_1 : a ≤ 2000) (b_0 : -2000 ≤ b) (b_1 : b ≤ 2000) (c_0 : -2000 ≤ c) (c_1 : c ≤ 2000) (d_0 : -2000 ≤ d) (d_1 : d ≤ 2000) (x_0 : -2000 ≤ x) (x_1 : x ≤ 2000) (y_0 : -2000 ≤ y) (y_1 : y ≤ 2000) (ac : a ≤ c) (bd : b ≤ d) : Calls Tryz.prog 121 #[.agg #[.int .i64 a, .int .i64 b, .int .i64 c, .int .i64 d], .agg #[.int .i64 x, .int .i64 y]] w fun e w' => e = .returned (.int .i64 (Geo.near2 a b c d x y)) ∧ Below w.heap.size w w' := by
  rw [← dist_near ac bd]
  go_enter Tryz.func121, Tryz.ntmps121
  go_wp2_with fail
  all_goals
    refine (rdist_c _ _ _ _ _ x_0 x_1 y_0 y_1 (by omega) (by omega) (by omega) (by omega)).mono ?_
    rintro e z ⟨rfl, hb⟩
    have hB : Below w.heap.size w z := Below.trans (by exact blw) (hb.mono (by first | omega | (simp; done) | (simp; omega)))
    have HB := Lib.hid hB
    clear hb hB
    go_wp2_with fail
    go_ret
    exact ⟨congrArg (fun z => Ending.returned (Value.int .i64 z)) (by congr 1 <;> omega), HB.out⟩
@[go_sem] theorem run_max_int4 {P : Program} (w : World) (ts : Array TypeId) (t : TypeId) (k k' k'' k3 : IntKind) (x y z u : Int) : (Builtin.max_ ts t #[.int k x, .int k' y, .int k'' z, .int k3 u]).run P w = .ok (.int k (if u > (if z > (if y > x then y else x) then z else (if y > x then y else x)) then u else (if z > (if y > x then y else x) then z else (if y > x then y else x)))) w := by
  simp [Builtin.max_, Builtin.max2]
theorem gap_c (v lo hi : Int) (w : World) (v_0 : -536870912 ≤ v) (v_1 : v ≤ 536870912) (lo_0 : -536870912 ≤ lo) (lo_1 : lo ≤ 536870912) (hi_0 : -536870912 ≤ hi) (hi_1 : hi ≤ 536870912) :
    Calls Tryz.prog 334 #[.int .i64 v, .int .i64 lo, .int .i64 hi] w fun e w' => e = .returned (.int .i64 (Geo.gap v lo hi)) ∧ w = w' := by
  rcases Int.lt_or_le v lo with h | h
  · have eg : Geo.gap v lo hi = lo - v := by unfold Geo.gap; rw [if_pos h]
    rw [eg]
    have dc0 : decide (v < lo) = true := by simp; omega
    go_enter Tryz.func334, Tryz.ntmps334
    go_wp2
    go_ret
    exact ⟨rfl, rfl⟩
  · rcases Int.lt_or_le hi v with h2 | h2
    · have eg : Geo.gap v lo hi = v - hi := by unfold Geo.gap; rw [if_neg (by omega), if_pos h2]
      rw [eg]
      have dc0 : decide (v < lo) = false := by simp; omega
      have dc1 : decide (hi < v) = true := by simp; omega
      go_enter Tryz.func334, Tryz.ntmps334
      go_wp2
      go_ret
      exact ⟨rfl, rfl⟩
    · have eg : Geo.gap v lo hi = 0 := by unfold Geo.gap; rw [if_neg (by omega), if_neg (by omega)]
      rw [eg]
      have dc0 : decide (v < lo) = false := by simp; omega
      have dc1 : decide (hi < v) = false := by simp; omega
      go_enter Tryz.func334, Tryz.ntmps334
      go_wp2
      go_ret
      exact ⟨rfl, rfl⟩
theorem breach_c (v lo hi : Int) (w : World) (v_0 : -536870912 ≤ v) (v_1 : v ≤ 536870912) (lo_0 : -536870912 ≤ lo) (lo_1 : lo ≤ 536870912) (hi_0 : -536870912 ≤ hi) (hi_1 : hi ≤ 536870912) :
    Calls Tryz.prog 336 #[.int .i64 v, .int .i64 lo, .int .i64 hi] w fun e w' => e = .returned (.int .i64 (Geo.far v lo hi)) ∧ w = w' := by
  rcases Int.lt_or_le (v - lo) (lo - v) with c3 | c3
  · rcases Int.lt_or_le (lo - v) (v - hi) with c2 | c2
    · rcases Int.lt_or_le (v - hi) (hi - v) with c1 | c1
      · go_enter Tryz.func336, Tryz.ntmps336
        go_wp2
        go_ret
        exact ⟨congrArg (fun z => Ending.returned (Value.int .i64 z)) (by unfold Geo.far; omega), rfl⟩
      · go_enter Tryz.func336, Tryz.ntmps336
        go_wp2
        go_ret
        exact ⟨congrArg (fun z => Ending.returned (Value.int .i64 z)) (by unfold Geo.far; omega), rfl⟩
    · rcases Int.lt_or_le (lo - v) (hi - v) with c1 | c1
      · go_enter Tryz.func336, Tryz.ntmps336
        go_wp2
        go_ret
        exact ⟨congrArg (fun z => Ending.returned (Value.int .i64 z)) (by unfold Geo.far; omega), rfl⟩
      · go_enter Tryz.func336, Tryz.ntmps336
        go_wp2
        go_ret
        exact ⟨congrArg (fun z => Ending.returned (Value.int .i64 z)) (by unfold Geo.far; omega), rfl⟩
  · rcases Int.lt_or_le (v - lo) (v - hi) with c2 | c2
    · rcases Int.lt_or_le (v - hi) (hi - v) with c1 | c1
      · go_enter Tryz.func336, Tryz.ntmps336
        go_wp2
        go_ret
        exact ⟨congrArg (fun z => Ending.returned (Value.int .i64 z)) (by unfold Geo.far; omega), rfl⟩
      · go_enter Tryz.func336, Tryz.ntmps336
        go_wp2
        go_ret
        exact ⟨congrArg (fun z => Ending.returned (Value.int .i64 z)) (by unfold Geo.far; omega), rfl⟩
    · rcases Int.lt_or_le (v - lo) (hi - v) with c1 | c1
      · go_enter Tryz.func336, Tryz.ntmps336
        go_wp2
        go_ret
        exact ⟨congrArg (fun z => Ending.returned (Value.int .i64 z)) (by unfold Geo.far; omega), rfl⟩
      · go_enter Tryz.func336, Tryz.ntmps336
        go_wp2
        go_ret
        exact ⟨congrArg (fun z => Ending.returned (Value.int .i64 z)) (by unfold Geo.far; omega), rfl⟩
theorem gap_range {v lo hi : Int} (v_0 : -536870912 ≤ v) (v_1 : v ≤ 536870912) (lo_0 : -536870912 ≤ lo) (lo_1 : lo ≤ 536870912) (hi_0 : -536870912 ≤ hi) (hi_1 : hi ≤ 536870912) : 0 ≤ Geo.gap v lo hi ∧ Geo.gap v lo hi ≤ 1073741824 := by
  unfold Geo.gap; split
  · omega
  · split <;> omega
theorem far_range {v lo hi : Int} (v_0 : -536870912 ≤ v) (v_1 : v ≤ 536870912) (lo_0 : -536870912 ≤ lo) (lo_1 : lo ≤ 536870912) (hi_0 : -536870912 ≤ hi) (hi_1 : hi ≤ 536870912) (h : lo ≤ hi) : 0 ≤ Geo.far v lo hi ∧ Geo.far v lo hi ≤ 1073741824 := by
  unfold Geo.far; omega
theorem sq_range {z : Int} (h0 : 0 ≤ z) (h1 : z ≤ 1073741824) : 0 ≤ z * z ∧ z * z ≤ 1152921504606846976 := by
  have h2 := Int.mul_le_mul h1 h1 h0 (by decide : (0 : Int) ≤ 1073741824)
  have h3 := Int.mul_nonneg h0 h0
  omega
theorem bnear_c (a b c d x y : Int) (w : World) (a_0 : -536870912 ≤ a) (a_1 : a ≤ 536870912) (b_0 : -536870912 ≤ b) (b_1 : b ≤ 536870912) (c_0 : -536870912 ≤ c) (c_1 : c ≤ 536870912) (d_0 : -536870912 ≤ d) (d_1 : d ≤ 536870912) (x_0 : -536870912 ≤ x) (x_1 : x ≤ 536870912) (y_0 : -536870912 ≤ y) (y_1 : y ≤ 536870912) :
    Calls Tryz.prog 280 #[.agg #[.int .i64 a, .int .i64 b, .int .i64 c, .int .i64 d], .agg #[.int .i64 x, .int .i64 y]] w fun e w' => e = .returned (.int .i64 (Geo.near2 a b c d x y)) ∧ Below w.heap.size w w' := by
  have rX := gap_range x_0 x_1 a_0 a_1 c_0 c_1
  have rY := gap_range y_0 y_1 b_0 b_1 d_0 d_1
  obtain ⟨P, eP⟩ : ∃ P, Geo.gap x a c * Geo.gap x a c = P := ⟨_, rfl⟩
  obtain ⟨Q, eQ⟩ : ∃ Q, Geo.gap y b d * Geo.gap y b d = Q := ⟨_, rfl⟩
  have rP : 0 ≤ P ∧ P ≤ 1152921504606846976 := by rw [← eP]; exact sq_range rX.1 rX.2
  have rQ : 0 ≤ Q ∧ Q ≤ 1152921504606846976 := by rw [← eQ]; exact sq_range rY.1 rY.2
  have ev : Geo.near2 a b c d x y = P + Q := by unfold Geo.near2; rw [eP, eQ]
  obtain ⟨P0, P1⟩ := rP
  obtain ⟨Q0, Q1⟩ := rQ
  have EP := Lib.hid eP
  have EQ := Lib.hid eQ
  clear eP eQ
  rw [ev]
  clear ev rX rY
  go_enter Tryz.func280, Tryz.ntmps280
  go_wp2
  go_quiet ((go_at_call 334; exact Calls.quiet_of_same ((gap_c _ _ _ _ (by omega) (by omega) (by omega) (by omega) (by omega) (by omega)).mono fun _ _ h => ⟨h.1, h.2.symm⟩)))
  have sP : IntKind.i64.wrap (Geo.gap x a c * Geo.gap x a c) = P := by rw [EP.out]; exact IntWalk.i64_in _ (by omega)
  have sQ : IntKind.i64.wrap (Geo.gap y b d * Geo.gap y b d) = Q := by rw [EQ.out]; exact IntWalk.i64_in _ (by omega)
  go_wp2
  go_ret
  exact ⟨rfl, by exact blw⟩
theorem bmost_c (a b c d x y : Int) (w : World) (a_0 : -536870912 ≤ a) (a_1 : a ≤ 536870912) (b_0 : -536870912 ≤ b) (b_1 : b ≤ 536870912) (c_0 : -536870912 ≤ c) (c_1 : c ≤ 536870912) (d_0 : -536870912 ≤ d) (d_1 : d ≤ 536870912) (x_0 : -536870912 ≤ x) (x_1 : x ≤ 536870912) (y_0 : -536870912 ≤ y) (y_1 : y ≤ 536870912) (ac : a ≤ c) (bd : b ≤ d) :
    Calls Tryz.prog 284 #[.agg #[.int .i64 a, .int .i64 b, .int .i64 c, .int .i64 d], .agg #[.int .i64 x, .int .i64 y]] w fun e w' => e = .returned (.int .i64 (Geo.most2 a b c d x y)) ∧ Below w.heap.size w w' := by
  have rX := far_range x_0 x_1 a_0 a_1 c_0 c_1 ac
  have rY := far_range y_0 y_1 b_0 b_1 d_0 d_1 bd
  obtain ⟨P, eP⟩ : ∃ P, Geo.far x a c * Geo.far x a c = P := ⟨_, rfl⟩
  obtain ⟨Q, eQ⟩ : ∃ Q, Geo.far y b d * Geo.far y b d = Q := ⟨_, rfl⟩
  have rP : 0 ≤ P ∧ P ≤ 1152921504606846976 := by rw [← eP]; exact sq_range rX.1 rX.2
  have rQ : 0 ≤ Q ∧ Q ≤ 1152921504606846976 := by rw [← eQ]; exact sq_range rY.1 rY.2
  have ev : Geo.most2 a b c d x y = P + Q := by unfold Geo.most2; rw [eP, eQ]
  obtain ⟨P0, P1⟩ := rP
  obtain ⟨Q0, Q1⟩ := rQ
  have EP := Lib.hid eP
  have EQ := Lib.hid eQ
  clear eP eQ
  rw [ev]
  clear ev rX rY
  go_enter Tryz.func284, Tryz.ntmps284
  go_wp2
  go_quiet ((go_at_call 336; exact Calls.quiet_of_same ((breach_c _ _ _ _ (by omega) (by omega) (by omega) (by omega) (by omega) (by omega)).mono fun _ _ h => ⟨h.1, h.2.symm⟩)))
  have sP : IntKind.i64.wrap (Geo.far x a c * Geo.far x a c) = P := by rw [EP.out]; exact IntWalk.i64_in _ (by omega)
  have sQ : IntKind.i64.wrap (Geo.far y b d * Geo.far y b d) = Q := by rw [EQ.out]; exact IntWalk.i64_in _ (by omega)
  go_wp2
  go_ret
  exact ⟨rfl, by exact blw⟩
end Go.Proofs.YtfajckkbinbpiaaGreatDoor
namespace Go.Proofs.YtfajckkbinbpiaaGreatDoor
set_option maxRecDepth 100000
set_option maxHeartbeats 32000000
set_option linter.unusedVariables false
set_option linter.unusedSimpArgs false
open Go.RowKit Go.Sort
theorem absq (z z' : Int) (h : z' = -z) : max z z' * max z z' = z * z := by
  subst h
  rcases Int.le_total z (-z) with g | g
  · rw [Int.max_eq_right g, Int.neg_mul_neg]
  · rw [Int.max_eq_left g]
theorem far_sq (v lo hi : Int) : Geo.far v lo hi * Geo.far v lo hi = max ((v - lo) * (v - lo)) ((v - hi) * (v - hi)) := by
  unfold Geo.far
  rw [← absq (v - lo) (lo - v) (by omega), ← absq (v - hi) (hi - v) (by omega)]
  have hL : 0 ≤ max (v - lo) (lo - v) := by omega
  have hH : 0 ≤ max (v - hi) (hi - v) := by omega
  generalize max (v - lo) (lo - v) = L at *
  generalize max (v - hi) (hi - v) = H at *
  rcases Int.le_total L H with h | h
  · rw [Int.max_eq_right h, Int.max_eq_right (Geo.sq_le h (by omega))]
  · rw [Int.max_eq_left h, Int.max_eq_left (Geo.sq_le h (by omega))]
theorem most_max {a b c d x y D1 D2 D3 D4 : Int} (h1 : Geo.dist x y a b = D1) (h2 : Geo.dist x y c b = D2) (h3 : Geo.dist x y a d = D3) (h4 : Geo.dist x y c d = D4) :
    Geo.most2 a b c d x y = max (max D1 D2) (max D3 D4) := by
  unfold Geo.most2
  rw [far_sq, far_sq]
  unfold Geo.dist at h1 h2 h3 h4
  generalize (x - a) * (x - a) = A0 at *
  generalize (x - c) * (x - c) = A1 at *
  generalize (y - b) * (y - b) = B0 at *
  generalize (y - d) * (y - d) = B1 at *
  subst h1 h2 h3 h4
  omega
theorem rmost_c (a b c d x y : Int) (w : World) (a_0 : -2000 ≤ a) (a_1 : a ≤ 2000) (b_0 : -2000 ≤ b) (b_1 : b ≤ 2000) (c_0 : -2000 ≤ c) (c_1 : c ≤ 2000) (d_0 : -2000 ≤ d) (d_1 : d ≤ 2000) (x_0 : -2000 ≤ x) (x_1 : x ≤ 2000) (y_0 : -2000 ≤ y) (y_1 : y ≤ 2000) : Calls Tryz.prog 122 #[.agg #[.int .i64 a, .int .i64 b, .int .i64 c, .int .i64 d], .agg #[.int .i64 x, .int .i64 y]] w fun e w' => e = .returned (.int .i64 (Geo.most2 a b c d x y)) ∧ Below w.heap.size w w' := by
  obtain ⟨D1, eD1⟩ : ∃ D, Geo.dist x y a b = D := ⟨_, rfl⟩
  have n1 := fun w => rdist_c x y a b w x_0 x_1 y_0 y_1 a_0 a_1 b_0 b_1
  rw [eD1] at n1
  have N1 := Lib.hid n1
  obtain ⟨D2, eD2⟩ : ∃ D, Geo.dist x y c b = D := ⟨_, rfl⟩
  have n2 := fun w => rdist_c x y c b w x_0 x_1 y_0 y_1 c_0 c_1 b_0 b_1
  rw [eD2] at n2
  have N2 := Lib.hid n2
  obtain ⟨D3, eD3⟩ : ∃ D, Geo.dist x y a d = D := ⟨_, rfl⟩
  have n3 := fun w => rdist_c x y a d w x_0 x_1 y_0 y_1 a_0 a_1 d_0 d_1
  rw [eD3] at n3
  have N3 := Lib.hid n3
  obtain ⟨D4, eD4⟩ : ∃ D, Geo.dist x y c d = D := ⟨_, rfl⟩
  have n4 := fun w => rdist_c x y c d w x_0 x_1 y_0 y_1 c_0 c_1 d_0 d_1
  rw [eD4] at n4
  have N4 := Lib.hid n4
  have eV := most_max eD1 eD2 eD3 eD4
  obtain ⟨V, e9⟩ : ∃ V, Geo.most2 a b c d x y = V := ⟨_, rfl⟩
  rw [e9] at eV ⊢
  have EV := Lib.hid eV
  clear n1 n2 n3 n4 eD1 eD2 eD3 eD4 e9 eV
  go_enter Tryz.func122, Tryz.ntmps122
  go_wp2_with fail
  refine (rcorners_c _ _ _ _ _).mono ?_
  rintro e z ⟨rfl, hb⟩
  obtain ⟨u, eu⟩ : ∃ u, z.alloc (.cells #[.int .i64 a, .int .i64 b, .int .i64 c, .int .i64 b, .int .i64 a, .int .i64 d, .int .i64 c, .int .i64 d] 236) = u := ⟨_, rfl⟩
  have kP : Blk z (w.heap.size + 1) 58 #[.int .i64 x, .int .i64 y] := Blk.below (by exact bkw) hb (by first | omega | (simp; done) | (simp; omega))
  have hB : Below w.heap.size w z := Below.trans (by exact blw) (hb.mono (by first | omega | (simp; done) | (simp; omega)))
  have jP : Blk u (w.heap.size + 1) 58 #[.int .i64 x, .int .i64 y] := by rw [← eu]; exact kP.alloc _
  have kC : Blk u z.heap.size 236 #[.int .i64 a, .int .i64 b, .int .i64 c, .int .i64 b, .int .i64 a, .int .i64 d, .int .i64 c, .int .i64 d] := by rw [← eu]; exact Blk.new _ _ _
  have hBu : Below w.heap.size w u := by rw [← eu]; exact hB.alloc hB.size _
  have EU := Lib.hid eu
  have HBU := Lib.hid hBu
  have su := hBu.size
  have lP := jP.lt
  have lC := kC.lt
  clear hb kP hB eu hBu
  go_wp2_with fail
  rw [EU.out]
  have y0 := cell_regrown (show u.cell? ⟨z.heap.size, 0, none⟩ = some (.int .i64 a) from kC.cell 0)
  have y1 := cell_regrown (show u.cell? ⟨z.heap.size, 1, none⟩ = some (.int .i64 b) from kC.cell 1)
  have y2 := cell_regrown (show u.cell? ⟨z.heap.size, 2, none⟩ = some (.int .i64 c) from kC.cell 2)
  have y3 := cell_regrown (show u.cell? ⟨z.heap.size, 3, none⟩ = some (.int .i64 b) from kC.cell 3)
  have y4 := cell_regrown (show u.cell? ⟨z.heap.size, 4, none⟩ = some (.int .i64 a) from kC.cell 4)
  have y5 := cell_regrown (show u.cell? ⟨z.heap.size, 5, none⟩ = some (.int .i64 d) from kC.cell 5)
  have y6 := cell_regrown (show u.cell? ⟨z.heap.size, 6, none⟩ = some (.int .i64 c) from kC.cell 6)
  have y7 := cell_regrown (show u.cell? ⟨z.heap.size, 7, none⟩ = some (.int .i64 d) from kC.cell 7)
  have x0 := cell_regrown (show u.cell? ⟨w.heap.size + 1, 0, none⟩ = some (.int .i64 x) from jP.cell 0)
  have x1 := cell_regrown (show u.cell? ⟨w.heap.size + 1, 1, none⟩ = some (.int .i64 y) from jP.cell 1)
  have m1 : ∀ d' os, Calls Tryz.prog 127 #[.agg #[.int .i64 x, .int .i64 y], .agg #[.int .i64 a, .int .i64 b]] (Go.Sort.grow (redrawn u d') os) fun e w'' => e = .returned (.int .i64 D1) ∧ ∃ p : Regrown, w'' = Go.Sort.grow (redrawn u p.d) p.os := fun d' os => Calls.regrown_of (N1.out _)
  have M1 := Lib.hid m1
  have m2 : ∀ d' os, Calls Tryz.prog 127 #[.agg #[.int .i64 x, .int .i64 y], .agg #[.int .i64 c, .int .i64 b]] (Go.Sort.grow (redrawn u d') os) fun e w'' => e = .returned (.int .i64 D2) ∧ ∃ p : Regrown, w'' = Go.Sort.grow (redrawn u p.d) p.os := fun d' os => Calls.regrown_of (N2.out _)
  have M2 := Lib.hid m2
  have m3 : ∀ d' os, Calls Tryz.prog 127 #[.agg #[.int .i64 x, .int .i64 y], .agg #[.int .i64 a, .int .i64 d]] (Go.Sort.grow (redrawn u d') os) fun e w'' => e = .returned (.int .i64 D3) ∧ ∃ p : Regrown, w'' = Go.Sort.grow (redrawn u p.d) p.os := fun d' os => Calls.regrown_of (N3.out _)
  have M3 := Lib.hid m3
  have m4 : ∀ d' os, Calls Tryz.prog 127 #[.agg #[.int .i64 x, .int .i64 y], .agg #[.int .i64 c, .int .i64 d]] (Go.Sort.grow (redrawn u d') os) fun e w'' => e = .returned (.int .i64 D4) ∧ ∃ p : Regrown, w'' = Go.Sort.grow (redrawn u p.d) p.os := fun d' os => Calls.regrown_of (N4.out _)
  have M4 := Lib.hid m4
  clear m1 m2 m3 m4 jP kC
  refine wp_region_quiet_below (by kernel_rfl) (by kernel_rfl) ?_
  repeat (any_goals (first | go_big_quiet_step (first | (with_reducible exact M1.out _ _) | (with_reducible exact M2.out _ _) | (with_reducible exact M3.out _ _) | (with_reducible exact M4.out _ _)) | quiet_step (first | (with_reducible exact M1.out _ _) | (with_reducible exact M2.out _ _) | (with_reducible exact M3.out _ _) | (with_reducible exact M4.out _ _))))
  all_goals refine wpQuiet_nil ?_
  all_goals
    intro w1 hw'
    have hb : Below u.heap.size u w1 := by obtain ⟨p, rfl⟩ := hw'; exact below_regrown _ _ _
    have HB1 := Lib.hid (HBU.out.trans (hb.mono su))
    clear hw' hb
    go_wp2_with fail
    all_goals
      go_ret
      exact ⟨congrArg (fun z => Ending.returned (Value.int .i64 z)) (by have := EV.out; omega), HB1.out⟩
end Go.Proofs.YtfajckkbinbpiaaGreatDoor
namespace Go.Proofs.YtfajckkbinbpiaaGreatDoor
set_option maxRecDepth 100000
set_option maxHeartbeats 32000000
set_option linter.unusedVariables false
set_option linter.unusedSimpArgs false
open Go.RowKit
theorem r_sq {r : Int} (r_0 : 1 ≤ r) (r_1 : r ≤ 1000) : IntKind.i64.wrap (r * r) = r * r := by
  have h1 := Int.mul_le_mul r_1 r_1 (by omega) (by decide : (0 : Int) ≤ 1000)
  have h2 := Int.mul_nonneg (show 0 ≤ r by omega) (show 0 ≤ r by omega)
  exact IntWalk.i64_in _ (by omega)
theorem rdisc_c (a b c d x y r : Int) (w : World) (a_0 : -2000 ≤ a) (a_1 : a ≤ 2000) (b_0 : -2000 ≤ b) (b_1 : b ≤ 2000) (c_0 : -2000 ≤ c) (c_1 : c ≤ 2000) (d_0 : -2000 ≤ d) (d_1 : d ≤ 2000) (x_0 : -2000 ≤ x) (x_1 : x ≤ 2000) (y_0 : -2000 ≤ y) (y_1 : y ≤ 2000) (ac : a ≤ c) (bd : b ≤ d) (r_0 : 1 ≤ r) (r_1 : r ≤ 1000) : Calls Tryz.prog 78 #[.agg #[.int .i64 a, .int .i64 b, .int .i64 c, .int .i64 d], .agg #[.int .i64 x, .int .i64 y], .int .i64 r] w fun e w' => e = .returned (.int .i64 (Geo.discC ⟨a, b, c, d⟩ x y r)) ∧ Below w.heap.size w w' := by
  have n1 := fun w => rnear_c a b c d x y w a_0 a_1 b_0 b_1 c_0 c_1 d_0 d_1 x_0 x_1 y_0 y_1 ac bd
  have n2 := fun w => rmost_c a b c d x y w a_0 a_1 b_0 b_1 c_0 c_1 d_0 d_1 x_0 x_1 y_0 y_1
  have ev : Geo.discC ⟨a, b, c, d⟩ x y r = if r * r < Geo.near2 a b c d x y then 0 else if Geo.most2 a b c d x y ≤ r * r then 2 else 1 := rfl
  rw [ev]
  have sR := r_sq r_0 r_1
  obtain ⟨R, eR⟩ : ∃ R, r * r = R := ⟨_, rfl⟩
  obtain ⟨N, eN⟩ : ∃ R, Geo.near2 a b c d x y = R := ⟨_, rfl⟩
  obtain ⟨M, eM⟩ : ∃ R, Geo.most2 a b c d x y = R := ⟨_, rfl⟩
  rw [eR, eN, eM]
  rw [eR] at sR
  rw [eN] at n1
  rw [eM] at n2
  have SR := Lib.hid eR
  have sR2 : IntKind.i64.wrap (r * r) = R := by rw [eR]; exact sR
  have C1 := Lib.hid n1
  have C2 := Lib.hid n2
  have d1 : decide (r < 1) = false := by simp; omega
  clear n1 n2 ev eR eN eM sR
  rcases Int.lt_or_le R N with h | h
  · have d2 : decide (N > R) = true := by simp; omega
    rw [if_pos h]
    go_enter Tryz.func78, Tryz.ntmps78
    go_wp2_with fail
    refine (C1.out _).mono ?_
    rintro e w1 ⟨rfl, hb⟩
    have hB1 : Below w.heap.size w w1 := Below.trans (by exact blw) (hb.mono (by first | omega | (simp; done) | (simp; omega)))
    have k1_0 : Blk w1 (w.heap.size) 70 #[.int .i64 a, .int .i64 b, .int .i64 c, .int .i64 d] := Blk.below (by exact bkw) hb (by first | omega | (simp; done) | (simp; omega))
    have k1_1 : Blk w1 (w.heap.size + 1) 58 #[.int .i64 x, .int .i64 y] := Blk.below (by exact bkw) hb (by first | omega | (simp; done) | (simp; omega))
    have c1_0 := k1_0.cell
    have f1_0 := k1_0.frozen
    have l1_0 := k1_0.lt
    have c1_1 := k1_1.cell
    have f1_1 := k1_1.frozen
    have l1_1 := k1_1.lt
    have l1 := hB1.size
    clear hb
    go_wp2_with fail
    go_ret
    exact ⟨rfl, hB1⟩
  · have d2 : decide (N > R) = false := by simp; omega
    rw [if_neg (by omega)]
    rcases Int.lt_or_le R M with g | g
    · have d3 : decide (M ≤ R) = false := by simp; omega
      rw [if_neg (by omega)]
      go_enter Tryz.func78, Tryz.ntmps78
      go_wp2_with fail
      refine (C1.out _).mono ?_
      rintro e w1 ⟨rfl, hb⟩
      have hB1 : Below w.heap.size w w1 := Below.trans (by exact blw) (hb.mono (by first | omega | (simp; done) | (simp; omega)))
      have k1_0 : Blk w1 (w.heap.size) 70 #[.int .i64 a, .int .i64 b, .int .i64 c, .int .i64 d] := Blk.below (by exact bkw) hb (by first | omega | (simp; done) | (simp; omega))
      have k1_1 : Blk w1 (w.heap.size + 1) 58 #[.int .i64 x, .int .i64 y] := Blk.below (by exact bkw) hb (by first | omega | (simp; done) | (simp; omega))
      have c1_0 := k1_0.cell
      have f1_0 := k1_0.frozen
      have l1_0 := k1_0.lt
      have c1_1 := k1_1.cell
      have f1_1 := k1_1.frozen
      have l1_1 := k1_1.lt
      have l1 := hB1.size
      clear hb
      go_wp2_with fail
      refine (C2.out _).mono ?_
      rintro e w2 ⟨rfl, hb⟩
      have hB2 : Below w.heap.size w w2 := Below.trans (by exact blw) (hb.mono (by first | omega | (simp; done) | (simp; omega)))
      have l2 := hB2.size
      clear hb k1_0 k1_1 c1_0 c1_1 f1_0 f1_1 l1_0 l1_1
      go_wp2_with fail
      go_ret
      exact ⟨rfl, hB2⟩
    · have d3 : decide (M ≤ R) = true := by simp; omega
      rw [if_pos g]
      go_enter Tryz.func78, Tryz.ntmps78
      go_wp2_with fail
      refine (C1.out _).mono ?_
      rintro e w1 ⟨rfl, hb⟩
      have hB1 : Below w.heap.size w w1 := Below.trans (by exact blw) (hb.mono (by first | omega | (simp; done) | (simp; omega)))
      have k1_0 : Blk w1 (w.heap.size) 70 #[.int .i64 a, .int .i64 b, .int .i64 c, .int .i64 d] := Blk.below (by exact bkw) hb (by first | omega | (simp; done) | (simp; omega))
      have k1_1 : Blk w1 (w.heap.size + 1) 58 #[.int .i64 x, .int .i64 y] := Blk.below (by exact bkw) hb (by first | omega | (simp; done) | (simp; omega))
      have c1_0 := k1_0.cell
      have f1_0 := k1_0.frozen
      have l1_0 := k1_0.lt
      have c1_1 := k1_1.cell
      have f1_1 := k1_1.frozen
      have l1_1 := k1_1.lt
      have l1 := hB1.size
      clear hb
      go_wp2_with fail
      refine (C2.out _).mono ?_
      rintro e w2 ⟨rfl, hb⟩
      have hB2 : Below w.heap.size w w2 := Below.trans (by exact blw) (hb.mono (by first | omega | (simp; done) | (simp; omega)))
      have l2 := hB2.size
      clear hb k1_0 k1_1 c1_0 c1_1 f1_0 f1_1 l1_0 l1_1
      go_wp2_with fail
      go_ret
      exact ⟨rfl, hB2⟩
theorem rdischas_c (p q x y r : Int) (w : World) (p_0 : -2000 ≤ p) (p_1 : p ≤ 2000) (q_0 : -2000 ≤ q) (q_1 : q ≤ 2000) (x_0 : -2000 ≤ x) (x_1 : x ≤ 2000) (y_0 : -2000 ≤ y) (y_1 : y ≤ 2000) (r_0 : 1 ≤ r) (r_1 : r ≤ 1000) : Calls Tryz.prog 134 #[.agg #[.int .i64 p, .int .i64 q], .agg #[.int .i64 x, .int .i64 y], .int .i64 r] w fun e w' => e = .returned (.bool ((Geo.Sh.disc x y r).has (p, q))) ∧ Below w.heap.size w w' := by
  have n1 := fun w => rdist_c p q x y w p_0 p_1 q_0 q_1 x_0 x_1 y_0 y_1
  have ev : (Geo.Sh.disc x y r).has (p, q) = decide (Geo.dist p q x y ≤ r * r) := rfl
  rw [ev]
  have sR := r_sq r_0 r_1
  obtain ⟨R, eR⟩ : ∃ R, r * r = R := ⟨_, rfl⟩
  obtain ⟨N, eN⟩ : ∃ R, Geo.dist p q x y = R := ⟨_, rfl⟩
  rw [eR, eN]
  rw [eR] at sR
  rw [eN] at n1
  have sR2 : IntKind.i64.wrap (r * r) = R := by rw [eR]; exact sR
  have C1 := Lib.hid n1
  have d1 : decide (1 ≤ r) = true := by simp; omega
  have d1' : decide (r ≥ 1) = true := by simp; omega
  clear n1 ev eR eN sR
  obtain ⟨T, eT⟩ : ∃ T, decide (N ≤ R) = T := ⟨_, rfl⟩
  rw [eT]
  go_enter Tryz.func134, Tryz.ntmps134
  go_wp2_with fail
  refine (C1.out _).mono ?_
  rintro e w1 ⟨rfl, hb⟩
  have hB1 : Below w.heap.size w w1 := Below.trans (by exact blw) (hb.mono (by first | omega | (simp; done) | (simp; omega)))
  have l1 := hB1.size
  clear hb
  go_wp2_with fail
  go_ret
  exact ⟨rfl, hB1⟩
end Go.Proofs.YtfajckkbinbpiaaGreatDoor
