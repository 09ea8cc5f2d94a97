/- Walks: two shapes are the same. Walk: two rows of objects are the same. -/
import Derived.Test.YtfajckkbinbpiaaGreatDoorM12
import Derived.Test.YtfajckkbinbpiaaGreatDoorM03
import Derived.Test.YtfajckkbinbpiaaGreatDoorM10
import Derived.Lib.QuietBelow
import Derived.LoopTactic
import Derived.Laws.OwnMore
namespace Go.Proofs.YtfajckkbinbpiaaGreatDoor
open Go.RowKit
set_option linter.unusedVariables false
set_option linter.unusedSimpArgs false

set_option maxRecDepth 100000 in
set_option maxHeartbeats 4000000 in
theorem samePts_nil (w : World) : Calls Tryz.prog 64 #[.slice none 0 0, .slice none 0 0] w fun e w' => e = .returned (.bool true) ∧ w = w' := by
  go_enter Tryz.func64, Tryz.ntmps64
  go_wp2_with fail
  refine wp_loop_rounds 1 ?_
  rw [rounds_succ]
  go_wp2_with fail
  go_ret
  exact ⟨rfl, rfl⟩
set_option maxRecDepth 100000 in
set_option maxHeartbeats 4000000 in
theorem same_disc (x y : Int) (w : World) : Calls Tryz.prog 36 #[.agg #[.int .i64 1, .int .i64 x, .int .i64 y, .int .i64 0, .int .i64 0, .int .i64 0, .int .i64 0, .int .i64 2500000, .slice none 0 0, .slice none 0 0], .agg #[.int .i64 1, .int .i64 x, .int .i64 y, .int .i64 0, .int .i64 0, .int .i64 0, .int .i64 0, .int .i64 2500000, .slice none 0 0, .slice none 0 0]] w fun e w' => e = .returned (.bool true) ∧ Below w.heap.size w w' := by
  have h1 := Lib.hid samePts_nil
  go_enter Tryz.func36, Tryz.ntmps36
  go_wp2_with (go_at_call 64; (with_reducible refine (h1.out _).mono ?_); rintro e w' ⟨rfl, rfl⟩)
  refine wp_loop_rounds 1 ?_
  rw [rounds_succ]
  go_wp2_with fail
  go_ret
  exact ⟨rfl, by (repeat' (first | (with_reducible exact Below.refl _ _) | (with_reducible assumption) | (with_reducible refine below_drewN ?_ _) | (with_reducible refine Below.drew ?_) | (with_reducible refine Below.alloc ?_ ?_ _) | (with_reducible refine Below.setCell ?_ ?_ _) | omega | (simp; done) | (simp; omega)))⟩
end Go.Proofs.YtfajckkbinbpiaaGreatDoor
namespace Go.Proofs.YtfajckkbinbpiaaGreatDoor
open Go.RowKit
set_option linter.unusedVariables false
set_option linter.unusedSimpArgs false

set_option maxRecDepth 100000 in
set_option maxHeartbeats 4000000 in
theorem sameObjects_c (O : List Ob) (v1 v2 : Value) (B1 B2 : Nat) (w : World) (h1 : w.ownsRow B1 65 11 v1 O.length (ocells O)) (h2 : w.ownsRow B2 65 11 v2 O.length (ocells O)) (hO : O.length ≤ 100000) :
    Calls Tryz.prog 14 #[v1, v2] w fun e w' => e = .returned (.bool true) ∧ Below w.heap.size w w' := by
  obtain ⟨p1, c1, rfl⟩ := own_form h1
  obtain ⟨p2, c2, rfl⟩ := own_form h2
  obtain ⟨N, eN⟩ : ∃ N, O.length = N := ⟨_, rfl⟩
  rw [eN] at h1 h2 hO ⊢
  have HN := Lib.hid eN
  have H1 := Lib.hid h1
  have H2 := Lib.hid h2
  clear h1 h2 eN
  go_enter Tryz.func14, Tryz.ntmps14
  go_wp2_with fail
  go_loopw [5] (fun i wr => ∃ k : Nat, i = .int .i64 (k : Int) ∧ k ≤ N ∧ Below w.heap.size w wr) (fun i wr => N - (intOf i).toNat)
  case atStart => exact ⟨0, rfl, Nat.zero_le _, Below.refl _ _⟩
  case round =>
  obtain ⟨k, rfl, hk, hB⟩ := hrel
  have HB := Lib.hid hB
  have lw := hB.size
  clear hB
  by_cases hlt : k < N
  · obtain ⟨o, eo⟩ : ∃ o, O[k]'(by have := HN.out; omega) = o := ⟨_, rfl⟩
    have hkO : k < O.length := by have := HN.out; omega
    have hr1 := own_below H1.out HB.out (Nat.le_refl _)
    have hr2 := own_below H2.out HB.out (Nat.le_refl _)
    obtain ⟨g1, cc1, he1, _, hg1⟩ := hr1.form (by omega)
    obtain ⟨g2, cc2, he2, _, hg2⟩ := hr2.form (by omega)
    simp only [Value.slice.injEq, true_and] at he1 he2
    obtain ⟨hp1, hc1⟩ := he1
    obtain ⟨hp2, hc2⟩ := he2
    subst hp1 hc1 hp2 hc2
    have ha : ∀ j v, j < 11 → o.cells[j]? = some v → wr.cell? ⟨g1, k * 11 + j, none⟩ = some v := fun j v hj hv => by
      rw [hr1.cellAt (k * 11 + j) (by omega), ocells_at O k hkO j hj, eo, hv]
    have hb : ∀ j v, j < 11 → o.cells[j]? = some v → wr.cell? ⟨g2, k * 11 + j, none⟩ = some v := fun j v hj hv => by
      rw [hr2.cellAt (k * 11 + j) (by omega), ocells_at O k hkO j hj, eo, hv]
    have a0 := ha 0 (.bool o.dark) (by omega) rfl
    have b0 := hb 0 (.bool o.dark) (by omega) rfl
    have a1 := ha 1 (.int .i64 1) (by omega) rfl
    have b1 := hb 1 (.int .i64 1) (by omega) rfl
    have a2 := ha 2 (.int .i64 o.x) (by omega) rfl
    have b2 := hb 2 (.int .i64 o.x) (by omega) rfl
    have a3 := ha 3 (.int .i64 o.y) (by omega) rfl
    have b3 := hb 3 (.int .i64 o.y) (by omega) rfl
    have a4 := ha 4 (.int .i64 0) (by omega) rfl
    have b4 := hb 4 (.int .i64 0) (by omega) rfl
    have a5 := ha 5 (.int .i64 0) (by omega) rfl
    have b5 := hb 5 (.int .i64 0) (by omega) rfl
    have a6 := ha 6 (.int .i64 0) (by omega) rfl
    have b6 := hb 6 (.int .i64 0) (by omega) rfl
    have a7 := ha 7 (.int .i64 0) (by omega) rfl
    have b7 := hb 7 (.int .i64 0) (by omega) rfl
    have a8 := ha 8 (.int .i64 2500000) (by omega) rfl
    have b8 := hb 8 (.int .i64 2500000) (by omega) rfl
    have a9 := ha 9 (.slice none 0 0) (by omega) rfl
    have b9 := hb 9 (.slice none 0 0) (by omega) rfl
    have a10 := ha 10 (.slice none 0 0) (by omega) rfl
    have b10 := hb 10 (.slice none 0 0) (by omega) rfl
    simp only [Nat.add_zero] at a0 b0
    have m1 : ∀ d os, Calls Tryz.prog 36 #[.agg #[.int .i64 1, .int .i64 o.x, .int .i64 o.y, .int .i64 0, .int .i64 0, .int .i64 0, .int .i64 0, .int .i64 2500000, .slice none 0 0, .slice none 0 0], .agg #[.int .i64 1, .int .i64 o.x, .int .i64 o.y, .int .i64 0, .int .i64 0, .int .i64 0, .int .i64 0, .int .i64 2500000, .slice none 0 0, .slice none 0 0]] (Go.Sort.grow (redrawn wr d) os) fun e w'' => e = .returned (.bool true) ∧ ∃ p : Regrown, w'' = Go.Sort.grow (redrawn wr p.d) p.os := fun d os => Calls.regrown_of (same_disc o.x o.y _)
    have M1 := Lib.hid m1
    have i1 : (k : Int) < (N : Int) := by omega
    clear ha hb hr1 hr2 eo m1
    go_wp2_with fail
    have x0 := cell_regrown a0
    have y0 := cell_regrown b0
    have x1 := cell_regrown a1
    have y1 := cell_regrown b1
    have x2 := cell_regrown a2
    have y2 := cell_regrown b2
    have x3 := cell_regrown a3
    have y3 := cell_regrown b3
    have x4 := cell_regrown a4
    have y4 := cell_regrown b4
    have x5 := cell_regrown a5
    have y5 := cell_regrown b5
    have x6 := cell_regrown a6
    have y6 := cell_regrown b6
    have x7 := cell_regrown a7
    have y7 := cell_regrown b7
    have x8 := cell_regrown a8
    have y8 := cell_regrown b8
    have x9 := cell_regrown a9
    have y9 := cell_regrown b9
    have x10 := cell_regrown a10
    have y10 := cell_regrown b10
    refine wp_region_quiet_below (by kernel_rfl) (by kernel_rfl) ?_
    repeat (first | go_big_quiet_step (with_reducible exact M1.out _ _) | quiet_step (with_reducible exact M1.out _ _))
    refine wpQuiet_nil ?_
    intro u hw'
    have hb : Below wr.heap.size wr u := by obtain ⟨p, rfl⟩ := hw'; exact below_regrown _ _ _
    have HB2 := Lib.hid (HB.out.trans (hb.mono lw))
    clear hw' hb a0 a1 a2 a3 a4 a5 a6 a7 a8 a9 a10 b0 b1 b2 b3 b4 b5 b6 b7 b8 b9 b10 x0 x1 x2 x3 x4 x5 x6 x7 x8 x9 x10 y0 y1 y2 y3 y4 y5 y6 y7 y8 y9 y10
    go_wp2_with fail
    go_roundw
    case rel =>
      have hr2 : ∃ k' : Nat, Value.int .i64 ((k : Int) + 1) = .int .i64 (k' : Int) ∧ k' ≤ N ∧ Below w.heap.size w u := ⟨k + 1, by go_num, by omega, HB2.out⟩
      first | exact hr2 | ((repeat apply Exists.intro); exact ⟨hr2, rfl⟩)
    case measure => simp [intOf]; omega
  · have e : k = N := by omega
    subst e
    go_wp2_with fail
    go_ret
    exact ⟨rfl, HB.out⟩
end Go.Proofs.YtfajckkbinbpiaaGreatDoor
