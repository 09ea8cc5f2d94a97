/- Walks: package mix: Start, Over, Byte, Grey, at the arguments that may be. -/
import Derived.Test.YtcpfpefbpeidpaaMixBase
namespace Go.Proofs.Ytcpfpefbpeidpaa
open Go.RowKit
set_option linter.unusedVariables false

set_option maxHeartbeats 400000 in
theorem okcov_yes (lo hi n : Int) (h0 : 1 ≤ n) (h1 : n ≤ 4096) (h2 : 0 ≤ lo) (h3 : lo ≤ hi) (h4 : hi ≤ n) (w : World) :
    Calls Try.prog 26 #[.agg #[.int .i64 lo, .int .i64 hi], .int .i64 n] w fun e w' => e = .returned (.bool true) ∧ Below w.heap.size w w' := by
  go_enter Try.func26, Try.ntmps26
  go_wp2
  go_ret
  exact ⟨rfl, by go_grown⟩
set_option maxHeartbeats 400000 in
theorem oktone_yes (lo hi : Int) (h2 : 0 ≤ lo) (h3 : lo ≤ hi) (h4 : hi ≤ 16711680) (w : World) :
    Calls Try.prog 27 #[.agg #[.int .i64 lo, .int .i64 hi]] w fun e w' => e = .returned (.bool true) ∧ Below w.heap.size w w' := by
  go_enter Try.func27, Try.ntmps27
  go_wp2
  go_ret
  exact ⟨rfl, by go_grown⟩

/-- What Over returns: the least number divided and rounded down, the greatest rounded up. -/
def OverIs (m M D : Int) (w : World) (e : Ending) (w' : World) : Prop := e = .returned (.tuple #[.agg #[.int .i64 (m / D), .int .i64 ((M + D - 1) / D)], .bool true]) ∧ Below w.heap.size w w'
theorem overIs_mk {m M D x y : Int} {w w' : World} (hx : x = m) (hy : y = M) (hb : Below w.heap.size w w') : OverIs m M D w (.returned (.tuple #[.agg #[.int .i64 (x / D), .int .i64 ((y + D - 1) / D)], .bool true])) w' := by
  subst hx hy; exact ⟨rfl, hb⟩
theorem leaf {w w2 : World} {X Y D m M : Int} (tm : Array Value) (h10 : tm.getD 10 undef = .pointer (some ⟨w.heap.size + 1 + 1, 0, none⟩)) (h11 : tm.getD 11 undef = .bool true)
    (c : ∀ i, w2.cell? ⟨w.heap.size + 1 + 1, i, none⟩ = (#[.int .i64 0, .int .i64 0] : Array Value)[i]?) (hB : Below w.heap.size w w2) (hx : X = m) (hy : Y = M) :
    bodyPost Try.prog Try.f15 (OverIs m M D w) Exit.ret { tmps := tm, defers := [] }
      ((w2.setCell ⟨w.heap.size + 1 + 1, 0, none⟩ (.int .i64 (X / D))).setCell ⟨w.heap.size + 1 + 1, 1, none⟩ (.int .i64 ((Y + D - 1) / D))).drew := by
  refine bodyPost_ret (v := .tuple #[.agg #[.int .i64 (X / D), .int .i64 ((Y + D - 1) / D)], .bool true]) ?_ rfl (overIs_mk hx hy ?_)
  · have g10 : tm[10]?.getD undef = .pointer (some ⟨w.heap.size + 1 + 1, 0, none⟩) := by simpa using h10
    have g11 : tm[11]?.getD undef = .bool true := by simpa using h11
    simp [results, Try.results15, go_sem, c, g10, g11]
  · (repeat' (first | (with_reducible exact Below.refl _ _) | (with_reducible assumption) | (with_reducible refine below_drewN ?_ _) | (with_reducible refine Below.drew ?_) | (with_reducible refine Below.alloc ?_ ?_ _) | (with_reducible refine Below.setCell ?_ ?_ _) | omega | (simp; done) | (simp; omega)))

set_option maxRecDepth 100000 in
set_option maxHeartbeats 4000000 in
theorem over_core (tl th c al vl vh n D C6 W0 W1 A1 A2 A3 A4 B0 B1 : Int) (t0 : 0 ≤ tl) (t1 : tl ≤ th) (t2 : th ≤ 16711680) (c0 : 0 ≤ c) (c1 : c ≤ 255) (a0 : 0 ≤ al) (a1 : al ≤ 255) (n0 : 1 ≤ n) (n1 : n ≤ 4096)
    (v0 : 0 ≤ vl) (v1 : vl ≤ vh) (v2 : vh ≤ n) (eD : 255 * n = D) (eC : 65536 * c = C6) (eW0 : al * vl = W0) (eW1 : al * vh = W1) (e1 : tl * (D - W0) = A1) (e2 : th * (D - W0) = A2) (e3 : tl * (D - W1) = A3) (e4 : th * (D - W1) = A4)
    (e5 : C6 * W0 = B0) (e6 : C6 * W1 = B1) (b0 : 0 ≤ W0) (b1 : W0 ≤ W1) (b2 : W1 ≤ D) (f1 : 0 ≤ A1) (f2 : A1 ≤ 17592186044416) (f3 : 0 ≤ A2) (f4 : A2 ≤ 17592186044416) (f5 : 0 ≤ A3) (f6 : A3 ≤ 17592186044416) (f7 : 0 ≤ A4) (f8 : A4 ≤ 17592186044416)
    (o1 : A1 ≤ A2) (o2 : A3 ≤ A4) (g0 : 0 ≤ B0) (g1 : B0 ≤ 17592186044416) (g2 : 0 ≤ B1) (g3 : B1 ≤ 17592186044416) (w : World) :
    Calls Try.prog 15 #[.agg #[.int .i64 tl, .int .i64 th], .int .i64 c, .int .i64 al, .agg #[.int .i64 vl, .int .i64 vh], .int .i64 n] w (OverIs (min (A1 + B0) (A3 + B1)) (max (A2 + B0) (A4 + B1)) D w) := by
  have i0 : ∀ w, (Instr.index 56 (.agg #[.int .i64 vl, .int .i64 vh]) (.int .i64 0)).run Try.prog w = .ok (.int .i64 vl) w := fun _ => by kernel_rfl
  have i1 : ∀ w, (Instr.index 56 (.agg #[.int .i64 vl, .int .i64 vh]) (.int .i64 1)).run Try.prog w = .ok (.int .i64 vh) w := fun _ => by kernel_rfl
  have i2 : ∀ w, (Instr.index 57 (.agg #[.int .i64 tl, .int .i64 th]) (.int .i64 0)).run Try.prog w = .ok (.int .i64 tl) w := fun _ => by kernel_rfl
  have i3 : ∀ w, (Instr.index 57 (.agg #[.int .i64 tl, .int .i64 th]) (.int .i64 1)).run Try.prog w = .ok (.int .i64 th) w := fun _ => by kernel_rfl
  go_enter Try.func15, Try.ntmps15
  go_wp2_with fail
  refine (okcov_yes _ _ _ n0 n1 v0 v1 v2 _).mono ?_
  rintro e w1 ⟨rfl, hb⟩
  have hB1 : Below w.heap.size w w1 := Below.trans (by (repeat' (first | (with_reducible exact Below.refl _ _) | (with_reducible assumption) | (with_reducible refine below_drewN ?_ _) | (with_reducible refine Below.drew ?_) | (with_reducible refine Below.alloc ?_ ?_ _) | (with_reducible refine Below.setCell ?_ ?_ _) | omega | (simp; done) | (simp; omega)))) (hb.mono (by first | omega | (simp; done) | (simp; omega)))
  have k1_0 : Blk w1 (w.heap.size) 34 #[.int .i64 tl, .int .i64 th] := Blk.below (by (repeat' (first | (with_reducible assumption) | (with_reducible exact Blk.new _ _ _) | (exact Blk.newAt (by first | rfl | (simp; done) | omega)) | (with_reducible refine Blk.drewN ?_ _) | (with_reducible refine Blk.drew ?_) | (with_reducible refine Blk.alloc ?_ _) | (with_reducible apply Blk.set_) | (with_reducible refine Blk.far ?_ ?_ _) | rfl | omega | (simp; done) | (simp; omega)))) hb (by first | omega | (simp; done) | (simp; omega))
  have k1_1 : Blk w1 (w.heap.size + 1) 38 #[.int .i64 vl, .int .i64 vh] := Blk.below (by (repeat' (first | (with_reducible assumption) | (with_reducible exact Blk.new _ _ _) | (exact Blk.newAt (by first | rfl | (simp; done) | omega)) | (with_reducible refine Blk.drewN ?_ _) | (with_reducible refine Blk.drew ?_) | (with_reducible refine Blk.alloc ?_ _) | (with_reducible apply Blk.set_) | (with_reducible refine Blk.far ?_ ?_ _) | rfl | omega | (simp; done) | (simp; omega)))) hb (by first | omega | (simp; done) | (simp; omega))
  have k1_2 : Blk w1 (w.heap.size + 1 + 1) 34 #[.int .i64 0, .int .i64 0] := Blk.below (by (repeat' (first | (with_reducible assumption) | (with_reducible exact Blk.new _ _ _) | (exact Blk.newAt (by first | rfl | (simp; done) | omega)) | (with_reducible refine Blk.drewN ?_ _) | (with_reducible refine Blk.drew ?_) | (with_reducible refine Blk.alloc ?_ _) | (with_reducible apply Blk.set_) | (with_reducible refine Blk.far ?_ ?_ _) | rfl | omega | (simp; done) | (simp; omega)))) hb (by first | omega | (simp; done) | (simp; omega))
  have c1_0 := k1_0.cell
  have f1_0 := k1_0.frozen
  have l1_0 := k1_0.lt
  have c1_1 := k1_1.cell
  have f1_1 := k1_1.frozen
  have l1_1 := k1_1.lt
  have c1_2 := k1_2.cell
  have f1_2 := k1_2.frozen
  have l1_2 := k1_2.lt
  have l1 := hB1.size
  clear hb
  go_wp2_with fail
  as_aux_lemma =>
    refine (oktone_yes _ _ t0 t1 t2 _).mono ?_
    rintro e w2 ⟨rfl, hb⟩
    have hB2 : Below w.heap.size w w2 := Below.trans (by (repeat' (first | (with_reducible exact Below.refl _ _) | (with_reducible assumption) | (with_reducible refine below_drewN ?_ _) | (with_reducible refine Below.drew ?_) | (with_reducible refine Below.alloc ?_ ?_ _) | (with_reducible refine Below.setCell ?_ ?_ _) | omega | (simp; done) | (simp; omega)))) (hb.mono (by first | omega | (simp; done) | (simp; omega)))
    have k2_0 : Blk w2 (w.heap.size) 34 #[.int .i64 tl, .int .i64 th] := Blk.below (by (repeat' (first | (with_reducible assumption) | (with_reducible exact Blk.new _ _ _) | (exact Blk.newAt (by first | rfl | (simp; done) | omega)) | (with_reducible refine Blk.drewN ?_ _) | (with_reducible refine Blk.drew ?_) | (with_reducible refine Blk.alloc ?_ _) | (with_reducible apply Blk.set_) | (with_reducible refine Blk.far ?_ ?_ _) | rfl | omega | (simp; done) | (simp; omega)))) hb (by first | omega | (simp; done) | (simp; omega))
    have k2_1 : Blk w2 (w.heap.size + 1) 38 #[.int .i64 vl, .int .i64 vh] := Blk.below (by (repeat' (first | (with_reducible assumption) | (with_reducible exact Blk.new _ _ _) | (exact Blk.newAt (by first | rfl | (simp; done) | omega)) | (with_reducible refine Blk.drewN ?_ _) | (with_reducible refine Blk.drew ?_) | (with_reducible refine Blk.alloc ?_ _) | (with_reducible apply Blk.set_) | (with_reducible refine Blk.far ?_ ?_ _) | rfl | omega | (simp; done) | (simp; omega)))) hb (by first | omega | (simp; done) | (simp; omega))
    have k2_2 : Blk w2 (w.heap.size + 1 + 1) 34 #[.int .i64 0, .int .i64 0] := Blk.below (by (repeat' (first | (with_reducible assumption) | (with_reducible exact Blk.new _ _ _) | (exact Blk.newAt (by first | rfl | (simp; done) | omega)) | (with_reducible refine Blk.drewN ?_ _) | (with_reducible refine Blk.drew ?_) | (with_reducible refine Blk.alloc ?_ _) | (with_reducible apply Blk.set_) | (with_reducible refine Blk.far ?_ ?_ _) | rfl | omega | (simp; done) | (simp; omega)))) hb (by first | omega | (simp; done) | (simp; omega))
    have c2_0 := k2_0.cell
    have f2_0 := k2_0.frozen
    have l2_0 := k2_0.lt
    have c2_1 := k2_1.cell
    have f2_1 := k2_1.frozen
    have l2_1 := k2_1.lt
    have c2_2 := k2_2.cell
    have f2_2 := k2_2.frozen
    have l2_2 := k2_2.lt
    have l2 := hB2.size
    clear hb k1_0 c1_0 f1_0 l1_0 k1_1 c1_1 f1_1 l1_1 k1_2 c1_2 f1_2 l1_2 hB1 l1
    have c22 : ∀ i, w2.cell? ⟨w.heap.size + 2, i, none⟩ = (#[.int .i64 0, .int .i64 0] : Array Value)[i]? := c2_2
    have D0 : 1 ≤ D := by omega
    have D1 : D ≤ 1044480 := by omega
    go_wp2_with fail
    refine wp_loop_rounds 3 ?_
    rw [rounds_succ]
    go_wp2_with fail
    refine wp_loop_rounds 3 ?_
    rw [rounds_succ]
    go_wp2_with fail
    rw [rounds_succ]
    go_wp2_with fail
    all_goals as_aux_lemma =>
      rw [rounds_succ]
      go_wp2_with fail
      rw [rounds_succ]
      go_wp2_with fail
      refine wp_loop_rounds 3 ?_
      rw [rounds_succ]
      go_wp2_with fail
      all_goals as_aux_lemma =>
        rw [rounds_succ]
        go_wp2_with fail
        all_goals as_aux_lemma =>
          rw [rounds_succ]
          go_wp2_with fail
          rw [rounds_succ]
          go_wp2_with fail
          go_region
          all_goals
            go_wp2
            exact leaf _ rfl rfl c2_2 hB2 (by omega) (by omega)
end Go.Proofs.Ytcpfpefbpeidpaa
