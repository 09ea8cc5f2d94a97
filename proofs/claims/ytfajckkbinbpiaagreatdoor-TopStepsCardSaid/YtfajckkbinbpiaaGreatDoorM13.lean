/- Walks: boxes, edges and pixels of the one fixed image. -/
import Derived.Test.YtfajckkbinbpiaaGreatDoorM12
import Derived.Test.YtfajckkbinbpiaaGreatDoorM03
namespace Go.Proofs.YtfajckkbinbpiaaGreatDoor
open Go.RowKit
set_option linter.unusedVariables false
set_option linter.unusedSimpArgs false

/-- The corners of the one square that is drawn. -/
def sqv : List Value := [.int .i64 (-20000000), .int .i64 (-20000000), .int .i64 20000000, .int .i64 (-20000000), .int .i64 20000000, .int .i64 20000000, .int .i64 (-20000000), .int .i64 20000000]
/-- A list of the one contour, the square. -/
def SqAt (w : World) (gl gp cp : Nat) : Prop := w.cell? ⟨gl, 0, none⟩ = some (.slice (some ⟨gp, 0, none⟩) 4 cp) ∧ ∀ j v, sqv[j]? = some v → w.cell? ⟨gp, j, none⟩ = some v
section
variable {w w' : World} {gl gp cp : Nat}
theorem SqAt.lt1 (h : SqAt w gl gp cp) : gl < w.heap.size := blk_of_cell h.1
theorem SqAt.lt2 (h : SqAt w gl gp cp) : gp < w.heap.size := blk_of_cell (h.2 0 _ rfl)
theorem SqAt.same (h : SqAt w gl gp cp) (h1 : w'.heap[gl]? = w.heap[gl]?) (h2 : w'.heap[gp]? = w.heap[gp]?) : SqAt w' gl gp cp :=
  ⟨(World.cell?_of_block h1).trans h.1, fun j v hj => (World.cell?_of_block h2).trans (h.2 j v hj)⟩
theorem SqAt.below {B : Nat} (h : SqAt w gl gp cp) (hb : Below B w w') (hB : w.heap.size ≤ B) : SqAt w' gl gp cp :=
  h.same (hb.block _ (Nat.lt_of_lt_of_le h.lt1 hB)) (hb.block _ (Nat.lt_of_lt_of_le h.lt2 hB))
theorem SqAt.alloc (h : SqAt w gl gp cp) (o : Obj) : SqAt (w.alloc o) gl gp cp :=
  h.same (Below.heap_alloc w o _ h.lt1) (Below.heap_alloc w o _ h.lt2)
theorem SqAt.drew (h : SqAt w gl gp cp) : SqAt w.drew gl gp cp := h
theorem SqAt.drewN (h : SqAt w gl gp cp) (n : Nat) : SqAt (w.drewN n) gl gp cp := h
theorem SqAt.far (h : SqAt w gl gp cp) {p : Addr} (h1 : gl ≠ p.block) (h2 : gp ≠ p.block) (u : Value) : SqAt (w.setCell p u) gl gp cp :=
  h.same (Below.heap_setCell w p u _ h1) (Below.heap_setCell w p u _ h2)
theorem SqAt.only {S : List Nat} (h : SqAt w gl gp cp) (ho : Only S w w') (h1 : gl ∉ S) (h2 : gp ∉ S) : SqAt w' gl gp cp :=
  h.same (ho.block _ h.lt1 h1) (ho.block _ h.lt2 h2)
theorem SqAt.cells (h : SqAt w gl gp cp) : w.cell? ⟨gl, 0, none⟩ = some (.slice (some ⟨gp, 0, none⟩) 4 cp) ∧ w.cell? ⟨gp, 0, none⟩ = some (.int .i64 (-20000000)) ∧ w.cell? ⟨gp, 1, none⟩ = some (.int .i64 (-20000000)) ∧ w.cell? ⟨gp, 2, none⟩ = some (.int .i64 20000000) ∧ w.cell? ⟨gp, 3, none⟩ = some (.int .i64 (-20000000)) ∧ w.cell? ⟨gp, 4, none⟩ = some (.int .i64 20000000) ∧ w.cell? ⟨gp, 5, none⟩ = some (.int .i64 20000000) ∧ w.cell? ⟨gp, 6, none⟩ = some (.int .i64 (-20000000)) ∧ w.cell? ⟨gp, 7, none⟩ = some (.int .i64 20000000) :=
  ⟨h.1, h.2 0 _ rfl, h.2 1 _ rfl, h.2 2 _ rfl, h.2 3 _ rfl, h.2 4 _ rfl, h.2 5 _ rfl, h.2 6 _ rfl, h.2 7 _ rfl⟩
end
set_option maxRecDepth 100000 in
set_option maxHeartbeats 4000000 in
theorem boxok_yes (a b c d : Int) (w : World) (h0 : -536870912 ≤ a) (h1 : a ≤ c) (h2 : c ≤ 536870912) (g0 : -536870912 ≤ b) (g1 : b ≤ d) (g2 : d ≤ 536870912) :
    Calls Tryz.prog 85 #[.agg #[.int .i64 a, .int .i64 b, .int .i64 c, .int .i64 d]] w fun e w' => e = .returned (.bool true) ∧ Below w.heap.size w w' := by
  have e1 : -536870912 ≤ c := by omega
  have e2 : -536870912 ≤ d := by omega
  have e3 : a ≤ 536870912 := by omega
  have e4 : b ≤ 536870912 := by omega
  go_enter Tryz.func85, Tryz.ntmps85
  go_wp2
  go_ret
  exact ⟨rfl, by go_grown⟩
set_option maxRecDepth 100000 in
set_option maxHeartbeats 4000000 in
theorem viewok_a (w : World) :
    Calls Tryz.prog 51 #[.agg #[.int .i64 (-10000000), .int .i64 (-10000000), .int .i64 10000000, .int .i64 2, .int .i64 2, .int .i64 0]] w fun e w' => e = .returned (.bool true) ∧ Below w.heap.size w w' := by
  go_enter Tryz.func51, Tryz.ntmps51
  go_wp2
  go_quiet (fail)
  go_wp2_with (go_at_call 85; refine (boxok_yes _ _ _ _ _ (by omega) (by omega) (by omega) (by omega) (by omega) (by omega)).mono ?_; rintro e w1 ⟨rfl, hb⟩)
  go_ret
  have hB : Below w.heap.size w w1 := Below.trans (by (repeat' (first | (with_reducible exact Below.refl _ _) | (with_reducible assumption) | (with_reducible refine below_drewN ?_ _) | (with_reducible refine Below.drew ?_) | (with_reducible refine Below.alloc ?_ ?_ _) | (with_reducible refine Below.setCell ?_ ?_ _) | omega | (simp; done) | (simp; omega)))) (hb.mono (by first | omega | (simp; done) | (simp; omega)))
  exact ⟨rfl, hB⟩
set_option maxRecDepth 100000 in
set_option maxHeartbeats 4000000 in
theorem cells_a (w : World) :
    Calls Tryz.prog 29 #[.agg #[.int .i64 (-10000000), .int .i64 (-10000000), .int .i64 10000000, .int .i64 2, .int .i64 2, .int .i64 0]] w fun e w' => e = .returned (.int .i64 1) ∧ Below w.heap.size w w' := by
  go_enter Tryz.func29, Tryz.ntmps29
  go_wp2_with (go_at_call 51; refine (viewok_a _).mono ?_; rintro e w1 ⟨rfl, hb⟩; obtain ⟨hc, hf⟩ := bcell hb)
  go_ret
  have hB : Below w.heap.size w w1 := Below.trans (by (repeat' (first | (with_reducible exact Below.refl _ _) | (with_reducible assumption) | (with_reducible refine below_drewN ?_ _) | (with_reducible refine Below.drew ?_) | (with_reducible refine Below.alloc ?_ ?_ _) | (with_reducible refine Below.setCell ?_ ?_ _) | omega | (simp; done) | (simp; omega)))) (hb.mono (by first | omega | (simp; done) | (simp; omega)))
  exact ⟨rfl, hB⟩
set_option maxRecDepth 100000 in
set_option maxHeartbeats 4000000 in
theorem pixel_00 (w : World) :
    Calls Tryz.prog 73 #[.agg #[.int .i64 (-10000000), .int .i64 (-10000000), .int .i64 10000000, .int .i64 2, .int .i64 2, .int .i64 0], .int .i64 0, .int .i64 0] w fun e w' => e = .returned (.tuple #[.agg #[.int .i64 (-10000000), .int .i64 0, .int .i64 0, .int .i64 10000000], .bool true]) ∧ Below w.heap.size w w' := by
  go_enter Tryz.func73, Tryz.ntmps73
  go_wp2_with (go_at_call 51; refine (viewok_a _).mono ?_; rintro e w1 ⟨rfl, hb⟩; obtain ⟨hc, hf⟩ := bcell hb)
  have hB : Below w.heap.size w w1 := Below.trans (by (repeat' (first | (with_reducible exact Below.refl _ _) | (with_reducible assumption) | (with_reducible refine below_drewN ?_ _) | (with_reducible refine Below.drew ?_) | (with_reducible refine Below.alloc ?_ ?_ _) | (with_reducible refine Below.setCell ?_ ?_ _) | omega | (simp; done) | (simp; omega)))) (hb.mono (by simp; omega))
  exact bodyPost_ret (v := .tuple #[.agg #[.int .i64 (-10000000), .int .i64 0, .int .i64 0, .int .i64 10000000], .bool true]) (by simp [results, Tryz.results73, go_sem, hc]) rfl ⟨rfl, by go_grown⟩
set_option maxRecDepth 100000 in
set_option maxHeartbeats 4000000 in
theorem pixel_01 (w : World) :
    Calls Tryz.prog 73 #[.agg #[.int .i64 (-10000000), .int .i64 (-10000000), .int .i64 10000000, .int .i64 2, .int .i64 2, .int .i64 0], .int .i64 0, .int .i64 1] w fun e w' => e = .returned (.tuple #[.agg #[.int .i64 (-10000000), .int .i64 (-10000000), .int .i64 0, .int .i64 0], .bool true]) ∧ Below w.heap.size w w' := by
  go_enter Tryz.func73, Tryz.ntmps73
  go_wp2_with (go_at_call 51; refine (viewok_a _).mono ?_; rintro e w1 ⟨rfl, hb⟩; obtain ⟨hc, hf⟩ := bcell hb)
  have hB : Below w.heap.size w w1 := Below.trans (by (repeat' (first | (with_reducible exact Below.refl _ _) | (with_reducible assumption) | (with_reducible refine below_drewN ?_ _) | (with_reducible refine Below.drew ?_) | (with_reducible refine Below.alloc ?_ ?_ _) | (with_reducible refine Below.setCell ?_ ?_ _) | omega | (simp; done) | (simp; omega)))) (hb.mono (by simp; omega))
  exact bodyPost_ret (v := .tuple #[.agg #[.int .i64 (-10000000), .int .i64 (-10000000), .int .i64 0, .int .i64 0], .bool true]) (by simp [results, Tryz.results73, go_sem, hc]) rfl ⟨rfl, by go_grown⟩
set_option maxRecDepth 100000 in
set_option maxHeartbeats 4000000 in
theorem pixel_10 (w : World) :
    Calls Tryz.prog 73 #[.agg #[.int .i64 (-10000000), .int .i64 (-10000000), .int .i64 10000000, .int .i64 2, .int .i64 2, .int .i64 0], .int .i64 1, .int .i64 0] w fun e w' => e = .returned (.tuple #[.agg #[.int .i64 0, .int .i64 0, .int .i64 10000000, .int .i64 10000000], .bool true]) ∧ Below w.heap.size w w' := by
  go_enter Tryz.func73, Tryz.ntmps73
  go_wp2_with (go_at_call 51; refine (viewok_a _).mono ?_; rintro e w1 ⟨rfl, hb⟩; obtain ⟨hc, hf⟩ := bcell hb)
  have hB : Below w.heap.size w w1 := Below.trans (by (repeat' (first | (with_reducible exact Below.refl _ _) | (with_reducible assumption) | (with_reducible refine below_drewN ?_ _) | (with_reducible refine Below.drew ?_) | (with_reducible refine Below.alloc ?_ ?_ _) | (with_reducible refine Below.setCell ?_ ?_ _) | omega | (simp; done) | (simp; omega)))) (hb.mono (by simp; omega))
  exact bodyPost_ret (v := .tuple #[.agg #[.int .i64 0, .int .i64 0, .int .i64 10000000, .int .i64 10000000], .bool true]) (by simp [results, Tryz.results73, go_sem, hc]) rfl ⟨rfl, by go_grown⟩
set_option maxRecDepth 100000 in
set_option maxHeartbeats 4000000 in
theorem pixel_11 (w : World) :
    Calls Tryz.prog 73 #[.agg #[.int .i64 (-10000000), .int .i64 (-10000000), .int .i64 10000000, .int .i64 2, .int .i64 2, .int .i64 0], .int .i64 1, .int .i64 1] w fun e w' => e = .returned (.tuple #[.agg #[.int .i64 0, .int .i64 (-10000000), .int .i64 10000000, .int .i64 0], .bool true]) ∧ Below w.heap.size w w' := by
  go_enter Tryz.func73, Tryz.ntmps73
  go_wp2_with (go_at_call 51; refine (viewok_a _).mono ?_; rintro e w1 ⟨rfl, hb⟩; obtain ⟨hc, hf⟩ := bcell hb)
  have hB : Below w.heap.size w w1 := Below.trans (by (repeat' (first | (with_reducible exact Below.refl _ _) | (with_reducible assumption) | (with_reducible refine below_drewN ?_ _) | (with_reducible refine Below.drew ?_) | (with_reducible refine Below.alloc ?_ ?_ _) | (with_reducible refine Below.setCell ?_ ?_ _) | omega | (simp; done) | (simp; omega)))) (hb.mono (by simp; omega))
  exact bodyPost_ret (v := .tuple #[.agg #[.int .i64 0, .int .i64 (-10000000), .int .i64 10000000, .int .i64 0], .bool true]) (by simp [results, Tryz.results73, go_sem, hc]) rfl ⟨rfl, by go_grown⟩
set_option maxRecDepth 100000 in
set_option maxHeartbeats 4000000 in
theorem empty_no (a b c d : Int) (w : World) (ac : a ≤ c) (bd : b ≤ d) :
    Calls Tryz.prog 173 #[.agg #[.int .i64 a, .int .i64 b, .int .i64 c, .int .i64 d]] w fun e w' => e = .returned (.bool false) ∧ Below w.heap.size w w' := by
  have dc0 : decide (c < a) = false := by simp; try omega
  have dc1 : decide (d < b) = false := by simp; try omega
  go_enter Tryz.func173, Tryz.ntmps173
  go_wp2
  go_ret
  exact ⟨rfl, by go_grown⟩
set_option maxRecDepth 100000 in
set_option maxHeartbeats 4000000 in
theorem has_corner (a b c d : Int) (w : World) (ac : a ≤ c) (bd : b ≤ d) :
    Calls Tryz.prog 282 #[.agg #[.int .i64 a, .int .i64 b, .int .i64 c, .int .i64 d], .agg #[.int .i64 a, .int .i64 b]] w fun e w' => e = .returned (.bool true) ∧ Below w.heap.size w w' := by
  have dc0 : decide (a ≤ c) = true := by simp; try omega
  have dc1 : decide (b ≤ d) = true := by simp; try omega
  go_enter Tryz.func282, Tryz.ntmps282
  go_wp2
  go_ret
  exact ⟨rfl, by go_grown⟩
set_option maxRecDepth 100000 in
set_option maxHeartbeats 4000000 in
theorem apart_no (a b c d : Int) (w : World) (a0 : -10000000 ≤ a) (ac : a ≤ c) (c1 : c ≤ 10000000) (b0 : -10000000 ≤ b) (bd : b ≤ d) (d1 : d ≤ 10000000) :
    Calls Tryz.prog 114 #[.agg #[.int .i64 (-20000000), .int .i64 (-20000000), .int .i64 20000000, .int .i64 20000000], .agg #[.int .i64 a, .int .i64 b, .int .i64 c, .int .i64 d]] w fun e w' => e = .returned (.bool false) ∧ Below w.heap.size w w' := by
  have dc0 : decide (20000000 < a) = false := by simp; try omega
  have dc1 : decide (c < -20000000) = false := by simp; try omega
  have dc2 : decide (20000000 < b) = false := by simp; try omega
  have dc3 : decide (d < -20000000) = false := by simp; try omega
  go_enter Tryz.func114, Tryz.ntmps114
  go_wp2_with fail
  refine (empty_no _ _ _ _ _ (by omega) (by omega)).mono ?_
  rintro e w1 ⟨rfl, hb⟩
  have hB1 : Below w.heap.size w w1 := Below.trans (by (repeat' (first | (with_reducible exact Below.refl _ _) | (with_reducible assumption) | (with_reducible refine below_drewN ?_ _) | (with_reducible refine Below.drew ?_) | (with_reducible refine Below.alloc ?_ ?_ _) | (with_reducible refine Below.setCell ?_ ?_ _) | omega | (simp; done) | (simp; omega)))) (hb.mono (by first | omega | (simp; done) | (simp; omega)))
  have k1_0 : Blk w1 (w.heap.size) 70 #[.int .i64 (-20000000), .int .i64 (-20000000), .int .i64 20000000, .int .i64 20000000] := Blk.below (by (repeat' (first | (with_reducible assumption) | (with_reducible exact Blk.new _ _ _) | (exact Blk.newAt (by first | rfl | (simp; done) | omega)) | (with_reducible refine Blk.drewN ?_ _) | (with_reducible refine Blk.drew ?_) | (with_reducible refine Blk.alloc ?_ _) | (with_reducible apply Blk.set_) | (with_reducible refine Blk.far ?_ ?_ _) | rfl | omega | (simp; done) | (simp; omega)))) hb (by first | omega | (simp; done) | (simp; omega))
  have k1_1 : Blk w1 (w.heap.size + 1) 70 #[.int .i64 a, .int .i64 b, .int .i64 c, .int .i64 d] := Blk.below (by (repeat' (first | (with_reducible assumption) | (with_reducible exact Blk.new _ _ _) | (exact Blk.newAt (by first | rfl | (simp; done) | omega)) | (with_reducible refine Blk.drewN ?_ _) | (with_reducible refine Blk.drew ?_) | (with_reducible refine Blk.alloc ?_ _) | (with_reducible apply Blk.set_) | (with_reducible refine Blk.far ?_ ?_ _) | rfl | omega | (simp; done) | (simp; omega)))) hb (by first | omega | (simp; done) | (simp; omega))
  have c1_0 := k1_0.cell
  have f1_0 := k1_0.frozen
  have l1_0 := k1_0.lt
  have c1_1 := k1_1.cell
  have f1_1 := k1_1.frozen
  have l1_1 := k1_1.lt
  have l1 := hB1.size
  clear hb
  go_wp2_with fail
  refine (empty_no a b c d _ ac bd).mono ?_
  rintro e w2 ⟨rfl, hb⟩
  have hB2 : Below w.heap.size w w2 := Below.trans (by (repeat' (first | (with_reducible exact Below.refl _ _) | (with_reducible assumption) | (with_reducible refine below_drewN ?_ _) | (with_reducible refine Below.drew ?_) | (with_reducible refine Below.alloc ?_ ?_ _) | (with_reducible refine Below.setCell ?_ ?_ _) | omega | (simp; done) | (simp; omega)))) (hb.mono (by first | omega | (simp; done) | (simp; omega)))
  have k2_0 : Blk w2 (w.heap.size) 70 #[.int .i64 (-20000000), .int .i64 (-20000000), .int .i64 20000000, .int .i64 20000000] := Blk.below (by (repeat' (first | (with_reducible assumption) | (with_reducible exact Blk.new _ _ _) | (exact Blk.newAt (by first | rfl | (simp; done) | omega)) | (with_reducible refine Blk.drewN ?_ _) | (with_reducible refine Blk.drew ?_) | (with_reducible refine Blk.alloc ?_ _) | (with_reducible apply Blk.set_) | (with_reducible refine Blk.far ?_ ?_ _) | rfl | omega | (simp; done) | (simp; omega)))) hb (by first | omega | (simp; done) | (simp; omega))
  have k2_1 : Blk w2 (w.heap.size + 1) 70 #[.int .i64 a, .int .i64 b, .int .i64 c, .int .i64 d] := Blk.below (by (repeat' (first | (with_reducible assumption) | (with_reducible exact Blk.new _ _ _) | (exact Blk.newAt (by first | rfl | (simp; done) | omega)) | (with_reducible refine Blk.drewN ?_ _) | (with_reducible refine Blk.drew ?_) | (with_reducible refine Blk.alloc ?_ _) | (with_reducible apply Blk.set_) | (with_reducible refine Blk.far ?_ ?_ _) | rfl | omega | (simp; done) | (simp; omega)))) hb (by first | omega | (simp; done) | (simp; omega))
  have c2_0 := k2_0.cell
  have f2_0 := k2_0.frozen
  have l2_0 := k2_0.lt
  have c2_1 := k2_1.cell
  have f2_1 := k2_1.frozen
  have l2_1 := k2_1.lt
  have l2 := hB2.size
  clear hb k1_0 k1_1 c1_0 c1_1 f1_0 f1_1 l1_0 l1_1
  go_wp2_with fail
  go_ret
  exact ⟨rfl, hB2⟩
set_option maxRecDepth 100000 in
set_option maxHeartbeats 4000000 in
theorem meets_no0 (a b c d : Int) (w : World) (a0 : -10000000 ≤ a) (ac : a ≤ c) (c1 : c ≤ 10000000) (b0 : -10000000 ≤ b) (bd : b ≤ d) (d1 : d ≤ 10000000) :
    Calls Tryz.prog 290 #[.agg #[.int .i64 a, .int .i64 b, .int .i64 c, .int .i64 d], .agg #[.int .i64 (-20000000), .int .i64 (-20000000)], .agg #[.int .i64 20000000, .int .i64 (-20000000)]] w fun e w' => e = .returned (.bool false) ∧ Below w.heap.size w w' := by
  have dc0 : decide (20000000 < a) = false := by simp; try omega
  have dc1 : decide (c < (-20000000)) = false := by simp; try omega
  have dc2 : decide ((-20000000) < b) = true := by simp; try omega
  have dc3 : decide (d < (-20000000)) = false := by simp; try omega
  go_enter Tryz.func290, Tryz.ntmps290
  go_wp2_with fail
  refine (empty_no a b c d _ ac bd).mono ?_
  rintro e w1 ⟨rfl, hb⟩
  have hB1 : Below w.heap.size w w1 := Below.trans (by (repeat' (first | (with_reducible exact Below.refl _ _) | (with_reducible assumption) | (with_reducible refine below_drewN ?_ _) | (with_reducible refine Below.drew ?_) | (with_reducible refine Below.alloc ?_ ?_ _) | (with_reducible refine Below.setCell ?_ ?_ _) | omega | (simp; done) | (simp; omega)))) (hb.mono (by first | omega | (simp; done) | (simp; omega)))
  have k1_0 : Blk w1 (w.heap.size) 70 #[.int .i64 a, .int .i64 b, .int .i64 c, .int .i64 d] := Blk.below (by (repeat' (first | (with_reducible assumption) | (with_reducible exact Blk.new _ _ _) | (exact Blk.newAt (by first | rfl | (simp; done) | omega)) | (with_reducible refine Blk.drewN ?_ _) | (with_reducible refine Blk.drew ?_) | (with_reducible refine Blk.alloc ?_ _) | (with_reducible apply Blk.set_) | (with_reducible refine Blk.far ?_ ?_ _) | rfl | omega | (simp; done) | (simp; omega)))) hb (by first | omega | (simp; done) | (simp; omega))
  have k1_1 : Blk w1 (w.heap.size + 1) 58 #[.int .i64 (-20000000), .int .i64 (-20000000)] := Blk.below (by (repeat' (first | (with_reducible assumption) | (with_reducible exact Blk.new _ _ _) | (exact Blk.newAt (by first | rfl | (simp; done) | omega)) | (with_reducible refine Blk.drewN ?_ _) | (with_reducible refine Blk.drew ?_) | (with_reducible refine Blk.alloc ?_ _) | (with_reducible apply Blk.set_) | (with_reducible refine Blk.far ?_ ?_ _) | rfl | omega | (simp; done) | (simp; omega)))) hb (by first | omega | (simp; done) | (simp; omega))
  have k1_2 : Blk w1 (w.heap.size + 1 + 1) 58 #[.int .i64 20000000, .int .i64 (-20000000)] := Blk.below (by (repeat' (first | (with_reducible assumption) | (with_reducible exact Blk.new _ _ _) | (exact Blk.newAt (by first | rfl | (simp; done) | omega)) | (with_reducible refine Blk.drewN ?_ _) | (with_reducible refine Blk.drew ?_) | (with_reducible refine Blk.alloc ?_ _) | (with_reducible apply Blk.set_) | (with_reducible refine Blk.far ?_ ?_ _) | rfl | omega | (simp; done) | (simp; omega)))) hb (by first | omega | (simp; done) | (simp; omega))
  have c1_0 := k1_0.cell
  have f1_0 := k1_0.frozen
  have l1_0 := k1_0.lt
  have c1_1 := k1_1.cell
  have f1_1 := k1_1.frozen
  have l1_1 := k1_1.lt
  have c1_2 := k1_2.cell
  have f1_2 := k1_2.frozen
  have l1_2 := k1_2.lt
  have l1 := hB1.size
  clear hb
  go_wp2_with fail
  go_ret
  exact ⟨rfl, hB1⟩
set_option maxRecDepth 100000 in
set_option maxHeartbeats 4000000 in
theorem meets_no1 (a b c d : Int) (w : World) (a0 : -10000000 ≤ a) (ac : a ≤ c) (c1 : c ≤ 10000000) (b0 : -10000000 ≤ b) (bd : b ≤ d) (d1 : d ≤ 10000000) :
    Calls Tryz.prog 290 #[.agg #[.int .i64 a, .int .i64 b, .int .i64 c, .int .i64 d], .agg #[.int .i64 20000000, .int .i64 (-20000000)], .agg #[.int .i64 20000000, .int .i64 20000000]] w fun e w' => e = .returned (.bool false) ∧ Below w.heap.size w w' := by
  have dc0 : decide (20000000 < a) = false := by simp; try omega
  have dc1 : decide (c < 20000000) = true := by simp; try omega
  have dc2 : decide (20000000 < b) = false := by simp; try omega
  have dc3 : decide (d < (-20000000)) = false := by simp; try omega
  go_enter Tryz.func290, Tryz.ntmps290
  go_wp2_with fail
  refine (empty_no a b c d _ ac bd).mono ?_
  rintro e w1 ⟨rfl, hb⟩
  have hB1 : Below w.heap.size w w1 := Below.trans (by (repeat' (first | (with_reducible exact Below.refl _ _) | (with_reducible assumption) | (with_reducible refine below_drewN ?_ _) | (with_reducible refine Below.drew ?_) | (with_reducible refine Below.alloc ?_ ?_ _) | (with_reducible refine Below.setCell ?_ ?_ _) | omega | (simp; done) | (simp; omega)))) (hb.mono (by first | omega | (simp; done) | (simp; omega)))
  have k1_0 : Blk w1 (w.heap.size) 70 #[.int .i64 a, .int .i64 b, .int .i64 c, .int .i64 d] := Blk.below (by (repeat' (first | (with_reducible assumption) | (with_reducible exact Blk.new _ _ _) | (exact Blk.newAt (by first | rfl | (simp; done) | omega)) | (with_reducible refine Blk.drewN ?_ _) | (with_reducible refine Blk.drew ?_) | (with_reducible refine Blk.alloc ?_ _) | (with_reducible apply Blk.set_) | (with_reducible refine Blk.far ?_ ?_ _) | rfl | omega | (simp; done) | (simp; omega)))) hb (by first | omega | (simp; done) | (simp; omega))
  have k1_1 : Blk w1 (w.heap.size + 1) 58 #[.int .i64 20000000, .int .i64 (-20000000)] := Blk.below (by (repeat' (first | (with_reducible assumption) | (with_reducible exact Blk.new _ _ _) | (exact Blk.newAt (by first | rfl | (simp; done) | omega)) | (with_reducible refine Blk.drewN ?_ _) | (with_reducible refine Blk.drew ?_) | (with_reducible refine Blk.alloc ?_ _) | (with_reducible apply Blk.set_) | (with_reducible refine Blk.far ?_ ?_ _) | rfl | omega | (simp; done) | (simp; omega)))) hb (by first | omega | (simp; done) | (simp; omega))
  have k1_2 : Blk w1 (w.heap.size + 1 + 1) 58 #[.int .i64 20000000, .int .i64 20000000] := Blk.below (by (repeat' (first | (with_reducible assumption) | (with_reducible exact Blk.new _ _ _) | (exact Blk.newAt (by first | rfl | (simp; done) | omega)) | (with_reducible refine Blk.drewN ?_ _) | (with_reducible refine Blk.drew ?_) | (with_reducible refine Blk.alloc ?_ _) | (with_reducible apply Blk.set_) | (with_reducible refine Blk.far ?_ ?_ _) | rfl | omega | (simp; done) | (simp; omega)))) hb (by first | omega | (simp; done) | (simp; omega))
  have c1_0 := k1_0.cell
  have f1_0 := k1_0.frozen
  have l1_0 := k1_0.lt
  have c1_1 := k1_1.cell
  have f1_1 := k1_1.frozen
  have l1_1 := k1_1.lt
  have c1_2 := k1_2.cell
  have f1_2 := k1_2.frozen
  have l1_2 := k1_2.lt
  have l1 := hB1.size
  clear hb
  go_wp2_with fail
  go_ret
  exact ⟨rfl, hB1⟩
set_option maxRecDepth 100000 in
set_option maxHeartbeats 4000000 in
theorem meets_no2 (a b c d : Int) (w : World) (a0 : -10000000 ≤ a) (ac : a ≤ c) (c1 : c ≤ 10000000) (b0 : -10000000 ≤ b) (bd : b ≤ d) (d1 : d ≤ 10000000) :
    Calls Tryz.prog 290 #[.agg #[.int .i64 a, .int .i64 b, .int .i64 c, .int .i64 d], .agg #[.int .i64 20000000, .int .i64 20000000], .agg #[.int .i64 (-20000000), .int .i64 20000000]] w fun e w' => e = .returned (.bool false) ∧ Below w.heap.size w w' := by
  have dc0 : decide (20000000 < a) = false := by simp; try omega
  have dc1 : decide (c < (-20000000)) = false := by simp; try omega
  have dc2 : decide (20000000 < b) = false := by simp; try omega
  have dc3 : decide (d < 20000000) = true := by simp; try omega
  go_enter Tryz.func290, Tryz.ntmps290
  go_wp2_with fail
  refine (empty_no a b c d _ ac bd).mono ?_
  rintro e w1 ⟨rfl, hb⟩
  have hB1 : Below w.heap.size w w1 := Below.trans (by (repeat' (first | (with_reducible exact Below.refl _ _) | (with_reducible assumption) | (with_reducible refine below_drewN ?_ _) | (with_reducible refine Below.drew ?_) | (with_reducible refine Below.alloc ?_ ?_ _) | (with_reducible refine Below.setCell ?_ ?_ _) | omega | (simp; done) | (simp; omega)))) (hb.mono (by first | omega | (simp; done) | (simp; omega)))
  have k1_0 : Blk w1 (w.heap.size) 70 #[.int .i64 a, .int .i64 b, .int .i64 c, .int .i64 d] := Blk.below (by (repeat' (first | (with_reducible assumption) | (with_reducible exact Blk.new _ _ _) | (exact Blk.newAt (by first | rfl | (simp; done) | omega)) | (with_reducible refine Blk.drewN ?_ _) | (with_reducible refine Blk.drew ?_) | (with_reducible refine Blk.alloc ?_ _) | (with_reducible apply Blk.set_) | (with_reducible refine Blk.far ?_ ?_ _) | rfl | omega | (simp; done) | (simp; omega)))) hb (by first | omega | (simp; done) | (simp; omega))
  have k1_1 : Blk w1 (w.heap.size + 1) 58 #[.int .i64 20000000, .int .i64 20000000] := Blk.below (by (repeat' (first | (with_reducible assumption) | (with_reducible exact Blk.new _ _ _) | (exact Blk.newAt (by first | rfl | (simp; done) | omega)) | (with_reducible refine Blk.drewN ?_ _) | (with_reducible refine Blk.drew ?_) | (with_reducible refine Blk.alloc ?_ _) | (with_reducible apply Blk.set_) | (with_reducible refine Blk.far ?_ ?_ _) | rfl | omega | (simp; done) | (simp; omega)))) hb (by first | omega | (simp; done) | (simp; omega))
  have k1_2 : Blk w1 (w.heap.size + 1 + 1) 58 #[.int .i64 (-20000000), .int .i64 20000000] := Blk.below (by (repeat' (first | (with_reducible assumption) | (with_reducible exact Blk.new _ _ _) | (exact Blk.newAt (by first | rfl | (simp; done) | omega)) | (with_reducible refine Blk.drewN ?_ _) | (with_reducible refine Blk.drew ?_) | (with_reducible refine Blk.alloc ?_ _) | (with_reducible apply Blk.set_) | (with_reducible refine Blk.far ?_ ?_ _) | rfl | omega | (simp; done) | (simp; omega)))) hb (by first | omega | (simp; done) | (simp; omega))
  have c1_0 := k1_0.cell
  have f1_0 := k1_0.frozen
  have l1_0 := k1_0.lt
  have c1_1 := k1_1.cell
  have f1_1 := k1_1.frozen
  have l1_1 := k1_1.lt
  have c1_2 := k1_2.cell
  have f1_2 := k1_2.frozen
  have l1_2 := k1_2.lt
  have l1 := hB1.size
  clear hb
  go_wp2_with fail
  go_ret
  exact ⟨rfl, hB1⟩
set_option maxRecDepth 100000 in
set_option maxHeartbeats 4000000 in
theorem meets_no3 (a b c d : Int) (w : World) (a0 : -10000000 ≤ a) (ac : a ≤ c) (c1 : c ≤ 10000000) (b0 : -10000000 ≤ b) (bd : b ≤ d) (d1 : d ≤ 10000000) :
    Calls Tryz.prog 290 #[.agg #[.int .i64 a, .int .i64 b, .int .i64 c, .int .i64 d], .agg #[.int .i64 (-20000000), .int .i64 20000000], .agg #[.int .i64 (-20000000), .int .i64 (-20000000)]] w fun e w' => e = .returned (.bool false) ∧ Below w.heap.size w w' := by
  have dc0 : decide ((-20000000) < a) = true := by simp; try omega
  have dc1 : decide (c < (-20000000)) = false := by simp; try omega
  have dc2 : decide (20000000 < b) = false := by simp; try omega
  have dc3 : decide (d < (-20000000)) = false := by simp; try omega
  go_enter Tryz.func290, Tryz.ntmps290
  go_wp2_with fail
  refine (empty_no a b c d _ ac bd).mono ?_
  rintro e w1 ⟨rfl, hb⟩
  have hB1 : Below w.heap.size w w1 := Below.trans (by (repeat' (first | (with_reducible exact Below.refl _ _) | (with_reducible assumption) | (with_reducible refine below_drewN ?_ _) | (with_reducible refine Below.drew ?_) | (with_reducible refine Below.alloc ?_ ?_ _) | (with_reducible refine Below.setCell ?_ ?_ _) | omega | (simp; done) | (simp; omega)))) (hb.mono (by first | omega | (simp; done) | (simp; omega)))
  have k1_0 : Blk w1 (w.heap.size) 70 #[.int .i64 a, .int .i64 b, .int .i64 c, .int .i64 d] := Blk.below (by (repeat' (first | (with_reducible assumption) | (with_reducible exact Blk.new _ _ _) | (exact Blk.newAt (by first | rfl | (simp; done) | omega)) | (with_reducible refine Blk.drewN ?_ _) | (with_reducible refine Blk.drew ?_) | (with_reducible refine Blk.alloc ?_ _) | (with_reducible apply Blk.set_) | (with_reducible refine Blk.far ?_ ?_ _) | rfl | omega | (simp; done) | (simp; omega)))) hb (by first | omega | (simp; done) | (simp; omega))
  have k1_1 : Blk w1 (w.heap.size + 1) 58 #[.int .i64 (-20000000), .int .i64 20000000] := Blk.below (by (repeat' (first | (with_reducible assumption) | (with_reducible exact Blk.new _ _ _) | (exact Blk.newAt (by first | rfl | (simp; done) | omega)) | (with_reducible refine Blk.drewN ?_ _) | (with_reducible refine Blk.drew ?_) | (with_reducible refine Blk.alloc ?_ _) | (with_reducible apply Blk.set_) | (with_reducible refine Blk.far ?_ ?_ _) | rfl | omega | (simp; done) | (simp; omega)))) hb (by first | omega | (simp; done) | (simp; omega))
  have k1_2 : Blk w1 (w.heap.size + 1 + 1) 58 #[.int .i64 (-20000000), .int .i64 (-20000000)] := Blk.below (by (repeat' (first | (with_reducible assumption) | (with_reducible exact Blk.new _ _ _) | (exact Blk.newAt (by first | rfl | (simp; done) | omega)) | (with_reducible refine Blk.drewN ?_ _) | (with_reducible refine Blk.drew ?_) | (with_reducible refine Blk.alloc ?_ _) | (with_reducible apply Blk.set_) | (with_reducible refine Blk.far ?_ ?_ _) | rfl | omega | (simp; done) | (simp; omega)))) hb (by first | omega | (simp; done) | (simp; omega))
  have c1_0 := k1_0.cell
  have f1_0 := k1_0.frozen
  have l1_0 := k1_0.lt
  have c1_1 := k1_1.cell
  have f1_1 := k1_1.frozen
  have l1_1 := k1_1.lt
  have c1_2 := k1_2.cell
  have f1_2 := k1_2.frozen
  have l1_2 := k1_2.lt
  have l1 := hB1.size
  clear hb
  go_wp2_with fail
  go_ret
  exact ⟨rfl, hB1⟩
set_option maxRecDepth 100000 in
set_option maxHeartbeats 4000000 in
theorem cross_1 (x y : Int) (w : World) (x0 : -10000000 ≤ x) (x1 : x ≤ 10000000) (y0 : -10000000 ≤ y) (y1 : y ≤ 10000000) :
    Calls Tryz.prog 340 #[.agg #[.int .i64 20000000, .int .i64 (-20000000)], .agg #[.int .i64 20000000, .int .i64 20000000], .agg #[.int .i64 x, .int .i64 y]] w fun e w' => e = .returned (.int .i64 (40000000 * (20000000 - x))) ∧ Below w.heap.size w w' := by
  go_enter Tryz.func340, Tryz.ntmps340
  go_wp2
  go_ret
  exact ⟨by first | exact congrArg (fun z => Ending.returned (Value.int .i64 z)) (show -(40000000 * (x - 20000000)) = 40000000 * (20000000 - x) by omega), by go_grown⟩
set_option maxRecDepth 100000 in
set_option maxHeartbeats 4000000 in
theorem cross_3 (x y : Int) (w : World) (x0 : -10000000 ≤ x) (x1 : x ≤ 10000000) (y0 : -10000000 ≤ y) (y1 : y ≤ 10000000) :
    Calls Tryz.prog 340 #[.agg #[.int .i64 (-20000000), .int .i64 20000000], .agg #[.int .i64 (-20000000), .int .i64 (-20000000)], .agg #[.int .i64 x, .int .i64 y]] w fun e w' => e = .returned (.int .i64 (40000000 * (20000000 + x))) ∧ Below w.heap.size w w' := by
  go_enter Tryz.func340, Tryz.ntmps340
  go_wp2
  go_ret
  exact ⟨by first | exact congrArg (fun z => Ending.returned (Value.int .i64 z)) (show 40000000 * (x + 20000000) = 40000000 * (20000000 + x) by omega) | exact congrArg (fun z => Ending.returned (Value.int .i64 z)) (show -(-(40000000 * (x + 20000000))) = 40000000 * (20000000 + x) by omega) | exact congrArg (fun z => Ending.returned (Value.int .i64 z)) (show -(-40000000 * (x + 20000000)) = 40000000 * (20000000 + x) by omega), by go_grown⟩
set_option maxRecDepth 100000 in
set_option maxHeartbeats 4000000 in
theorem crosses_0 (x y : Int) (w : World) (x0 : -10000000 ≤ x) (x1 : x ≤ 10000000) (y0 : -10000000 ≤ y) (y1 : y ≤ 10000000) :
    Calls Tryz.prog 337 #[.agg #[.int .i64 x, .int .i64 y], .agg #[.int .i64 (-20000000), .int .i64 (-20000000)], .agg #[.int .i64 20000000, .int .i64 (-20000000)]] w fun e w' => e = .returned (.bool false) ∧ Below w.heap.size w w' := by
  have dc0 : decide (y < (-20000000)) = false := by simp; try omega
  have dc1 : decide (y < (-20000000)) = false := by simp; try omega
  go_enter Tryz.func337, Tryz.ntmps337
  go_wp2_with fail
  go_ret
  exact ⟨rfl, by (repeat' (first | (with_reducible exact Below.refl _ _) | (with_reducible assumption) | (with_reducible refine below_drewN ?_ _) | (with_reducible refine Below.drew ?_) | (with_reducible refine Below.alloc ?_ ?_ _) | (with_reducible refine Below.setCell ?_ ?_ _) | omega | (simp; done) | (simp; omega)))⟩
set_option maxRecDepth 100000 in
set_option maxHeartbeats 4000000 in
theorem crosses_1 (x y : Int) (w : World) (x0 : -10000000 ≤ x) (x1 : x ≤ 10000000) (y0 : -10000000 ≤ y) (y1 : y ≤ 10000000) :
    Calls Tryz.prog 337 #[.agg #[.int .i64 x, .int .i64 y], .agg #[.int .i64 20000000, .int .i64 (-20000000)], .agg #[.int .i64 20000000, .int .i64 20000000]] w fun e w' => e = .returned (.bool true) ∧ Below w.heap.size w w' := by
  have dc0 : decide (y < (-20000000)) = false := by simp; try omega
  have dc1 : decide (y < 20000000) = true := by simp; try omega
  obtain ⟨R, eR⟩ : ∃ R, 40000000 * (20000000 - x) = R := ⟨_, rfl⟩
  have r0 : 0 < R := by omega
  have dr0 : decide (0 < R) = true := by simp; omega
  have dr1 : decide (R < 0) = false := by simp; omega
  have hx := fun w => cross_1 x y w x0 x1 y0 y1
  rw [eR] at hx
  go_enter Tryz.func337, Tryz.ntmps337
  go_wp2_with fail
  refine (hx _).mono ?_
  rintro e w1 ⟨rfl, hb⟩
  have hB1 : Below w.heap.size w w1 := Below.trans (by (repeat' (first | (with_reducible exact Below.refl _ _) | (with_reducible assumption) | (with_reducible refine below_drewN ?_ _) | (with_reducible refine Below.drew ?_) | (with_reducible refine Below.alloc ?_ ?_ _) | (with_reducible refine Below.setCell ?_ ?_ _) | omega | (simp; done) | (simp; omega)))) (hb.mono (by first | omega | (simp; done) | (simp; omega)))
  have k1_0 : Blk w1 (w.heap.size) 58 #[.int .i64 x, .int .i64 y] := Blk.below (by (repeat' (first | (with_reducible assumption) | (with_reducible exact Blk.new _ _ _) | (exact Blk.newAt (by first | rfl | (simp; done) | omega)) | (with_reducible refine Blk.drewN ?_ _) | (with_reducible refine Blk.drew ?_) | (with_reducible refine Blk.alloc ?_ _) | (with_reducible apply Blk.set_) | (with_reducible refine Blk.far ?_ ?_ _) | rfl | omega | (simp; done) | (simp; omega)))) hb (by first | omega | (simp; done) | (simp; omega))
  have k1_1 : Blk w1 (w.heap.size + 1) 58 #[.int .i64 20000000, .int .i64 (-20000000)] := Blk.below (by (repeat' (first | (with_reducible assumption) | (with_reducible exact Blk.new _ _ _) | (exact Blk.newAt (by first | rfl | (simp; done) | omega)) | (with_reducible refine Blk.drewN ?_ _) | (with_reducible refine Blk.drew ?_) | (with_reducible refine Blk.alloc ?_ _) | (with_reducible apply Blk.set_) | (with_reducible refine Blk.far ?_ ?_ _) | rfl | omega | (simp; done) | (simp; omega)))) hb (by first | omega | (simp; done) | (simp; omega))
  have k1_2 : Blk w1 (w.heap.size + 1 + 1) 58 #[.int .i64 20000000, .int .i64 20000000] := Blk.below (by (repeat' (first | (with_reducible assumption) | (with_reducible exact Blk.new _ _ _) | (exact Blk.newAt (by first | rfl | (simp; done) | omega)) | (with_reducible refine Blk.drewN ?_ _) | (with_reducible refine Blk.drew ?_) | (with_reducible refine Blk.alloc ?_ _) | (with_reducible apply Blk.set_) | (with_reducible refine Blk.far ?_ ?_ _) | rfl | omega | (simp; done) | (simp; omega)))) hb (by first | omega | (simp; done) | (simp; omega))
  have c1_0 := k1_0.cell
  have f1_0 := k1_0.frozen
  have l1_0 := k1_0.lt
  have c1_1 := k1_1.cell
  have f1_1 := k1_1.frozen
  have l1_1 := k1_1.lt
  have c1_2 := k1_2.cell
  have f1_2 := k1_2.frozen
  have l1_2 := k1_2.lt
  have l1 := hB1.size
  clear hb
  go_wp2_with fail
  go_ret
  exact ⟨rfl, by (repeat' (first | (with_reducible exact Below.refl _ _) | (with_reducible assumption) | (with_reducible refine below_drewN ?_ _) | (with_reducible refine Below.drew ?_) | (with_reducible refine Below.alloc ?_ ?_ _) | (with_reducible refine Below.setCell ?_ ?_ _) | omega | (simp; done) | (simp; omega)))⟩
set_option maxRecDepth 100000 in
set_option maxHeartbeats 4000000 in
theorem crosses_2 (x y : Int) (w : World) (x0 : -10000000 ≤ x) (x1 : x ≤ 10000000) (y0 : -10000000 ≤ y) (y1 : y ≤ 10000000) :
    Calls Tryz.prog 337 #[.agg #[.int .i64 x, .int .i64 y], .agg #[.int .i64 20000000, .int .i64 20000000], .agg #[.int .i64 (-20000000), .int .i64 20000000]] w fun e w' => e = .returned (.bool false) ∧ Below w.heap.size w w' := by
  have dc0 : decide (y < 20000000) = true := by simp; try omega
  have dc1 : decide (y < 20000000) = true := by simp; try omega
  go_enter Tryz.func337, Tryz.ntmps337
  go_wp2_with fail
  go_ret
  exact ⟨rfl, by (repeat' (first | (with_reducible exact Below.refl _ _) | (with_reducible assumption) | (with_reducible refine below_drewN ?_ _) | (with_reducible refine Below.drew ?_) | (with_reducible refine Below.alloc ?_ ?_ _) | (with_reducible refine Below.setCell ?_ ?_ _) | omega | (simp; done) | (simp; omega)))⟩
set_option maxRecDepth 100000 in
set_option maxHeartbeats 4000000 in
theorem crosses_3 (x y : Int) (w : World) (x0 : -10000000 ≤ x) (x1 : x ≤ 10000000) (y0 : -10000000 ≤ y) (y1 : y ≤ 10000000) :
    Calls Tryz.prog 337 #[.agg #[.int .i64 x, .int .i64 y], .agg #[.int .i64 (-20000000), .int .i64 20000000], .agg #[.int .i64 (-20000000), .int .i64 (-20000000)]] w fun e w' => e = .returned (.bool false) ∧ Below w.heap.size w w' := by
  have dc0 : decide (y < 20000000) = true := by simp; try omega
  have dc1 : decide (y < (-20000000)) = false := by simp; try omega
  obtain ⟨R, eR⟩ : ∃ R, 40000000 * (20000000 + x) = R := ⟨_, rfl⟩
  have r0 : 0 < R := by omega
  have dr0 : decide (0 < R) = true := by simp; omega
  have dr1 : decide (R < 0) = false := by simp; omega
  have hx := fun w => cross_3 x y w x0 x1 y0 y1
  rw [eR] at hx
  go_enter Tryz.func337, Tryz.ntmps337
  go_wp2_with fail
  refine (hx _).mono ?_
  rintro e w1 ⟨rfl, hb⟩
  have hB1 : Below w.heap.size w w1 := Below.trans (by (repeat' (first | (with_reducible exact Below.refl _ _) | (with_reducible assumption) | (with_reducible refine below_drewN ?_ _) | (with_reducible refine Below.drew ?_) | (with_reducible refine Below.alloc ?_ ?_ _) | (with_reducible refine Below.setCell ?_ ?_ _) | omega | (simp; done) | (simp; omega)))) (hb.mono (by first | omega | (simp; done) | (simp; omega)))
  have k1_0 : Blk w1 (w.heap.size) 58 #[.int .i64 x, .int .i64 y] := Blk.below (by (repeat' (first | (with_reducible assumption) | (with_reducible exact Blk.new _ _ _) | (exact Blk.newAt (by first | rfl | (simp; done) | omega)) | (with_reducible refine Blk.drewN ?_ _) | (with_reducible refine Blk.drew ?_) | (with_reducible refine Blk.alloc ?_ _) | (with_reducible apply Blk.set_) | (with_reducible refine Blk.far ?_ ?_ _) | rfl | omega | (simp; done) | (simp; omega)))) hb (by first | omega | (simp; done) | (simp; omega))
  have k1_1 : Blk w1 (w.heap.size + 1) 58 #[.int .i64 (-20000000), .int .i64 20000000] := Blk.below (by (repeat' (first | (with_reducible assumption) | (with_reducible exact Blk.new _ _ _) | (exact Blk.newAt (by first | rfl | (simp; done) | omega)) | (with_reducible refine Blk.drewN ?_ _) | (with_reducible refine Blk.drew ?_) | (with_reducible refine Blk.alloc ?_ _) | (with_reducible apply Blk.set_) | (with_reducible refine Blk.far ?_ ?_ _) | rfl | omega | (simp; done) | (simp; omega)))) hb (by first | omega | (simp; done) | (simp; omega))
  have k1_2 : Blk w1 (w.heap.size + 1 + 1) 58 #[.int .i64 (-20000000), .int .i64 (-20000000)] := Blk.below (by (repeat' (first | (with_reducible assumption) | (with_reducible exact Blk.new _ _ _) | (exact Blk.newAt (by first | rfl | (simp; done) | omega)) | (with_reducible refine Blk.drewN ?_ _) | (with_reducible refine Blk.drew ?_) | (with_reducible refine Blk.alloc ?_ _) | (with_reducible apply Blk.set_) | (with_reducible refine Blk.far ?_ ?_ _) | rfl | omega | (simp; done) | (simp; omega)))) hb (by first | omega | (simp; done) | (simp; omega))
  have c1_0 := k1_0.cell
  have f1_0 := k1_0.frozen
  have l1_0 := k1_0.lt
  have c1_1 := k1_1.cell
  have f1_1 := k1_1.frozen
  have l1_1 := k1_1.lt
  have c1_2 := k1_2.cell
  have f1_2 := k1_2.frozen
  have l1_2 := k1_2.lt
  have l1 := hB1.size
  clear hb
  go_wp2_with fail
  go_ret
  exact ⟨rfl, by (repeat' (first | (with_reducible exact Below.refl _ _) | (with_reducible assumption) | (with_reducible refine below_drewN ?_ _) | (with_reducible refine Below.drew ?_) | (with_reducible refine Below.alloc ?_ ?_ _) | (with_reducible refine Below.setCell ?_ ?_ _) | omega | (simp; done) | (simp; omega)))⟩
end Go.Proofs.YtfajckkbinbpiaaGreatDoor
