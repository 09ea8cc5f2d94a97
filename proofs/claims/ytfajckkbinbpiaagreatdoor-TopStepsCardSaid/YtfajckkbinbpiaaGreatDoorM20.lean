/- Walks: a pile of the one square; its bounds. -/
import Derived.Test.YtfajckkbinbpiaaGreatDoorM15
namespace Go.Proofs.YtfajckkbinbpiaaGreatDoor
open Go.RowKit
set_option linter.unusedVariables false
set_option linter.unusedSimpArgs false

/-- The one object: the square, dark. -/
def obv (gl cl : Nat) : List Value := [.bool true, .int .i64 2, .int .i64 0, .int .i64 0, .int .i64 0, .int .i64 0, .int .i64 0, .int .i64 0, .int .i64 0, .slice (some ⟨gl, 0, none⟩) 1 cl, .slice none 0 0]
def exv : List Value := [.int .i64 (-20000000), .int .i64 (-20000000), .int .i64 20000000, .int .i64 20000000, .bool false]
/-- A row of the one object. -/
def ObR (w : World) (v : Value) (gl cl gp cp : Nat) : Prop := w.ownsRow 0 65 11 v 1 (obv gl cl) ∧ SqAt w gl gp cp
def ExR (w : World) (v : Value) : Prop := w.ownsRow 0 224 5 v 1 exv
section
variable {w w' : World} {v : Value} {gl cl gp cp B : Nat}
theorem ObR.below (h : ObR w v gl cl gp cp) (hb : Below B w w') (hB : w.heap.size ≤ B) : ObR w' v gl cl gp cp := ⟨own_below h.1 hb hB, h.2.below hb hB⟩
theorem ObR.alloc (h : ObR w v gl cl gp cp) (o : Obj) : ObR (w.alloc o) v gl cl gp cp := ⟨h.1.alloc o, h.2.alloc o⟩
theorem ObR.drew (h : ObR w v gl cl gp cp) : ObR w.drew v gl cl gp cp := ⟨h.1.drew, h.2.drew⟩
theorem ExR.below (h : ExR w v) (hb : Below B w w') (hB : w.heap.size ≤ B) : ExR w' v := own_below h hb hB
theorem ExR.alloc (h : ExR w v) (o : Obj) : ExR (w.alloc o) v := World.ownsRow.alloc h o
theorem ObR.form (h : ObR w v gl cl gp cp) : ∃ g cap, v = .slice (some ⟨g, 0, none⟩) 1 cap ∧ g < w.heap.size ∧ w.cell? ⟨g, 0, none⟩ = some (.bool true) ∧ w.cell? ⟨g, 1, none⟩ = some (.int .i64 2) ∧ w.cell? ⟨g, 2, none⟩ = some (.int .i64 0) ∧ w.cell? ⟨g, 3, none⟩ = some (.int .i64 0) ∧ w.cell? ⟨g, 4, none⟩ = some (.int .i64 0) ∧ w.cell? ⟨g, 5, none⟩ = some (.int .i64 0) ∧ w.cell? ⟨g, 6, none⟩ = some (.int .i64 0) ∧ w.cell? ⟨g, 7, none⟩ = some (.int .i64 0) ∧ w.cell? ⟨g, 8, none⟩ = some (.int .i64 0) ∧ w.cell? ⟨g, 9, none⟩ = some (.slice (some ⟨gl, 0, none⟩) 1 cl) ∧ w.cell? ⟨g, 10, none⟩ = some (.slice none 0 0) := by
  obtain ⟨g, cap, he, _, hg⟩ := h.1.form (by omega)
  subst he
  have q : ∀ j u, j < 11 → (obv gl cl)[j]? = some u → w.cell? ⟨g, j, none⟩ = some u := fun j u hj hv => by rw [h.1.cellAt j (by omega)]; exact hv
  exact ⟨g, cap, rfl, hg, q 0 _ (by omega) rfl, q 1 _ (by omega) rfl, q 2 _ (by omega) rfl, q 3 _ (by omega) rfl, q 4 _ (by omega) rfl, q 5 _ (by omega) rfl, q 6 _ (by omega) rfl, q 7 _ (by omega) rfl, q 8 _ (by omega) rfl, q 9 _ (by omega) rfl, q 10 _ (by omega) rfl⟩
theorem ExR.form (h : ExR w v) : ∃ g cap, v = .slice (some ⟨g, 0, none⟩) 1 cap ∧ g < w.heap.size ∧ w.cell? ⟨g, 0, none⟩ = some (.int .i64 (-20000000)) ∧ w.cell? ⟨g, 1, none⟩ = some (.int .i64 (-20000000)) ∧ w.cell? ⟨g, 2, none⟩ = some (.int .i64 20000000) ∧ w.cell? ⟨g, 3, none⟩ = some (.int .i64 20000000) ∧ w.cell? ⟨g, 4, none⟩ = some (.bool false) := by
  obtain ⟨g, cap, he, _, hg⟩ := World.ownsRow.form h (by omega)
  subst he
  have q : ∀ j u, j < 5 → exv[j]? = some u → w.cell? ⟨g, j, none⟩ = some u := fun j u hj hv => by rw [World.ownsRow.cellAt h j (by omega)]; exact hv
  exact ⟨g, cap, rfl, hg, q 0 _ (by omega) rfl, q 1 _ (by omega) rfl, q 2 _ (by omega) rfl, q 3 _ (by omega) rfl, q 4 _ (by omega) rfl⟩
end
set_option maxRecDepth 100000 in
set_option maxHeartbeats 4000000 in
theorem pclass_sq (a b c d : Int) (v : Value) (gl cl gp cp : Nat) (w : World) (hO : ObR w v gl cl gp cp) (a0 : -10000000 ≤ a) (ac : a ≤ c) (c1 : c ≤ 10000000) (b0 : -10000000 ≤ b) (bd : b ≤ d) (d1 : d ≤ 10000000) :
    Calls Tryz.prog 116 #[v, .agg #[.int .i64 a, .int .i64 b, .int .i64 c, .int .i64 d]] w fun e w' => e = .returned (.int .i64 2) ∧ Below w.heap.size w w' := by
  obtain ⟨g, cap, rfl, lg, a00, a1, a2, a3, a4, a5, a6, a7, a8, a9, a10⟩ := hO.form
  have HO := Lib.hid hO
  have lgl := hO.2.lt1
  have lgp := hO.2.lt2
  clear hO
  go_enter Tryz.func116, Tryz.ntmps116
  go_wp2_with fail
  refine wp_loop_rounds 2 ?_
  rw [rounds_succ]
  go_wp2_with fail
  obtain ⟨v0, ev⟩ : ∃ v, (w.alloc (.cells #[.int .i64 a, .int .i64 b, .int .i64 c, .int .i64 d] 70)).alloc (.cells #[.bool true, .int .i64 2, .int .i64 0, .int .i64 0, .int .i64 0, .int .i64 0, .int .i64 0, .int .i64 0, .int .i64 0, .slice (some ⟨gl, 0, none⟩) 1 cl, .slice none 0 0] 65) = v := ⟨_, rfl⟩
  have bv : Below w.heap.size w v0 := by rw [← ev]; (repeat' (first | (with_reducible exact Below.refl _ _) | (with_reducible assumption) | (with_reducible refine below_drewN ?_ _) | (with_reducible refine Below.drew ?_) | (with_reducible refine Below.alloc ?_ ?_ _) | (with_reducible refine Below.setCell ?_ ?_ _) | omega | (simp; done) | (simp; omega)))
  have sv := HO.out.below bv (Nat.le_refl _)
  have k1 : Blk v0 w.heap.size 70 #[.int .i64 a, .int .i64 b, .int .i64 c, .int .i64 d] := by rw [← ev]; (repeat' (first | (with_reducible assumption) | (with_reducible exact Blk.new _ _ _) | (exact Blk.newAt (by first | rfl | (simp; done) | omega)) | (with_reducible refine Blk.drewN ?_ _) | (with_reducible refine Blk.drew ?_) | (with_reducible refine Blk.alloc ?_ _) | (with_reducible apply Blk.set_) | (with_reducible refine Blk.far ?_ ?_ _) | rfl | omega | (simp; done) | (simp; omega)))
  have k2 : Blk v0 (w.heap.size + 1) 65 #[.bool true, .int .i64 2, .int .i64 0, .int .i64 0, .int .i64 0, .int .i64 0, .int .i64 0, .int .i64 0, .int .i64 0, .slice (some ⟨gl, 0, none⟩) 1 cl, .slice none 0 0] := by rw [← ev]; (repeat' (first | (with_reducible assumption) | (with_reducible exact Blk.new _ _ _) | (exact Blk.newAt (by first | rfl | (simp; done) | omega)) | (with_reducible refine Blk.drewN ?_ _) | (with_reducible refine Blk.drew ?_) | (with_reducible refine Blk.alloc ?_ _) | (with_reducible apply Blk.set_) | (with_reducible refine Blk.far ?_ ?_ _) | rfl | omega | (simp; done) | (simp; omega)))
  have lv1 := k1.lt
  have lv2 := k2.lt
  rw [ev]
  have x0 := cell_regrown (show v0.cell? ⟨w.heap.size, 0, none⟩ = some (.int .i64 a) from k1.cell 0)
  have x1 := cell_regrown (show v0.cell? ⟨w.heap.size, 1, none⟩ = some (.int .i64 b) from k1.cell 1)
  have x2 := cell_regrown (show v0.cell? ⟨w.heap.size, 2, none⟩ = some (.int .i64 c) from k1.cell 2)
  have x3 := cell_regrown (show v0.cell? ⟨w.heap.size, 3, none⟩ = some (.int .i64 d) from k1.cell 3)
  have y0 := cell_regrown (show v0.cell? ⟨w.heap.size + 1, 0, none⟩ = some (.bool true) from k2.cell 0)
  have y1 := cell_regrown (show v0.cell? ⟨w.heap.size + 1, 1, none⟩ = some (.int .i64 2) from k2.cell 1)
  have y2 := cell_regrown (show v0.cell? ⟨w.heap.size + 1, 2, none⟩ = some (.int .i64 0) from k2.cell 2)
  have y3 := cell_regrown (show v0.cell? ⟨w.heap.size + 1, 3, none⟩ = some (.int .i64 0) from k2.cell 3)
  have y4 := cell_regrown (show v0.cell? ⟨w.heap.size + 1, 4, none⟩ = some (.int .i64 0) from k2.cell 4)
  have y5 := cell_regrown (show v0.cell? ⟨w.heap.size + 1, 5, none⟩ = some (.int .i64 0) from k2.cell 5)
  have y6 := cell_regrown (show v0.cell? ⟨w.heap.size + 1, 6, none⟩ = some (.int .i64 0) from k2.cell 6)
  have y7 := cell_regrown (show v0.cell? ⟨w.heap.size + 1, 7, none⟩ = some (.int .i64 0) from k2.cell 7)
  have y8 := cell_regrown (show v0.cell? ⟨w.heap.size + 1, 8, none⟩ = some (.int .i64 0) from k2.cell 8)
  have y9 := cell_regrown (show v0.cell? ⟨w.heap.size + 1, 9, none⟩ = some (.slice (some ⟨gl, 0, none⟩) 1 cl) from k2.cell 9)
  have y10 := cell_regrown (show v0.cell? ⟨w.heap.size + 1, 10, none⟩ = some (.slice none 0 0) from k2.cell 10)
  have m1 : ∀ d' os, Calls Tryz.prog 176 #[.agg #[.int .i64 2, .int .i64 0, .int .i64 0, .int .i64 0, .int .i64 0, .int .i64 0, .int .i64 0, .int .i64 0, .slice (some ⟨gl, 0, none⟩) 1 cl, .slice none 0 0], .agg #[.int .i64 a, .int .i64 b, .int .i64 c, .int .i64 d]] (Go.Sort.grow (redrawn v0 d') os) fun e w'' => e = .returned (.int .i64 2) ∧ ∃ p : Regrown, w'' = Go.Sort.grow (redrawn v0 p.d) p.os := fun d' os => Calls.regrown_of (fclass_Class a b c d gl cl gp cp _ (sv.2.below (below_regrown _ _ _) (Nat.le_refl _)) a0 ac c1 b0 bd d1)
  have m2 : ∀ d' os, Calls Tryz.prog 175 #[.int .i64 0, .int .i64 2, .bool true] (Go.Sort.grow (redrawn v0 d') os) fun e w'' => e = .returned (.int .i64 2) ∧ ∃ p : Regrown, w'' = Go.Sort.grow (redrawn v0 p.d) p.os := fun d' os => Calls.regrown_of (fold_in _)
  have M1 := Lib.hid m1
  have M2 := Lib.hid m2
  clear m1 m2 ev sv k1 k2
  refine wp_region_quiet_below (by kernel_rfl) (by kernel_rfl) ?_
  repeat (first | go_big_quiet_step (first | (with_reducible exact M1.out _ _) | (with_reducible exact M2.out _ _)) | quiet_step (first | (with_reducible exact M1.out _ _) | (with_reducible exact M2.out _ _)))
  refine wpQuiet_nil ?_
  intro w1 hw'
  have hb : Below v0.heap.size v0 w1 := by obtain ⟨p, rfl⟩ := hw'; exact below_regrown _ _ _
  have hB1 : Below w.heap.size w w1 := bv.trans (hb.mono bv.size)
  clear hw' hb
  go_wp2_with fail
  rw [rounds_succ]
  go_wp2_with fail
  go_ret
  exact ⟨rfl, hB1⟩
set_option maxRecDepth 100000 in
set_option maxHeartbeats 4000000 in
theorem around_0 (w : World) :
    Calls Tryz.prog 211 #[.agg #[.int .i64 (-20000000), .int .i64 (-20000000)], .agg #[.int .i64 (-20000000), .int .i64 (-20000000)], .int .i64 0] w fun e w' => e = .returned (.agg #[.int .i64 (-20000000), .int .i64 (-20000000), .int .i64 (-20000000), .int .i64 (-20000000)]) ∧ Below w.heap.size w w' := by
  go_enter Tryz.func211, Tryz.ntmps211
  go_wp2
  exact bodyPost_ret (v := .agg #[.int .i64 (-20000000), .int .i64 (-20000000), .int .i64 (-20000000), .int .i64 (-20000000)]) (by simp [results, Tryz.results211, go_sem] <;> decide) rfl ⟨rfl, by go_grown⟩
set_option maxRecDepth 100000 in
set_option maxHeartbeats 4000000 in
theorem around_1 (w : World) :
    Calls Tryz.prog 211 #[.agg #[.int .i64 20000000, .int .i64 (-20000000)], .agg #[.int .i64 20000000, .int .i64 (-20000000)], .int .i64 0] w fun e w' => e = .returned (.agg #[.int .i64 20000000, .int .i64 (-20000000), .int .i64 20000000, .int .i64 (-20000000)]) ∧ Below w.heap.size w w' := by
  go_enter Tryz.func211, Tryz.ntmps211
  go_wp2
  exact bodyPost_ret (v := .agg #[.int .i64 20000000, .int .i64 (-20000000), .int .i64 20000000, .int .i64 (-20000000)]) (by simp [results, Tryz.results211, go_sem] <;> decide) rfl ⟨rfl, by go_grown⟩
set_option maxRecDepth 100000 in
set_option maxHeartbeats 4000000 in
theorem around_2 (w : World) :
    Calls Tryz.prog 211 #[.agg #[.int .i64 20000000, .int .i64 20000000], .agg #[.int .i64 20000000, .int .i64 20000000], .int .i64 0] w fun e w' => e = .returned (.agg #[.int .i64 20000000, .int .i64 20000000, .int .i64 20000000, .int .i64 20000000]) ∧ Below w.heap.size w w' := by
  go_enter Tryz.func211, Tryz.ntmps211
  go_wp2
  exact bodyPost_ret (v := .agg #[.int .i64 20000000, .int .i64 20000000, .int .i64 20000000, .int .i64 20000000]) (by simp [results, Tryz.results211, go_sem] <;> decide) rfl ⟨rfl, by go_grown⟩
set_option maxRecDepth 100000 in
set_option maxHeartbeats 4000000 in
theorem around_3 (w : World) :
    Calls Tryz.prog 211 #[.agg #[.int .i64 (-20000000), .int .i64 20000000], .agg #[.int .i64 (-20000000), .int .i64 20000000], .int .i64 0] w fun e w' => e = .returned (.agg #[.int .i64 (-20000000), .int .i64 20000000, .int .i64 (-20000000), .int .i64 20000000]) ∧ Below w.heap.size w w' := by
  go_enter Tryz.func211, Tryz.ntmps211
  go_wp2
  exact bodyPost_ret (v := .agg #[.int .i64 (-20000000), .int .i64 20000000, .int .i64 (-20000000), .int .i64 20000000]) (by simp [results, Tryz.results211, go_sem] <;> decide) rfl ⟨rfl, by go_grown⟩
set_option maxRecDepth 100000 in
set_option maxHeartbeats 4000000 in
theorem take_0 (A F : Nat) (w : World) (hA : Blk w A 70 #[.int .i64 0, .int .i64 0, .int .i64 0, .int .i64 0]) (hF : Blk w F 4 #[.bool false]) (hne : F ≠ A) :
    Calls Tryz.prog 213 #[.agg #[.int .i64 (-20000000), .int .i64 (-20000000), .int .i64 (-20000000), .int .i64 (-20000000)], .pointer (some ⟨F, 0, none⟩), .pointer (some ⟨A, 0, none⟩)] w fun e w' => e = .returned (.tuple #[]) ∧ Blk w' A 70 #[.int .i64 (-20000000), .int .i64 (-20000000), .int .i64 (-20000000), .int .i64 (-20000000)] ∧ Blk w' F 4 #[.bool true] ∧ Only [A, F] w w' := by
  have ca := hA.cell
  have fa := hA.frozen
  have la := hA.lt
  have cf := hF.cell
  have ff := hF.frozen
  have lf := hF.lt
  have HA := Lib.hid hA
  have HF := Lib.hid hF
  have mm1 : min (-20000000 : Int) 20000000 = -20000000 := by decide
  have mm2 : max (-20000000 : Int) 20000000 = 20000000 := by decide
  have mm3 : min (20000000 : Int) (-20000000) = -20000000 := by decide
  have mm4 : max (20000000 : Int) (-20000000) = 20000000 := by decide
  clear hA hF
  go_enter Tryz.func213, Tryz.ntmps213
  go_wp2_with fail
  go_end0
  refine ⟨rfl, ?_, ?_, ?_⟩
  · exact (((((HA.out.set_ 0 _ rfl).set_ 1 _ rfl).set_ 2 _ rfl).set_ 3 _ rfl).far (by simpa using Ne.symm hne) _).alloc _
  · exact (((((HF.out.far (by simpa using hne) _).far (by simpa using hne) _).far (by simpa using hne) _).far (by simpa using hne) _).set_ 0 _ rfl).alloc _
  · (repeat' (first | (with_reducible exact Only.refl _ _) | (with_reducible assumption) | (with_reducible refine Only.drewN ?_ _) | (with_reducible refine Only.drew ?_) | (with_reducible refine Only.alloc ?_ _) | (with_reducible refine Only.setCell ?_ ?_ _) | (left; simp; done) | (right; omega) | (right; simp; done) | (right; simp; omega)))
set_option maxRecDepth 100000 in
set_option maxHeartbeats 4000000 in
theorem take_1 (A F : Nat) (w : World) (hA : Blk w A 70 #[.int .i64 (-20000000), .int .i64 (-20000000), .int .i64 (-20000000), .int .i64 (-20000000)]) (hF : Blk w F 4 #[.bool true]) (hne : F ≠ A) :
    Calls Tryz.prog 213 #[.agg #[.int .i64 20000000, .int .i64 (-20000000), .int .i64 20000000, .int .i64 (-20000000)], .pointer (some ⟨F, 0, none⟩), .pointer (some ⟨A, 0, none⟩)] w fun e w' => e = .returned (.tuple #[]) ∧ Blk w' A 70 #[.int .i64 (-20000000), .int .i64 (-20000000), .int .i64 20000000, .int .i64 (-20000000)] ∧ Blk w' F 4 #[.bool true] ∧ Only [A, F] w w' := by
  have ca := hA.cell
  have fa := hA.frozen
  have la := hA.lt
  have cf := hF.cell
  have ff := hF.frozen
  have lf := hF.lt
  have HA := Lib.hid hA
  have HF := Lib.hid hF
  have mm1 : min (-20000000 : Int) 20000000 = -20000000 := by decide
  have mm2 : max (-20000000 : Int) 20000000 = 20000000 := by decide
  have mm3 : min (20000000 : Int) (-20000000) = -20000000 := by decide
  have mm4 : max (20000000 : Int) (-20000000) = 20000000 := by decide
  clear hA hF
  go_enter Tryz.func213, Tryz.ntmps213
  go_wp2_with fail
  go_end0
  refine ⟨rfl, ?_, ?_, ?_⟩
  · exact (((((HA.out.set_ 0 _ rfl).set_ 1 _ rfl).set_ 2 _ rfl).set_ 3 _ rfl).far (by simpa using Ne.symm hne) _).alloc _
  · exact (((((HF.out.far (by simpa using hne) _).far (by simpa using hne) _).far (by simpa using hne) _).far (by simpa using hne) _).set_ 0 _ rfl).alloc _
  · (repeat' (first | (with_reducible exact Only.refl _ _) | (with_reducible assumption) | (with_reducible refine Only.drewN ?_ _) | (with_reducible refine Only.drew ?_) | (with_reducible refine Only.alloc ?_ _) | (with_reducible refine Only.setCell ?_ ?_ _) | (left; simp; done) | (right; omega) | (right; simp; done) | (right; simp; omega)))
set_option maxRecDepth 100000 in
set_option maxHeartbeats 4000000 in
theorem take_2 (A F : Nat) (w : World) (hA : Blk w A 70 #[.int .i64 (-20000000), .int .i64 (-20000000), .int .i64 20000000, .int .i64 (-20000000)]) (hF : Blk w F 4 #[.bool true]) (hne : F ≠ A) :
    Calls Tryz.prog 213 #[.agg #[.int .i64 20000000, .int .i64 20000000, .int .i64 20000000, .int .i64 20000000], .pointer (some ⟨F, 0, none⟩), .pointer (some ⟨A, 0, none⟩)] w fun e w' => e = .returned (.tuple #[]) ∧ Blk w' A 70 #[.int .i64 (-20000000), .int .i64 (-20000000), .int .i64 20000000, .int .i64 20000000] ∧ Blk w' F 4 #[.bool true] ∧ Only [A, F] w w' := by
  have ca := hA.cell
  have fa := hA.frozen
  have la := hA.lt
  have cf := hF.cell
  have ff := hF.frozen
  have lf := hF.lt
  have HA := Lib.hid hA
  have HF := Lib.hid hF
  have mm1 : min (-20000000 : Int) 20000000 = -20000000 := by decide
  have mm2 : max (-20000000 : Int) 20000000 = 20000000 := by decide
  have mm3 : min (20000000 : Int) (-20000000) = -20000000 := by decide
  have mm4 : max (20000000 : Int) (-20000000) = 20000000 := by decide
  clear hA hF
  go_enter Tryz.func213, Tryz.ntmps213
  go_wp2_with fail
  go_end0
  refine ⟨rfl, ?_, ?_, ?_⟩
  · exact (((((HA.out.set_ 0 _ rfl).set_ 1 _ rfl).set_ 2 _ rfl).set_ 3 _ rfl).far (by simpa using Ne.symm hne) _).alloc _
  · exact (((((HF.out.far (by simpa using hne) _).far (by simpa using hne) _).far (by simpa using hne) _).far (by simpa using hne) _).set_ 0 _ rfl).alloc _
  · (repeat' (first | (with_reducible exact Only.refl _ _) | (with_reducible assumption) | (with_reducible refine Only.drewN ?_ _) | (with_reducible refine Only.drew ?_) | (with_reducible refine Only.alloc ?_ _) | (with_reducible refine Only.setCell ?_ ?_ _) | (left; simp; done) | (right; omega) | (right; simp; done) | (right; simp; omega)))
set_option maxRecDepth 100000 in
set_option maxHeartbeats 4000000 in
theorem take_3 (A F : Nat) (w : World) (hA : Blk w A 70 #[.int .i64 (-20000000), .int .i64 (-20000000), .int .i64 20000000, .int .i64 20000000]) (hF : Blk w F 4 #[.bool true]) (hne : F ≠ A) :
    Calls Tryz.prog 213 #[.agg #[.int .i64 (-20000000), .int .i64 20000000, .int .i64 (-20000000), .int .i64 20000000], .pointer (some ⟨F, 0, none⟩), .pointer (some ⟨A, 0, none⟩)] w fun e w' => e = .returned (.tuple #[]) ∧ Blk w' A 70 #[.int .i64 (-20000000), .int .i64 (-20000000), .int .i64 20000000, .int .i64 20000000] ∧ Blk w' F 4 #[.bool true] ∧ Only [A, F] w w' := by
  have ca := hA.cell
  have fa := hA.frozen
  have la := hA.lt
  have cf := hF.cell
  have ff := hF.frozen
  have lf := hF.lt
  have HA := Lib.hid hA
  have HF := Lib.hid hF
  have mm1 : min (-20000000 : Int) 20000000 = -20000000 := by decide
  have mm2 : max (-20000000 : Int) 20000000 = 20000000 := by decide
  have mm3 : min (20000000 : Int) (-20000000) = -20000000 := by decide
  have mm4 : max (20000000 : Int) (-20000000) = 20000000 := by decide
  clear hA hF
  go_enter Tryz.func213, Tryz.ntmps213
  go_wp2_with fail
  go_end0
  refine ⟨rfl, ?_, ?_, ?_⟩
  · exact (((((HA.out.set_ 0 _ rfl).set_ 1 _ rfl).set_ 2 _ rfl).set_ 3 _ rfl).far (by simpa using Ne.symm hne) _).alloc _
  · exact (((((HF.out.far (by simpa using hne) _).far (by simpa using hne) _).far (by simpa using hne) _).far (by simpa using hne) _).set_ 0 _ rfl).alloc _
  · (repeat' (first | (with_reducible exact Only.refl _ _) | (with_reducible assumption) | (with_reducible refine Only.drewN ?_ _) | (with_reducible refine Only.drew ?_) | (with_reducible refine Only.alloc ?_ _) | (with_reducible refine Only.setCell ?_ ?_ _) | (left; simp; done) | (right; omega) | (right; simp; done) | (right; simp; omega)))end Go.Proofs.YtfajckkbinbpiaaGreatDoor
