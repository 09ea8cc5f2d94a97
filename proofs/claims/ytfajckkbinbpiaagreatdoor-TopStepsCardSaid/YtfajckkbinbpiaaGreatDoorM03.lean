/- Walks: discs that may be, and turns that move. -/
import Derived.Test.YtfajckkbinbpiaaGreatDoorM01
import Derived.Outline
import Derived.Laws.ResultCell
namespace Go.Proofs.YtfajckkbinbpiaaGreatDoor
open Go.RowKit
set_option linter.unusedVariables false
set_option linter.unusedSimpArgs false

/-- A shape that is a disc. -/
abbrev discV (x y r : Int) : Value := .agg #[.int .i64 1, .int .i64 x, .int .i64 y, .int .i64 0, .int .i64 0, .int .i64 0, .int .i64 0, .int .i64 r, .slice none 0 0, .slice none 0 0]
abbrev discC (x y r : Int) : Array Value := #[.int .i64 1, .int .i64 x, .int .i64 y, .int .i64 0, .int .i64 0, .int .i64 0, .int .i64 0, .int .i64 r, .slice none 0 0, .slice none 0 0]
set_option maxHeartbeats 400000 in
theorem near_c (x y : Int) (w : World) (x0 : -536870912 ≤ x) (x1 : x ≤ 536870912) (y0 : -536870912 ≤ y) (y1 : y ≤ 536870912) :
    Calls Tryz.prog 243 #[.agg #[.int .i64 x, .int .i64 y]] w fun e w' => e = .returned (.bool true) ∧ Below w.heap.size w w' := by
  go_enter Tryz.func243, Tryz.ntmps243
  go_wp2
  go_ret
  exact ⟨rfl, by go_grown⟩
set_option maxHeartbeats 400000 in
theorem width_c (r : Int) (w : World) (r0 : 1 ≤ r) (r1 : r ≤ 536870912) :
    Calls Tryz.prog 244 #[.int .i64 r] w fun e w' => e = .returned (.bool true) ∧ Below w.heap.size w w' := by
  go_enter Tryz.func244, Tryz.ntmps244
  go_wp2
  go_ret
  exact ⟨rfl, by go_grown⟩
set_option maxHeartbeats 400000 in
theorem bare_disc (x y r : Int) (w : World) :
    Calls Tryz.prog 242 #[.agg #[.int .i64 1, .int .i64 x, .int .i64 y, .int .i64 0, .int .i64 0, .int .i64 0, .int .i64 0, .int .i64 r, .slice none 0 0, .slice none 0 0]] w fun e w' => e = .returned (.bool true) ∧ Below w.heap.size w w' := by
  go_enter Tryz.func242, Tryz.ntmps242
  go_wp2
  go_ret
  exact ⟨rfl, by go_grown⟩
set_option maxRecDepth 100000 in
set_option maxHeartbeats 1000000 in
theorem valid_disc (x y r : Int) (p B : Nat) (w : World) (x0 : -536870912 ≤ x) (x1 : x ≤ 536870912) (y0 : -536870912 ≤ y) (y1 : y ≤ 536870912) (r0 : 1 ≤ r) (r1 : r ≤ 536870912)
    (hc : w.cell? ⟨p, 0, none⟩ = some (.int .i64 1000)) (hf : w.frozen? ⟨p, 0, none⟩ = false) (hB : B ≤ w.heap.size) (hp : B ≤ p) :
    Calls Tryz.prog 210 #[.agg #[.int .i64 1, .int .i64 x, .int .i64 y, .int .i64 0, .int .i64 0, .int .i64 0, .int .i64 0, .int .i64 r, .slice none 0 0, .slice none 0 0], .int .i64 0, .pointer (some ⟨p, 0, none⟩)] w fun e w' => e = .returned (.bool true) ∧ Below B w w' := by
  have hpl := blk_of_cell hc
  go_enter Tryz.func210, Tryz.ntmps210
  go_wp2_with fail
  refine (bare_disc _ _ _ _).mono ?_
  rintro e w1 ⟨rfl, hb⟩
  have hB1 : Below B w w1 := Below.trans (by (repeat' (first | (with_reducible exact Below.refl _ _) | (with_reducible assumption) | (with_reducible refine below_drewN ?_ _) | (with_reducible refine Below.drew ?_) | (with_reducible refine Below.alloc ?_ ?_ _) | (with_reducible refine Below.setCell ?_ ?_ _) | omega | (simp; done) | (simp; omega)))) (hb.mono (by first | omega | (simp; done) | (simp; omega)))
  have k1_0 : Blk w1 (w.heap.size) 62 #[.int .i64 1, .int .i64 x, .int .i64 y, .int .i64 0, .int .i64 0, .int .i64 0, .int .i64 0, .int .i64 r, .slice none 0 0, .slice none 0 0] := Blk.below (by (repeat' (first | (with_reducible assumption) | (with_reducible exact Blk.new _ _ _) | (exact Blk.newAt (by first | rfl | (simp; done) | omega)) | (with_reducible refine Blk.drewN ?_ _) | (with_reducible refine Blk.drew ?_) | (with_reducible refine Blk.alloc ?_ _) | (with_reducible apply Blk.set_) | (with_reducible refine Blk.far ?_ ?_ _) | rfl | omega | (simp; done) | (simp; omega)))) hb (by first | omega | (simp; done) | (simp; omega))
  have c1_0 := k1_0.cell
  have f1_0 := k1_0.frozen
  have l1_0 := k1_0.lt
  have l1 := hB1.size
  clear hb
  clear hc hf
  as_aux_lemma =>
    go_wp2_with fail
    refine (near_c _ _ _ (by omega) (by omega) (by omega) (by omega)).mono ?_
    rintro e w2 ⟨rfl, hb⟩
    have hB2 : Below B w w2 := Below.trans (by (repeat' (first | (with_reducible exact Below.refl _ _) | (with_reducible assumption) | (with_reducible refine below_drewN ?_ _) | (with_reducible refine Below.drew ?_) | (with_reducible refine Below.alloc ?_ ?_ _) | (with_reducible refine Below.setCell ?_ ?_ _) | omega | (simp; done) | (simp; omega)))) (hb.mono (by first | omega | (simp; done) | (simp; omega)))
    have k2_0 : Blk w2 (w.heap.size) 62 #[.int .i64 1, .int .i64 x, .int .i64 y, .int .i64 0, .int .i64 0, .int .i64 0, .int .i64 0, .int .i64 r, .slice none 0 0, .slice none 0 0] := Blk.below (by (repeat' (first | (with_reducible assumption) | (with_reducible exact Blk.new _ _ _) | (exact Blk.newAt (by first | rfl | (simp; done) | omega)) | (with_reducible refine Blk.drewN ?_ _) | (with_reducible refine Blk.drew ?_) | (with_reducible refine Blk.alloc ?_ _) | (with_reducible apply Blk.set_) | (with_reducible refine Blk.far ?_ ?_ _) | rfl | omega | (simp; done) | (simp; omega)))) hb (by first | omega | (simp; done) | (simp; omega))
    have c2_0 := k2_0.cell
    have f2_0 := k2_0.frozen
    have l2_0 := k2_0.lt
    have l2 := hB2.size
    clear hb
    clear k1_0 c1_0 f1_0 l1_0
    as_aux_lemma =>
      go_wp2_with fail
      refine (width_c _ _ (by omega) (by omega)).mono ?_
      rintro e w3 ⟨rfl, hb⟩
      have hB3 : Below B w w3 := Below.trans (by (repeat' (first | (with_reducible exact Below.refl _ _) | (with_reducible assumption) | (with_reducible refine below_drewN ?_ _) | (with_reducible refine Below.drew ?_) | (with_reducible refine Below.alloc ?_ ?_ _) | (with_reducible refine Below.setCell ?_ ?_ _) | omega | (simp; done) | (simp; omega)))) (hb.mono (by first | omega | (simp; done) | (simp; omega)))
      have l3 := hB3.size
      clear hb
      as_aux_lemma =>
        go_wp2_with fail
        go_ret
        exact ⟨rfl, hB3⟩

set_option maxHeartbeats 400000 in
theorem ok_disc (x y r : Int) (w : World) (x0 : -536870912 ≤ x) (x1 : x ≤ 536870912) (y0 : -536870912 ≤ y) (y1 : y ≤ 536870912) (r0 : 1 ≤ r) (r1 : r ≤ 536870912) :
    Calls Tryz.prog 171 #[.agg #[.int .i64 1, .int .i64 x, .int .i64 y, .int .i64 0, .int .i64 0, .int .i64 0, .int .i64 0, .int .i64 r, .slice none 0 0, .slice none 0 0]] w fun e w' => e = .returned (.bool true) ∧ Below w.heap.size w w' := by
  go_enter Tryz.func171, Tryz.ntmps171
  go_wp2_with fail
  refine (valid_disc _ _ _ _ w.heap.size _ x0 x1 y0 y1 r0 r1 (by simp) (by simp) (by simp; omega) (by omega)).mono ?_
  rintro e w1 ⟨rfl, hb⟩
  have hB : Below w.heap.size w w1 := Below.trans (by (repeat' (first | (with_reducible exact Below.refl _ _) | (with_reducible assumption) | (with_reducible refine below_drewN ?_ _) | (with_reducible refine Below.drew ?_) | (with_reducible refine Below.alloc ?_ ?_ _) | (with_reducible refine Below.setCell ?_ ?_ _) | omega | (simp; done) | (simp; omega)))) hb
  go_wp2_with fail
  go_ret
  exact ⟨rfl, hB⟩
set_option maxHeartbeats 400000 in
theorem quarters_c (w : World) : Calls Tryz.prog 335 #[.int .i64 0] w fun e w' => e = .returned (.int .i64 0) ∧ w = w' := by
  have b0 : bits .and .i64 0 3 = 0 := by kernel_rfl
  go_enter Tryz.func335, Tryz.ntmps335
  go_wp2
  go_ret
  exact ⟨rfl, rfl⟩
set_option maxHeartbeats 400000 in
theorem pt_c (x y a b : Int) (w : World) (x0 : -536870912 ≤ x) (x1 : x ≤ 536870912) (y0 : -536870912 ≤ y) (y1 : y ≤ 536870912) (a0 : -536870912 ≤ a) (a1 : a ≤ 536870912) (b0 : -536870912 ≤ b) (b1 : b ≤ 536870912) :
    Calls Tryz.prog 281 #[.agg #[.int .i64 x, .int .i64 y], .agg #[.bool false, .bool false, .int .i64 0, .int .i64 a, .int .i64 b]] w fun e w' => e = .returned (.agg #[.int .i64 (x + a), .int .i64 (y + b)]) ∧ Below w.heap.size w w' := by
  go_enter Tryz.func281, Tryz.ntmps281
  go_wp2_with fail
  go_quiet (fail)
  go_wp2_with (go_at_call 335; refine (quarters_c _).mono ?_; rintro e w' ⟨rfl, rfl⟩)
  exact bodyPost_ret (v := .agg #[.int .i64 (x + a), .int .i64 (y + b)]) (by simp [results, Tryz.results281, go_sem]) rfl ⟨rfl, by (repeat' (first | (with_reducible exact Below.refl _ _) | (with_reducible assumption) | (with_reducible refine below_drewN ?_ _) | (with_reducible refine Below.drew ?_) | (with_reducible refine Below.alloc ?_ ?_ _) | (with_reducible refine Below.setCell ?_ ?_ _) | omega | (simp; done) | (simp; omega)))⟩
set_option maxRecDepth 100000 in
set_option maxHeartbeats 1000000 in
theorem apply_disc (x y r a b : Int) (w : World) (x0 : -536870912 ≤ x) (x1 : x ≤ 536870912) (y0 : -536870912 ≤ y) (y1 : y ≤ 536870912) (a0 : -536870912 ≤ a) (a1 : a ≤ 536870912) (b0 : -536870912 ≤ b) (b1 : b ≤ 536870912) :
    Calls Tryz.prog 241 #[.agg #[.int .i64 1, .int .i64 x, .int .i64 y, .int .i64 0, .int .i64 0, .int .i64 0, .int .i64 0, .int .i64 r, .slice none 0 0, .slice none 0 0], .agg #[.bool false, .bool false, .int .i64 0, .int .i64 a, .int .i64 b]] w fun e w' => e = .returned (discV (x + a) (y + b) r) ∧ Below w.heap.size w w' := by
  go_enter Tryz.func241, Tryz.ntmps241
  go_wp2_with fail
  refine (pt_c _ _ _ _ _ x0 x1 y0 y1 a0 a1 b0 b1).mono ?_
  rintro e w1 ⟨rfl, hb⟩
  have hB1 : Below w.heap.size w w1 := Below.trans (by (repeat' (first | (with_reducible exact Below.refl _ _) | (with_reducible assumption) | (with_reducible refine below_drewN ?_ _) | (with_reducible refine Below.drew ?_) | (with_reducible refine Below.alloc ?_ ?_ _) | (with_reducible refine Below.setCell ?_ ?_ _) | omega | (simp; done) | (simp; omega)))) (hb.mono (by first | omega | (simp; done) | (simp; omega)))
  have k1_0 : Blk w1 (w.heap.size + 1 + 1 + 1) 62 #[.int .i64 1, .int .i64 0, .int .i64 0, .int .i64 0, .int .i64 0, .int .i64 0, .int .i64 0, .int .i64 r, .slice none 0 0, .slice none 0 0] := Blk.below (by (repeat' (first | (with_reducible assumption) | (with_reducible exact Blk.new _ _ _) | (exact Blk.newAt (by first | rfl | (simp; done) | omega)) | (with_reducible refine Blk.drewN ?_ _) | (with_reducible refine Blk.drew ?_) | (with_reducible refine Blk.alloc ?_ _) | (with_reducible apply Blk.set_) | (with_reducible refine Blk.far ?_ ?_ _) | rfl | omega | (simp; done) | (simp; omega)))) hb (by first | omega | (simp; done) | (simp; omega))
  have k1_1 : Blk w1 (w.heap.size + 1 + 1) 62 #[.int .i64 0, .int .i64 0, .int .i64 0, .int .i64 0, .int .i64 0, .int .i64 0, .int .i64 0, .int .i64 0, .slice none 0 0, .slice none 0 0] := Blk.below (by (repeat' (first | (with_reducible assumption) | (with_reducible exact Blk.new _ _ _) | (exact Blk.newAt (by first | rfl | (simp; done) | omega)) | (with_reducible refine Blk.drewN ?_ _) | (with_reducible refine Blk.drew ?_) | (with_reducible refine Blk.alloc ?_ _) | (with_reducible apply Blk.set_) | (with_reducible refine Blk.far ?_ ?_ _) | rfl | omega | (simp; done) | (simp; omega)))) hb (by first | omega | (simp; done) | (simp; omega))
  have c1_0 := k1_0.cell
  have f1_0 := k1_0.frozen
  have l1_0 := k1_0.lt
  have c1_1 := k1_1.cell
  have f1_1 := k1_1.frozen
  have l1_1 := k1_1.lt
  have l1 := hB1.size
  clear hb
  go_wp2_with fail
  refine bodyPost_ret (results_cell_row (t := 62) Tryz.results241 _ _ (w.heap.size + 1 + 1) (discC (x + a) (y + b) r) (0, 0) _ (by rfl) ?_ Tryz.underlying62 rfl (by kernel_rfl)) rfl ⟨rfl, ?_⟩
  · unfold Blk at k1_1
    simp [World.setCell, Array.getElem?_modify, k1_1, discC]
  · (repeat' (first | (with_reducible exact Below.refl _ _) | (with_reducible assumption) | (with_reducible refine below_drewN ?_ _) | (with_reducible refine Below.drew ?_) | (with_reducible refine Below.alloc ?_ ?_ _) | (with_reducible refine Below.setCell ?_ ?_ _) | omega | (simp; done) | (simp; omega)))

theorem results_row_tmp {fn : Func} {p u : Tmp} {ty : TypeId} (h : fn.results = #[.cell p ty, .tmp u]) (tmps : Array Value) (w : World) (g : Nat) (cs : Array Value)
    (hp : tmps.getD p undef = .pointer (some ⟨g, 0, none⟩)) (hl : (loadVar ty ⟨g, 0, none⟩).run Tryz.prog w = .ok (.agg cs) w) :
    (results fn tmps).run Tryz.prog w = .ok (.tuple #[.agg cs, tmps.getD u undef]) w := by
  rw [results_cell_tmp h, hp]
  simp [asAddr, hl]
set_option maxRecDepth 100000 in
set_option maxHeartbeats 1000000 in
theorem Apply_disc (x y r a b : Int) (w : World) (x0 : -536870912 ≤ x) (x1 : x ≤ 536870912) (y0 : -536870912 ≤ y) (y1 : y ≤ 536870912) (r0 : 1 ≤ r) (r1 : r ≤ 536870912) (a0 : -536870912 ≤ a) (a1 : a ≤ 536870912) (b0 : -536870912 ≤ b) (b1 : b ≤ 536870912)
    (s0 : -536870912 ≤ x + a) (s1 : x + a ≤ 536870912) (t0 : -536870912 ≤ y + b) (t1 : y + b ≤ 536870912) :
    Calls Tryz.prog 209 #[.agg #[.int .i64 1, .int .i64 x, .int .i64 y, .int .i64 0, .int .i64 0, .int .i64 0, .int .i64 0, .int .i64 r, .slice none 0 0, .slice none 0 0], .agg #[.bool false, .bool false, .int .i64 0, .int .i64 a, .int .i64 b]] w fun e w' => e = .returned (.tuple #[discV (x + a) (y + b) r, .bool true]) ∧ Below w.heap.size w w' := by
  obtain ⟨X, eX⟩ : ∃ X, x + a = X := ⟨_, rfl⟩
  obtain ⟨Y, eY⟩ : ∃ Y, y + b = Y := ⟨_, rfl⟩
  have ca := fun w => apply_disc x y r a b w x0 x1 y0 y1 a0 a1 b0 b1
  rw [eX] at s0 s1 ca ⊢
  rw [eY] at t0 t1 ca ⊢
  have CA := Lib.hid ca
  clear eX eY ca
  go_enter Tryz.func209, Tryz.ntmps209
  go_wp2_with fail
  refine (ok_disc _ _ _ _ x0 x1 y0 y1 r0 r1).mono ?_
  rintro e w1 ⟨rfl, hb⟩
  have hB1 : Below w.heap.size w w1 := Below.trans (by (repeat' (first | (with_reducible exact Below.refl _ _) | (with_reducible assumption) | (with_reducible refine below_drewN ?_ _) | (with_reducible refine Below.drew ?_) | (with_reducible refine Below.alloc ?_ ?_ _) | (with_reducible refine Below.setCell ?_ ?_ _) | omega | (simp; done) | (simp; omega)))) (hb.mono (by first | omega | (simp; done) | (simp; omega)))
  have k1_0 : Blk w1 (w.heap.size) 62 #[.int .i64 1, .int .i64 x, .int .i64 y, .int .i64 0, .int .i64 0, .int .i64 0, .int .i64 0, .int .i64 r, .slice none 0 0, .slice none 0 0] := Blk.below (by (repeat' (first | (with_reducible assumption) | (with_reducible exact Blk.new _ _ _) | (exact Blk.newAt (by first | rfl | (simp; done) | omega)) | (with_reducible refine Blk.drewN ?_ _) | (with_reducible refine Blk.drew ?_) | (with_reducible refine Blk.alloc ?_ _) | (with_reducible apply Blk.set_) | (with_reducible refine Blk.far ?_ ?_ _) | rfl | omega | (simp; done) | (simp; omega)))) hb (by first | omega | (simp; done) | (simp; omega))
  have k1_1 : Blk w1 (w.heap.size + 1) 157 #[.bool false, .bool false, .int .i64 0, .int .i64 a, .int .i64 b] := Blk.below (by (repeat' (first | (with_reducible assumption) | (with_reducible exact Blk.new _ _ _) | (exact Blk.newAt (by first | rfl | (simp; done) | omega)) | (with_reducible refine Blk.drewN ?_ _) | (with_reducible refine Blk.drew ?_) | (with_reducible refine Blk.alloc ?_ _) | (with_reducible apply Blk.set_) | (with_reducible refine Blk.far ?_ ?_ _) | rfl | omega | (simp; done) | (simp; omega)))) hb (by first | omega | (simp; done) | (simp; omega))
  have k1_2 : Blk w1 (w.heap.size + 1 + 1) 62 #[.int .i64 0, .int .i64 0, .int .i64 0, .int .i64 0, .int .i64 0, .int .i64 0, .int .i64 0, .int .i64 0, .slice none 0 0, .slice none 0 0] := Blk.below (by (repeat' (first | (with_reducible assumption) | (with_reducible exact Blk.new _ _ _) | (exact Blk.newAt (by first | rfl | (simp; done) | omega)) | (with_reducible refine Blk.drewN ?_ _) | (with_reducible refine Blk.drew ?_) | (with_reducible refine Blk.alloc ?_ _) | (with_reducible apply Blk.set_) | (with_reducible refine Blk.far ?_ ?_ _) | rfl | omega | (simp; done) | (simp; omega)))) hb (by first | omega | (simp; done) | (simp; omega))
  have c1_0 := k1_0.cell
  have f1_0 := k1_0.frozen
  have l1_0 := k1_0.lt
  have c1_1 := k1_1.cell
  have f1_1 := k1_1.frozen
  have l1_1 := k1_1.lt
  have c1_2 := k1_2.cell
  have f1_2 := k1_2.frozen
  have l1_2 := k1_2.lt
  have l1 := hB1.size
  clear hb
  go_wp2_with fail
  refine (CA.out _).mono ?_
  rintro e w2 ⟨rfl, hb⟩
  have hB2 : Below w.heap.size w w2 := Below.trans (by (repeat' (first | (with_reducible exact Below.refl _ _) | (with_reducible assumption) | (with_reducible refine below_drewN ?_ _) | (with_reducible refine Below.drew ?_) | (with_reducible refine Below.alloc ?_ ?_ _) | (with_reducible refine Below.setCell ?_ ?_ _) | omega | (simp; done) | (simp; omega)))) (hb.mono (by first | omega | (simp; done) | (simp; omega)))
  have k2_0 : Blk w2 (w.heap.size + 1 + 1) 62 #[.int .i64 0, .int .i64 0, .int .i64 0, .int .i64 0, .int .i64 0, .int .i64 0, .int .i64 0, .int .i64 0, .slice none 0 0, .slice none 0 0] := Blk.below (by (repeat' (first | (with_reducible assumption) | (with_reducible exact Blk.new _ _ _) | (exact Blk.newAt (by first | rfl | (simp; done) | omega)) | (with_reducible refine Blk.drewN ?_ _) | (with_reducible refine Blk.drew ?_) | (with_reducible refine Blk.alloc ?_ _) | (with_reducible apply Blk.set_) | (with_reducible refine Blk.far ?_ ?_ _) | rfl | omega | (simp; done) | (simp; omega)))) hb (by first | omega | (simp; done) | (simp; omega))
  have c2_0 := k2_0.cell
  have f2_0 := k2_0.frozen
  have l2_0 := k2_0.lt
  have l2 := hB2.size
  clear hb k1_0 k1_1 k1_2 c1_0 c1_1 c1_2 f1_0 f1_1 f1_2
  go_wp2_with fail
  refine (ok_disc _ _ _ _ s0 s1 t0 t1 r0 r1).mono ?_
  rintro e w3 ⟨rfl, hb⟩
  have hB3 : Below w.heap.size w w3 := Below.trans (by (repeat' (first | (with_reducible exact Below.refl _ _) | (with_reducible assumption) | (with_reducible refine below_drewN ?_ _) | (with_reducible refine Below.drew ?_) | (with_reducible refine Below.alloc ?_ ?_ _) | (with_reducible refine Below.setCell ?_ ?_ _) | omega | (simp; done) | (simp; omega)))) (hb.mono (by first | omega | (simp; done) | (simp; omega)))
  have k3_0 : Blk w3 (w.heap.size + 1 + 1) 62 #[.int .i64 0, .int .i64 0, .int .i64 0, .int .i64 0, .int .i64 0, .int .i64 0, .int .i64 0, .int .i64 0, .slice none 0 0, .slice none 0 0] := Blk.below (by (repeat' (first | (with_reducible assumption) | (with_reducible exact Blk.new _ _ _) | (exact Blk.newAt (by first | rfl | (simp; done) | omega)) | (with_reducible refine Blk.drewN ?_ _) | (with_reducible refine Blk.drew ?_) | (with_reducible refine Blk.alloc ?_ _) | (with_reducible apply Blk.set_) | (with_reducible refine Blk.far ?_ ?_ _) | rfl | omega | (simp; done) | (simp; omega)))) hb (by first | omega | (simp; done) | (simp; omega))
  have k3_1 : Blk w3 (w2.heap.size) 62 (discC X Y r) := Blk.below (by (repeat' (first | (with_reducible assumption) | (with_reducible exact Blk.new _ _ _) | (exact Blk.newAt (by first | rfl | (simp; done) | omega)) | (with_reducible refine Blk.drewN ?_ _) | (with_reducible refine Blk.drew ?_) | (with_reducible refine Blk.alloc ?_ _) | (with_reducible apply Blk.set_) | (with_reducible refine Blk.far ?_ ?_ _) | rfl | omega | (simp; done) | (simp; omega)))) hb (by first | omega | (simp; done) | (simp; omega))
  have c3_0 := k3_0.cell
  have f3_0 := k3_0.frozen
  have l3_0 := k3_0.lt
  have c3_1 := k3_1.cell
  have f3_1 := k3_1.frozen
  have l3_1 := k3_1.lt
  have l3 := hB3.size
  clear hb k2_0 c2_0 f2_0
  go_wp2_with fail

  refine bodyPost_ret (results_row_tmp Tryz.results209 _ _ (w.heap.size + 1 + 1) (discC X Y r) (by rfl) (run_loadVar_row _ _ 62 62 _ (0, 0) _ ?_ Tryz.underlying62 rfl (by kernel_rfl))) rfl ⟨rfl, ?_⟩
  · unfold Blk at k3_0
    simp [World.setCell, Array.getElem?_modify, k3_0, discC]
  · (repeat' (first | (with_reducible exact Below.refl _ _) | (with_reducible assumption) | (with_reducible refine below_drewN ?_ _) | (with_reducible refine Below.drew ?_) | (with_reducible refine Below.alloc ?_ ?_ _) | (with_reducible refine Below.setCell ?_ ?_ _) | omega | (simp; done) | (simp; omega)))
end Go.Proofs.YtfajckkbinbpiaaGreatDoor
