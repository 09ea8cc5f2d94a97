/- Walks: package plot: an aperture is defined. Walks: package aper: the one square. -/
import Derived.Test.YtfajckkbinbpiaaGreatDoorM16
import Derived.Deep.RegionHeld3
import Derived.StillTailTactics
import Derived.Deep.Cut
import Derived.Deep.CutRange
import Derived.Test.YtfajckkbinbpiaaGreatDoorM13
namespace Go.Proofs.YtfajckkbinbpiaaGreatDoor
open Go.RowKit
set_option linter.unusedVariables false
set_option linter.unusedSimpArgs false

theorem Only.cell {S : List Nat} {w w' : World} (h : Only S w w') {p : Addr} (hl : p.block < w.heap.size) (hn : p.block ∉ S) : w'.cell? p = w.cell? p := World.cell?_of_block (w := w) (h.block p.block hl hn)
theorem Only.cell0 {w w' : World} (h : Only [] w w') {p : Addr} (hl : p.block < w.heap.size) {u : Value} (hu : w.cell? p = some u) : w'.cell? p = some u := (h.cell hl (by simp)).trans hu
set_option maxRecDepth 100000 in
set_option maxHeartbeats 4000000 in
theorem define_adc (P M gL capL gn cn : Nat) (A : Int) {v1 v2 v3 v4 v5 v7 v9 v10 v11 v12 v13 v14 v15 v16 v17 v18 v19 v20 v22 v23 v24 : Value} (w : World) (hP : Blk w P 159 #[.int .i64 1, v1, v2, v3, v4, v5, .map (some M), v7, .slice none 0 0, v9, v10, v11, v12, v13, v14, v15, v16, v17, v18, v19, v20, .slice (some ⟨gL, 0, none⟩) 1 capL, v22, v23, v24]) (hM : IsMap w M #[] 0) (hcap : 1 ≤ capL) (hn : w.cell? ⟨gn, 0, none⟩ = some (.int .i64 500000)) (hgn : gn < w.heap.size) :
    Calls Tryz.prog 100 #[.pointer (some ⟨P, 0, none⟩), .agg #[.int .i64 A, .int .i64 10, .int .i64 10, .int .i64 0, .bool false, .string { data := #[67] }, .string { data := #[] }, .string { data := #[] }, .string { data := #[] }, .string { data := #[] }, .slice (some ⟨gn, 0, none⟩) 1 cn, .slice none 0 0]] w fun e w' => e = .returned (.int .i64 0) ∧ IsMap w' M #[{ key := .int .i64 10, val := .agg #[.int .i64 1, .int .i64 0, .int .i64 0, .int .i64 0, .int .i64 0, .int .i64 0, .int .i64 0, .int .i64 2500000, .slice none 0 0, .slice none 0 0, .int .i64 2500000, .bool true, .bool false, .slice none 0 0], born := 0 }] 1 ∧ Only [M] w w' := by
  have hne : M ≠ P := hM.blk_ne hP
  have l := hP.lt
  have lM := hM.lt
  have c := hP.cell
  have f := hP.frozen
  have HP := Lib.hid hP
  have HM := Lib.hid hM
  clear hP hM
  go_enter Tryz.func100, Tryz.ntmps100
  go_wp2_with fail
  refine (taken_no P M gL capL 10 #[] 0 _ (HP.out.alloc _) (HM.out.alloc _) rfl hcap).mono ?_
  rintro e w1 ⟨rfl, hb⟩
  have o1 : Only [] w w1 := ((Only.refl _ _).alloc _).below hb (by simp)
  have k1 := (HP.out.alloc (.cells #[.int .i64 A, .int .i64 10, .int .i64 10, .int .i64 0, .bool false, .string { data := #[67] }, .string { data := #[] }, .string { data := #[] }, .string { data := #[] }, .string { data := #[] }, .slice (some ⟨gn, 0, none⟩) 1 cn, .slice none 0 0] 103)).below hb (by simp; omega)
  have k2 : Blk w1 w.heap.size 103 #[.int .i64 A, .int .i64 10, .int .i64 10, .int .i64 0, .bool false, .string { data := #[67] }, .string { data := #[] }, .string { data := #[] }, .string { data := #[] }, .string { data := #[] }, .slice (some ⟨gn, 0, none⟩) 1 cn, .slice none 0 0] := (Blk.new w 103 #[.int .i64 A, .int .i64 10, .int .i64 10, .int .i64 0, .bool false, .string { data := #[67] }, .string { data := #[] }, .string { data := #[] }, .string { data := #[] }, .string { data := #[] }, .slice (some ⟨gn, 0, none⟩) 1 cn, .slice none 0 0]).below hb (by simp)
  have hn1 : w1.cell? ⟨gn, 0, none⟩ = some (.int .i64 500000) := o1.cell0 hgn hn
  have m1 := o1.map HM.out (by simp)
  have l1 := o1.size
  have hgn1 : gn < w1.heap.size := by omega
  have c1 := k1.cell
  have f1 := k1.frozen
  have lP := k1.lt
  have c2 := k2.cell
  have lC := k2.lt
  have p0 : w1.cell? ⟨P, 0, none⟩ = some (.int .i64 1) := c1 0
  have p8 : w1.cell? ⟨P, 8, none⟩ = some (.slice none 0 0) := c1 8
  have q5 : w1.cell? ⟨w.heap.size, 5, none⟩ = some (.string { data := #[67] }) := c2 5
  have q10 : w1.cell? ⟨w.heap.size, 10, none⟩ = some (.slice (some ⟨gn, 0, none⟩) 1 cn) := c2 10
  have O1 := Lib.hid o1
  have K1 := Lib.hid k1
  have K2 := Lib.hid k2
  have M1 := Lib.hid m1
  clear hb o1 k1 k2 m1 c f
  have hKS : ∀ w', Only [] w1 w' → (w'.cell? ⟨w.heap.size, 5, none⟩ = some (.string { data := #[67] }) ∧ w'.cell? ⟨w.heap.size, 10, none⟩ = some (.slice (some ⟨gn, 0, none⟩) 1 cn) ∧ w'.cell? ⟨P, 0, none⟩ = some (.int .i64 1) ∧ w'.cell? ⟨P, 8, none⟩ = some (.slice none 0 0) ∧ w'.cell? ⟨gn, 0, none⟩ = some (.int .i64 500000) ∧ gn < w'.heap.size ∧ Only [] w1 w') := fun w' o => ⟨o.cell0 lC q5, o.cell0 lC q10, o.cell0 lP p0, o.cell0 lP p8, o.cell0 hgn1 hn1, Nat.lt_of_lt_of_le hgn1 o.size, o⟩
  go_upto_region 22 with (fail)
  go_cut [8, 9] (fun p e wx => ∃ q, p = .pointer (some ⟨q, 0, none⟩) ∧ e = .int .i64 0 ∧ Blk wx q 276 #[.int .i64 1, .int .i64 0, .int .i64 0, .int .i64 0, .int .i64 0, .int .i64 0, .int .i64 0, .int .i64 2500000, .slice none 0 0, .slice none 0 0, .int .i64 2500000] ∧ w1.heap.size ≤ q ∧ Only [] w1 wx)
  case first =>
    go_region_held3 (fun w' => w'.cell? ⟨w.heap.size, 5, none⟩ = some (.string { data := #[67] }) ∧ w'.cell? ⟨w.heap.size, 10, none⟩ = some (.slice (some ⟨gn, 0, none⟩) 1 cn) ∧ w'.cell? ⟨P, 0, none⟩ = some (.int .i64 1) ∧ w'.cell? ⟨P, 8, none⟩ = some (.slice none 0 0) ∧ w'.cell? ⟨gn, 0, none⟩ = some (.int .i64 500000) ∧ gn < w'.heap.size ∧ Only [] w1 w')
      (exact hKS _ (by (repeat' (first | (with_reducible exact Only.refl _ _) | (with_reducible assumption) | (with_reducible refine Only.drewN ?_ _) | (with_reducible refine Only.drew ?_) | (with_reducible refine Only.alloc ?_ _) | (with_reducible refine Only.setCell ?_ ?_ _) | (left; simp; done) | (right; omega) | (right; simp; done) | (right; simp; omega)))))
      (first | (go_at_call 158; refine (make_C gn cn _ (Only.cell0 (w := w1) (by (repeat' (first | (with_reducible exact Only.refl _ _) | (with_reducible assumption) | (with_reducible refine Only.drewN ?_ _) | (with_reducible refine Only.drew ?_) | (with_reducible refine Only.alloc ?_ _) | (with_reducible refine Only.setCell ?_ ?_ _) | (left; simp; done) | (right; omega) | (right; simp; done) | (right; simp; omega)))) hgn1 hn1) (by first | assumption | (simp; omega))).mono ?_; rintro e w5 ⟨rfl, hb⟩; have o5 : Only [] w1 w5 := Only.below (by (repeat' (first | (with_reducible exact Only.refl _ _) | (with_reducible assumption) | (with_reducible refine Only.drewN ?_ _) | (with_reducible refine Only.drew ?_) | (with_reducible refine Only.alloc ?_ _) | (with_reducible refine Only.setCell ?_ ?_ _) | (left; simp; done) | (right; omega) | (right; simp; done) | (right; simp; omega)))) hb (by first | (simp; done) | (simp; omega) | omega); have l5 := o5.size; (first | (have k5 : Blk w5 w1.heap.size 276 #[.int .i64 0, .int .i64 0, .int .i64 0, .int .i64 0, .int .i64 0, .int .i64 0, .int .i64 0, .int .i64 0, .slice none 0 0, .slice none 0 0, .int .i64 0] := Blk.below (by exact (Blk.new w1 276 #[.int .i64 0, .int .i64 0, .int .i64 0, .int .i64 0, .int .i64 0, .int .i64 0, .int .i64 0, .int .i64 0, .slice none 0 0, .slice none 0 0, .int .i64 0]).drew) hb (by simp); have c5 := k5.cell; have f5 := k5.frozen; have l51 := k5.lt) | skip)))
    all_goals
      go_wp2_with fail
      go_meet
      refine ⟨_, rfl, rfl, ?_, ?_, ?_⟩
      · first | (with_reducible exact Blk.new _ _ _) | (with_reducible exact (((((((((((k5.set_ 0 _ rfl).set_ 1 _ rfl).set_ 2 _ rfl).set_ 3 _ rfl).set_ 4 _ rfl).set_ 5 _ rfl).set_ 6 _ rfl).set_ 7 _ rfl).set_ 8 _ rfl).set_ 9 _ rfl).set_ 10 _ rfl))
      · first | (with_reducible exact l5) | (with_reducible exact Nat.le_refl _)
      · (repeat' (first | (with_reducible exact Only.refl _ _) | (with_reducible assumption) | (with_reducible refine Only.drewN ?_ _) | (with_reducible refine Only.drew ?_) | (with_reducible refine Only.alloc ?_ _) | (with_reducible refine Only.setCell ?_ ?_ _) | (left; simp; done) | (right; omega) | (right; simp; done) | (right; simp; omega)))
  case rest =>
  obtain ⟨q, rfl, rfl, kq, hq, oq⟩ := hcut
  have k3 := oq.blk K1.out (by simp)
  have k4 := oq.blk K2.out (by simp)
  have m3 := oq.map M1.out (by simp)
  have c := k3.cell
  have f := k3.frozen
  have l3 := k3.lt
  have c4 := k4.cell
  have l4 := k4.lt
  have cq := kq.cell
  have lq := kq.lt
  have M3 := Lib.hid m3
  have OQ := Lib.hid oq
  clear k3 k4 m3 kq oq c1 f1 c2 p0 p8 q5 q10 hKS
  go_wp2_with fail
  go_still_tail 12, (by kernel_rfl)
  change wpList _ _ _ _ _ wc.drew
  go_wp2_with (at_mapUpdate; refine wpList_put _ rfl (.tmp 132) (.tmp 134) (.tmp 140) rfl (by simp [Act.eval]) (M3.out.drew) 10 (by simp [Act.eval]) (.agg #[.int .i64 1, .int .i64 0, .int .i64 0, .int .i64 0, .int .i64 0, .int .i64 0, .int .i64 0, .int .i64 2500000, .slice none 0 0, .slice none 0 0, .int .i64 2500000, .bool true, .bool false, .slice none 0 0]) (by simp [Act.eval]) rfl ?_; intro w7 m7 g7)
  simp only [List.push_toArray, List.nil_append, Nat.zero_add] at m7
  have M7 := Lib.hid m7
  have O7 : Only [M] w w7 := ((((O1.out.mono (by simp)).trans (OQ.out.mono (by simp))).drew).grown g7 (by intro b hb; injection hb with hb; simp [hb]))
  clear m7 g7
  go_wp2_with fail
  go_ret
  exact ⟨rfl, M7.out, O7⟩
end Go.Proofs.YtfajckkbinbpiaaGreatDoor
namespace Go.Proofs.YtfajckkbinbpiaaGreatDoor
open Go.RowKit
set_option linter.unusedVariables false
set_option linter.unusedSimpArgs false

theorem SqAt.ne_int {w : World} {gl gp cp b : Nat} {i : Int} (h : SqAt w gl gp cp) (hc : w.cell? ⟨b, 0, none⟩ = some (.int .i64 i)) (hi : i ≠ -20000000) : gl ≠ b ∧ gp ≠ b := by
  constructor
  · rintro rfl
    have h3 := h.1
    rw [hc] at h3
    cases h3
  · rintro rfl
    have h3 := h.2 0 _ rfl
    rw [hc] at h3
    injection h3 with h3
    injection h3 with h3 h4
    exact hi h4
theorem SqAt.ne_map {w : World} {gl gp cp M : Nat} {es : Array MapEntry} {clk : Nat} (h : SqAt w gl gp cp) (hM : IsMap w M es clk) : gl ≠ M ∧ gp ≠ M := by
  unfold IsMap at hM
  constructor
  · rintro rfl
    have h3 := h.1
    simp [World.cell?, hM] at h3
  · rintro rfl
    have h3 := h.2 0 _ rfl
    simp [World.cell?, hM] at h3
theorem SqAt.grown' {w w' : World} {gl gp cp : Nat} {row : Option Nat} (h : SqAt w gl gp cp) (hg : w.grownBy w' row) (h1 : some gl ≠ row) (h2 : some gp ≠ row) : SqAt w' gl gp cp := h.same (hg.block _ h.lt1 h1) (hg.block _ h.lt2 h2)
set_option maxRecDepth 100000 in
set_option maxHeartbeats 4000000 in
theorem rectangle_c (w : World) : Calls Tryz.prog 203 #[.int .i64 20000000, .int .i64 20000000] w fun e w' => ∃ gl gp cp, e = .returned (.agg #[.int .i64 2, .int .i64 0, .int .i64 0, .int .i64 0, .int .i64 0, .int .i64 0, .int .i64 0, .int .i64 0, .slice (some ⟨gl, 0, none⟩) 1 1, .slice none 0 0]) ∧ SqAt w' gl gp cp ∧ Below w.heap.size w w' := by
  obtain ⟨u, eu⟩ : ∃ u, ((w.alloc (.cells #[.int .i64 0, .int .i64 0, .int .i64 0, .int .i64 0, .int .i64 0, .int .i64 0, .int .i64 0, .int .i64 0, .slice none 0 0, .slice none 0 0] 62)).alloc (.cells #[.int .i64 (-20000000), .int .i64 (-20000000), .int .i64 20000000, .int .i64 (-20000000), .int .i64 20000000, .int .i64 20000000, .int .i64 (-20000000), .int .i64 20000000] 58)).alloc (.cells #[.slice (some ⟨w.heap.size + 1, 0, none⟩) 4 4] 166) = u := ⟨_, rfl⟩
  have k0 : Blk u w.heap.size 62 #[.int .i64 0, .int .i64 0, .int .i64 0, .int .i64 0, .int .i64 0, .int .i64 0, .int .i64 0, .int .i64 0, .slice none 0 0, .slice none 0 0] := by rw [← eu]; (repeat' (first | (with_reducible assumption) | (with_reducible exact Blk.new _ _ _) | (exact Blk.newAt (by first | rfl | (simp; done) | omega)) | (with_reducible refine Blk.drewN ?_ _) | (with_reducible refine Blk.drew ?_) | (with_reducible refine Blk.alloc ?_ _) | (with_reducible apply Blk.set_) | (with_reducible refine Blk.far ?_ ?_ _) | rfl | omega | (simp; done) | (simp; omega)))
  have k1 : Blk u (w.heap.size + 1) 58 #[.int .i64 (-20000000), .int .i64 (-20000000), .int .i64 20000000, .int .i64 (-20000000), .int .i64 20000000, .int .i64 20000000, .int .i64 (-20000000), .int .i64 20000000] := by rw [← eu]; (repeat' (first | (with_reducible assumption) | (with_reducible exact Blk.new _ _ _) | (exact Blk.newAt (by first | rfl | (simp; done) | omega)) | (with_reducible refine Blk.drewN ?_ _) | (with_reducible refine Blk.drew ?_) | (with_reducible refine Blk.alloc ?_ _) | (with_reducible apply Blk.set_) | (with_reducible refine Blk.far ?_ ?_ _) | rfl | omega | (simp; done) | (simp; omega)))
  have k2 : Blk u (w.heap.size + 1 + 1) 166 #[.slice (some ⟨w.heap.size + 1, 0, none⟩) 4 4] := by rw [← eu]; (repeat' (first | (with_reducible assumption) | (with_reducible exact Blk.new _ _ _) | (exact Blk.newAt (by first | rfl | (simp; done) | omega)) | (with_reducible refine Blk.drewN ?_ _) | (with_reducible refine Blk.drew ?_) | (with_reducible refine Blk.alloc ?_ _) | (with_reducible apply Blk.set_) | (with_reducible refine Blk.far ?_ ?_ _) | rfl | omega | (simp; done) | (simp; omega)))
  have B0 : Below w.heap.size w u := by rw [← eu]; (repeat' (first | (with_reducible exact Below.refl _ _) | (with_reducible assumption) | (with_reducible refine below_drewN ?_ _) | (with_reducible refine Below.drew ?_) | (with_reducible refine Below.alloc ?_ ?_ _) | (with_reducible refine Below.setCell ?_ ?_ _) | omega | (simp; done) | (simp; omega)))
  have K0 := Lib.hid k0
  have K1 := Lib.hid k1
  have K2 := Lib.hid k2
  have B0 := Lib.hid B0
  have EU := Lib.hid eu
  clear k0 k1 k2 eu
  go_enter Tryz.func203, Tryz.ntmps203
  go_wp2_with (refine wpList_storeBlk rfl 62 (.tmp 4) (.tmp 23) rfl rfl w.heap.size #[.int .i64 2, .int .i64 0, .int .i64 0, .int .i64 0, .int .i64 0, .int .i64 0, .int .i64 0, .int .i64 0, .slice (some ⟨w.heap.size + 1 + 1, 0, none⟩) 1 1, .slice none 0 0] (by simp [Act.eval]) (by simp [Act.eval]) 62 #[.int .i64 0, .int .i64 0, .int .i64 0, .int .i64 0, .int .i64 0, .int .i64 0, .int .i64 0, .int .i64 0, .slice none 0 0, .slice none 0 0] (by rw [EU.out]; exact K0.out) (by kernel_rfl) (by kernel_rfl) (by kernel_rfl) ?_)
  intro w3 k3 hgr
  rw [EU.out] at hgr
  have j1 := Blk.grown' K1.out hgr (by intro e; injection e with e; omega)
  have j2 := Blk.grown' K2.out hgr (by intro e; injection e with e; omega)
  have hB3 : Below w.heap.size w w3 := Below.grown B0.out hgr B0.out.size (by intro q hq; injection hq with hq; omega)
  clear hgr
  go_wp2_with fail
  refine bodyPost_ret (results_cell_row (t := 62) Tryz.results203 _ _ w.heap.size #[.int .i64 2, .int .i64 0, .int .i64 0, .int .i64 0, .int .i64 0, .int .i64 0, .int .i64 0, .int .i64 0, .slice (some ⟨w.heap.size + 1 + 1, 0, none⟩) 1 1, .slice none 0 0] (0, 0) _ (by rfl) k3 Tryz.underlying62 rfl (by kernel_rfl)) rfl ⟨w.heap.size + 1 + 1, w.heap.size + 1, 4, rfl, ⟨j2.cell 0, ?_⟩, hB3⟩
  intro j v hj
  rw [j1.cell j]
  simpa [sqv] using hj
set_option maxRecDepth 100000 in
set_option maxHeartbeats 4000000 in
theorem make_R (g cap : Nat) (w : World) (hc : w.cell? ⟨g, 0, none⟩ = some (.int .i64 4000000)) (hd : w.cell? ⟨g, 1, none⟩ = some (.int .i64 4000000)) (hg : g < w.heap.size) : Calls Tryz.prog 158 #[.string { data := #[82] }, .slice (some ⟨g, 0, none⟩) 2 cap, .int .i64 1, .slice none 0 0] w fun e w' => ∃ gl gp cp, e = .returned (.tuple #[.agg #[.int .i64 2, .int .i64 0, .int .i64 0, .int .i64 0, .int .i64 0, .int .i64 0, .int .i64 0, .int .i64 0, .slice (some ⟨gl, 0, none⟩) 1 1, .slice none 0 0, .int .i64 0], .int .i64 0]) ∧ SqAt w' gl gp cp ∧ Below w.heap.size w w' := by
  have h1 := fun w => grain_c 4000000 w (by omega) (by omega)
  have H1 := Lib.hid h1
  clear h1
  go_enter Tryz.func158, Tryz.ntmps158
  go_wp2_with fail
  refine wp_loop_rounds 3 ?_
  rw [rounds_succ]
  go_wp2_with (go_at_call 166; ((with_reducible refine (H1.out _).mono ?_); rintro e w' ⟨rfl, rfl⟩))
  rw [rounds_succ]
  go_wp2_with (go_at_call 166; ((with_reducible refine (H1.out _).mono ?_); rintro e w' ⟨rfl, rfl⟩))
  rw [rounds_succ]
  go_wp2_with fail
  refine (rectangle_c _).mono ?_
  rintro e w1 ⟨gl, gp, cp, rfl, hs, hb⟩
  have hB1 : Below w.heap.size w w1 := Below.trans (by (repeat' (first | (with_reducible exact Below.refl _ _) | (with_reducible assumption) | (with_reducible refine below_drewN ?_ _) | (with_reducible refine Below.drew ?_) | (with_reducible refine Below.alloc ?_ ?_ _) | (with_reducible refine Below.setCell ?_ ?_ _) | omega | (simp; done) | (simp; omega)))) (hb.mono (by first | omega | (simp; done) | (simp; omega)))
  have k1_0 : Blk w1 (w.heap.size) 276 #[.int .i64 0, .int .i64 0, .int .i64 0, .int .i64 0, .int .i64 0, .int .i64 0, .int .i64 0, .int .i64 0, .slice none 0 0, .slice none 0 0, .int .i64 0] := Blk.below (by (repeat' (first | (with_reducible assumption) | (with_reducible exact Blk.new _ _ _) | (exact Blk.newAt (by first | rfl | (simp; done) | omega)) | (with_reducible refine Blk.drewN ?_ _) | (with_reducible refine Blk.drew ?_) | (with_reducible refine Blk.alloc ?_ _) | (with_reducible apply Blk.set_) | (with_reducible refine Blk.far ?_ ?_ _) | rfl | omega | (simp; done) | (simp; omega)))) hb (by first | omega | (simp; done) | (simp; omega))
  have k1_1 : Blk w1 (w.heap.size + 1) 319 #[.int .i64 20000000, .int .i64 20000000, .int .i64 0] := Blk.below (by (repeat' (first | (with_reducible assumption) | (with_reducible exact Blk.new _ _ _) | (exact Blk.newAt (by first | rfl | (simp; done) | omega)) | (with_reducible refine Blk.drewN ?_ _) | (with_reducible refine Blk.drew ?_) | (with_reducible refine Blk.alloc ?_ _) | (with_reducible apply Blk.set_) | (with_reducible refine Blk.far ?_ ?_ _) | rfl | omega | (simp; done) | (simp; omega)))) hb (by first | omega | (simp; done) | (simp; omega))
  have k1_2 : Blk w1 (w.heap.size + 1 + 1) 276 #[.int .i64 0, .int .i64 0, .int .i64 0, .int .i64 0, .int .i64 0, .int .i64 0, .int .i64 0, .int .i64 0, .slice none 0 0, .slice none 0 0, .int .i64 0] := Blk.below (by (repeat' (first | (with_reducible assumption) | (with_reducible exact Blk.new _ _ _) | (exact Blk.newAt (by first | rfl | (simp; done) | omega)) | (with_reducible refine Blk.drewN ?_ _) | (with_reducible refine Blk.drew ?_) | (with_reducible refine Blk.alloc ?_ _) | (with_reducible apply Blk.set_) | (with_reducible refine Blk.far ?_ ?_ _) | rfl | omega | (simp; done) | (simp; omega)))) hb (by first | omega | (simp; done) | (simp; omega))
  have c1_0 := k1_0.cell
  have f1_0 := k1_0.frozen
  have l1_0 := k1_0.lt
  have c1_1 := k1_1.cell
  have f1_1 := k1_1.frozen
  have l1_1 := k1_1.lt
  have c1_2 := k1_2.cell
  have f1_2 := k1_2.frozen
  have l1_2 := k1_2.lt
  have l1 := hB1.size
  clear hb
  have HK := Lib.hid k1_2
  have HK0 := Lib.hid k1_0
  have HS := Lib.hid hs
  have nz := hs.ne_int (k1_0.cell 0) (by decide)
  have nz2 := hs.ne_int (k1_2.cell 0) (by decide)
  have NZ := Lib.hid (And.intro nz nz2)
  clear k1_0 k1_1 k1_2 c1_0 f1_0 c1_1 f1_1 c1_2 f1_2 hs nz nz2
  go_wp2_with (refine wpList_storeMid rfl 62 (.tmp 109) (.tmp 108) rfl rfl (w.heap.size + 1 + 1) 0 #[.int .i64 2, .int .i64 0, .int .i64 0, .int .i64 0, .int .i64 0, .int .i64 0, .int .i64 0, .int .i64 0, .slice (some ⟨gl, 0, none⟩) 1 1, .slice none 0 0] (by simp [Act.eval]) (by simp [Act.eval]) 276 #[.int .i64 0, .int .i64 0, .int .i64 0, .int .i64 0, .int .i64 0, .int .i64 0, .int .i64 0, .int .i64 0, .slice none 0 0, .slice none 0 0, .int .i64 0] #[.int .i64 2, .int .i64 0, .int .i64 0, .int .i64 0, .int .i64 0, .int .i64 0, .int .i64 0, .int .i64 0, .slice (some ⟨gl, 0, none⟩) 1 1, .slice none 0 0, .int .i64 0] HK.out (by kernel_rfl) (by kernel_rfl) (by show 0 + 10 ≤ 11; omega) (by kernel_rfl) ?_)
  intro w2 k2 hgr
  have k2_0 := Blk.grown' HK0.out hgr (by intro e; injection e with e; omega)
  have hS2 := HS.out.grown' hgr (by simpa using NZ.out.2.1) (by simpa using NZ.out.2.2)
  have hB2 : Below w.heap.size w w2 := Below.grown hB1 hgr l1 (by intro q hq; injection hq with hq; omega)
  have l2 := hB2.size
  have c2 := k2.cell
  have f2 := k2.frozen
  have l2_2 := k2.lt
  have HK00 := Lib.hid k2_0
  have HS2 := Lib.hid hS2
  have nw := hS2.ne_int (k2_0.cell 0) (by decide)
  have NW := Lib.hid nw
  clear hgr k2_0 k2 hS2 nw
  go_wp2_with (refine wpList_storeBlk rfl 276 (.tmp 8) (.tmp 129) rfl rfl w.heap.size #[.int .i64 2, .int .i64 0, .int .i64 0, .int .i64 0, .int .i64 0, .int .i64 0, .int .i64 0, .int .i64 0, .slice (some ⟨gl, 0, none⟩) 1 1, .slice none 0 0, .int .i64 0] (by simp [Act.eval]) (by simp [Act.eval]) 276 #[.int .i64 0, .int .i64 0, .int .i64 0, .int .i64 0, .int .i64 0, .int .i64 0, .int .i64 0, .int .i64 0, .slice none 0 0, .slice none 0 0, .int .i64 0] HK00.out (by kernel_rfl) (by kernel_rfl) (by kernel_rfl) ?_)
  intro w3 k3 hgr
  have hB3 : Below w.heap.size w w3 := Below.grown hB2 hgr (by simpa using l2) (by intro q hq; injection hq with hq; omega)
  have hS3 := HS2.out.grown' hgr (by simpa using NW.out.1) (by simpa using NW.out.2)
  clear hgr
  go_wp2_with fail
  exact bodyPost_ret (results_row_tmp Tryz.results158 _ _ w.heap.size #[.int .i64 2, .int .i64 0, .int .i64 0, .int .i64 0, .int .i64 0, .int .i64 0, .int .i64 0, .int .i64 0, .slice (some ⟨gl, 0, none⟩) 1 1, .slice none 0 0, .int .i64 0] (by rfl) (run_loadVar_row _ _ 276 276 _ (0, 0) _ k3 Tryz.underlying276 rfl (by kernel_rfl))) rfl ⟨gl, gp, cp, rfl, hS3, hB3⟩
end Go.Proofs.YtfajckkbinbpiaaGreatDoor
