/- Walks: package plot: the one square is an aperture. -/
import Derived.Test.YtfajckkbinbpiaaGreatDoorM17
namespace Go.Proofs.YtfajckkbinbpiaaGreatDoor
open Go.RowKit
set_option linter.unusedVariables false
set_option linter.unusedSimpArgs false

set_option maxRecDepth 100000 in
set_option maxHeartbeats 4000000 in
theorem define_adr (P M gL capL gn cn : Nat) (A : Int) {v1 v2 v3 v4 v5 v7 v9 v10 v11 v12 v13 v14 v15 v16 v17 v18 v19 v20 v22 v23 v24 : Value} (w : World) (hP : Blk w P 159 #[.int .i64 1, v1, v2, v3, v4, v5, .map (some M), v7, .slice none 0 0, v9, v10, v11, v12, v13, v14, v15, v16, v17, v18, v19, v20, .slice (some ⟨gL, 0, none⟩) 1 capL, v22, v23, v24]) (hM : IsMap w M #[] 0) (hcap : 1 ≤ capL) (hn : w.cell? ⟨gn, 0, none⟩ = some (.int .i64 4000000)) (hn2 : w.cell? ⟨gn, 1, none⟩ = some (.int .i64 4000000)) (hgn : gn < w.heap.size) :
    Calls Tryz.prog 100 #[.pointer (some ⟨P, 0, none⟩), .agg #[.int .i64 A, .int .i64 10, .int .i64 10, .int .i64 0, .bool false, .string { data := #[82] }, .string { data := #[] }, .string { data := #[] }, .string { data := #[] }, .string { data := #[] }, .slice (some ⟨gn, 0, none⟩) 2 cn, .slice none 0 0]] w fun e w' => ∃ gl gp cp, e = .returned (.int .i64 0) ∧ IsMap w' M #[{ key := .int .i64 10, val := .agg #[.int .i64 2, .int .i64 0, .int .i64 0, .int .i64 0, .int .i64 0, .int .i64 0, .int .i64 0, .int .i64 0, .slice (some ⟨gl, 0, none⟩) 1 1, .slice none 0 0, .int .i64 0, .bool false, .bool false, .slice none 0 0], born := 0 }] 1 ∧ SqAt w' gl gp cp ∧ Only [M] w w' := by
  have hne : M ≠ P := hM.blk_ne hP
  have l := hP.lt
  have lM := hM.lt
  have c := hP.cell
  have f := hP.frozen
  have HP := Lib.hid hP
  have HM := Lib.hid hM
  clear hP hM
  go_enter Tryz.func100, Tryz.ntmps100
  go_wp2_with fail
  refine (taken_no P M gL capL 10 #[] 0 _ (HP.out.alloc _) (HM.out.alloc _) rfl hcap).mono ?_
  rintro e w1 ⟨rfl, hb⟩
  have o1 : Only [] w w1 := ((Only.refl _ _).alloc _).below hb (by simp)
  have k1 := (HP.out.alloc (.cells #[.int .i64 A, .int .i64 10, .int .i64 10, .int .i64 0, .bool false, .string { data := #[82] }, .string { data := #[] }, .string { data := #[] }, .string { data := #[] }, .string { data := #[] }, .slice (some ⟨gn, 0, none⟩) 2 cn, .slice none 0 0] 103)).below hb (by simp; omega)
  have k2 : Blk w1 w.heap.size 103 #[.int .i64 A, .int .i64 10, .int .i64 10, .int .i64 0, .bool false, .string { data := #[82] }, .string { data := #[] }, .string { data := #[] }, .string { data := #[] }, .string { data := #[] }, .slice (some ⟨gn, 0, none⟩) 2 cn, .slice none 0 0] := (Blk.new w 103 #[.int .i64 A, .int .i64 10, .int .i64 10, .int .i64 0, .bool false, .string { data := #[82] }, .string { data := #[] }, .string { data := #[] }, .string { data := #[] }, .string { data := #[] }, .slice (some ⟨gn, 0, none⟩) 2 cn, .slice none 0 0]).below hb (by simp)
  have hn1 : w1.cell? ⟨gn, 0, none⟩ = some (.int .i64 4000000) := o1.cell0 hgn hn
  have hn3 : w1.cell? ⟨gn, 1, none⟩ = some (.int .i64 4000000) := o1.cell0 hgn hn2
  have m1 := o1.map HM.out (by simp)
  have l1 := o1.size
  have hgn1 : gn < w1.heap.size := by omega
  have c1 := k1.cell
  have f1 := k1.frozen
  have lP := k1.lt
  have c2 := k2.cell
  have lC := k2.lt
  have p0 : w1.cell? ⟨P, 0, none⟩ = some (.int .i64 1) := c1 0
  have p8 : w1.cell? ⟨P, 8, none⟩ = some (.slice none 0 0) := c1 8
  have q5 : w1.cell? ⟨w.heap.size, 5, none⟩ = some (.string { data := #[82] }) := c2 5
  have q10 : w1.cell? ⟨w.heap.size, 10, none⟩ = some (.slice (some ⟨gn, 0, none⟩) 2 cn) := c2 10
  have O1 := Lib.hid o1
  have K1 := Lib.hid k1
  have K2 := Lib.hid k2
  have M1 := Lib.hid m1
  clear hb o1 k1 k2 m1 c f
  have hKS : ∀ w', Only [] w1 w' → (w'.cell? ⟨w.heap.size, 5, none⟩ = some (.string { data := #[82] }) ∧ w'.cell? ⟨w.heap.size, 10, none⟩ = some (.slice (some ⟨gn, 0, none⟩) 2 cn) ∧ w'.cell? ⟨P, 0, none⟩ = some (.int .i64 1) ∧ w'.cell? ⟨P, 8, none⟩ = some (.slice none 0 0) ∧ w'.cell? ⟨gn, 0, none⟩ = some (.int .i64 4000000) ∧ w'.cell? ⟨gn, 1, none⟩ = some (.int .i64 4000000) ∧ gn < w'.heap.size ∧ Only [] w1 w') := fun w' o => ⟨o.cell0 lC q5, o.cell0 lC q10, o.cell0 lP p0, o.cell0 lP p8, o.cell0 hgn1 hn1, o.cell0 hgn1 hn3, Nat.lt_of_lt_of_le hgn1 o.size, o⟩
  go_upto_region 22 with (fail)
  go_cut [8, 9] (fun p e wx => ∃ q gl gp cp, p = .pointer (some ⟨q, 0, none⟩) ∧ e = .int .i64 0 ∧ Blk wx q 276 #[.int .i64 2, .int .i64 0, .int .i64 0, .int .i64 0, .int .i64 0, .int .i64 0, .int .i64 0, .int .i64 0, .slice (some ⟨gl, 0, none⟩) 1 1, .slice none 0 0, .int .i64 0] ∧ w1.heap.size ≤ q ∧ SqAt wx gl gp cp ∧ Only [] w1 wx)
  case first =>
    go_region_held3 (fun w' => (w'.cell? ⟨w.heap.size, 5, none⟩ = some (.string { data := #[82] }) ∧ w'.cell? ⟨w.heap.size, 10, none⟩ = some (.slice (some ⟨gn, 0, none⟩) 2 cn) ∧ w'.cell? ⟨P, 0, none⟩ = some (.int .i64 1) ∧ w'.cell? ⟨P, 8, none⟩ = some (.slice none 0 0) ∧ w'.cell? ⟨gn, 0, none⟩ = some (.int .i64 4000000) ∧ w'.cell? ⟨gn, 1, none⟩ = some (.int .i64 4000000) ∧ gn < w'.heap.size ∧ Only [] w1 w'))
      (exact hKS _ (by (repeat' (first | (with_reducible exact Only.refl _ _) | (with_reducible assumption) | (with_reducible refine Only.drewN ?_ _) | (with_reducible refine Only.drew ?_) | (with_reducible refine Only.alloc ?_ _) | (with_reducible refine Only.setCell ?_ ?_ _) | (left; simp; done) | (right; omega) | (right; simp; done) | (right; simp; omega)))))
      (first | (go_at_call 158; refine (make_R gn cn _ (Only.cell0 (w := w1) (by (repeat' (first | (with_reducible exact Only.refl _ _) | (with_reducible assumption) | (with_reducible refine Only.drewN ?_ _) | (with_reducible refine Only.drew ?_) | (with_reducible refine Only.alloc ?_ _) | (with_reducible refine Only.setCell ?_ ?_ _) | (left; simp; done) | (right; omega) | (right; simp; done) | (right; simp; omega)))) hgn1 hn1) (Only.cell0 (w := w1) (by (repeat' (first | (with_reducible exact Only.refl _ _) | (with_reducible assumption) | (with_reducible refine Only.drewN ?_ _) | (with_reducible refine Only.drew ?_) | (with_reducible refine Only.alloc ?_ _) | (with_reducible refine Only.setCell ?_ ?_ _) | (left; simp; done) | (right; omega) | (right; simp; done) | (right; simp; omega)))) hgn1 hn3) (by first | assumption | (simp; omega))).mono ?_; rintro e w5 ⟨gl, gp, cp, rfl, hs5, hb⟩; have o5 : Only [] w1 w5 := Only.below (by (repeat' (first | (with_reducible exact Only.refl _ _) | (with_reducible assumption) | (with_reducible refine Only.drewN ?_ _) | (with_reducible refine Only.drew ?_) | (with_reducible refine Only.alloc ?_ _) | (with_reducible refine Only.setCell ?_ ?_ _) | (left; simp; done) | (right; omega) | (right; simp; done) | (right; simp; omega)))) hb (by first | (simp; done) | (simp; omega) | omega); have l5 := o5.size; (first | (have k5 : Blk w5 w1.heap.size 276 #[.int .i64 0, .int .i64 0, .int .i64 0, .int .i64 0, .int .i64 0, .int .i64 0, .int .i64 0, .int .i64 0, .slice none 0 0, .slice none 0 0, .int .i64 0] := Blk.below (by exact (Blk.new w1 276 #[.int .i64 0, .int .i64 0, .int .i64 0, .int .i64 0, .int .i64 0, .int .i64 0, .int .i64 0, .int .i64 0, .slice none 0 0, .slice none 0 0, .int .i64 0]).drew) hb (by simp); have c5 := k5.cell; have f5 := k5.frozen; have l51 := k5.lt; have n5 := hs5.ne_int (k5.cell 0) (by decide)) | skip)))
    all_goals
      go_wp2_with fail
      go_meet
      refine ⟨_, gl, gp, cp, rfl, rfl, ?_, ?_, ?_, ?_⟩
      · first | (with_reducible exact Blk.new _ _ _) | (with_reducible exact (((((((((((k5.set_ 0 _ rfl).set_ 1 _ rfl).set_ 2 _ rfl).set_ 3 _ rfl).set_ 4 _ rfl).set_ 5 _ rfl).set_ 6 _ rfl).set_ 7 _ rfl).set_ 8 _ rfl).set_ 9 _ rfl).set_ 10 _ rfl))
      · first | (with_reducible exact l5) | (with_reducible exact Nat.le_refl _)
      · first | (with_reducible exact hs5.alloc _) | (with_reducible exact (((((((((((hs5).far n5.1 n5.2 _).far n5.1 n5.2 _).far n5.1 n5.2 _).far n5.1 n5.2 _).far n5.1 n5.2 _).far n5.1 n5.2 _).far n5.1 n5.2 _).far n5.1 n5.2 _).far n5.1 n5.2 _).far n5.1 n5.2 _).far n5.1 n5.2 _)
      · (repeat' (first | (with_reducible exact Only.refl _ _) | (with_reducible assumption) | (with_reducible refine Only.drewN ?_ _) | (with_reducible refine Only.drew ?_) | (with_reducible refine Only.alloc ?_ _) | (with_reducible refine Only.setCell ?_ ?_ _) | (left; simp; done) | (right; omega) | (right; simp; done) | (right; simp; omega)))
  case rest =>
  obtain ⟨q, gl, gp, cp, rfl, rfl, kq, hq, hsq, oq⟩ := hcut
  have k3 := oq.blk K1.out (by simp)
  have k4 := oq.blk K2.out (by simp)
  have m3 := oq.map M1.out (by simp)
  have c := k3.cell
  have f := k3.frozen
  have l3 := k3.lt
  have c4 := k4.cell
  have l4 := k4.lt
  have cq := kq.cell
  have lq := kq.lt
  have nm := hsq.ne_map m3
  have M3 := Lib.hid m3
  have OQ := Lib.hid oq
  have HSQ := Lib.hid hsq
  have NM := Lib.hid nm
  clear k3 k4 m3 kq oq c1 f1 c2 p0 p8 q5 q10 hKS hsq nm
  go_wp2_with fail
  go_still_tail 12, (by kernel_rfl)
  change wpList _ _ _ _ _ wc.drew
  go_wp2_with (at_mapUpdate; refine wpList_put _ rfl (.tmp 132) (.tmp 134) (.tmp 140) rfl (by simp [Act.eval]) (M3.out.drew) 10 (by simp [Act.eval]) (.agg #[.int .i64 2, .int .i64 0, .int .i64 0, .int .i64 0, .int .i64 0, .int .i64 0, .int .i64 0, .int .i64 0, .slice (some ⟨gl, 0, none⟩) 1 1, .slice none 0 0, .int .i64 0, .bool false, .bool false, .slice none 0 0]) (by simp [Act.eval]) rfl ?_; intro w7 m7 g7)
  simp only [List.push_toArray, List.nil_append, Nat.zero_add] at m7
  have M7 := Lib.hid m7
  have S7 : SqAt w7 gl gp cp := (HSQ.out.drew).grown' g7 (by simpa using NM.out.1) (by simpa using NM.out.2)
  have O7 : Only [M] w w7 := ((((O1.out.mono (by simp)).trans (OQ.out.mono (by simp))).drew).grown g7 (by intro b hb; injection hb with hb; simp [hb]))
  clear m7 g7
  go_wp2_with fail
  go_ret
  exact ⟨gl, gp, cp, rfl, M7.out, S7, O7⟩
end Go.Proofs.YtfajckkbinbpiaaGreatDoor
