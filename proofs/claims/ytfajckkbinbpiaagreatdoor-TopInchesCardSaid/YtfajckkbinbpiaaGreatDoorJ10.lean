/- Walks: package plot: the head of a drawing in inches or millimetres. Walks: package plot: strokes added, discs flashed. -/
import Derived.StillTailTactics
import Derived.Test.YtfajckkbinbpiaaGreatDoorJ07
import Derived.Test.YtfajckkbinbpiaaGreatDoorJ09
namespace Go.Proofs.YtfajckkbinbpiaaGreatDoor
set_option maxRecDepth 100000
set_option maxHeartbeats 32000000
set_option linter.unusedVariables false
set_option linter.unusedSimpArgs false
open Go.RowKit
theorem circle_r (w : World) : Calls Tryz.prog 202 #[.int .i64 6350000] w fun e w' => e = .returned (.agg #[.int .i64 1, .int .i64 0, .int .i64 0, .int .i64 0, .int .i64 0, .int .i64 0, .int .i64 0, .int .i64 6350000, .slice none 0 0, .slice none 0 0]) ∧ Below w.heap.size w w' := by
  go_enter Tryz.func202, Tryz.ntmps202
  go_wp2_with fail
  refine bodyPost_ret (v := .agg #[.int .i64 1, .int .i64 0, .int .i64 0, .int .i64 0, .int .i64 0, .int .i64 0, .int .i64 0, .int .i64 6350000, .slice none 0 0, .slice none 0 0]) ?_ rfl ⟨rfl, by exact blw⟩
  simp [results, Tryz.results202, asAddr, go_sem]
theorem make_r (u num : Int) (g cap : Nat) (w : World) (hg1 : ∀ w, Calls Tryz.prog 166 #[.int .i64 num, .int .i64 u] w fun e w' => e = .returned (.tuple #[.int .i64 12700000, .bool true]) ∧ w = w') (hc : w.cell? ⟨g, 0, none⟩ = some (.int .i64 num)) (hg : g < w.heap.size) : Calls Tryz.prog 158 #[.string { data := #[67] }, .slice (some ⟨g, 0, none⟩) 1 cap, .int .i64 u, .slice none 0 0] w fun e w' => e = .returned (.tuple #[.agg #[.int .i64 1, .int .i64 0, .int .i64 0, .int .i64 0, .int .i64 0, .int .i64 0, .int .i64 0, .int .i64 6350000, .slice none 0 0, .slice none 0 0, .int .i64 6350000], .int .i64 0]) ∧ Below w.heap.size w w' := by
  have h1 := hg1
  have h2 := fun w => circle_r w
  have H1 := Lib.hid h1
  have H2 := Lib.hid h2
  clear h1 h2 hg1
  go_enter Tryz.func158, Tryz.ntmps158
  go_wp2_with fail
  refine wp_loop_rounds 2 ?_
  rw [rounds_succ]
  go_wp2_with (go_at_call 166; ((with_reducible refine (H1.out _).mono ?_); rintro e w' ⟨rfl, rfl⟩))
  rw [rounds_succ]
  go_wp2_with fail
  refine (H2.out _).mono ?_
  rintro e w1 ⟨rfl, hb⟩
  have hB1 : Below w.heap.size w w1 := Below.trans (by exact blw) (hb.mono (by first | omega | (simp; done) | (simp; omega)))
  have k1_0 : Blk w1 (w.heap.size) 276 #[.int .i64 0, .int .i64 0, .int .i64 0, .int .i64 0, .int .i64 0, .int .i64 0, .int .i64 0, .int .i64 0, .slice none 0 0, .slice none 0 0, .int .i64 0] := Blk.below (by exact bkw) hb (by first | omega | (simp; done) | (simp; omega))
  have k1_1 : Blk w1 (w.heap.size + 1) 319 #[.int .i64 6350000, .int .i64 0, .int .i64 0] := Blk.below (by exact bkw) hb (by first | omega | (simp; done) | (simp; omega))
  have k1_2 : Blk w1 (w.heap.size + 1 + 1) 276 #[.int .i64 0, .int .i64 0, .int .i64 0, .int .i64 0, .int .i64 0, .int .i64 0, .int .i64 0, .int .i64 0, .slice none 0 0, .slice none 0 0, .int .i64 0] := Blk.below (by exact bkw) hb (by first | omega | (simp; done) | (simp; omega))
  have c1_0 := k1_0.cell
  have f1_0 := k1_0.frozen
  have l1_0 := k1_0.lt
  have c1_1 := k1_1.cell
  have f1_1 := k1_1.frozen
  have l1_1 := k1_1.lt
  have c1_2 := k1_2.cell
  have f1_2 := k1_2.frozen
  have l1_2 := k1_2.lt
  have l1 := hB1.size
  clear hb
  have HK := Lib.hid k1_2
  have HK0 := Lib.hid k1_0
  have HK1 := Lib.hid k1_1
  clear k1_0 k1_1 k1_2 c1_0 f1_0 c1_1 f1_1 c1_2 f1_2
  go_wp2_with (refine wpList_storeMid rfl 62 (.tmp 96) (.tmp 95) rfl rfl (w.heap.size + 1 + 1) 0 #[.int .i64 1, .int .i64 0, .int .i64 0, .int .i64 0, .int .i64 0, .int .i64 0, .int .i64 0, .int .i64 6350000, .slice none 0 0, .slice none 0 0] (by simp [Act.eval]) (by simp [Act.eval]) 276 #[.int .i64 0, .int .i64 0, .int .i64 0, .int .i64 0, .int .i64 0, .int .i64 0, .int .i64 0, .int .i64 0, .slice none 0 0, .slice none 0 0, .int .i64 0] #[.int .i64 1, .int .i64 0, .int .i64 0, .int .i64 0, .int .i64 0, .int .i64 0, .int .i64 0, .int .i64 6350000, .slice none 0 0, .slice none 0 0, .int .i64 0] HK.out (by kernel_rfl) (by kernel_rfl) (by decide) (by kernel_rfl) ?_)
  intro w2 k2 hgr
  have k2_0 := Blk.grown' HK0.out hgr (by intro e; injection e with e; omega)
  have k2_1 := Blk.grown' HK1.out hgr (by intro e; injection e with e; omega)
  have hB2 : Below w.heap.size w w2 := Below.grown hB1 hgr l1 (by intro q hq; injection hq with hq; omega)
  have l2 := hB2.size
  have c2 := k2.cell
  have f2 := k2.frozen
  have l2_2 := k2.lt
  have c2_1 := k2_1.cell
  have l2_1 := k2_1.lt
  have HK0 := Lib.hid k2_0
  have HK2 := Lib.hid k2
  clear hgr k2_0 k2_1 k2
  have HK00 := Lib.hid (HK0.out.far (p := ⟨w.heap.size + 1 + 1, 10, none⟩) (by simp; omega) (.int .i64 6350000))
  go_wp2_with (refine wpList_storeBlk rfl 276 (.tmp 8) (.tmp 129) rfl rfl w.heap.size #[.int .i64 1, .int .i64 0, .int .i64 0, .int .i64 0, .int .i64 0, .int .i64 0, .int .i64 0, .int .i64 6350000, .slice none 0 0, .slice none 0 0, .int .i64 6350000] (by simp [Act.eval]) (by simp [Act.eval]) 276 #[.int .i64 0, .int .i64 0, .int .i64 0, .int .i64 0, .int .i64 0, .int .i64 0, .int .i64 0, .int .i64 0, .slice none 0 0, .slice none 0 0, .int .i64 0] HK00.out (by kernel_rfl) (by kernel_rfl) (by kernel_rfl) ?_)
  intro w3 k3 hgr
  have hB3 : Below w.heap.size w w3 := Below.grown (Below.setCell hB2 (by simp; omega) _) hgr (by simpa using l2) (by intro q hq; injection hq with hq; omega)
  clear hgr
  go_wp2_with fail
  exact bodyPost_ret (results_row_tmp Tryz.results158 _ _ w.heap.size #[.int .i64 1, .int .i64 0, .int .i64 0, .int .i64 0, .int .i64 0, .int .i64 0, .int .i64 0, .int .i64 6350000, .slice none 0 0, .slice none 0 0, .int .i64 6350000] (by rfl) (run_loadVar_row _ _ 276 276 _ (0, 0) _ k3 Tryz.underlying276 rfl (by kernel_rfl))) rfl ⟨rfl, hB3⟩
theorem define_fsg (d : Int) (hu : ∀ w, Calls Tryz.prog 156 #[.agg #[.int .i64 1, .int .i64 2, .int .i64 d, .bool false]] w fun e w' => e = .returned (.bool true) ∧ Below w.heap.size w w') (P : Nat) (A : Int) {v0 v6 v7 v8 v9 v10 v11 v12 v13 v14 v15 v16 v17 v18 v19 v20 v21 v22 v23 v24 : Value} (o1 o2 o3 o4 : Value) (w : World) (hP : Blk w P 159 #[v0, o1, o2, o3, o4, .bool false, v6, v7, v8, v9, v10, v11, v12, v13, v14, v15, v16, v17, v18, v19, v20, v21, v22, v23, v24]) :
    Calls Tryz.prog 100 #[.pointer (some ⟨P, 0, none⟩), .agg #[.int .i64 A, .int .i64 8, .int .i64 2, .int .i64 d, .bool false, .string { data := #[] }, .string { data := #[] }, .string { data := #[] }, .string { data := #[] }, .string { data := #[] }, .slice none 0 0, .slice none 0 0]] w fun e w' => e = .returned (.int .i64 0) ∧ Blk w' P 159 #[v0, .int .i64 1, .int .i64 2, .int .i64 d, .bool false, .bool true, v6, v7, v8, v9, v10, v11, v12, v13, v14, v15, v16, v17, v18, v19, v20, v21, v22, v23, v24] ∧ Only [P] w w' := by
  have c := hP.cell
  have f := hP.frozen
  have l := hP.lt
  have k := hP
  have HK := Lib.hid k
  have HU := Lib.hid hu
  clear hP k hu
  go_enter Tryz.func100, Tryz.ntmps100
  go_wp2_with fail
  refine (HU.out _).mono ?_
  rintro e w1 ⟨rfl, hb⟩
  have k1 : Blk w1 P 159 #[v0, o1, o2, o3, o4, .bool false, v6, v7, v8, v9, v10, v11, v12, v13, v14, v15, v16, v17, v18, v19, v20, v21, v22, v23, v24] := (((HK.out).alloc _).alloc _).below hb (by simp; omega)
  have k2 : Blk w1 (w.heap.size + 1) 154 #[.int .i64 1, .int .i64 2, .int .i64 d, .bool false] := Blk.below (Blk.newAt (by simp)) hb (by simp)
  have hB1 : Only [P] w w1 := (((Only.refl _ _).alloc _).alloc _).below hb (by simp; omega)
  have l1 := hb.size
  have c1 := k1.cell
  have f1 := k1.frozen
  have c2 := k2.cell
  have l2 := k2.lt
  have K1 := Lib.hid k1
  clear hb c f k1 k2
  go_wp2_with fail
  go_ret
  exact ⟨rfl, ((((K1.out.set_ 1 _ rfl).set_ 2 _ rfl).set_ 3 _ rfl).set_ 4 _ rfl).set_ 5 _ rfl, by exact onw⟩
theorem define_mog (u : Int) (P : Nat) (A : Int) {v1 v2 v3 v4 v5 v6 v7 v8 v9 v10 v11 v12 v13 v14 v15 v16 v17 v18 v19 v20 v21 v22 v23 v24 : Value} (w : World) (hP : Blk w P 159 #[.int .i64 0, v1, v2, v3, v4, v5, v6, v7, v8, v9, v10, v11, v12, v13, v14, v15, v16, v17, v18, v19, v20, v21, v22, v23, v24]) :
    Calls Tryz.prog 100 #[.pointer (some ⟨P, 0, none⟩), .agg #[.int .i64 A, .int .i64 9, .int .i64 u, .int .i64 0, .bool false, .string { data := #[] }, .string { data := #[] }, .string { data := #[] }, .string { data := #[] }, .string { data := #[] }, .slice none 0 0, .slice none 0 0]] w fun e w' => e = .returned (.int .i64 0) ∧ Blk w' P 159 #[.int .i64 u, v1, v2, v3, v4, v5, v6, v7, v8, v9, v10, v11, v12, v13, v14, v15, v16, v17, v18, v19, v20, v21, v22, v23, v24] ∧ Only [P] w w' := by
  have c := hP.cell
  have f := hP.frozen
  have l := hP.lt
  have HK := Lib.hid hP
  clear hP
  go_enter Tryz.func100, Tryz.ntmps100
  go_wp2_with fail
  go_ret
  exact ⟨rfl, ((HK.out).set_ 0 _ rfl).alloc _, by exact onw⟩
theorem define_adg (u num : Int) (hu0 : (u == 0) = false) (hg1 : ∀ w, Calls Tryz.prog 166 #[.int .i64 num, .int .i64 u] w fun e w' => e = .returned (.tuple #[.int .i64 12700000, .bool true]) ∧ w = w') (P M gL capL gn cn : Nat) (A : Int) {v1 v2 v3 v4 v5 v7 v9 v10 v11 v12 v13 v14 v15 v16 v17 v18 v19 v20 v22 v23 v24 : Value} (w : World) (hP : Blk w P 159 #[.int .i64 u, v1, v2, v3, v4, v5, .map (some M), v7, .slice none 0 0, v9, v10, v11, v12, v13, v14, v15, v16, v17, v18, v19, v20, .slice (some ⟨gL, 0, none⟩) 1 capL, v22, v23, v24]) (hM : IsMap w M #[] 0) (hcap : 1 ≤ capL) (hn : w.cell? ⟨gn, 0, none⟩ = some (.int .i64 num)) (hgn : gn < w.heap.size) :
    Calls Tryz.prog 100 #[.pointer (some ⟨P, 0, none⟩), .agg #[.int .i64 A, .int .i64 10, .int .i64 10, .int .i64 0, .bool false, .string { data := #[67] }, .string { data := #[] }, .string { data := #[] }, .string { data := #[] }, .string { data := #[] }, .slice (some ⟨gn, 0, none⟩) 1 cn, .slice none 0 0]] w fun e w' => e = .returned (.int .i64 0) ∧ IsMap w' M #[{ key := .int .i64 10, val := .agg #[.int .i64 1, .int .i64 0, .int .i64 0, .int .i64 0, .int .i64 0, .int .i64 0, .int .i64 0, .int .i64 6350000, .slice none 0 0, .slice none 0 0, .int .i64 6350000, .bool true, .bool false, .slice none 0 0], born := 0 }] 1 ∧ Only [M] w w' := by
  have HG1 := Lib.hid hg1
  clear hg1
  have hne : M ≠ P := hM.blk_ne hP
  have l := hP.lt
  have lM := hM.lt
  have c := hP.cell
  have f := hP.frozen
  have HP := Lib.hid hP
  have HM := Lib.hid hM
  clear hP hM
  go_enter Tryz.func100, Tryz.ntmps100
  go_wp2_with fail
  refine (taken_no P M gL capL 10 #[] 0 _ (HP.out.alloc _) (HM.out.alloc _) rfl hcap).mono ?_
  rintro e w1 ⟨rfl, hb⟩
  have o1 : Only [] w w1 := ((Only.refl _ _).alloc _).below hb (by simp)
  have k1 := (HP.out.alloc (.cells #[.int .i64 A, .int .i64 10, .int .i64 10, .int .i64 0, .bool false, .string { data := #[67] }, .string { data := #[] }, .string { data := #[] }, .string { data := #[] }, .string { data := #[] }, .slice (some ⟨gn, 0, none⟩) 1 cn, .slice none 0 0] 103)).below hb (by simp; omega)
  have k2 : Blk w1 w.heap.size 103 #[.int .i64 A, .int .i64 10, .int .i64 10, .int .i64 0, .bool false, .string { data := #[67] }, .string { data := #[] }, .string { data := #[] }, .string { data := #[] }, .string { data := #[] }, .slice (some ⟨gn, 0, none⟩) 1 cn, .slice none 0 0] := (Blk.new w 103 #[.int .i64 A, .int .i64 10, .int .i64 10, .int .i64 0, .bool false, .string { data := #[67] }, .string { data := #[] }, .string { data := #[] }, .string { data := #[] }, .string { data := #[] }, .slice (some ⟨gn, 0, none⟩) 1 cn, .slice none 0 0]).below hb (by simp)
  have hn1 : w1.cell? ⟨gn, 0, none⟩ = some (.int .i64 num) := o1.cell0 hgn hn
  have m1 := o1.map HM.out (by simp)
  have l1 := o1.size
  have hgn1 : gn < w1.heap.size := by omega
  have c1 := k1.cell
  have f1 := k1.frozen
  have lP := k1.lt
  have c2 := k2.cell
  have lC := k2.lt
  have p0 : w1.cell? ⟨P, 0, none⟩ = some (.int .i64 u) := c1 0
  have p8 : w1.cell? ⟨P, 8, none⟩ = some (.slice none 0 0) := c1 8
  have q5 : w1.cell? ⟨w.heap.size, 5, none⟩ = some (.string { data := #[67] }) := c2 5
  have q10 : w1.cell? ⟨w.heap.size, 10, none⟩ = some (.slice (some ⟨gn, 0, none⟩) 1 cn) := c2 10
  have O1 := Lib.hid o1
  have K1 := Lib.hid k1
  have K2 := Lib.hid k2
  have M1 := Lib.hid m1
  clear hb o1 k1 k2 m1 c f
  have hKS : ∀ w', Only [] w1 w' → (w'.cell? ⟨w.heap.size, 5, none⟩ = some (.string { data := #[67] }) ∧ w'.cell? ⟨w.heap.size, 10, none⟩ = some (.slice (some ⟨gn, 0, none⟩) 1 cn) ∧ w'.cell? ⟨P, 0, none⟩ = some (.int .i64 u) ∧ w'.cell? ⟨P, 8, none⟩ = some (.slice none 0 0) ∧ w'.cell? ⟨gn, 0, none⟩ = some (.int .i64 num) ∧ gn < w'.heap.size ∧ Only [] w1 w') := fun w' o => ⟨o.cell0 lC q5, o.cell0 lC q10, o.cell0 lP p0, o.cell0 lP p8, o.cell0 hgn1 hn1, Nat.lt_of_lt_of_le hgn1 o.size, o⟩
  go_upto_region 22 with (fail)
  go_cut [8, 9] (fun p e wx => ∃ q, p = .pointer (some ⟨q, 0, none⟩) ∧ e = .int .i64 0 ∧ Blk wx q 276 #[.int .i64 1, .int .i64 0, .int .i64 0, .int .i64 0, .int .i64 0, .int .i64 0, .int .i64 0, .int .i64 6350000, .slice none 0 0, .slice none 0 0, .int .i64 6350000] ∧ w1.heap.size ≤ q ∧ Only [] w1 wx)
  case first =>
    go_region_held3 (fun w' => w'.cell? ⟨w.heap.size, 5, none⟩ = some (.string { data := #[67] }) ∧ w'.cell? ⟨w.heap.size, 10, none⟩ = some (.slice (some ⟨gn, 0, none⟩) 1 cn) ∧ w'.cell? ⟨P, 0, none⟩ = some (.int .i64 u) ∧ w'.cell? ⟨P, 8, none⟩ = some (.slice none 0 0) ∧ w'.cell? ⟨gn, 0, none⟩ = some (.int .i64 num) ∧ gn < w'.heap.size ∧ Only [] w1 w')
      (exact hKS _ (by exact onw))
      (first | (go_at_call 158; refine (make_r u num gn cn _ HG1.out (Only.cell0 (w := w1) (by exact onw) hgn1 hn1) (by first | assumption | (simp; omega))).mono ?_; rintro e w5 ⟨rfl, hb⟩; have o5 : Only [] w1 w5 := Only.below (by exact onw) hb (by first | (simp; done) | (simp; omega) | omega); have l5 := o5.size; (first | (have k5 : Blk w5 w1.heap.size 276 #[.int .i64 0, .int .i64 0, .int .i64 0, .int .i64 0, .int .i64 0, .int .i64 0, .int .i64 0, .int .i64 0, .slice none 0 0, .slice none 0 0, .int .i64 0] := Blk.below (by exact (Blk.new w1 276 #[.int .i64 0, .int .i64 0, .int .i64 0, .int .i64 0, .int .i64 0, .int .i64 0, .int .i64 0, .int .i64 0, .slice none 0 0, .slice none 0 0, .int .i64 0]).drew) hb (by simp); have c5 := k5.cell; have f5 := k5.frozen; have l51 := k5.lt) | skip)))
    all_goals
      go_wp2_with fail
      go_meet
      refine ⟨_, rfl, rfl, ?_, ?_, ?_⟩
      · first | (with_reducible exact Blk.new _ _ _) | (with_reducible exact (((((((((((k5.set_ 0 _ rfl).set_ 1 _ rfl).set_ 2 _ rfl).set_ 3 _ rfl).set_ 4 _ rfl).set_ 5 _ rfl).set_ 6 _ rfl).set_ 7 _ rfl).set_ 8 _ rfl).set_ 9 _ rfl).set_ 10 _ rfl))
      · first | (with_reducible exact l5) | (with_reducible exact Nat.le_refl _)
      · exact onw
  case rest =>
  obtain ⟨q, rfl, rfl, kq, hq, oq⟩ := hcut
  have k3 := oq.blk K1.out (by simp)
  have k4 := oq.blk K2.out (by simp)
  have m3 := oq.map M1.out (by simp)
  have c := k3.cell
  have f := k3.frozen
  have l3 := k3.lt
  have c4 := k4.cell
  have l4 := k4.lt
  have cq := kq.cell
  have lq := kq.lt
  have M3 := Lib.hid m3
  have OQ := Lib.hid oq
  clear k3 k4 m3 kq oq c1 f1 c2 p0 p8 q5 q10 hKS
  go_wp2_with fail
  go_still_tail 12, (by kernel_rfl)
  change wpList _ _ _ _ _ wc.drew
  go_wp2_with (at_mapUpdate; refine wpList_put _ rfl (.tmp 132) (.tmp 134) (.tmp 140) rfl (by simp [Act.eval]) (M3.out.drew) 10 (by simp [Act.eval]) (.agg #[.int .i64 1, .int .i64 0, .int .i64 0, .int .i64 0, .int .i64 0, .int .i64 0, .int .i64 0, .int .i64 6350000, .slice none 0 0, .slice none 0 0, .int .i64 6350000, .bool true, .bool false, .slice none 0 0]) (by simp [Act.eval]) rfl ?_; intro w7 m7 g7)
  simp only [List.push_toArray, List.nil_append, Nat.zero_add] at m7
  have M7 := Lib.hid m7
  have O7 : Only [M] w w7 := ((((O1.out.mono (by simp)).trans (OQ.out.mono (by simp))).drew).grown g7 (by intro b hb; injection hb with hb; simp [hb]))
  clear m7 g7
  go_wp2_with fail
  go_ret
  exact ⟨rfl, M7.out, O7⟩
theorem add_l (P gL capL B n : Nat) (mk bud k x y xb yb r : Int) (dk : Bool) (lp : Option Addr) (ln lc : Nat) {v0 v1 v2 v3 v4 v5 v6 v7 v8 v9 v10 v11 v12 v13 v14 v15 v16 v17 v18 v19 v20 v24 : Value} (ov : Value) (lcs : Array Value) (xs : List Value) (w : World)
    (hP : Blk w P 159 #[v0, v1, v2, v3, v4, v5, v6, v7, v8, v9, v10, v11, v12, v13, v14, v15, v16, v17, v18, v19, v20, .slice (some ⟨gL, 0, none⟩) 1 capL, .int .i64 mk, .int .i64 bud, v24]) (hL : Blk w gL 162 lcs) (ho : lcs[6]? = some ov) (hov : w.ownsRow B 65 11 ov n xs) (hm0 : 0 ≤ mk) (hm1 : mk < bud) (hm2 : bud ≤ 100000) (hn : n ≤ 100000) (hB : B ≤ w.heap.size)
    (hok : Calls Tryz.prog 171 #[.agg #[.int .i64 k, .int .i64 x, .int .i64 y, .int .i64 xb, .int .i64 yb, .int .i64 0, .int .i64 0, .int .i64 r, .slice lp ln lc, .slice none 0 0]] (w.alloc (.cells #[.int .i64 k, .int .i64 x, .int .i64 y, .int .i64 xb, .int .i64 yb, .int .i64 0, .int .i64 0, .int .i64 r, .slice lp ln lc, .slice none 0 0] 62)) fun e w' => e = .returned (.bool true) ∧ Below (w.heap.size + 1) (w.alloc (.cells #[.int .i64 k, .int .i64 x, .int .i64 y, .int .i64 xb, .int .i64 yb, .int .i64 0, .int .i64 0, .int .i64 r, .slice lp ln lc, .slice none 0 0] 62)) w') :
    Calls Tryz.prog 161 #[.pointer (some ⟨P, 0, none⟩), .bool dk, .agg #[.int .i64 k, .int .i64 x, .int .i64 y, .int .i64 xb, .int .i64 yb, .int .i64 0, .int .i64 0, .int .i64 r, .slice lp ln lc, .slice none 0 0]] w fun e w' => ∃ g cap, e = .returned (.int .i64 0) ∧ Added P gL 6 B n #[v0, v1, v2, v3, v4, v5, v6, v7, v8, v9, v10, v11, v12, v13, v14, v15, v16, v17, v18, v19, v20, .slice (some ⟨gL, 0, none⟩) 1 capL, .int .i64 (mk + 1), .int .i64 bud, v24] lcs ov (xs ++ [.bool dk, .int .i64 k, .int .i64 x, .int .i64 y, .int .i64 xb, .int .i64 yb, .int .i64 0, .int .i64 0, .int .i64 r, .slice lp ln lc, .slice none 0 0]) g cap w w' := by
  obtain ⟨op, oc, rfl⟩ := own_form hov
  have hne := hP.ne_ hL (by decide)
  have lL := hL.lt
  have l := hP.lt
  have c := hP.cell
  have f := hP.frozen
  have HOK := Lib.hid hok
  have HP := Lib.hid hP
  have HL := Lib.hid hL
  have HO := Lib.hid ho
  have HOV := Lib.hid hov
  have HB := Lib.hid hB
  clear hok hP hL ho hov hB
  go_enter Tryz.func161, Tryz.ntmps161
  go_wp2_with fail
  refine (HOK.out).mono ?_
  rintro e w1 ⟨rfl, hb⟩
  have k1 := (HP.out.alloc (.cells #[.int .i64 k, .int .i64 x, .int .i64 y, .int .i64 xb, .int .i64 yb, .int .i64 0, .int .i64 0, .int .i64 r, .slice lp ln lc, .slice none 0 0] 62)).below hb (by omega)
  have k2 := (HL.out.alloc (.cells #[.int .i64 k, .int .i64 x, .int .i64 y, .int .i64 xb, .int .i64 yb, .int .i64 0, .int .i64 0, .int .i64 r, .slice lp ln lc, .slice none 0 0] 62)).below hb (by omega)
  have k3 : Blk w1 w.heap.size 62 #[.int .i64 k, .int .i64 x, .int .i64 y, .int .i64 xb, .int .i64 yb, .int .i64 0, .int .i64 0, .int .i64 r, .slice lp ln lc, .slice none 0 0] := (Blk.new w 62 #[.int .i64 k, .int .i64 x, .int .i64 y, .int .i64 xb, .int .i64 yb, .int .i64 0, .int .i64 0, .int .i64 r, .slice lp ln lc, .slice none 0 0]).below hb (by omega)
  have hov1 : w1.ownsRow B 65 11 (.slice op n oc) n xs := own_below (HOV.out.alloc (.cells #[.int .i64 k, .int .i64 x, .int .i64 y, .int .i64 xb, .int .i64 yb, .int .i64 0, .int .i64 0, .int .i64 r, .slice lp ln lc, .slice none 0 0] 62)) hb (by simp)
  have hO1 : Only [P, gL] w w1 := ((Only.refl _ _).alloc _).below hb (by omega)
  have c1 := k1.cell
  have f1 := k1.frozen
  have l1 := k1.lt
  have cO : w1.cell? ⟨gL, 6, none⟩ = some (.slice op n oc) := (k2.cell 6).trans HO.out
  have fO : w1.frozen? ⟨gL, 6, none⟩ = false := k2.frozen 6
  have lO := k2.lt
  have c3 := k3.cell
  have f3 := k3.frozen
  have l3 := k3.lt
  have HK1 := Lib.hid k1
  have HK2 := Lib.hid k2
  have HK3 := Lib.hid k3
  have HOV1 := Lib.hid hov1
  have HO1 := Lib.hid hO1
  have d1 : decide (bud ≤ mk) = false := by simp; omega
  clear k1 k2 k3 hb c f hov1 hO1
  go_wp2_with fail
  go_region
  go_wp2_with fail
  go_region
  go_wp2_with fail
  obtain ⟨u, eu⟩ : ∃ u, (w1.setCell ⟨P, 22, none⟩ (.int .i64 (mk + 1))).drew.drew = u := ⟨_, rfl⟩
  have u1 : Blk u P 159 #[v0, v1, v2, v3, v4, v5, v6, v7, v8, v9, v10, v11, v12, v13, v14, v15, v16, v17, v18, v19, v20, .slice (some ⟨gL, 0, none⟩) 1 capL, .int .i64 (mk + 1), .int .i64 bud, v24] := by rw [← eu]; exact (HK1.out.set_ 22 _ rfl).drew.drew
  have u2 : Blk u gL 162 lcs := by rw [← eu]; exact (HK2.out.far (by simpa using Ne.symm hne) _).drew.drew
  have u3 : Blk u w.heap.size 62 #[.int .i64 k, .int .i64 x, .int .i64 y, .int .i64 xb, .int .i64 yb, .int .i64 0, .int .i64 0, .int .i64 r, .slice lp ln lc, .slice none 0 0] := by rw [← eu]; exact (HK3.out.far (by simp; omega) _).drew.drew
  have u4 : u.ownsRow B 65 11 (.slice op n oc) n xs := by
    rw [← eu]
    exact (own_far HOV1.out (by have := own_blk_ne HOV1.out HK1.out (by decide); simpa using this) _).drew.drew
  have u5 : Only [P, gL] w u := by rw [← eu]; exact ((HO1.out.setCell (by simp) _).drew).drew
  have us : w1.heap.size ≤ u.heap.size := by rw [← eu]; simp
  rw [eu]
  clear eu
  have cO : u.cell? ⟨gL, 6, none⟩ = some (.slice op n oc) := (u2.cell 6).trans HO.out
  have fO : u.frozen? ⟨gL, 6, none⟩ = false := u2.frozen 6
  have lO := u2.lt
  have c3 := u3.cell
  have f3 := u3.frozen
  have l3 := u3.lt
  have hown0 : ((u.alloc (.cells #[.bool false, .int .i64 0, .int .i64 0, .int .i64 0, .int .i64 0, .int .i64 0, .int .i64 0, .int .i64 0, .int .i64 0, .slice none 0 0, .slice none 0 0] 65)).drew).ownsRow B 65 11 (.slice op n oc) n xs := (u4.alloc _).drew
  have hN : ∀ j v, ([.bool false, .int .i64 0, .int .i64 0, .int .i64 0, .int .i64 0, .int .i64 0, .int .i64 0, .int .i64 0, .int .i64 0, .slice none 0 0, .slice none 0 0] : List Value)[j]? = some v → ((u.alloc (.cells #[.bool false, .int .i64 0, .int .i64 0, .int .i64 0, .int .i64 0, .int .i64 0, .int .i64 0, .int .i64 0, .int .i64 0, .slice none 0 0, .slice none 0 0] 65)).drew).cell? ((⟨u.heap.size, 0, none⟩ : Addr).add j) = some v :=
    World.news_of_block (cs := #[.bool false, .int .i64 0, .int .i64 0, .int .i64 0, .int .i64 0, .int .i64 0, .int .i64 0, .int .i64 0, .int .i64 0, .slice none 0 0, .slice none 0 0]) (Blk.newAt (w := u) rfl)
  have hO : ∀ v ∈ ([.bool false, .int .i64 0, .int .i64 0, .int .i64 0, .int .i64 0, .int .i64 0, .int .i64 0, .int .i64 0, .int .i64 0, .slice none 0 0, .slice none 0 0] : List Value), v.oneCell' = true := by
    intro v hv
    simp only [List.mem_cons, List.not_mem_nil, or_false] at hv
    rcases hv with rfl | rfl | rfl | rfl | rfl | rfl | rfl | rfl | rfl | rfl | rfl <;> rfl
  have hO2 : ∀ v ∈ ([.bool dk, .int .i64 k, .int .i64 x, .int .i64 y, .int .i64 xb, .int .i64 yb, .int .i64 0, .int .i64 0, .int .i64 r, .slice lp ln lc, .slice none 0 0] : List Value), v.oneCell' = true := by
    intro v hv
    simp only [List.mem_cons, List.not_mem_nil, or_false] at hv
    rcases hv with rfl | rfl | rfl | rfl | rfl | rfl | rfl | rfl | rfl | rfl | rfl <;> rfl
  have hcl : n + 1 ≤ maxLen ∧ (n + 1) * 120 ≤ 140737488355328 := by unfold maxLen; omega
  have hsz : B ≤ ((u.alloc (.cells #[.bool false, .int .i64 0, .int .i64 0, .int .i64 0, .int .i64 0, .int .i64 0, .int .i64 0, .int .i64 0, .int .i64 0, .slice none 0 0, .slice none 0 0] 65)).drew).heap.size := by have := HB.out; simp; omega
  obtain ⟨i48, hi48, hz0, hz1, hz2⟩ := info_parts info48
  have HI := Lib.hid (And.intro hi48 (And.intro hz0 (And.intro hz1 hz2)))
  have hZ : Hid ((Value.agg #[.bool false, .int .i64 0, .int .i64 0, .int .i64 0, .int .i64 0, .int .i64 0, .int .i64 0, .int .i64 0, .int .i64 0, .slice none 0 0, .slice none 0 0]).cells.size = 11) := Lib.hid (by kernel_rfl)
  have HU1 := Lib.hid u1
  have HU2 := Lib.hid u2
  have HU4 := Lib.hid u4
  have HU5 := Lib.hid u5
  have HOWN := Lib.hid hown0
  have HN := Lib.hid hN
  have HOO := Lib.hid hO
  have HOO2 := Lib.hid hO2
  have HCL := Lib.hid hcl
  have HSZ := Lib.hid hsz
  clear u1 u2 u3 u4 u5 hown0 hN hO hO2 hcl hsz hi48 hz0 hz1 hz2 c1 f1 l1
  have hnn : (n : Int) < (n : Int) + 1 := by omega
  go_region_law (refine step_append_lies _ rfl (.tmp 41) (.tmp 46) 47 rfl B 65 i48 _ 11 120 Tryz.underlying47 HI.out.1 HI.out.2.1 HI.out.2.2.1 HI.out.2.2.2 hZ.out (by decide) (.slice op n oc) n xs (by simp [Act.eval, Act.put]) HOWN.out ⟨u.heap.size, 0, none⟩ 1 1 [.bool false, .int .i64 0, .int .i64 0, .int .i64 0, .int .i64 0, .int .i64 0, .int .i64 0, .int .i64 0, .int .i64 0, .slice none 0 0, .slice none 0 0] (by simp [Act.eval, Act.put]) rfl HN.out HOO.out (by decide) HCL.out.1 HCL.out.2 HSZ.out _ rfl ?_; intro g cap w3 hown hgrow hat hlt; obtain ⟨⟨cO3, fO3, ngL⟩, q, fq, hA4, hA5⟩ := add_arm (OB := [.bool dk, .int .i64 k, .int .i64 x, .int .i64 y, .int .i64 xb, .int .i64 yb, .int .i64 0, .int .i64 0, .int .i64 r, .slice lp ln lc, .slice none 0 0]) rfl HU1.out HU2.out HU4.out HU5.out HO.out hown hgrow hat rfl HOO2.out; simp only [World.setCells, Nat.add_assoc, Nat.reduceAdd] at hA4 hA5; have HA4 := Lib.hid hA4; have HA5 := Lib.hid hA5; have q0 := q 0 (by decide); have q1 := q 1 (by decide); have q2 := q 2 (by decide); have q3 := q 3 (by decide); have q4 := q 4 (by decide); have q5 := q 5 (by decide); have q6 := q 6 (by decide); have q7 := q 7 (by decide); have q8 := q 8 (by decide); have q9 := q 9 (by decide); have q10 := q 10 (by decide); simp only [List.getElem?_cons_zero, List.getElem?_cons_succ, Nat.add_zero] at q0 q1 q2 q3 q4 q5 q6 q7 q8 q9 q10; have f0 : w3.frozen? ⟨g, n * 11, none⟩ = false := fq 0; clear q hown hgrow hat hA4 hA5)
  all_goals
    go_wp2_with fail
    go_ret
    refine ⟨g, cap, rfl, ?_⟩
    first | (with_reducible exact HA4.out) | (with_reducible exact HA5.out)
theorem addT_r (P gL capL B n : Nat) (mk bud x y a b : Int) (dk : Bool) {v0 v1 v2 v3 v4 v5 v6 v7 v8 v9 v10 v11 v12 v13 v14 v15 v16 v17 v18 v19 v20 v24 : Value} {ov : Value} {lcs : Array Value} {xs : List Value} (w : World)
    (hP : Blk w P 159 #[v0, v1, v2, v3, v4, v5, v6, v7, v8, v9, v10, v11, v12, v13, v14, v15, v16, v17, v18, v19, v20, .slice (some ⟨gL, 0, none⟩) 1 capL, .int .i64 mk, .int .i64 bud, v24]) (hL : Blk w gL 162 lcs) (ho : lcs[6]? = some ov) (hov : w.ownsRow B 65 11 ov n xs) (hm0 : 0 ≤ mk) (hm1 : mk < bud) (hm2 : bud ≤ 100000) (hn : n ≤ 100000) (hB : B ≤ w.heap.size) (x0 : 0 ≤ x) (x1 : x ≤ 250000000) (y0 : 0 ≤ y) (y1 : y ≤ 250000000) (a0 : 0 ≤ a) (a1 : a ≤ 250000000) (b0 : 0 ≤ b) (b1 : b ≤ 250000000) :
    Calls Tryz.prog 168 #[.pointer (some ⟨P, 0, none⟩), .bool dk, .agg #[.int .i64 1, .int .i64 x, .int .i64 y, .int .i64 0, .int .i64 0, .int .i64 0, .int .i64 0, .int .i64 6350000, .slice none 0 0, .slice none 0 0], .agg #[.bool false, .bool false, .int .i64 0, .int .i64 a, .int .i64 b]] w fun e w' => ∃ g cap, e = .returned (.int .i64 0) ∧ Added P gL 6 B n #[v0, v1, v2, v3, v4, v5, v6, v7, v8, v9, v10, v11, v12, v13, v14, v15, v16, v17, v18, v19, v20, .slice (some ⟨gL, 0, none⟩) 1 capL, .int .i64 (mk + 1), .int .i64 bud, v24] lcs ov (xs ++ [.bool dk, .int .i64 1, .int .i64 (x + a), .int .i64 (y + b), .int .i64 0, .int .i64 0, .int .i64 0, .int .i64 0, .int .i64 6350000, .slice none 0 0, .slice none 0 0]) g cap w w' := by
  have l := hP.lt
  have lL := hL.lt
  have HP := Lib.hid hP
  have HL := Lib.hid hL
  have HO := Lib.hid ho
  have HOV := Lib.hid hov
  have HB := Lib.hid hB
  clear hP hL ho hov hB
  go_enter Tryz.func168, Tryz.ntmps168
  go_wp2_with fail
  refine (Apply_disc x y 6350000 a b _ (by omega) (by omega) (by omega) (by omega) (by omega) (by omega) (by omega) (by omega) (by omega) (by omega) (by omega) (by omega) (by omega) (by omega)).mono ?_
  rintro e w1 ⟨rfl, hb⟩
  have hu : Only [] w w1 := (((Only.refl _ _).alloc _).alloc _).below hb (by first | (simp; done) | (simp; omega))
  have HU := Lib.hid hu
  have l1 := hb.size
  have k1 := ((HP.out.alloc _).alloc _).below hb (by first | (simp; done) | (simp; omega))
  have k2 := ((HL.out.alloc _).alloc _).below hb (by first | (simp; done) | (simp; omega))
  have hov1 := own_below ((HOV.out.alloc _).alloc _) hb (by simp)
  have K1 := Lib.hid k1
  have K2 := Lib.hid k2
  have HOV1 := Lib.hid hov1
  clear hu hb k1 k2 hov1
  go_wp2_with fail
  refine (add_1 P gL capL B n mk bud 1 (x + a) (y + b) 6350000 dk none 0 0 _ _ _ _ (K1.out.alloc _) (K2.out.alloc _) HO.out (HOV1.out.alloc _) hm0 hm1 hm2 hn (by have := HB.out; have := HU.out.size; simp; omega) ((ok_disc (x + a) (y + b) 6350000 _ (by omega) (by omega) (by omega) (by omega) (by omega) (by omega)).mono fun e w' h => ⟨h.1, by simpa using h.2⟩)).mono ?_
  rintro e w2 ⟨g, cap, rfl, hA⟩
  have HA := Lib.hid (hA.from ((HU.out).alloc _))
  clear hA
  go_wp2_with fail
  go_ret
  exact ⟨g, cap, rfl, HA.out⟩
theorem flash_r (P M gL capL B n : Nat) (mk bud a b code : Int) (dk : Bool) {v0 v1 v2 v3 v4 v5 v8 v9 v10 v11 v12 v20 v24 : Value} {ov : Value} {lcs : Array Value} {xs : List Value} (es : Array MapEntry) (clk : Nat) (w : World)
    (hP : Blk w P 159 #[v0, v1, v2, v3, v4, v5, .map (some M), .int .i64 code, v8, v9, v10, v11, v12, .bool dk, .bool false, .bool false, .int .i64 0, .int .i64 0, .int .i64 0, .bool false, v20, .slice (some ⟨gL, 0, none⟩) 1 capL, .int .i64 mk, .int .i64 bud, v24]) (hM : IsMap w M es clk) (hf : (Instr.findNow (.int .i64) (.int .i64 code) es.toList 0).map (fun r => r.map (·.2)) = some (some (.agg #[.int .i64 1, .int .i64 0, .int .i64 0, .int .i64 0, .int .i64 0, .int .i64 0, .int .i64 0, .int .i64 6350000, .slice none 0 0, .slice none 0 0, .int .i64 6350000, .bool true, .bool false, .slice none 0 0]))) (hL : Blk w gL 162 lcs) (ho : lcs[6]? = some ov) (hov : w.ownsRow B 65 11 ov n xs) (hm0 : 0 ≤ mk) (hm1 : mk < bud) (hm2 : bud ≤ 100000) (hn : n ≤ 100000) (hB : B ≤ w.heap.size) (a0 : 0 ≤ a) (a1 : a ≤ 250000000) (b0 : 0 ≤ b) (b1 : b ≤ 250000000) :
    Calls Tryz.prog 165 #[.pointer (some ⟨P, 0, none⟩), .agg #[.int .i64 a, .int .i64 b]] w fun e w' => ∃ g cap, e = .returned (.int .i64 0) ∧ Added P gL 6 B n #[v0, v1, v2, v3, v4, v5, .map (some M), .int .i64 code, v8, v9, v10, v11, v12, .bool dk, .bool false, .bool false, .int .i64 0, .int .i64 0, .int .i64 0, .bool false, v20, .slice (some ⟨gL, 0, none⟩) 1 capL, .int .i64 (mk + 1), .int .i64 bud, v24] lcs ov (xs ++ [.bool dk, .int .i64 1, .int .i64 a, .int .i64 b, .int .i64 0, .int .i64 0, .int .i64 0, .int .i64 0, .int .i64 6350000, .slice none 0 0, .slice none 0 0]) g cap w w' := by
  have l := hP.lt
  have lM := hM.lt
  have lL := hL.lt
  have c := hP.cell
  have f := hP.frozen
  have hl : ∀ w', w'.heap[M]? = some (.map es clk) → (Instr.lookup 151 (.map (some M)) (.int .i64 code) true).run Tryz.prog w' = .ok (.tuple #[.agg #[.int .i64 1, .int .i64 0, .int .i64 0, .int .i64 0, .int .i64 0, .int .i64 0, .int .i64 0, .int .i64 6350000, .slice none 0 0, .slice none 0 0, .int .i64 6350000, .bool true, .bool false, .slice none 0 0], .bool true]) w' := fun w' hm => look_run w' hm code (.agg #[.int .i64 1, .int .i64 0, .int .i64 0, .int .i64 0, .int .i64 0, .int .i64 0, .int .i64 0, .int .i64 6350000, .slice none 0 0, .slice none 0 0, .int .i64 6350000, .bool true, .bool false, .slice none 0 0], true) hf (fun h => by cases h)
  have HP := Lib.hid hP
  have HL := Lib.hid hL
  have HO := Lib.hid ho
  have HOV := Lib.hid hov
  have HB := Lib.hid hB
  clear hP hL ho hov hB hf
  go_enter Tryz.func165, Tryz.ntmps165
  go_wp2_with fail
  have hl1 := hl _ ((hM.alloc (.cells #[.int .i64 a, .int .i64 b] 58)).drew)
  have hl2 := hl _ (((hM.alloc (.cells #[.int .i64 a, .int .i64 b] 58)).alloc (.cells #[.int .i64 0, .int .i64 0, .int .i64 0, .int .i64 0, .int .i64 0, .int .i64 0, .int .i64 0, .int .i64 0, .slice none 0 0, .slice none 0 0, .int .i64 0, .bool false, .bool false, .slice none 0 0] 280)).drew)
  clear hl
  go_region
  all_goals
    go_wp2_with fail
    obtain ⟨u, eu⟩ : ∃ u, (((w.alloc (.cells #[.int .i64 a, .int .i64 b] 58)).alloc (.cells #[.int .i64 1, .int .i64 0, .int .i64 0, .int .i64 0, .int .i64 0, .int .i64 0, .int .i64 0, .int .i64 6350000, .slice none 0 0, .slice none 0 0, .int .i64 6350000, .bool true, .bool false, .slice none 0 0] 280)).alloc (.cells #[.bool false, .bool false, .int .i64 0, .int .i64 a, .int .i64 b] 157)).drew = u := ⟨_, rfl⟩
    have u1 : Blk u P 159 #[v0, v1, v2, v3, v4, v5, .map (some M), .int .i64 code, v8, v9, v10, v11, v12, .bool dk, .bool false, .bool false, .int .i64 0, .int .i64 0, .int .i64 0, .bool false, v20, .slice (some ⟨gL, 0, none⟩) 1 capL, .int .i64 mk, .int .i64 bud, v24] := by rw [← eu]; exact (((HP.out.alloc _).alloc _).alloc _).drew
    have u2 : Blk u gL 162 lcs := by rw [← eu]; exact (((HL.out.alloc _).alloc _).alloc _).drew
    have u3 : u.ownsRow B 65 11 ov n xs := by rw [← eu]; exact (((HOV.out.alloc _).alloc _).alloc _).drew
    have u4 : Blk u (w.heap.size + 1) 280 #[.int .i64 1, .int .i64 0, .int .i64 0, .int .i64 0, .int .i64 0, .int .i64 0, .int .i64 0, .int .i64 6350000, .slice none 0 0, .slice none 0 0, .int .i64 6350000, .bool true, .bool false, .slice none 0 0] := by rw [← eu]; exact ((Blk.newAt (by simp)).alloc _).drew
    have u5 : Blk u (w.heap.size + 1 + 1) 157 #[.bool false, .bool false, .int .i64 0, .int .i64 a, .int .i64 b] := by rw [← eu]; exact (Blk.newAt (by simp)).drew
    have u6 : Only [] w u := by rw [← eu]; exact ((((Only.refl _ _).alloc _).alloc _).alloc _).drew
    rw [eu]
    have c := u1.cell
    have f := u1.frozen
    have l := u1.lt
    have c4 := u4.cell
    have l4 := u4.lt
    have c5 := u5.cell
    have l5 := u5.lt
    have hT := addT_r P gL capL B n mk bud 0 0 a b dk u.drew u1.drew u2.drew HO.out u3.drew hm0 hm1 hm2 hn (by have := HB.out; have := u6.size; simp; omega) (by omega) (by omega) (by omega) (by omega) a0 a1 b0 b1
    simp only [Int.zero_add] at hT
    have HT := Lib.hid hT
    have HU := Lib.hid u6
    clear hl1 hl2 eu u1 u2 u3 u4 u5 u6 hT
    go_still_tail 8, (by kernel_rfl)
    change wpList _ _ _ _ _ u.drew
    go_wp2_with (go_at_call 168; refine (HT.out).mono ?_; rintro e w3 ⟨g, cap, rfl, hA⟩)
    have HA := Lib.hid (hA.from HU.out.drew)
    clear hA
    go_wp2_with fail
    go_ret
    exact ⟨g, cap, rfl, HA.out⟩
end Go.Proofs.YtfajckkbinbpiaaGreatDoor
