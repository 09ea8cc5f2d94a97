/- Walks: the command of a group. -/
import Derived.Test.YtfajckkbinbpiaaGreatDoorN09
namespace Go.Proofs.YtfajckkbinbpiaaGreatDoor
set_option maxRecDepth 100000
set_option maxHeartbeats 32000000
set_option linter.unusedVariables false
set_option linter.unusedSimpArgs false
open Go.RowKit
theorem extended_MOMM (w : World) : Calls Tryz.prog 94 #[.string { data := #[77, 79, 77, 77] }] w fun e w' => e = .returned (.tuple #[.agg #[.int .i64 0, .int .i64 9, .int .i64 1, .int .i64 0, .bool false, .string { data := #[] }, .string { data := #[] }, .string { data := #[] }, .string { data := #[] }, .string { data := #[] }, .slice none 0 0, .slice none 0 0], .int .i64 0]) ∧ Below w.heap.size w w' := by
  have h1 : ∀ w, Calls Tryz.prog 194 #[.string { data := #[77, 79, 77, 77] }, .string { data := #[76, 83] }] w fun e w' => e = .returned (.bool false) ∧ w = w' := fun w => hasP_no [77, 79, 77, 77] [76, 83] w (by decide) (by decide) (by decide)
  have h2 : ∀ w, Calls Tryz.prog 147 #[.string { data := #[77, 79, 77, 77] }] w fun e w' => e = .returned (.tuple #[.agg #[.int .i64 0, .int .i64 9, .int .i64 1, .int .i64 0, .bool false, .string { data := #[] }, .string { data := #[] }, .string { data := #[] }, .string { data := #[] }, .string { data := #[] }, .slice none 0 0, .slice none 0 0], .bool true]) ∧ Below w.heap.size w w' := fun w => fixed_MOMM w
  have H1 := Lib.hid h1
  have H2 := Lib.hid h2
  clear h1 h2
  go_enter Tryz.func94, Tryz.ntmps94
  go_wp2_with (first | (go_at_call 146; go_in) | (go_at_call 194; ((with_reducible refine (H1.out _).mono ?_); rintro e w' ⟨rfl, rfl⟩)))
  refine (H2.out _).mono ?_
  rintro e w1 ⟨rfl, hb⟩
  have hB1 : Below w.heap.size w w1 := Below.trans (by exact blw) (hb.mono (by first | omega | (simp; done) | (simp; omega)))
  have k1_0 : Blk w1 (w.heap.size) 103 #[.int .i64 0, .int .i64 0, .int .i64 0, .int .i64 0, .bool false, .string { data := #[] }, .string { data := #[] }, .string { data := #[] }, .string { data := #[] }, .string { data := #[] }, .slice none 0 0, .slice none 0 0] := Blk.below (by exact bkw) hb (by first | omega | (simp; done) | (simp; omega))
  have c1_0 := k1_0.cell
  have f1_0 := k1_0.frozen
  have l1_0 := k1_0.lt
  have l1 := hB1.size
  clear hb
  have HK := Lib.hid (k1_0.alloc (.cells #[.int .i64 0, .int .i64 9, .int .i64 1, .int .i64 0, .bool false, .string { data := #[] }, .string { data := #[] }, .string { data := #[] }, .string { data := #[] }, .string { data := #[] }, .slice none 0 0, .slice none 0 0] 103))
  go_wp2_with (refine wpList_storeBlk rfl 103 (.tmp 2) (.tmp 77) rfl rfl (w.heap.size) #[.int .i64 0, .int .i64 9, .int .i64 1, .int .i64 0, .bool false, .string { data := #[] }, .string { data := #[] }, .string { data := #[] }, .string { data := #[] }, .string { data := #[] }, .slice none 0 0, .slice none 0 0] (by simp [Act.eval]) (by simp [Act.eval]) 103 #[.int .i64 0, .int .i64 0, .int .i64 0, .int .i64 0, .bool false, .string { data := #[] }, .string { data := #[] }, .string { data := #[] }, .string { data := #[] }, .string { data := #[] }, .slice none 0 0, .slice none 0 0] HK.out (by kernel_rfl) (by kernel_rfl) (by kernel_rfl) ?_)
  intro w9 k9 hgr
  have hb9 : Below w.heap.size w w9 := Below.grown (Below.alloc hB1 l1 _) hgr (by simp; omega) (by intro q hq; injection hq with hq; omega)
  clear hgr
  go_wp2_with fail
  refine bodyPost_ret (results_row_tmp Tryz.results94 _ _ w.heap.size #[.int .i64 0, .int .i64 9, .int .i64 1, .int .i64 0, .bool false, .string { data := #[] }, .string { data := #[] }, .string { data := #[] }, .string { data := #[] }, .string { data := #[] }, .slice none 0 0, .slice none 0 0] (by rfl) (run_loadVar_row _ _ 103 103 _ (0, 0) _ k9 Tryz.underlying103 rfl (by kernel_rfl))) rfl ⟨rfl, hb9⟩
theorem extended_AB (w : World) : Calls Tryz.prog 94 #[.string { data := #[65, 66] }] w fun e w' => e = .returned (.tuple #[.agg #[.int .i64 0, .int .i64 12, .int .i64 0, .int .i64 0, .bool false, .string { data := #[] }, .string { data := #[] }, .string { data := #[] }, .string { data := #[] }, .string { data := #[] }, .slice none 0 0, .slice none 0 0], .int .i64 0]) ∧ Below w.heap.size w w' := by
  have h1 : ∀ w, Calls Tryz.prog 194 #[.string { data := #[65, 66] }, .string { data := #[76, 83] }] w fun e w' => e = .returned (.bool false) ∧ w = w' := fun w => hasP_no [65, 66] [76, 83] w (by decide) (by decide) (by decide)
  have h2 : ∀ w, Calls Tryz.prog 147 #[.string { data := #[65, 66] }] w fun e w' => e = .returned (.tuple #[.agg #[.int .i64 0, .int .i64 12, .int .i64 0, .int .i64 0, .bool false, .string { data := #[] }, .string { data := #[] }, .string { data := #[] }, .string { data := #[] }, .string { data := #[] }, .slice none 0 0, .slice none 0 0], .bool true]) ∧ Below w.heap.size w w' := fun w => fixed_AB w
  have H1 := Lib.hid h1
  have H2 := Lib.hid h2
  clear h1 h2
  go_enter Tryz.func94, Tryz.ntmps94
  go_wp2_with (first | (go_at_call 146; go_in) | (go_at_call 194; ((with_reducible refine (H1.out _).mono ?_); rintro e w' ⟨rfl, rfl⟩)))
  refine (H2.out _).mono ?_
  rintro e w1 ⟨rfl, hb⟩
  have hB1 : Below w.heap.size w w1 := Below.trans (by exact blw) (hb.mono (by first | omega | (simp; done) | (simp; omega)))
  have k1_0 : Blk w1 (w.heap.size) 103 #[.int .i64 0, .int .i64 0, .int .i64 0, .int .i64 0, .bool false, .string { data := #[] }, .string { data := #[] }, .string { data := #[] }, .string { data := #[] }, .string { data := #[] }, .slice none 0 0, .slice none 0 0] := Blk.below (by exact bkw) hb (by first | omega | (simp; done) | (simp; omega))
  have c1_0 := k1_0.cell
  have f1_0 := k1_0.frozen
  have l1_0 := k1_0.lt
  have l1 := hB1.size
  clear hb
  have HK := Lib.hid (k1_0.alloc (.cells #[.int .i64 0, .int .i64 12, .int .i64 0, .int .i64 0, .bool false, .string { data := #[] }, .string { data := #[] }, .string { data := #[] }, .string { data := #[] }, .string { data := #[] }, .slice none 0 0, .slice none 0 0] 103))
  go_wp2_with (refine wpList_storeBlk rfl 103 (.tmp 2) (.tmp 77) rfl rfl (w.heap.size) #[.int .i64 0, .int .i64 12, .int .i64 0, .int .i64 0, .bool false, .string { data := #[] }, .string { data := #[] }, .string { data := #[] }, .string { data := #[] }, .string { data := #[] }, .slice none 0 0, .slice none 0 0] (by simp [Act.eval]) (by simp [Act.eval]) 103 #[.int .i64 0, .int .i64 0, .int .i64 0, .int .i64 0, .bool false, .string { data := #[] }, .string { data := #[] }, .string { data := #[] }, .string { data := #[] }, .string { data := #[] }, .slice none 0 0, .slice none 0 0] HK.out (by kernel_rfl) (by kernel_rfl) (by kernel_rfl) ?_)
  intro w9 k9 hgr
  have hb9 : Below w.heap.size w w9 := Below.grown (Below.alloc hB1 l1 _) hgr (by simp; omega) (by intro q hq; injection hq with hq; omega)
  clear hgr
  go_wp2_with fail
  refine bodyPost_ret (results_row_tmp Tryz.results94 _ _ w.heap.size #[.int .i64 0, .int .i64 12, .int .i64 0, .int .i64 0, .bool false, .string { data := #[] }, .string { data := #[] }, .string { data := #[] }, .string { data := #[] }, .string { data := #[] }, .slice none 0 0, .slice none 0 0] (by rfl) (run_loadVar_row _ _ 103 103 _ (0, 0) _ k9 Tryz.underlying103 rfl (by kernel_rfl))) rfl ⟨rfl, hb9⟩
theorem extended_SR (w : World) : Calls Tryz.prog 94 #[.string { data := #[83, 82] }] w fun e w' => e = .returned (.tuple #[.agg #[.int .i64 0, .int .i64 14, .int .i64 0, .int .i64 0, .bool false, .string { data := #[] }, .string { data := #[] }, .string { data := #[] }, .string { data := #[] }, .string { data := #[] }, .slice none 0 0, .slice none 0 0], .int .i64 0]) ∧ Below w.heap.size w w' := by
  have h1 : ∀ w, Calls Tryz.prog 194 #[.string { data := #[83, 82] }, .string { data := #[76, 83] }] w fun e w' => e = .returned (.bool false) ∧ w = w' := fun w => hasP_no [83, 82] [76, 83] w (by decide) (by decide) (by decide)
  have h2 : ∀ w, Calls Tryz.prog 147 #[.string { data := #[83, 82] }] w fun e w' => e = .returned (.tuple #[.agg #[.int .i64 0, .int .i64 14, .int .i64 0, .int .i64 0, .bool false, .string { data := #[] }, .string { data := #[] }, .string { data := #[] }, .string { data := #[] }, .string { data := #[] }, .slice none 0 0, .slice none 0 0], .bool true]) ∧ Below w.heap.size w w' := fun w => fixed_SR w
  have H1 := Lib.hid h1
  have H2 := Lib.hid h2
  clear h1 h2
  go_enter Tryz.func94, Tryz.ntmps94
  go_wp2_with (first | (go_at_call 146; go_in) | (go_at_call 194; ((with_reducible refine (H1.out _).mono ?_); rintro e w' ⟨rfl, rfl⟩)))
  refine (H2.out _).mono ?_
  rintro e w1 ⟨rfl, hb⟩
  have hB1 : Below w.heap.size w w1 := Below.trans (by exact blw) (hb.mono (by first | omega | (simp; done) | (simp; omega)))
  have k1_0 : Blk w1 (w.heap.size) 103 #[.int .i64 0, .int .i64 0, .int .i64 0, .int .i64 0, .bool false, .string { data := #[] }, .string { data := #[] }, .string { data := #[] }, .string { data := #[] }, .string { data := #[] }, .slice none 0 0, .slice none 0 0] := Blk.below (by exact bkw) hb (by first | omega | (simp; done) | (simp; omega))
  have c1_0 := k1_0.cell
  have f1_0 := k1_0.frozen
  have l1_0 := k1_0.lt
  have l1 := hB1.size
  clear hb
  have HK := Lib.hid (k1_0.alloc (.cells #[.int .i64 0, .int .i64 14, .int .i64 0, .int .i64 0, .bool false, .string { data := #[] }, .string { data := #[] }, .string { data := #[] }, .string { data := #[] }, .string { data := #[] }, .slice none 0 0, .slice none 0 0] 103))
  go_wp2_with (refine wpList_storeBlk rfl 103 (.tmp 2) (.tmp 77) rfl rfl (w.heap.size) #[.int .i64 0, .int .i64 14, .int .i64 0, .int .i64 0, .bool false, .string { data := #[] }, .string { data := #[] }, .string { data := #[] }, .string { data := #[] }, .string { data := #[] }, .slice none 0 0, .slice none 0 0] (by simp [Act.eval]) (by simp [Act.eval]) 103 #[.int .i64 0, .int .i64 0, .int .i64 0, .int .i64 0, .bool false, .string { data := #[] }, .string { data := #[] }, .string { data := #[] }, .string { data := #[] }, .string { data := #[] }, .slice none 0 0, .slice none 0 0] HK.out (by kernel_rfl) (by kernel_rfl) (by kernel_rfl) ?_)
  intro w9 k9 hgr
  have hb9 : Below w.heap.size w w9 := Below.grown (Below.alloc hB1 l1 _) hgr (by simp; omega) (by intro q hq; injection hq with hq; omega)
  clear hgr
  go_wp2_with fail
  refine bodyPost_ret (results_row_tmp Tryz.results94 _ _ w.heap.size #[.int .i64 0, .int .i64 14, .int .i64 0, .int .i64 0, .bool false, .string { data := #[] }, .string { data := #[] }, .string { data := #[] }, .string { data := #[] }, .string { data := #[] }, .slice none 0 0, .slice none 0 0] (by rfl) (run_loadVar_row _ _ 103 103 _ (0, 0) _ k9 Tryz.underlying103 rfl (by kernel_rfl))) rfl ⟨rfl, hb9⟩
theorem extended_LPD (w : World) : Calls Tryz.prog 94 #[.string { data := #[76, 80, 68] }] w fun e w' => e = .returned (.tuple #[.agg #[.int .i64 0, .int .i64 15, .int .i64 0, .int .i64 0, .bool true, .string { data := #[] }, .string { data := #[] }, .string { data := #[] }, .string { data := #[] }, .string { data := #[] }, .slice none 0 0, .slice none 0 0], .int .i64 0]) ∧ Below w.heap.size w w' := by
  have h1 : ∀ w, Calls Tryz.prog 194 #[.string { data := #[76, 80, 68] }, .string { data := #[76, 83] }] w fun e w' => e = .returned (.bool false) ∧ w = w' := fun w => hasP_no [76, 80, 68] [76, 83] w (by decide) (by decide) (by decide)
  have h2 : ∀ w, Calls Tryz.prog 147 #[.string { data := #[76, 80, 68] }] w fun e w' => e = .returned (.tuple #[.agg #[.int .i64 0, .int .i64 15, .int .i64 0, .int .i64 0, .bool true, .string { data := #[] }, .string { data := #[] }, .string { data := #[] }, .string { data := #[] }, .string { data := #[] }, .slice none 0 0, .slice none 0 0], .bool true]) ∧ Below w.heap.size w w' := fun w => fixed_LPD w
  have H1 := Lib.hid h1
  have H2 := Lib.hid h2
  clear h1 h2
  go_enter Tryz.func94, Tryz.ntmps94
  go_wp2_with (first | (go_at_call 146; go_in) | (go_at_call 194; ((with_reducible refine (H1.out _).mono ?_); rintro e w' ⟨rfl, rfl⟩)))
  refine (H2.out _).mono ?_
  rintro e w1 ⟨rfl, hb⟩
  have hB1 : Below w.heap.size w w1 := Below.trans (by exact blw) (hb.mono (by first | omega | (simp; done) | (simp; omega)))
  have k1_0 : Blk w1 (w.heap.size) 103 #[.int .i64 0, .int .i64 0, .int .i64 0, .int .i64 0, .bool false, .string { data := #[] }, .string { data := #[] }, .string { data := #[] }, .string { data := #[] }, .string { data := #[] }, .slice none 0 0, .slice none 0 0] := Blk.below (by exact bkw) hb (by first | omega | (simp; done) | (simp; omega))
  have c1_0 := k1_0.cell
  have f1_0 := k1_0.frozen
  have l1_0 := k1_0.lt
  have l1 := hB1.size
  clear hb
  have HK := Lib.hid (k1_0.alloc (.cells #[.int .i64 0, .int .i64 15, .int .i64 0, .int .i64 0, .bool true, .string { data := #[] }, .string { data := #[] }, .string { data := #[] }, .string { data := #[] }, .string { data := #[] }, .slice none 0 0, .slice none 0 0] 103))
  go_wp2_with (refine wpList_storeBlk rfl 103 (.tmp 2) (.tmp 77) rfl rfl (w.heap.size) #[.int .i64 0, .int .i64 15, .int .i64 0, .int .i64 0, .bool true, .string { data := #[] }, .string { data := #[] }, .string { data := #[] }, .string { data := #[] }, .string { data := #[] }, .slice none 0 0, .slice none 0 0] (by simp [Act.eval]) (by simp [Act.eval]) 103 #[.int .i64 0, .int .i64 0, .int .i64 0, .int .i64 0, .bool false, .string { data := #[] }, .string { data := #[] }, .string { data := #[] }, .string { data := #[] }, .string { data := #[] }, .slice none 0 0, .slice none 0 0] HK.out (by kernel_rfl) (by kernel_rfl) (by kernel_rfl) ?_)
  intro w9 k9 hgr
  have hb9 : Below w.heap.size w w9 := Below.grown (Below.alloc hB1 l1 _) hgr (by simp; omega) (by intro q hq; injection hq with hq; omega)
  clear hgr
  go_wp2_with fail
  refine bodyPost_ret (results_row_tmp Tryz.results94 _ _ w.heap.size #[.int .i64 0, .int .i64 15, .int .i64 0, .int .i64 0, .bool true, .string { data := #[] }, .string { data := #[] }, .string { data := #[] }, .string { data := #[] }, .string { data := #[] }, .slice none 0 0, .slice none 0 0] (by rfl) (run_loadVar_row _ _ 103 103 _ (0, 0) _ k9 Tryz.underlying103 rfl (by kernel_rfl))) rfl ⟨rfl, hb9⟩
theorem extended_LPC (w : World) : Calls Tryz.prog 94 #[.string { data := #[76, 80, 67] }] w fun e w' => e = .returned (.tuple #[.agg #[.int .i64 0, .int .i64 15, .int .i64 0, .int .i64 0, .bool false, .string { data := #[] }, .string { data := #[] }, .string { data := #[] }, .string { data := #[] }, .string { data := #[] }, .slice none 0 0, .slice none 0 0], .int .i64 0]) ∧ Below w.heap.size w w' := by
  have h1 : ∀ w, Calls Tryz.prog 194 #[.string { data := #[76, 80, 67] }, .string { data := #[76, 83] }] w fun e w' => e = .returned (.bool false) ∧ w = w' := fun w => hasP_no [76, 80, 67] [76, 83] w (by decide) (by decide) (by decide)
  have h2 : ∀ w, Calls Tryz.prog 147 #[.string { data := #[76, 80, 67] }] w fun e w' => e = .returned (.tuple #[.agg #[.int .i64 0, .int .i64 15, .int .i64 0, .int .i64 0, .bool false, .string { data := #[] }, .string { data := #[] }, .string { data := #[] }, .string { data := #[] }, .string { data := #[] }, .slice none 0 0, .slice none 0 0], .bool true]) ∧ Below w.heap.size w w' := fun w => fixed_LPC w
  have H1 := Lib.hid h1
  have H2 := Lib.hid h2
  clear h1 h2
  go_enter Tryz.func94, Tryz.ntmps94
  go_wp2_with (first | (go_at_call 146; go_in) | (go_at_call 194; ((with_reducible refine (H1.out _).mono ?_); rintro e w' ⟨rfl, rfl⟩)))
  refine (H2.out _).mono ?_
  rintro e w1 ⟨rfl, hb⟩
  have hB1 : Below w.heap.size w w1 := Below.trans (by exact blw) (hb.mono (by first | omega | (simp; done) | (simp; omega)))
  have k1_0 : Blk w1 (w.heap.size) 103 #[.int .i64 0, .int .i64 0, .int .i64 0, .int .i64 0, .bool false, .string { data := #[] }, .string { data := #[] }, .string { data := #[] }, .string { data := #[] }, .string { data := #[] }, .slice none 0 0, .slice none 0 0] := Blk.below (by exact bkw) hb (by first | omega | (simp; done) | (simp; omega))
  have c1_0 := k1_0.cell
  have f1_0 := k1_0.frozen
  have l1_0 := k1_0.lt
  have l1 := hB1.size
  clear hb
  have HK := Lib.hid (k1_0.alloc (.cells #[.int .i64 0, .int .i64 15, .int .i64 0, .int .i64 0, .bool false, .string { data := #[] }, .string { data := #[] }, .string { data := #[] }, .string { data := #[] }, .string { data := #[] }, .slice none 0 0, .slice none 0 0] 103))
  go_wp2_with (refine wpList_storeBlk rfl 103 (.tmp 2) (.tmp 77) rfl rfl (w.heap.size) #[.int .i64 0, .int .i64 15, .int .i64 0, .int .i64 0, .bool false, .string { data := #[] }, .string { data := #[] }, .string { data := #[] }, .string { data := #[] }, .string { data := #[] }, .slice none 0 0, .slice none 0 0] (by simp [Act.eval]) (by simp [Act.eval]) 103 #[.int .i64 0, .int .i64 0, .int .i64 0, .int .i64 0, .bool false, .string { data := #[] }, .string { data := #[] }, .string { data := #[] }, .string { data := #[] }, .string { data := #[] }, .slice none 0 0, .slice none 0 0] HK.out (by kernel_rfl) (by kernel_rfl) (by kernel_rfl) ?_)
  intro w9 k9 hgr
  have hb9 : Below w.heap.size w w9 := Below.grown (Below.alloc hB1 l1 _) hgr (by simp; omega) (by intro q hq; injection hq with hq; omega)
  clear hgr
  go_wp2_with fail
  refine bodyPost_ret (results_row_tmp Tryz.results94 _ _ w.heap.size #[.int .i64 0, .int .i64 15, .int .i64 0, .int .i64 0, .bool false, .string { data := #[] }, .string { data := #[] }, .string { data := #[] }, .string { data := #[] }, .string { data := #[] }, .slice none 0 0, .slice none 0 0] (by rfl) (run_loadVar_row _ _ 103 103 _ (0, 0) _ k9 Tryz.underlying103 rfl (by kernel_rfl))) rfl ⟨rfl, hb9⟩
theorem extended_FSLAX24Y24 (w : World) : Calls Tryz.prog 94 #[.string { data := #[70, 83, 76, 65, 88, 50, 52, 89, 50, 52] }] w fun e w' => e = .returned (.tuple #[.agg #[.int .i64 0, .int .i64 8, .int .i64 2, .int .i64 4, .bool false, .string { data := #[] }, .string { data := #[] }, .string { data := #[] }, .string { data := #[] }, .string { data := #[] }, .slice none 0 0, .slice none 0 0], .int .i64 0]) ∧ Below w.heap.size w w' := by
  have h1 : ∀ w, Calls Tryz.prog 194 #[.string { data := #[70, 83, 76, 65, 88, 50, 52, 89, 50, 52] }, .string { data := #[76, 83] }] w fun e w' => e = .returned (.bool false) ∧ w = w' := fun w => hasP_no [70, 83, 76, 65, 88, 50, 52, 89, 50, 52] [76, 83] w (by decide) (by decide) (by decide)
  have h2 : ∀ w, Calls Tryz.prog 147 #[.string { data := #[70, 83, 76, 65, 88, 50, 52, 89, 50, 52] }] w fun e w' => e = .returned (.tuple #[.agg #[.int .i64 0, .int .i64 0, .int .i64 0, .int .i64 0, .bool false, .string { data := #[] }, .string { data := #[] }, .string { data := #[] }, .string { data := #[] }, .string { data := #[] }, .slice none 0 0, .slice none 0 0], .bool false]) ∧ Below w.heap.size w w' := fun w => fixed_FSLAX24Y24 w
  have h3 : ∀ w, Calls Tryz.prog 148 #[.string { data := #[76, 65, 88, 50, 52, 89, 50, 52] }] w fun e w' => e = .returned (.tuple #[.agg #[.int .i64 0, .int .i64 8, .int .i64 2, .int .i64 4, .bool false, .string { data := #[] }, .string { data := #[] }, .string { data := #[] }, .string { data := #[] }, .string { data := #[] }, .slice none 0 0, .slice none 0 0], .bool true]) ∧ Below w.heap.size w w' := fun w => format_c w
  have H1 := Lib.hid h1
  have H2 := Lib.hid h2
  have H3 := Lib.hid h3
  clear h1 h2 h3
  have x1 : ({ data := #[70, 83, 76, 65, 88, 50, 52, 89, 50, 52] } : ByteArray).extract 0 2 = { data := #[70, 83] } := rfl
  have x2 : ({ data := #[70, 83, 76, 65, 88, 50, 52, 89, 50, 52] } : ByteArray).extract 2 10 = { data := #[76, 65, 88, 50, 52, 89, 50, 52] } := rfl
  go_enter Tryz.func94, Tryz.ntmps94
  go_wp2_with (first | (go_at_call 146; go_in) | (go_at_call 194; ((with_reducible refine (H1.out _).mono ?_); rintro e w' ⟨rfl, rfl⟩)))
  refine (H2.out _).mono ?_
  rintro e w1 ⟨rfl, hb⟩
  have hB1 : Below w.heap.size w w1 := Below.trans (by exact blw) (hb.mono (by first | omega | (simp; done) | (simp; omega)))
  have k1_0 : Blk w1 (w.heap.size) 103 #[.int .i64 0, .int .i64 0, .int .i64 0, .int .i64 0, .bool false, .string { data := #[] }, .string { data := #[] }, .string { data := #[] }, .string { data := #[] }, .string { data := #[] }, .slice none 0 0, .slice none 0 0] := Blk.below (by exact bkw) hb (by first | omega | (simp; done) | (simp; omega))
  have c1_0 := k1_0.cell
  have f1_0 := k1_0.frozen
  have l1_0 := k1_0.lt
  have l1 := hB1.size
  clear hb
  go_wp2_with fail
  refine (H3.out _).mono ?_
  rintro e w2 ⟨rfl, hb⟩
  have hB2 : Below w.heap.size w w2 := Below.trans (by exact blw) (hb.mono (by first | omega | (simp; done) | (simp; omega)))
  have k2_0 : Blk w2 (w.heap.size) 103 #[.int .i64 0, .int .i64 0, .int .i64 0, .int .i64 0, .bool false, .string { data := #[] }, .string { data := #[] }, .string { data := #[] }, .string { data := #[] }, .string { data := #[] }, .slice none 0 0, .slice none 0 0] := Blk.below (by exact bkw) hb (by first | omega | (simp; done) | (simp; omega))
  have k2_1 : Blk w2 (w1.heap.size) 103 #[.int .i64 0, .int .i64 0, .int .i64 0, .int .i64 0, .bool false, .string { data := #[] }, .string { data := #[] }, .string { data := #[] }, .string { data := #[] }, .string { data := #[] }, .slice none 0 0, .slice none 0 0] := Blk.below (by exact bkw) hb (by first | omega | (simp; done) | (simp; omega))
  have c2_0 := k2_0.cell
  have f2_0 := k2_0.frozen
  have l2_0 := k2_0.lt
  have c2_1 := k2_1.cell
  have f2_1 := k2_1.frozen
  have l2_1 := k2_1.lt
  have l2 := hB2.size
  clear hb k1_0 c1_0 f1_0
  have HK := Lib.hid k2_1
  have HK0 := Lib.hid k2_0
  clear k2_1 k2_0 c2_0 c2_1 f2_0 f2_1
  go_wp2_with (refine wpList_storeBlk rfl 103 (.tmp 4) (.tmp 30) rfl rfl (w1.heap.size) #[.int .i64 0, .int .i64 8, .int .i64 2, .int .i64 4, .bool false, .string { data := #[] }, .string { data := #[] }, .string { data := #[] }, .string { data := #[] }, .string { data := #[] }, .slice none 0 0, .slice none 0 0] (by simp [Act.eval]) (by simp [Act.eval]) 103 #[.int .i64 0, .int .i64 0, .int .i64 0, .int .i64 0, .bool false, .string { data := #[] }, .string { data := #[] }, .string { data := #[] }, .string { data := #[] }, .string { data := #[] }, .slice none 0 0, .slice none 0 0] HK.out (by kernel_rfl) (by kernel_rfl) (by kernel_rfl) ?_)
  intro w5 k5 hgr
  have hk50 := Blk.grown' HK0.out hgr (by intro e; injection e with e; omega)
  have HK5 := Lib.hid hk50
  have hB5 : Below w.heap.size w w5 := Below.grown hB2 hgr l2 (by intro q hq; injection hq with hq; omega)
  have l5 := hB5.size
  have c5 := k5.cell
  have l5_0 := k5.lt
  clear hgr hk50
  go_wp2_with (refine wpList_storeBlk rfl 103 (.tmp 2) (.tmp 77) rfl rfl (w.heap.size) #[.int .i64 0, .int .i64 8, .int .i64 2, .int .i64 4, .bool false, .string { data := #[] }, .string { data := #[] }, .string { data := #[] }, .string { data := #[] }, .string { data := #[] }, .slice none 0 0, .slice none 0 0] (by simp [Act.eval]) (by simp [Act.eval]) 103 #[.int .i64 0, .int .i64 0, .int .i64 0, .int .i64 0, .bool false, .string { data := #[] }, .string { data := #[] }, .string { data := #[] }, .string { data := #[] }, .string { data := #[] }, .slice none 0 0, .slice none 0 0] HK5.out (by kernel_rfl) (by kernel_rfl) (by kernel_rfl) ?_)
  intro w9 k9 hgr
  have hb9 : Below w.heap.size w w9 := Below.grown hB5 hgr l5 (by intro q hq; injection hq with hq; omega)
  clear hgr
  go_wp2_with fail
  refine bodyPost_ret (results_row_tmp Tryz.results94 _ _ w.heap.size #[.int .i64 0, .int .i64 8, .int .i64 2, .int .i64 4, .bool false, .string { data := #[] }, .string { data := #[] }, .string { data := #[] }, .string { data := #[] }, .string { data := #[] }, .slice none 0 0, .slice none 0 0] (by rfl) (run_loadVar_row _ _ 103 103 _ (0, 0) _ k9 Tryz.underlying103 rfl (by kernel_rfl))) rfl ⟨rfl, hb9⟩
theorem extended_ABD20 (w : World) : Calls Tryz.prog 94 #[.string { data := #[65, 66, 68, 50, 48] }] w fun e w' => e = .returned (.tuple #[.agg #[.int .i64 0, .int .i64 11, .int .i64 20, .int .i64 0, .bool false, .string { data := #[] }, .string { data := #[] }, .string { data := #[] }, .string { data := #[] }, .string { data := #[] }, .slice none 0 0, .slice none 0 0], .int .i64 0]) ∧ Below w.heap.size w w' := by
  have h1 : ∀ w, Calls Tryz.prog 194 #[.string { data := #[65, 66, 68, 50, 48] }, .string { data := #[76, 83] }] w fun e w' => e = .returned (.bool false) ∧ w = w' := fun w => hasP_no [65, 66, 68, 50, 48] [76, 83] w (by decide) (by decide) (by decide)
  have h2 : ∀ w, Calls Tryz.prog 147 #[.string { data := #[65, 66, 68, 50, 48] }] w fun e w' => e = .returned (.tuple #[.agg #[.int .i64 0, .int .i64 0, .int .i64 0, .int .i64 0, .bool false, .string { data := #[] }, .string { data := #[] }, .string { data := #[] }, .string { data := #[] }, .string { data := #[] }, .slice none 0 0, .slice none 0 0], .bool false]) ∧ Below w.heap.size w w' := fun w => fixed_ABD20 w
  have h3 : ∀ w, Calls Tryz.prog 150 #[.string { data := #[68, 50, 48] }] w fun e w' => e = .returned (.tuple #[.agg #[.int .i64 0, .int .i64 11, .int .i64 20, .int .i64 0, .bool false, .string { data := #[] }, .string { data := #[] }, .string { data := #[] }, .string { data := #[] }, .string { data := #[] }, .slice none 0 0, .slice none 0 0], .bool true]) ∧ Below w.heap.size w w' := fun w => block_c w
  have H1 := Lib.hid h1
  have H2 := Lib.hid h2
  have H3 := Lib.hid h3
  clear h1 h2 h3
  have x1 : ({ data := #[65, 66, 68, 50, 48] } : ByteArray).extract 0 2 = { data := #[65, 66] } := rfl
  have x2 : ({ data := #[65, 66, 68, 50, 48] } : ByteArray).extract 2 5 = { data := #[68, 50, 48] } := rfl
  go_enter Tryz.func94, Tryz.ntmps94
  go_wp2_with (first | (go_at_call 146; go_in) | (go_at_call 194; ((with_reducible refine (H1.out _).mono ?_); rintro e w' ⟨rfl, rfl⟩)))
  refine (H2.out _).mono ?_
  rintro e w1 ⟨rfl, hb⟩
  have hB1 : Below w.heap.size w w1 := Below.trans (by exact blw) (hb.mono (by first | omega | (simp; done) | (simp; omega)))
  have k1_0 : Blk w1 (w.heap.size) 103 #[.int .i64 0, .int .i64 0, .int .i64 0, .int .i64 0, .bool false, .string { data := #[] }, .string { data := #[] }, .string { data := #[] }, .string { data := #[] }, .string { data := #[] }, .slice none 0 0, .slice none 0 0] := Blk.below (by exact bkw) hb (by first | omega | (simp; done) | (simp; omega))
  have c1_0 := k1_0.cell
  have f1_0 := k1_0.frozen
  have l1_0 := k1_0.lt
  have l1 := hB1.size
  clear hb
  go_wp2_with fail
  refine (H3.out _).mono ?_
  rintro e w2 ⟨rfl, hb⟩
  have hB2 : Below w.heap.size w w2 := Below.trans (by exact blw) (hb.mono (by first | omega | (simp; done) | (simp; omega)))
  have k2_0 : Blk w2 (w.heap.size) 103 #[.int .i64 0, .int .i64 0, .int .i64 0, .int .i64 0, .bool false, .string { data := #[] }, .string { data := #[] }, .string { data := #[] }, .string { data := #[] }, .string { data := #[] }, .slice none 0 0, .slice none 0 0] := Blk.below (by exact bkw) hb (by first | omega | (simp; done) | (simp; omega))
  have k2_1 : Blk w2 (w1.heap.size) 103 #[.int .i64 0, .int .i64 0, .int .i64 0, .int .i64 0, .bool false, .string { data := #[] }, .string { data := #[] }, .string { data := #[] }, .string { data := #[] }, .string { data := #[] }, .slice none 0 0, .slice none 0 0] := Blk.below (by exact bkw) hb (by first | omega | (simp; done) | (simp; omega))
  have c2_0 := k2_0.cell
  have f2_0 := k2_0.frozen
  have l2_0 := k2_0.lt
  have c2_1 := k2_1.cell
  have f2_1 := k2_1.frozen
  have l2_1 := k2_1.lt
  have l2 := hB2.size
  clear hb k1_0 c1_0 f1_0
  have HK := Lib.hid k2_1
  have HK0 := Lib.hid k2_0
  clear k2_1 k2_0 c2_0 c2_1 f2_0 f2_1
  go_wp2_with (refine wpList_storeBlk rfl 103 (.tmp 4) (.tmp 46) rfl rfl (w1.heap.size) #[.int .i64 0, .int .i64 11, .int .i64 20, .int .i64 0, .bool false, .string { data := #[] }, .string { data := #[] }, .string { data := #[] }, .string { data := #[] }, .string { data := #[] }, .slice none 0 0, .slice none 0 0] (by simp [Act.eval]) (by simp [Act.eval]) 103 #[.int .i64 0, .int .i64 0, .int .i64 0, .int .i64 0, .bool false, .string { data := #[] }, .string { data := #[] }, .string { data := #[] }, .string { data := #[] }, .string { data := #[] }, .slice none 0 0, .slice none 0 0] HK.out (by kernel_rfl) (by kernel_rfl) (by kernel_rfl) ?_)
  intro w5 k5 hgr
  have hk50 := Blk.grown' HK0.out hgr (by intro e; injection e with e; omega)
  have HK5 := Lib.hid hk50
  have hB5 : Below w.heap.size w w5 := Below.grown hB2 hgr l2 (by intro q hq; injection hq with hq; omega)
  have l5 := hB5.size
  have c5 := k5.cell
  have l5_0 := k5.lt
  clear hgr hk50
  go_wp2_with (refine wpList_storeBlk rfl 103 (.tmp 2) (.tmp 77) rfl rfl (w.heap.size) #[.int .i64 0, .int .i64 11, .int .i64 20, .int .i64 0, .bool false, .string { data := #[] }, .string { data := #[] }, .string { data := #[] }, .string { data := #[] }, .string { data := #[] }, .slice none 0 0, .slice none 0 0] (by simp [Act.eval]) (by simp [Act.eval]) 103 #[.int .i64 0, .int .i64 0, .int .i64 0, .int .i64 0, .bool false, .string { data := #[] }, .string { data := #[] }, .string { data := #[] }, .string { data := #[] }, .string { data := #[] }, .slice none 0 0, .slice none 0 0] HK5.out (by kernel_rfl) (by kernel_rfl) (by kernel_rfl) ?_)
  intro w9 k9 hgr
  have hb9 : Below w.heap.size w w9 := Below.grown hB5 hgr l5 (by intro q hq; injection hq with hq; omega)
  clear hgr
  go_wp2_with fail
  refine bodyPost_ret (results_row_tmp Tryz.results94 _ _ w.heap.size #[.int .i64 0, .int .i64 11, .int .i64 20, .int .i64 0, .bool false, .string { data := #[] }, .string { data := #[] }, .string { data := #[] }, .string { data := #[] }, .string { data := #[] }, .slice none 0 0, .slice none 0 0] (by rfl) (run_loadVar_row _ _ 103 103 _ (0, 0) _ k9 Tryz.underlying103 rfl (by kernel_rfl))) rfl ⟨rfl, hb9⟩
theorem extended_ADD10C_0_5 (w : World) : Calls Tryz.prog 94 #[.string { data := #[65, 68, 68, 49, 48, 67, 44, 48, 46, 53] }] w fun e w' => ∃ v, e = .returned (.tuple #[.agg #[.int .i64 0, .int .i64 10, .int .i64 10, .int .i64 0, .bool false, .string { data := #[67] }, .string { data := #[] }, .string { data := #[] }, .string { data := #[] }, .string { data := #[] }, v, .slice none 0 0], .int .i64 0]) ∧ Nums w' w.heap.size v [500000] ∧ Below w.heap.size w w' := by
  have h1 : ∀ w, Calls Tryz.prog 194 #[.string { data := #[65, 68, 68, 49, 48, 67, 44, 48, 46, 53] }, .string { data := #[76, 83] }] w fun e w' => e = .returned (.bool false) ∧ w = w' := fun w => hasP_no [65, 68, 68, 49, 48, 67, 44, 48, 46, 53] [76, 83] w (by decide) (by decide) (by decide)
  have h2 : ∀ w, Calls Tryz.prog 147 #[.string { data := #[65, 68, 68, 49, 48, 67, 44, 48, 46, 53] }] w fun e w' => e = .returned (.tuple #[.agg #[.int .i64 0, .int .i64 0, .int .i64 0, .int .i64 0, .bool false, .string { data := #[] }, .string { data := #[] }, .string { data := #[] }, .string { data := #[] }, .string { data := #[] }, .slice none 0 0, .slice none 0 0], .bool false]) ∧ Below w.heap.size w w' := fun w => fixed_ADD10C_0_5 w
  have H1 := Lib.hid h1
  have H2 := Lib.hid h2
  clear h1 h2
  have x1 : ({ data := #[65, 68, 68, 49, 48, 67, 44, 48, 46, 53] } : ByteArray).extract 0 2 = { data := #[65, 68] } := rfl
  have x2 : ({ data := #[65, 68, 68, 49, 48, 67, 44, 48, 46, 53] } : ByteArray).extract 2 10 = { data := #[68, 49, 48, 67, 44, 48, 46, 53] } := rfl
  go_enter Tryz.func94, Tryz.ntmps94
  go_wp2_with (first | (go_at_call 146; go_in) | (go_at_call 194; ((with_reducible refine (H1.out _).mono ?_); rintro e w' ⟨rfl, rfl⟩)))
  refine (H2.out _).mono ?_
  rintro e w1 ⟨rfl, hb⟩
  have hB1 : Below w.heap.size w w1 := Below.trans (by exact blw) (hb.mono (by first | omega | (simp; done) | (simp; omega)))
  have k1_0 : Blk w1 (w.heap.size) 103 #[.int .i64 0, .int .i64 0, .int .i64 0, .int .i64 0, .bool false, .string { data := #[] }, .string { data := #[] }, .string { data := #[] }, .string { data := #[] }, .string { data := #[] }, .slice none 0 0, .slice none 0 0] := Blk.below (by exact bkw) hb (by first | omega | (simp; done) | (simp; omega))
  have c1_0 := k1_0.cell
  have f1_0 := k1_0.frozen
  have l1_0 := k1_0.lt
  have l1 := hB1.size
  clear hb
  go_wp2_with fail
  refine (aperture_C _).mono ?_
  rintro e w2 ⟨v, rfl, hn, hb⟩
  have hB2 : Below w.heap.size w w2 := Below.trans (by exact blw) (hb.mono (by first | omega | (simp; done) | (simp; omega)))
  have k2_0 : Blk w2 (w.heap.size) 103 #[.int .i64 0, .int .i64 0, .int .i64 0, .int .i64 0, .bool false, .string { data := #[] }, .string { data := #[] }, .string { data := #[] }, .string { data := #[] }, .string { data := #[] }, .slice none 0 0, .slice none 0 0] := Blk.below (by exact bkw) hb (by first | omega | (simp; done) | (simp; omega))
  have k2_1 : Blk w2 (w1.heap.size) 103 #[.int .i64 0, .int .i64 0, .int .i64 0, .int .i64 0, .bool false, .string { data := #[] }, .string { data := #[] }, .string { data := #[] }, .string { data := #[] }, .string { data := #[] }, .slice none 0 0, .slice none 0 0] := Blk.below (by exact bkw) hb (by first | omega | (simp; done) | (simp; omega))
  have c2_0 := k2_0.cell
  have f2_0 := k2_0.frozen
  have l2_0 := k2_0.lt
  have c2_1 := k2_1.cell
  have f2_1 := k2_1.frozen
  have l2_1 := k2_1.lt
  have l2 := hB2.size
  obtain ⟨g, cap, rfl, hge, hgl⟩ := World.ownsRow.form hn (by decide)
  have HN := Lib.hid hn
  have HN0 := Lib.hid (own_blk_ne hn k2_0 (by decide))
  have HN1 := Lib.hid (own_blk_ne hn k2_1 (by decide))
  have hge2 : w.heap.size ≤ g := by (simp at hge; omega)
  clear hn hge
  clear hb k1_0 c1_0 f1_0
  have HK := Lib.hid k2_1
  have HK0 := Lib.hid k2_0
  clear k2_1 k2_0 c2_0 c2_1 f2_0 f2_1
  go_wp2_with (refine wpList_storeBlk rfl 103 (.tmp 4) (.tmp 38) rfl rfl (w1.heap.size) #[.int .i64 0, .int .i64 10, .int .i64 10, .int .i64 0, .bool false, .string { data := #[67] }, .string { data := #[] }, .string { data := #[] }, .string { data := #[] }, .string { data := #[] }, .slice (some ⟨g, 0, none⟩) 1 cap, .slice none 0 0] (by simp [Act.eval]) (by simp [Act.eval]) 103 #[.int .i64 0, .int .i64 0, .int .i64 0, .int .i64 0, .bool false, .string { data := #[] }, .string { data := #[] }, .string { data := #[] }, .string { data := #[] }, .string { data := #[] }, .slice none 0 0, .slice none 0 0] HK.out (by kernel_rfl) (by kernel_rfl) (by kernel_rfl) ?_)
  intro w5 k5 hgr
  have hk50 := Blk.grown' HK0.out hgr (by intro e; injection e with e; omega)
  have HK5 := Lib.hid hk50
  have hB5 : Below w.heap.size w w5 := Below.grown hB2 hgr l2 (by intro q hq; injection hq with hq; omega)
  have l5 := hB5.size
  have c5 := k5.cell
  have l5_0 := k5.lt
  have HN5 := Lib.hid (World.ownsRow.kept HN.out hgr (Or.inr HN1.out))
  clear hgr hk50
  go_wp2_with (refine wpList_storeBlk rfl 103 (.tmp 2) (.tmp 77) rfl rfl (w.heap.size) #[.int .i64 0, .int .i64 10, .int .i64 10, .int .i64 0, .bool false, .string { data := #[67] }, .string { data := #[] }, .string { data := #[] }, .string { data := #[] }, .string { data := #[] }, .slice (some ⟨g, 0, none⟩) 1 cap, .slice none 0 0] (by simp [Act.eval]) (by simp [Act.eval]) 103 #[.int .i64 0, .int .i64 0, .int .i64 0, .int .i64 0, .bool false, .string { data := #[] }, .string { data := #[] }, .string { data := #[] }, .string { data := #[] }, .string { data := #[] }, .slice none 0 0, .slice none 0 0] HK5.out (by kernel_rfl) (by kernel_rfl) (by kernel_rfl) ?_)
  intro w9 k9 hgr
  have hb9 : Below w.heap.size w w9 := Below.grown hB5 hgr l5 (by intro q hq; injection hq with hq; omega)
  have HN9 := Lib.hid (World.ownsRow.kept HN5.out hgr (Or.inr HN0.out))
  clear hgr
  go_wp2_with fail
  have hq : Nums w9 w.heap.size (.slice (some ⟨g, 0, none⟩) 1 cap) [500000] := by
    obtain ⟨h1, h2⟩ := HN9.out
    refine ⟨h1, ?_⟩
    rcases h2 with ⟨h0, _⟩ | ⟨g', cap', cur, he, hb', hh, r1, r2, r3, r4⟩
    · cases h0
    · obtain ⟨rfl, _⟩ : g = g' ∧ cap = cap' := by simpa using he
      exact .inr ⟨g, cap', cur, he, hge2, hh, r1, r2, r3, r4⟩
  refine bodyPost_ret (results_row_tmp Tryz.results94 _ _ w.heap.size #[.int .i64 0, .int .i64 10, .int .i64 10, .int .i64 0, .bool false, .string { data := #[67] }, .string { data := #[] }, .string { data := #[] }, .string { data := #[] }, .string { data := #[] }, .slice (some ⟨g, 0, none⟩) 1 cap, .slice none 0 0] (by rfl) (run_loadVar_row _ _ 103 103 _ (0, 0) _ k9 Tryz.underlying103 rfl (by kernel_rfl))) rfl ⟨_, rfl, hq, hb9⟩
theorem extended_ADD10R_4X4 (w : World) : Calls Tryz.prog 94 #[.string { data := #[65, 68, 68, 49, 48, 82, 44, 52, 88, 52] }] w fun e w' => ∃ v, e = .returned (.tuple #[.agg #[.int .i64 0, .int .i64 10, .int .i64 10, .int .i64 0, .bool false, .string { data := #[82] }, .string { data := #[] }, .string { data := #[] }, .string { data := #[] }, .string { data := #[] }, v, .slice none 0 0], .int .i64 0]) ∧ Nums w' w.heap.size v [4000000, 4000000] ∧ Below w.heap.size w w' := by
  have h1 : ∀ w, Calls Tryz.prog 194 #[.string { data := #[65, 68, 68, 49, 48, 82, 44, 52, 88, 52] }, .string { data := #[76, 83] }] w fun e w' => e = .returned (.bool false) ∧ w = w' := fun w => hasP_no [65, 68, 68, 49, 48, 82, 44, 52, 88, 52] [76, 83] w (by decide) (by decide) (by decide)
  have h2 : ∀ w, Calls Tryz.prog 147 #[.string { data := #[65, 68, 68, 49, 48, 82, 44, 52, 88, 52] }] w fun e w' => e = .returned (.tuple #[.agg #[.int .i64 0, .int .i64 0, .int .i64 0, .int .i64 0, .bool false, .string { data := #[] }, .string { data := #[] }, .string { data := #[] }, .string { data := #[] }, .string { data := #[] }, .slice none 0 0, .slice none 0 0], .bool false]) ∧ Below w.heap.size w w' := fun w => fixed_ADD10R_4X4 w
  have H1 := Lib.hid h1
  have H2 := Lib.hid h2
  clear h1 h2
  have x1 : ({ data := #[65, 68, 68, 49, 48, 82, 44, 52, 88, 52] } : ByteArray).extract 0 2 = { data := #[65, 68] } := rfl
  have x2 : ({ data := #[65, 68, 68, 49, 48, 82, 44, 52, 88, 52] } : ByteArray).extract 2 10 = { data := #[68, 49, 48, 82, 44, 52, 88, 52] } := rfl
  go_enter Tryz.func94, Tryz.ntmps94
  go_wp2_with (first | (go_at_call 146; go_in) | (go_at_call 194; ((with_reducible refine (H1.out _).mono ?_); rintro e w' ⟨rfl, rfl⟩)))
  refine (H2.out _).mono ?_
  rintro e w1 ⟨rfl, hb⟩
  have hB1 : Below w.heap.size w w1 := Below.trans (by exact blw) (hb.mono (by first | omega | (simp; done) | (simp; omega)))
  have k1_0 : Blk w1 (w.heap.size) 103 #[.int .i64 0, .int .i64 0, .int .i64 0, .int .i64 0, .bool false, .string { data := #[] }, .string { data := #[] }, .string { data := #[] }, .string { data := #[] }, .string { data := #[] }, .slice none 0 0, .slice none 0 0] := Blk.below (by exact bkw) hb (by first | omega | (simp; done) | (simp; omega))
  have c1_0 := k1_0.cell
  have f1_0 := k1_0.frozen
  have l1_0 := k1_0.lt
  have l1 := hB1.size
  clear hb
  go_wp2_with fail
  refine (aperture_R _).mono ?_
  rintro e w2 ⟨v, rfl, hn, hb⟩
  have hB2 : Below w.heap.size w w2 := Below.trans (by exact blw) (hb.mono (by first | omega | (simp; done) | (simp; omega)))
  have k2_0 : Blk w2 (w.heap.size) 103 #[.int .i64 0, .int .i64 0, .int .i64 0, .int .i64 0, .bool false, .string { data := #[] }, .string { data := #[] }, .string { data := #[] }, .string { data := #[] }, .string { data := #[] }, .slice none 0 0, .slice none 0 0] := Blk.below (by exact bkw) hb (by first | omega | (simp; done) | (simp; omega))
  have k2_1 : Blk w2 (w1.heap.size) 103 #[.int .i64 0, .int .i64 0, .int .i64 0, .int .i64 0, .bool false, .string { data := #[] }, .string { data := #[] }, .string { data := #[] }, .string { data := #[] }, .string { data := #[] }, .slice none 0 0, .slice none 0 0] := Blk.below (by exact bkw) hb (by first | omega | (simp; done) | (simp; omega))
  have c2_0 := k2_0.cell
  have f2_0 := k2_0.frozen
  have l2_0 := k2_0.lt
  have c2_1 := k2_1.cell
  have f2_1 := k2_1.frozen
  have l2_1 := k2_1.lt
  have l2 := hB2.size
  obtain ⟨g, cap, rfl, hge, hgl⟩ := World.ownsRow.form hn (by decide)
  have HN := Lib.hid hn
  have HN0 := Lib.hid (own_blk_ne hn k2_0 (by decide))
  have HN1 := Lib.hid (own_blk_ne hn k2_1 (by decide))
  have hge2 : w.heap.size ≤ g := by (simp at hge; omega)
  clear hn hge
  clear hb k1_0 c1_0 f1_0
  have HK := Lib.hid k2_1
  have HK0 := Lib.hid k2_0
  clear k2_1 k2_0 c2_0 c2_1 f2_0 f2_1
  go_wp2_with (refine wpList_storeBlk rfl 103 (.tmp 4) (.tmp 38) rfl rfl (w1.heap.size) #[.int .i64 0, .int .i64 10, .int .i64 10, .int .i64 0, .bool false, .string { data := #[82] }, .string { data := #[] }, .string { data := #[] }, .string { data := #[] }, .string { data := #[] }, .slice (some ⟨g, 0, none⟩) 2 cap, .slice none 0 0] (by simp [Act.eval]) (by simp [Act.eval]) 103 #[.int .i64 0, .int .i64 0, .int .i64 0, .int .i64 0, .bool false, .string { data := #[] }, .string { data := #[] }, .string { data := #[] }, .string { data := #[] }, .string { data := #[] }, .slice none 0 0, .slice none 0 0] HK.out (by kernel_rfl) (by kernel_rfl) (by kernel_rfl) ?_)
  intro w5 k5 hgr
  have hk50 := Blk.grown' HK0.out hgr (by intro e; injection e with e; omega)
  have HK5 := Lib.hid hk50
  have hB5 : Below w.heap.size w w5 := Below.grown hB2 hgr l2 (by intro q hq; injection hq with hq; omega)
  have l5 := hB5.size
  have c5 := k5.cell
  have l5_0 := k5.lt
  have HN5 := Lib.hid (World.ownsRow.kept HN.out hgr (Or.inr HN1.out))
  clear hgr hk50
  go_wp2_with (refine wpList_storeBlk rfl 103 (.tmp 2) (.tmp 77) rfl rfl (w.heap.size) #[.int .i64 0, .int .i64 10, .int .i64 10, .int .i64 0, .bool false, .string { data := #[82] }, .string { data := #[] }, .string { data := #[] }, .string { data := #[] }, .string { data := #[] }, .slice (some ⟨g, 0, none⟩) 2 cap, .slice none 0 0] (by simp [Act.eval]) (by simp [Act.eval]) 103 #[.int .i64 0, .int .i64 0, .int .i64 0, .int .i64 0, .bool false, .string { data := #[] }, .string { data := #[] }, .string { data := #[] }, .string { data := #[] }, .string { data := #[] }, .slice none 0 0, .slice none 0 0] HK5.out (by kernel_rfl) (by kernel_rfl) (by kernel_rfl) ?_)
  intro w9 k9 hgr
  have hb9 : Below w.heap.size w w9 := Below.grown hB5 hgr l5 (by intro q hq; injection hq with hq; omega)
  have HN9 := Lib.hid (World.ownsRow.kept HN5.out hgr (Or.inr HN0.out))
  clear hgr
  go_wp2_with fail
  have hq : Nums w9 w.heap.size (.slice (some ⟨g, 0, none⟩) 2 cap) [4000000, 4000000] := by
    obtain ⟨h1, h2⟩ := HN9.out
    refine ⟨h1, ?_⟩
    rcases h2 with ⟨h0, _⟩ | ⟨g', cap', cur, he, hb', hh, r1, r2, r3, r4⟩
    · cases h0
    · obtain ⟨rfl, _⟩ : g = g' ∧ cap = cap' := by simpa using he
      exact .inr ⟨g, cap', cur, he, hge2, hh, r1, r2, r3, r4⟩
  refine bodyPost_ret (results_row_tmp Tryz.results94 _ _ w.heap.size #[.int .i64 0, .int .i64 10, .int .i64 10, .int .i64 0, .bool false, .string { data := #[82] }, .string { data := #[] }, .string { data := #[] }, .string { data := #[] }, .string { data := #[] }, .slice (some ⟨g, 0, none⟩) 2 cap, .slice none 0 0] (by rfl) (run_loadVar_row _ _ 103 103 _ (0, 0) _ k9 Tryz.underlying103 rfl (by kernel_rfl))) rfl ⟨_, rfl, hq, hb9⟩
end Go.Proofs.YtfajckkbinbpiaaGreatDoor
