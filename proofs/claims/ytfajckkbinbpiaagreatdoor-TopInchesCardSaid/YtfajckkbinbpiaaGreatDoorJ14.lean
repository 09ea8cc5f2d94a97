/- Walks: commands of the words of drawings in inches. -/
import Derived.Test.YtfajckkbinbpiaaGreatDoorJ08
import Derived.Test.YtfajckkbinbpiaaGreatDoorJ13
namespace Go.Proofs.YtfajckkbinbpiaaGreatDoor
set_option maxRecDepth 100000
set_option maxHeartbeats 32000000
set_option linter.unusedVariables false
set_option linter.unusedSimpArgs false
open Go.RowKit
theorem extended_MOIN (w : World) : Calls Tryz.prog 94 #[.string { data := #[77, 79, 73, 78] }] w fun e w' => e = .returned (.tuple #[.agg #[.int .i64 0, .int .i64 9, .int .i64 2, .int .i64 0, .bool false, .string { data := #[] }, .string { data := #[] }, .string { data := #[] }, .string { data := #[] }, .string { data := #[] }, .slice none 0 0, .slice none 0 0], .int .i64 0]) ∧ Below w.heap.size w w' := by
  have h1 : ∀ w, Calls Tryz.prog 194 #[.string { data := #[77, 79, 73, 78] }, .string { data := #[76, 83] }] w fun e w' => e = .returned (.bool false) ∧ w = w' := fun w => hasP_no [77, 79, 73, 78] [76, 83] w (by decide) (by decide) (by decide)
  have h2 : ∀ w, Calls Tryz.prog 147 #[.string { data := #[77, 79, 73, 78] }] w fun e w' => e = .returned (.tuple #[.agg #[.int .i64 0, .int .i64 9, .int .i64 2, .int .i64 0, .bool false, .string { data := #[] }, .string { data := #[] }, .string { data := #[] }, .string { data := #[] }, .string { data := #[] }, .slice none 0 0, .slice none 0 0], .bool true]) ∧ Below w.heap.size w w' := fun w => fixed_MOIN w
  have H1 := Lib.hid h1
  have H2 := Lib.hid h2
  clear h1 h2
  go_enter Tryz.func94, Tryz.ntmps94
  go_wp2_with (first | (go_at_call 146; go_in) | (go_at_call 194; ((with_reducible refine (H1.out _).mono ?_); rintro e w' ⟨rfl, rfl⟩)))
  refine (H2.out _).mono ?_
  rintro e w1 ⟨rfl, hb⟩
  have hB1 : Below w.heap.size w w1 := Below.trans (by exact blw) (hb.mono (by first | omega | (simp; done) | (simp; omega)))
  have k1_0 : Blk w1 (w.heap.size) 103 #[.int .i64 0, .int .i64 0, .int .i64 0, .int .i64 0, .bool false, .string { data := #[] }, .string { data := #[] }, .string { data := #[] }, .string { data := #[] }, .string { data := #[] }, .slice none 0 0, .slice none 0 0] := Blk.below (by exact bkw) hb (by first | omega | (simp; done) | (simp; omega))
  have c1_0 := k1_0.cell
  have f1_0 := k1_0.frozen
  have l1_0 := k1_0.lt
  have l1 := hB1.size
  clear hb
  have HK := Lib.hid (k1_0.alloc (.cells #[.int .i64 0, .int .i64 9, .int .i64 2, .int .i64 0, .bool false, .string { data := #[] }, .string { data := #[] }, .string { data := #[] }, .string { data := #[] }, .string { data := #[] }, .slice none 0 0, .slice none 0 0] 103))
  go_wp2_with (refine wpList_storeBlk rfl 103 (.tmp 2) (.tmp 77) rfl rfl (w.heap.size) #[.int .i64 0, .int .i64 9, .int .i64 2, .int .i64 0, .bool false, .string { data := #[] }, .string { data := #[] }, .string { data := #[] }, .string { data := #[] }, .string { data := #[] }, .slice none 0 0, .slice none 0 0] (by simp [Act.eval]) (by simp [Act.eval]) 103 #[.int .i64 0, .int .i64 0, .int .i64 0, .int .i64 0, .bool false, .string { data := #[] }, .string { data := #[] }, .string { data := #[] }, .string { data := #[] }, .string { data := #[] }, .slice none 0 0, .slice none 0 0] HK.out (by kernel_rfl) (by kernel_rfl) (by kernel_rfl) ?_)
  intro w9 k9 hgr
  have hb9 : Below w.heap.size w w9 := Below.grown (Below.alloc hB1 l1 _) hgr (by simp; omega) (by intro q hq; injection hq with hq; omega)
  clear hgr
  go_wp2_with fail
  refine bodyPost_ret (results_row_tmp Tryz.results94 _ _ w.heap.size #[.int .i64 0, .int .i64 9, .int .i64 2, .int .i64 0, .bool false, .string { data := #[] }, .string { data := #[] }, .string { data := #[] }, .string { data := #[] }, .string { data := #[] }, .slice none 0 0, .slice none 0 0] (by rfl) (run_loadVar_row _ _ 103 103 _ (0, 0) _ k9 Tryz.underlying103 rfl (by kernel_rfl))) rfl ⟨rfl, hb9⟩
theorem extended_FSLAX26Y26 (w : World) : Calls Tryz.prog 94 #[.string { data := #[70, 83, 76, 65, 88, 50, 54, 89, 50, 54] }] w fun e w' => e = .returned (.tuple #[.agg #[.int .i64 0, .int .i64 8, .int .i64 2, .int .i64 6, .bool false, .string { data := #[] }, .string { data := #[] }, .string { data := #[] }, .string { data := #[] }, .string { data := #[] }, .slice none 0 0, .slice none 0 0], .int .i64 0]) ∧ Below w.heap.size w w' := by
  have h1 : ∀ w, Calls Tryz.prog 194 #[.string { data := #[70, 83, 76, 65, 88, 50, 54, 89, 50, 54] }, .string { data := #[76, 83] }] w fun e w' => e = .returned (.bool false) ∧ w = w' := fun w => hasP_no [70, 83, 76, 65, 88, 50, 54, 89, 50, 54] [76, 83] w (by decide) (by decide) (by decide)
  have h2 : ∀ w, Calls Tryz.prog 147 #[.string { data := #[70, 83, 76, 65, 88, 50, 54, 89, 50, 54] }] w fun e w' => e = .returned (.tuple #[.agg #[.int .i64 0, .int .i64 0, .int .i64 0, .int .i64 0, .bool false, .string { data := #[] }, .string { data := #[] }, .string { data := #[] }, .string { data := #[] }, .string { data := #[] }, .slice none 0 0, .slice none 0 0], .bool false]) ∧ Below w.heap.size w w' := fun w => fixed_FSLAX26Y26 w
  have h3 : ∀ w, Calls Tryz.prog 148 #[.string { data := #[76, 65, 88, 50, 54, 89, 50, 54] }] w fun e w' => e = .returned (.tuple #[.agg #[.int .i64 0, .int .i64 8, .int .i64 2, .int .i64 6, .bool false, .string { data := #[] }, .string { data := #[] }, .string { data := #[] }, .string { data := #[] }, .string { data := #[] }, .slice none 0 0, .slice none 0 0], .bool true]) ∧ Below w.heap.size w w' := fun w => format_c6 w
  have H1 := Lib.hid h1
  have H2 := Lib.hid h2
  have H3 := Lib.hid h3
  clear h1 h2 h3
  have x1 : ({ data := #[70, 83, 76, 65, 88, 50, 54, 89, 50, 54] } : ByteArray).extract 0 2 = { data := #[70, 83] } := rfl
  have x2 : ({ data := #[70, 83, 76, 65, 88, 50, 54, 89, 50, 54] } : ByteArray).extract 2 10 = { data := #[76, 65, 88, 50, 54, 89, 50, 54] } := rfl
  go_enter Tryz.func94, Tryz.ntmps94
  go_wp2_with (first | (go_at_call 146; go_in) | (go_at_call 194; ((with_reducible refine (H1.out _).mono ?_); rintro e w' ⟨rfl, rfl⟩)))
  refine (H2.out _).mono ?_
  rintro e w1 ⟨rfl, hb⟩
  have hB1 : Below w.heap.size w w1 := Below.trans (by exact blw) (hb.mono (by first | omega | (simp; done) | (simp; omega)))
  have k1_0 : Blk w1 (w.heap.size) 103 #[.int .i64 0, .int .i64 0, .int .i64 0, .int .i64 0, .bool false, .string { data := #[] }, .string { data := #[] }, .string { data := #[] }, .string { data := #[] }, .string { data := #[] }, .slice none 0 0, .slice none 0 0] := Blk.below (by exact bkw) hb (by first | omega | (simp; done) | (simp; omega))
  have c1_0 := k1_0.cell
  have f1_0 := k1_0.frozen
  have l1_0 := k1_0.lt
  have l1 := hB1.size
  clear hb
  go_wp2_with fail
  refine (H3.out _).mono ?_
  rintro e w2 ⟨rfl, hb⟩
  have hB2 : Below w.heap.size w w2 := Below.trans (by exact blw) (hb.mono (by first | omega | (simp; done) | (simp; omega)))
  have k2_0 : Blk w2 (w.heap.size) 103 #[.int .i64 0, .int .i64 0, .int .i64 0, .int .i64 0, .bool false, .string { data := #[] }, .string { data := #[] }, .string { data := #[] }, .string { data := #[] }, .string { data := #[] }, .slice none 0 0, .slice none 0 0] := Blk.below (by exact bkw) hb (by first | omega | (simp; done) | (simp; omega))
  have k2_1 : Blk w2 (w1.heap.size) 103 #[.int .i64 0, .int .i64 0, .int .i64 0, .int .i64 0, .bool false, .string { data := #[] }, .string { data := #[] }, .string { data := #[] }, .string { data := #[] }, .string { data := #[] }, .slice none 0 0, .slice none 0 0] := Blk.below (by exact bkw) hb (by first | omega | (simp; done) | (simp; omega))
  have c2_0 := k2_0.cell
  have f2_0 := k2_0.frozen
  have l2_0 := k2_0.lt
  have c2_1 := k2_1.cell
  have f2_1 := k2_1.frozen
  have l2_1 := k2_1.lt
  have l2 := hB2.size
  clear hb k1_0 c1_0 f1_0
  have HK := Lib.hid k2_1
  have HK0 := Lib.hid k2_0
  clear k2_1 k2_0 c2_0 c2_1 f2_0 f2_1
  go_wp2_with (refine wpList_storeBlk rfl 103 (.tmp 4) (.tmp 30) rfl rfl (w1.heap.size) #[.int .i64 0, .int .i64 8, .int .i64 2, .int .i64 6, .bool false, .string { data := #[] }, .string { data := #[] }, .string { data := #[] }, .string { data := #[] }, .string { data := #[] }, .slice none 0 0, .slice none 0 0] (by simp [Act.eval]) (by simp [Act.eval]) 103 #[.int .i64 0, .int .i64 0, .int .i64 0, .int .i64 0, .bool false, .string { data := #[] }, .string { data := #[] }, .string { data := #[] }, .string { data := #[] }, .string { data := #[] }, .slice none 0 0, .slice none 0 0] HK.out (by kernel_rfl) (by kernel_rfl) (by kernel_rfl) ?_)
  intro w5 k5 hgr
  have hk50 := Blk.grown' HK0.out hgr (by intro e; injection e with e; omega)
  have HK5 := Lib.hid hk50
  have hB5 : Below w.heap.size w w5 := Below.grown hB2 hgr l2 (by intro q hq; injection hq with hq; omega)
  have l5 := hB5.size
  have c5 := k5.cell
  have l5_0 := k5.lt
  clear hgr hk50
  go_wp2_with (refine wpList_storeBlk rfl 103 (.tmp 2) (.tmp 77) rfl rfl (w.heap.size) #[.int .i64 0, .int .i64 8, .int .i64 2, .int .i64 6, .bool false, .string { data := #[] }, .string { data := #[] }, .string { data := #[] }, .string { data := #[] }, .string { data := #[] }, .slice none 0 0, .slice none 0 0] (by simp [Act.eval]) (by simp [Act.eval]) 103 #[.int .i64 0, .int .i64 0, .int .i64 0, .int .i64 0, .bool false, .string { data := #[] }, .string { data := #[] }, .string { data := #[] }, .string { data := #[] }, .string { data := #[] }, .slice none 0 0, .slice none 0 0] HK5.out (by kernel_rfl) (by kernel_rfl) (by kernel_rfl) ?_)
  intro w9 k9 hgr
  have hb9 : Below w.heap.size w w9 := Below.grown hB5 hgr l5 (by intro q hq; injection hq with hq; omega)
  clear hgr
  go_wp2_with fail
  refine bodyPost_ret (results_row_tmp Tryz.results94 _ _ w.heap.size #[.int .i64 0, .int .i64 8, .int .i64 2, .int .i64 6, .bool false, .string { data := #[] }, .string { data := #[] }, .string { data := #[] }, .string { data := #[] }, .string { data := #[] }, .slice none 0 0, .slice none 0 0] (by rfl) (run_loadVar_row _ _ 103 103 _ (0, 0) _ k9 Tryz.underlying103 rfl (by kernel_rfl))) rfl ⟨rfl, hb9⟩
theorem extended_ADD10C_0_05 (w : World) : Calls Tryz.prog 94 #[.string { data := #[65, 68, 68, 49, 48, 67, 44, 48, 46, 48, 53] }] w fun e w' => ∃ v, e = .returned (.tuple #[.agg #[.int .i64 0, .int .i64 10, .int .i64 10, .int .i64 0, .bool false, .string { data := #[67] }, .string { data := #[] }, .string { data := #[] }, .string { data := #[] }, .string { data := #[] }, v, .slice none 0 0], .int .i64 0]) ∧ Nums w' w.heap.size v [50000] ∧ Below w.heap.size w w' := by
  have h1 : ∀ w, Calls Tryz.prog 194 #[.string { data := #[65, 68, 68, 49, 48, 67, 44, 48, 46, 48, 53] }, .string { data := #[76, 83] }] w fun e w' => e = .returned (.bool false) ∧ w = w' := fun w => hasP_no [65, 68, 68, 49, 48, 67, 44, 48, 46, 48, 53] [76, 83] w (by decide) (by decide) (by decide)
  have h2 : ∀ w, Calls Tryz.prog 147 #[.string { data := #[65, 68, 68, 49, 48, 67, 44, 48, 46, 48, 53] }] w fun e w' => e = .returned (.tuple #[.agg #[.int .i64 0, .int .i64 0, .int .i64 0, .int .i64 0, .bool false, .string { data := #[] }, .string { data := #[] }, .string { data := #[] }, .string { data := #[] }, .string { data := #[] }, .slice none 0 0, .slice none 0 0], .bool false]) ∧ Below w.heap.size w w' := fun w => fixed_ADD10C_0_05 w
  have H1 := Lib.hid h1
  have H2 := Lib.hid h2
  clear h1 h2
  have x1 : ({ data := #[65, 68, 68, 49, 48, 67, 44, 48, 46, 48, 53] } : ByteArray).extract 0 2 = { data := #[65, 68] } := rfl
  have x2 : ({ data := #[65, 68, 68, 49, 48, 67, 44, 48, 46, 48, 53] } : ByteArray).extract 2 11 = { data := #[68, 49, 48, 67, 44, 48, 46, 48, 53] } := rfl
  go_enter Tryz.func94, Tryz.ntmps94
  go_wp2_with (first | (go_at_call 146; go_in) | (go_at_call 194; ((with_reducible refine (H1.out _).mono ?_); rintro e w' ⟨rfl, rfl⟩)))
  refine (H2.out _).mono ?_
  rintro e w1 ⟨rfl, hb⟩
  have hB1 : Below w.heap.size w w1 := Below.trans (by exact blw) (hb.mono (by first | omega | (simp; done) | (simp; omega)))
  have k1_0 : Blk w1 (w.heap.size) 103 #[.int .i64 0, .int .i64 0, .int .i64 0, .int .i64 0, .bool false, .string { data := #[] }, .string { data := #[] }, .string { data := #[] }, .string { data := #[] }, .string { data := #[] }, .slice none 0 0, .slice none 0 0] := Blk.below (by exact bkw) hb (by first | omega | (simp; done) | (simp; omega))
  have c1_0 := k1_0.cell
  have f1_0 := k1_0.frozen
  have l1_0 := k1_0.lt
  have l1 := hB1.size
  clear hb
  go_wp2_with fail
  refine (aperture_005 _).mono ?_
  rintro e w2 ⟨v, rfl, hn, hb⟩
  have hB2 : Below w.heap.size w w2 := Below.trans (by exact blw) (hb.mono (by first | omega | (simp; done) | (simp; omega)))
  have k2_0 : Blk w2 (w.heap.size) 103 #[.int .i64 0, .int .i64 0, .int .i64 0, .int .i64 0, .bool false, .string { data := #[] }, .string { data := #[] }, .string { data := #[] }, .string { data := #[] }, .string { data := #[] }, .slice none 0 0, .slice none 0 0] := Blk.below (by exact bkw) hb (by first | omega | (simp; done) | (simp; omega))
  have k2_1 : Blk w2 (w1.heap.size) 103 #[.int .i64 0, .int .i64 0, .int .i64 0, .int .i64 0, .bool false, .string { data := #[] }, .string { data := #[] }, .string { data := #[] }, .string { data := #[] }, .string { data := #[] }, .slice none 0 0, .slice none 0 0] := Blk.below (by exact bkw) hb (by first | omega | (simp; done) | (simp; omega))
  have c2_0 := k2_0.cell
  have f2_0 := k2_0.frozen
  have l2_0 := k2_0.lt
  have c2_1 := k2_1.cell
  have f2_1 := k2_1.frozen
  have l2_1 := k2_1.lt
  have l2 := hB2.size
  obtain ⟨g, cap, rfl, hge, hgl⟩ := World.ownsRow.form hn (by decide)
  have HN := Lib.hid hn
  have HN0 := Lib.hid (own_blk_ne hn k2_0 (by decide))
  have HN1 := Lib.hid (own_blk_ne hn k2_1 (by decide))
  have hge2 : w.heap.size ≤ g := by (simp at hge; omega)
  clear hn hge
  clear hb k1_0 c1_0 f1_0
  have HK := Lib.hid k2_1
  have HK0 := Lib.hid k2_0
  clear k2_1 k2_0 c2_0 c2_1 f2_0 f2_1
  go_wp2_with (refine wpList_storeBlk rfl 103 (.tmp 4) (.tmp 38) rfl rfl (w1.heap.size) #[.int .i64 0, .int .i64 10, .int .i64 10, .int .i64 0, .bool false, .string { data := #[67] }, .string { data := #[] }, .string { data := #[] }, .string { data := #[] }, .string { data := #[] }, .slice (some ⟨g, 0, none⟩) 1 cap, .slice none 0 0] (by simp [Act.eval]) (by simp [Act.eval]) 103 #[.int .i64 0, .int .i64 0, .int .i64 0, .int .i64 0, .bool false, .string { data := #[] }, .string { data := #[] }, .string { data := #[] }, .string { data := #[] }, .string { data := #[] }, .slice none 0 0, .slice none 0 0] HK.out (by kernel_rfl) (by kernel_rfl) (by kernel_rfl) ?_)
  intro w5 k5 hgr
  have hk50 := Blk.grown' HK0.out hgr (by intro e; injection e with e; omega)
  have HK5 := Lib.hid hk50
  have hB5 : Below w.heap.size w w5 := Below.grown hB2 hgr l2 (by intro q hq; injection hq with hq; omega)
  have l5 := hB5.size
  have c5 := k5.cell
  have l5_0 := k5.lt
  have HN5 := Lib.hid (World.ownsRow.kept HN.out hgr (Or.inr HN1.out))
  clear hgr hk50
  go_wp2_with (refine wpList_storeBlk rfl 103 (.tmp 2) (.tmp 77) rfl rfl (w.heap.size) #[.int .i64 0, .int .i64 10, .int .i64 10, .int .i64 0, .bool false, .string { data := #[67] }, .string { data := #[] }, .string { data := #[] }, .string { data := #[] }, .string { data := #[] }, .slice (some ⟨g, 0, none⟩) 1 cap, .slice none 0 0] (by simp [Act.eval]) (by simp [Act.eval]) 103 #[.int .i64 0, .int .i64 0, .int .i64 0, .int .i64 0, .bool false, .string { data := #[] }, .string { data := #[] }, .string { data := #[] }, .string { data := #[] }, .string { data := #[] }, .slice none 0 0, .slice none 0 0] HK5.out (by kernel_rfl) (by kernel_rfl) (by kernel_rfl) ?_)
  intro w9 k9 hgr
  have hb9 : Below w.heap.size w w9 := Below.grown hB5 hgr l5 (by intro q hq; injection hq with hq; omega)
  have HN9 := Lib.hid (World.ownsRow.kept HN5.out hgr (Or.inr HN0.out))
  clear hgr
  go_wp2_with fail
  have hq : Nums w9 w.heap.size (.slice (some ⟨g, 0, none⟩) 1 cap) [50000] := by
    obtain ⟨h1, h2⟩ := HN9.out
    refine ⟨h1, ?_⟩
    rcases h2 with ⟨h0, _⟩ | ⟨g', cap', cur, he, hb', hh, r1, r2, r3, r4⟩
    · cases h0
    · obtain ⟨rfl, _⟩ : g = g' ∧ cap = cap' := by simpa using he
      exact .inr ⟨g, cap', cur, he, hge2, hh, r1, r2, r3, r4⟩
  refine bodyPost_ret (results_row_tmp Tryz.results94 _ _ w.heap.size #[.int .i64 0, .int .i64 10, .int .i64 10, .int .i64 0, .bool false, .string { data := #[67] }, .string { data := #[] }, .string { data := #[] }, .string { data := #[] }, .string { data := #[] }, .slice (some ⟨g, 0, none⟩) 1 cap, .slice none 0 0] (by rfl) (run_loadVar_row _ _ 103 103 _ (0, 0) _ k9 Tryz.underlying103 rfl (by kernel_rfl))) rfl ⟨_, rfl, hq, hb9⟩
theorem extended_ADD10C_1_27 (w : World) : Calls Tryz.prog 94 #[.string { data := #[65, 68, 68, 49, 48, 67, 44, 49, 46, 50, 55] }] w fun e w' => ∃ v, e = .returned (.tuple #[.agg #[.int .i64 0, .int .i64 10, .int .i64 10, .int .i64 0, .bool false, .string { data := #[67] }, .string { data := #[] }, .string { data := #[] }, .string { data := #[] }, .string { data := #[] }, v, .slice none 0 0], .int .i64 0]) ∧ Nums w' w.heap.size v [1270000] ∧ Below w.heap.size w w' := by
  have h1 : ∀ w, Calls Tryz.prog 194 #[.string { data := #[65, 68, 68, 49, 48, 67, 44, 49, 46, 50, 55] }, .string { data := #[76, 83] }] w fun e w' => e = .returned (.bool false) ∧ w = w' := fun w => hasP_no [65, 68, 68, 49, 48, 67, 44, 49, 46, 50, 55] [76, 83] w (by decide) (by decide) (by decide)
  have h2 : ∀ w, Calls Tryz.prog 147 #[.string { data := #[65, 68, 68, 49, 48, 67, 44, 49, 46, 50, 55] }] w fun e w' => e = .returned (.tuple #[.agg #[.int .i64 0, .int .i64 0, .int .i64 0, .int .i64 0, .bool false, .string { data := #[] }, .string { data := #[] }, .string { data := #[] }, .string { data := #[] }, .string { data := #[] }, .slice none 0 0, .slice none 0 0], .bool false]) ∧ Below w.heap.size w w' := fun w => fixed_ADD10C_1_27 w
  have H1 := Lib.hid h1
  have H2 := Lib.hid h2
  clear h1 h2
  have x1 : ({ data := #[65, 68, 68, 49, 48, 67, 44, 49, 46, 50, 55] } : ByteArray).extract 0 2 = { data := #[65, 68] } := rfl
  have x2 : ({ data := #[65, 68, 68, 49, 48, 67, 44, 49, 46, 50, 55] } : ByteArray).extract 2 11 = { data := #[68, 49, 48, 67, 44, 49, 46, 50, 55] } := rfl
  go_enter Tryz.func94, Tryz.ntmps94
  go_wp2_with (first | (go_at_call 146; go_in) | (go_at_call 194; ((with_reducible refine (H1.out _).mono ?_); rintro e w' ⟨rfl, rfl⟩)))
  refine (H2.out _).mono ?_
  rintro e w1 ⟨rfl, hb⟩
  have hB1 : Below w.heap.size w w1 := Below.trans (by exact blw) (hb.mono (by first | omega | (simp; done) | (simp; omega)))
  have k1_0 : Blk w1 (w.heap.size) 103 #[.int .i64 0, .int .i64 0, .int .i64 0, .int .i64 0, .bool false, .string { data := #[] }, .string { data := #[] }, .string { data := #[] }, .string { data := #[] }, .string { data := #[] }, .slice none 0 0, .slice none 0 0] := Blk.below (by exact bkw) hb (by first | omega | (simp; done) | (simp; omega))
  have c1_0 := k1_0.cell
  have f1_0 := k1_0.frozen
  have l1_0 := k1_0.lt
  have l1 := hB1.size
  clear hb
  go_wp2_with fail
  refine (aperture_127 _).mono ?_
  rintro e w2 ⟨v, rfl, hn, hb⟩
  have hB2 : Below w.heap.size w w2 := Below.trans (by exact blw) (hb.mono (by first | omega | (simp; done) | (simp; omega)))
  have k2_0 : Blk w2 (w.heap.size) 103 #[.int .i64 0, .int .i64 0, .int .i64 0, .int .i64 0, .bool false, .string { data := #[] }, .string { data := #[] }, .string { data := #[] }, .string { data := #[] }, .string { data := #[] }, .slice none 0 0, .slice none 0 0] := Blk.below (by exact bkw) hb (by first | omega | (simp; done) | (simp; omega))
  have k2_1 : Blk w2 (w1.heap.size) 103 #[.int .i64 0, .int .i64 0, .int .i64 0, .int .i64 0, .bool false, .string { data := #[] }, .string { data := #[] }, .string { data := #[] }, .string { data := #[] }, .string { data := #[] }, .slice none 0 0, .slice none 0 0] := Blk.below (by exact bkw) hb (by first | omega | (simp; done) | (simp; omega))
  have c2_0 := k2_0.cell
  have f2_0 := k2_0.frozen
  have l2_0 := k2_0.lt
  have c2_1 := k2_1.cell
  have f2_1 := k2_1.frozen
  have l2_1 := k2_1.lt
  have l2 := hB2.size
  obtain ⟨g, cap, rfl, hge, hgl⟩ := World.ownsRow.form hn (by decide)
  have HN := Lib.hid hn
  have HN0 := Lib.hid (own_blk_ne hn k2_0 (by decide))
  have HN1 := Lib.hid (own_blk_ne hn k2_1 (by decide))
  have hge2 : w.heap.size ≤ g := by (simp at hge; omega)
  clear hn hge
  clear hb k1_0 c1_0 f1_0
  have HK := Lib.hid k2_1
  have HK0 := Lib.hid k2_0
  clear k2_1 k2_0 c2_0 c2_1 f2_0 f2_1
  go_wp2_with (refine wpList_storeBlk rfl 103 (.tmp 4) (.tmp 38) rfl rfl (w1.heap.size) #[.int .i64 0, .int .i64 10, .int .i64 10, .int .i64 0, .bool false, .string { data := #[67] }, .string { data := #[] }, .string { data := #[] }, .string { data := #[] }, .string { data := #[] }, .slice (some ⟨g, 0, none⟩) 1 cap, .slice none 0 0] (by simp [Act.eval]) (by simp [Act.eval]) 103 #[.int .i64 0, .int .i64 0, .int .i64 0, .int .i64 0, .bool false, .string { data := #[] }, .string { data := #[] }, .string { data := #[] }, .string { data := #[] }, .string { data := #[] }, .slice none 0 0, .slice none 0 0] HK.out (by kernel_rfl) (by kernel_rfl) (by kernel_rfl) ?_)
  intro w5 k5 hgr
  have hk50 := Blk.grown' HK0.out hgr (by intro e; injection e with e; omega)
  have HK5 := Lib.hid hk50
  have hB5 : Below w.heap.size w w5 := Below.grown hB2 hgr l2 (by intro q hq; injection hq with hq; omega)
  have l5 := hB5.size
  have c5 := k5.cell
  have l5_0 := k5.lt
  have HN5 := Lib.hid (World.ownsRow.kept HN.out hgr (Or.inr HN1.out))
  clear hgr hk50
  go_wp2_with (refine wpList_storeBlk rfl 103 (.tmp 2) (.tmp 77) rfl rfl (w.heap.size) #[.int .i64 0, .int .i64 10, .int .i64 10, .int .i64 0, .bool false, .string { data := #[67] }, .string { data := #[] }, .string { data := #[] }, .string { data := #[] }, .string { data := #[] }, .slice (some ⟨g, 0, none⟩) 1 cap, .slice none 0 0] (by simp [Act.eval]) (by simp [Act.eval]) 103 #[.int .i64 0, .int .i64 0, .int .i64 0, .int .i64 0, .bool false, .string { data := #[] }, .string { data := #[] }, .string { data := #[] }, .string { data := #[] }, .string { data := #[] }, .slice none 0 0, .slice none 0 0] HK5.out (by kernel_rfl) (by kernel_rfl) (by kernel_rfl) ?_)
  intro w9 k9 hgr
  have hb9 : Below w.heap.size w w9 := Below.grown hB5 hgr l5 (by intro q hq; injection hq with hq; omega)
  have HN9 := Lib.hid (World.ownsRow.kept HN5.out hgr (Or.inr HN0.out))
  clear hgr
  go_wp2_with fail
  have hq : Nums w9 w.heap.size (.slice (some ⟨g, 0, none⟩) 1 cap) [1270000] := by
    obtain ⟨h1, h2⟩ := HN9.out
    refine ⟨h1, ?_⟩
    rcases h2 with ⟨h0, _⟩ | ⟨g', cap', cur, he, hb', hh, r1, r2, r3, r4⟩
    · cases h0
    · obtain ⟨rfl, _⟩ : g = g' ∧ cap = cap' := by simpa using he
      exact .inr ⟨g, cap', cur, he, hge2, hh, r1, r2, r3, r4⟩
  refine bodyPost_ret (results_row_tmp Tryz.results94 _ _ w.heap.size #[.int .i64 0, .int .i64 10, .int .i64 10, .int .i64 0, .bool false, .string { data := #[67] }, .string { data := #[] }, .string { data := #[] }, .string { data := #[] }, .string { data := #[] }, .slice (some ⟨g, 0, none⟩) 1 cap, .slice none 0 0] (by rfl) (run_loadVar_row _ _ 103 103 _ (0, 0) _ k9 Tryz.underlying103 rfl (by kernel_rfl))) rfl ⟨_, rfl, hq, hb9⟩
theorem operation_1 (d1 d2 : List UInt8) (w : World) (hd1 : Digits d1) (hd2 : Digits d2) (a1 : 0 < d1.length) (b1 : d1.length ≤ 12) (a2 : 0 < d2.length) (b2 : d2.length ≤ 12) :
    Calls Tryz.prog 99 #[.string (bs (88 :: (d1 ++ 89 :: (d2 ++ [68, 48, 49]))))] w fun e w' => e = .returned (.tuple #[.agg #[.int .i64 0, .int .i64 7, .int .i64 1, .int .i64 0, .bool false, .string { data := #[] }, .string (bs d1), .string (bs d2), .string { data := #[] }, .string { data := #[] }, .slice none 0 0, .slice none 0 0], .bool true]) ∧ Below w.heap.size w w' := by
  have h1 := fun w => coordinate_yes 88 d1 (89 :: (d2 ++ [68, 48, 49])) w (by simp; omega) hd1 (by intro c h; simp at h; subst h; decide) a1 b1
  have h2 := fun w => coordinate_yes 89 d2 [68, 48, 49] w (by simp; omega) hd2 (by intro c h; simp at h; subst h; decide) a2 b2
  have h3 : ∀ w, Calls Tryz.prog 155 #[.string { data := #[68, 48, 49] }, .string { data := #[73] }] w fun e w' => e = .returned (.tuple #[.string { data := #[] }, .string { data := #[68, 48, 49] }]) ∧ Below w.heap.size w w' := fun w => coordinate_no [68, 48, 49] 73 w (by simp) (by simp)
  have h4 : ∀ w, Calls Tryz.prog 155 #[.string { data := #[68, 48, 49] }, .string { data := #[74] }] w fun e w' => e = .returned (.tuple #[.string { data := #[] }, .string { data := #[68, 48, 49] }]) ∧ Below w.heap.size w w' := fun w => coordinate_no [68, 48, 49] 74 w (by simp) (by simp)
  obtain ⟨S0, e0⟩ : ∃ x, bs (88 :: (d1 ++ 89 :: (d2 ++ [68, 48, 49]))) = x := ⟨_, rfl⟩
  obtain ⟨S1, e1⟩ : ∃ x, bs (89 :: (d2 ++ [68, 48, 49])) = x := ⟨_, rfl⟩
  obtain ⟨X, eX⟩ : ∃ x, bs d1 = x := ⟨_, rfl⟩
  obtain ⟨Y, eY⟩ : ∃ x, bs d2 = x := ⟨_, rfl⟩
  rw [e0, e1, eX] at h1
  rw [e1, eY, show bs [68, 48, 49] = { data := #[68, 48, 49] } from rfl] at h2
  rw [e0, eX, eY]
  have H1 := Lib.hid h1
  have H2 := Lib.hid h2
  have H3 := Lib.hid h3
  have H4 := Lib.hid h4
  clear h1 h2 h3 h4 e0 e1 eX eY hd1 hd2
  go_enter Tryz.func99, Tryz.ntmps99
  go_wp2_with fail
  refine (H1.out _).mono ?_
  rintro e w1 ⟨rfl, hb⟩
  have hB1 : Below w.heap.size w w1 := Below.trans (by exact blw) (hb.mono (by first | omega | (simp; done) | (simp; omega)))
  have k1_0 : Blk w1 (w.heap.size + 1) 103 #[.int .i64 0, .int .i64 7, .int .i64 0, .int .i64 0, .bool false, .string { data := #[] }, .string { data := #[] }, .string { data := #[] }, .string { data := #[] }, .string { data := #[] }, .slice none 0 0, .slice none 0 0] := Blk.below (by exact bkw) hb (by first | omega | (simp; done) | (simp; omega))
  have k1_1 : Blk w1 (w.heap.size) 103 #[.int .i64 0, .int .i64 0, .int .i64 0, .int .i64 0, .bool false, .string { data := #[] }, .string { data := #[] }, .string { data := #[] }, .string { data := #[] }, .string { data := #[] }, .slice none 0 0, .slice none 0 0] := Blk.below (by exact bkw) hb (by first | omega | (simp; done) | (simp; omega))
  have c1_0 := k1_0.cell
  have f1_0 := k1_0.frozen
  have l1_0 := k1_0.lt
  have c1_1 := k1_1.cell
  have f1_1 := k1_1.frozen
  have l1_1 := k1_1.lt
  have l1 := hB1.size
  clear hb
  go_wp2_with fail
  refine (H2.out _).mono ?_
  rintro e w2 ⟨rfl, hb⟩
  have hB2 : Below w.heap.size w w2 := Below.trans (by exact blw) (hb.mono (by first | omega | (simp; done) | (simp; omega)))
  have k2_0 : Blk w2 (w.heap.size + 1) 103 #[.int .i64 0, .int .i64 7, .int .i64 0, .int .i64 0, .bool false, .string { data := #[] }, .string X, .string { data := #[] }, .string { data := #[] }, .string { data := #[] }, .slice none 0 0, .slice none 0 0] := Blk.below (by exact bkw) hb (by first | omega | (simp; done) | (simp; omega))
  have k2_1 : Blk w2 (w.heap.size) 103 #[.int .i64 0, .int .i64 0, .int .i64 0, .int .i64 0, .bool false, .string { data := #[] }, .string { data := #[] }, .string { data := #[] }, .string { data := #[] }, .string { data := #[] }, .slice none 0 0, .slice none 0 0] := Blk.below (by exact bkw) hb (by first | omega | (simp; done) | (simp; omega))
  have c2_0 := k2_0.cell
  have f2_0 := k2_0.frozen
  have l2_0 := k2_0.lt
  have c2_1 := k2_1.cell
  have f2_1 := k2_1.frozen
  have l2_1 := k2_1.lt
  have l2 := hB2.size
  clear hb k1_0 k1_1 c1_0 c1_1 f1_0 f1_1
  go_wp2_with fail
  refine (H3.out _).mono ?_
  rintro e w3 ⟨rfl, hb⟩
  have hB3 : Below w.heap.size w w3 := Below.trans (by exact blw) (hb.mono (by first | omega | (simp; done) | (simp; omega)))
  have k3_0 : Blk w3 (w.heap.size + 1) 103 #[.int .i64 0, .int .i64 7, .int .i64 0, .int .i64 0, .bool false, .string { data := #[] }, .string X, .string Y, .string { data := #[] }, .string { data := #[] }, .slice none 0 0, .slice none 0 0] := Blk.below (by exact bkw) hb (by first | omega | (simp; done) | (simp; omega))
  have k3_1 : Blk w3 (w.heap.size) 103 #[.int .i64 0, .int .i64 0, .int .i64 0, .int .i64 0, .bool false, .string { data := #[] }, .string { data := #[] }, .string { data := #[] }, .string { data := #[] }, .string { data := #[] }, .slice none 0 0, .slice none 0 0] := Blk.below (by exact bkw) hb (by first | omega | (simp; done) | (simp; omega))
  have c3_0 := k3_0.cell
  have f3_0 := k3_0.frozen
  have l3_0 := k3_0.lt
  have c3_1 := k3_1.cell
  have f3_1 := k3_1.frozen
  have l3_1 := k3_1.lt
  have l3 := hB3.size
  clear hb k2_0 k2_1 c2_0 c2_1 f2_0 f2_1
  go_wp2_with fail
  refine (H4.out _).mono ?_
  rintro e w4 ⟨rfl, hb⟩
  have hB4 : Below w.heap.size w w4 := Below.trans (by exact blw) (hb.mono (by first | omega | (simp; done) | (simp; omega)))
  have k4_0 : Blk w4 (w.heap.size + 1) 103 #[.int .i64 0, .int .i64 7, .int .i64 0, .int .i64 0, .bool false, .string { data := #[] }, .string X, .string Y, .string { data := #[] }, .string { data := #[] }, .slice none 0 0, .slice none 0 0] := Blk.below (by exact bkw) hb (by first | omega | (simp; done) | (simp; omega))
  have k4_1 : Blk w4 (w.heap.size) 103 #[.int .i64 0, .int .i64 0, .int .i64 0, .int .i64 0, .bool false, .string { data := #[] }, .string { data := #[] }, .string { data := #[] }, .string { data := #[] }, .string { data := #[] }, .slice none 0 0, .slice none 0 0] := Blk.below (by exact bkw) hb (by first | omega | (simp; done) | (simp; omega))
  have c4_0 := k4_0.cell
  have f4_0 := k4_0.frozen
  have l4_0 := k4_0.lt
  have c4_1 := k4_1.cell
  have f4_1 := k4_1.frozen
  have l4_1 := k4_1.lt
  have l4 := hB4.size
  clear hb k3_0 k3_1 c3_0 c3_1 f3_0 f3_1
  go_wp2_with fail
  go_region
  go_wp2_with fail
  refine bodyPost_ret (results_row_tmp Tryz.results99 _ _ w.heap.size #[.int .i64 0, .int .i64 7, .int .i64 1, .int .i64 0, .bool false, .string { data := #[] }, .string X, .string Y, .string { data := #[] }, .string { data := #[] }, .slice none 0 0, .slice none 0 0] (by rfl) (run_loadVar_row _ _ 103 103 _ (0, 0) _ ?_ Tryz.underlying103 rfl (by kernel_rfl))) rfl ⟨rfl, ?_⟩
  · unfold Blk at k4_1
    simp [heap_drew, World.setCell, Array.getElem?_modify, k4_1]
  · exact blw
theorem plain_op1 (d1 d2 : List UInt8) (w : World) (hd1 : Digits d1) (hd2 : Digits d2) (a1 : 0 < d1.length) (b1 : d1.length ≤ 12) (a2 : 0 < d2.length) (b2 : d2.length ≤ 12) :
    Calls Tryz.prog 62 #[.string (bs (88 :: (d1 ++ 89 :: (d2 ++ [68, 48, 49]))))] w fun e w' => ∃ v, e = .returned (.tuple #[v, .int .i64 0]) ∧ Cmds w' w.heap.size v [[.int .i64 0, .int .i64 7, .int .i64 1, .int .i64 0, .bool false, .string { data := #[] }, .string (bs d1), .string (bs d2), .string { data := #[] }, .string { data := #[] }, .slice none 0 0, .slice none 0 0]] ∧ Below w.heap.size w w' := by
  have hlen : (88 :: (d1 ++ 89 :: (d2 ++ [68, 48, 49]))).length ≤ 1000000 := by simp; omega
  have n0 : ((bs (88 :: (d1 ++ 89 :: (d2 ++ [68, 48, 49])))).toList == [71, 51, 54]) = false := by rw [bs_toList, beq_eq_false_iff_ne]; intro e; injection e with e1 e2; exact absurd e1 (by decide)
  have n1 : ((bs (88 :: (d1 ++ 89 :: (d2 ++ [68, 48, 49])))).toList == [71, 51, 55]) = false := by rw [bs_toList, beq_eq_false_iff_ne]; intro e; injection e with e1 e2; exact absurd e1 (by decide)
  have n2 : ((bs (88 :: (d1 ++ 89 :: (d2 ++ [68, 48, 49])))).toList == [71, 55, 52]) = false := by rw [bs_toList, beq_eq_false_iff_ne]; intro e; injection e with e1 e2; exact absurd e1 (by decide)
  have n3 : ((bs (88 :: (d1 ++ 89 :: (d2 ++ [68, 48, 49])))).toList == [71, 55, 53]) = false := by rw [bs_toList, beq_eq_false_iff_ne]; intro e; injection e with e1 e2; exact absurd e1 (by decide)
  have n4 : ((bs (88 :: (d1 ++ 89 :: (d2 ++ [68, 48, 49])))).toList == [77, 48, 50]) = false := by rw [bs_toList, beq_eq_false_iff_ne]; intro e; injection e with e1 e2; exact absurd e1 (by decide)
  have h1 : ∀ w, Calls Tryz.prog 93 #[.string (bs (88 :: (d1 ++ 89 :: (d2 ++ [68, 48, 49])))), .string { data := #[71, 48, 52] }] w fun e w' => e = .returned (.tuple #[.string (bs (88 :: (d1 ++ 89 :: (d2 ++ [68, 48, 49])))), .bool false]) ∧ w = w' := fun w => cutP_no _ [71, 48, 52] w hlen (by decide) (by intro e; injection e with e1 e2; exact absurd e1 (by decide))
  have h2 : ∀ w, Calls Tryz.prog 93 #[.string (bs (88 :: (d1 ++ 89 :: (d2 ++ [68, 48, 49])))), .string { data := #[71, 48, 49] }] w fun e w' => e = .returned (.tuple #[.string (bs (88 :: (d1 ++ 89 :: (d2 ++ [68, 48, 49])))), .bool false]) ∧ w = w' := fun w => cutP_no _ [71, 48, 49] w hlen (by decide) (by intro e; injection e with e1 e2; exact absurd e1 (by decide))
  have h3 : ∀ w, Calls Tryz.prog 93 #[.string (bs (88 :: (d1 ++ 89 :: (d2 ++ [68, 48, 49])))), .string { data := #[71, 48, 50] }] w fun e w' => e = .returned (.tuple #[.string (bs (88 :: (d1 ++ 89 :: (d2 ++ [68, 48, 49])))), .bool false]) ∧ w = w' := fun w => cutP_no _ [71, 48, 50] w hlen (by decide) (by intro e; injection e with e1 e2; exact absurd e1 (by decide))
  have h4 : ∀ w, Calls Tryz.prog 93 #[.string (bs (88 :: (d1 ++ 89 :: (d2 ++ [68, 48, 49])))), .string { data := #[71, 48, 51] }] w fun e w' => e = .returned (.tuple #[.string (bs (88 :: (d1 ++ 89 :: (d2 ++ [68, 48, 49])))), .bool false]) ∧ w = w' := fun w => cutP_no _ [71, 48, 51] w hlen (by decide) (by intro e; injection e with e1 e2; exact absurd e1 (by decide))
  have h5 : ∀ w, Calls Tryz.prog 93 #[.string (bs (88 :: (d1 ++ 89 :: (d2 ++ [68, 48, 49])))), .string { data := #[68] }] w fun e w' => e = .returned (.tuple #[.string (bs (88 :: (d1 ++ 89 :: (d2 ++ [68, 48, 49])))), .bool false]) ∧ w = w' := fun w => cutP_no _ [68] w hlen (by decide) (by intro e; injection e with e1 e2; exact absurd e1 (by decide))
  have h6 := fun w => operation_1 d1 d2 w hd1 hd2 a1 b1 a2 b2
  obtain ⟨T, eT⟩ : ∃ x, bs (88 :: (d1 ++ 89 :: (d2 ++ [68, 48, 49]))) = x := ⟨_, rfl⟩
  obtain ⟨X, eX⟩ : ∃ x, bs d1 = x := ⟨_, rfl⟩
  obtain ⟨Y, eY⟩ : ∃ x, bs d2 = x := ⟨_, rfl⟩
  rw [eT] at n0 n1 n2 n3 n4 h1 h2 h3 h4 h5
  rw [eT, eX, eY] at h6
  rw [eT, eX, eY]
  have H1 := Lib.hid h1
  have H2 := Lib.hid h2
  have H3 := Lib.hid h3
  have H4 := Lib.hid h4
  have H5 := Lib.hid h5
  have H6 := Lib.hid h6
  obtain ⟨i40, hi40, hz0, hz1, hz2⟩ := info_parts info40
  have HI := Lib.hid (And.intro hi40 (And.intro hz0 (And.intro hz1 hz2)))
  have hZ : Hid ((Value.agg #[.int .i64 0, .int .i64 0, .int .i64 0, .int .i64 0, .bool false, .string { data := #[] }, .string { data := #[] }, .string { data := #[] }, .string { data := #[] }, .string { data := #[] }, .slice none 0 0, .slice none 0 0]).cells.size = 12) := Lib.hid (by kernel_rfl)
  clear h1 h2 h3 h4 h5 h6 hi40 hz0 hz1 hz2 eT eX eY hlen hd1 hd2 a1 b1 a2 b2
  go_enter Tryz.func62, Tryz.ntmps62
  go_wp2_with (go_at_call 93; ((with_reducible refine (H1.out _).mono ?_); rintro e w' ⟨rfl, rfl⟩))
  refine wp_loop_rounds 4 ?_
  rw [rounds_succ]
  go_wp2_with (go_at_call 93; ((with_reducible refine (H2.out _).mono ?_); rintro e w' ⟨rfl, rfl⟩))
  rw [rounds_succ]
  go_wp2_with (go_at_call 93; ((with_reducible refine (H3.out _).mono ?_); rintro e w' ⟨rfl, rfl⟩))
  rw [rounds_succ]
  go_wp2_with (go_at_call 93; ((with_reducible refine (H4.out _).mono ?_); rintro e w' ⟨rfl, rfl⟩))
  rw [rounds_succ]
  go_wp2_with (go_at_call 93; ((with_reducible refine (H5.out _).mono ?_); rintro e w' ⟨rfl, rfl⟩))
  refine (H6.out _).mono ?_
  rintro e w1 ⟨rfl, hb⟩
  have hB1 : Below w.heap.size w w1 := Below.trans (by exact blw) (hb.mono (by first | omega | (simp; done) | (simp; omega)))
  have l1 := hB1.size
  clear hb
  have hs : ∀ o, w.heap.size ≤ ((w1.alloc (.cells #[.int .i64 0, .int .i64 7, .int .i64 1, .int .i64 0, .bool false, .string { data := #[] }, .string X, .string Y, .string { data := #[] }, .string { data := #[] }, .slice none 0 0, .slice none 0 0] 103)).alloc o).heap.size := fun o => Nat.le_trans l1 (by simp; try omega)
  have hN : ∀ j u, ([.int .i64 0, .int .i64 7, .int .i64 1, .int .i64 0, .bool false, .string { data := #[] }, .string X, .string Y, .string { data := #[] }, .string { data := #[] }, .slice none 0 0, .slice none 0 0] : List Value)[j]? = some u → ((w1.alloc (.cells #[.int .i64 0, .int .i64 7, .int .i64 1, .int .i64 0, .bool false, .string { data := #[] }, .string X, .string Y, .string { data := #[] }, .string { data := #[] }, .slice none 0 0, .slice none 0 0] 103)).alloc (.cells #[.int .i64 0, .int .i64 7, .int .i64 1, .int .i64 0, .bool false, .string { data := #[] }, .string X, .string Y, .string { data := #[] }, .string { data := #[] }, .slice none 0 0, .slice none 0 0] 103)).cell? ((⟨(w1.alloc (.cells #[.int .i64 0, .int .i64 7, .int .i64 1, .int .i64 0, .bool false, .string { data := #[] }, .string X, .string Y, .string { data := #[] }, .string { data := #[] }, .slice none 0 0, .slice none 0 0] 103)).heap.size, 0, none⟩ : Addr).add j) = some u :=
    World.news_of_block (cs := #[.int .i64 0, .int .i64 7, .int .i64 1, .int .i64 0, .bool false, .string { data := #[] }, .string X, .string Y, .string { data := #[] }, .string { data := #[] }, .slice none 0 0, .slice none 0 0]) (Blk.newAt (w := (w1.alloc (.cells #[.int .i64 0, .int .i64 7, .int .i64 1, .int .i64 0, .bool false, .string { data := #[] }, .string X, .string Y, .string { data := #[] }, .string { data := #[] }, .slice none 0 0, .slice none 0 0] 103))) rfl)
  have hO : ∀ u ∈ ([.int .i64 0, .int .i64 7, .int .i64 1, .int .i64 0, .bool false, .string { data := #[] }, .string X, .string Y, .string { data := #[] }, .string { data := #[] }, .slice none 0 0, .slice none 0 0] : List Value), u.oneCell' = true := by
    intro u hu
    simp only [List.mem_cons, List.not_mem_nil, or_false] at hu
    rcases hu with rfl | rfl | rfl | rfl | rfl | rfl | rfl | rfl | rfl | rfl | rfl | rfl <;> rfl
  have HS := Lib.hid hs
  have HN := Lib.hid hN
  have HO := Lib.hid hO
  have hBW : Below w.heap.size w ((w1.alloc (.cells #[.int .i64 0, .int .i64 7, .int .i64 1, .int .i64 0, .bool false, .string { data := #[] }, .string X, .string Y, .string { data := #[] }, .string { data := #[] }, .slice none 0 0, .slice none 0 0] 103)).alloc (.cells #[.int .i64 0, .int .i64 7, .int .i64 1, .int .i64 0, .bool false, .string { data := #[] }, .string X, .string Y, .string { data := #[] }, .string { data := #[] }, .slice none 0 0, .slice none 0 0] 103)) := by exact blw
  have HBW := Lib.hid hBW
  clear hs hN hO hBW
  go_wp2_with (at_builtin; refine wpList_append_lies _ rfl (.tmp 106) (.tmp 108) 97 rfl w.heap.size 103 i40 _ 12 168 Tryz.underlying97 HI.out.1 HI.out.2.1 HI.out.2.2.1 HI.out.2.2.2 hZ.out (by decide) (.slice none 0 0) 0 [] (by simp [Act.eval]) (World.ownsRow_nil _ _ _ _) ⟨(w1.alloc (.cells #[.int .i64 0, .int .i64 7, .int .i64 1, .int .i64 0, .bool false, .string { data := #[] }, .string X, .string Y, .string { data := #[] }, .string { data := #[] }, .slice none 0 0, .slice none 0 0] 103)).heap.size, 0, none⟩ 1 1 [.int .i64 0, .int .i64 7, .int .i64 1, .int .i64 0, .bool false, .string { data := #[] }, .string X, .string Y, .string { data := #[] }, .string { data := #[] }, .slice none 0 0, .slice none 0 0] (by simp [Act.eval]) rfl HN.out HO.out (by decide) (by decide) (by decide) (HS.out _) _ rfl ?_)
  intro g cap w3 hown hgrow hat hlt
  have hB3 : Below w.heap.size w w3 := Below.grown HBW.out hgrow (HS.out _) (by simp [Value.ownBlock])
  have HQ := Lib.hid hown
  clear hown hgrow hat
  go_wp2_with fail
  go_ret2
  refine ⟨_, rfl, ⟨by simp, ?_⟩, hB3⟩
  exact HQ.out
end Go.Proofs.YtfajckkbinbpiaaGreatDoor
