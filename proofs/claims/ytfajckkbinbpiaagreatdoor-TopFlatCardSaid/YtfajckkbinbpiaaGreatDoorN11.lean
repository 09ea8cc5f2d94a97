/- Walks: the command of a group that is a step. Walks: words outside of groups. -/
import Derived.Test.YtfajckkbinbpiaaGreatDoorN10
namespace Go.Proofs.YtfajckkbinbpiaaGreatDoor
set_option maxRecDepth 100000
set_option maxHeartbeats 32000000
set_option linter.unusedVariables false
set_option linter.unusedSimpArgs false
open Go.RowKit
theorem fixed_step (n m x y : UInt8) (w : World) : Calls Tryz.prog 147 #[.string { data := #[83, 82, 88, n, 89, m, 73, x, 74, y] }] w fun e w' => e = .returned (.tuple #[.agg #[.int .i64 0, .int .i64 0, .int .i64 0, .int .i64 0, .bool false, .string { data := #[] }, .string { data := #[] }, .string { data := #[] }, .string { data := #[] }, .string { data := #[] }, .slice none 0 0, .slice none 0 0], .bool false]) ∧ Below w.heap.size w w' := by
  go_enter Tryz.func147, Tryz.ntmps147
  go_wp2
  refine bodyPost_ret (results_row_tmp Tryz.results147 _ _ w.heap.size #[.int .i64 0, .int .i64 0, .int .i64 0, .int .i64 0, .bool false, .string { data := #[] }, .string { data := #[] }, .string { data := #[] }, .string { data := #[] }, .string { data := #[] }, .slice none 0 0, .slice none 0 0] (by rfl) (run_loadVar_row _ _ 103 103 _ (0, 0) _ ?_ Tryz.underlying103 rfl (by kernel_rfl))) rfl ⟨rfl, ?_⟩
  · exact Blk.new _ _ _
  · exact blw
theorem extended_step (n m x y : UInt8) (w : World) (dn : Dig n) (dm : Dig m) (dx : Dig x) (dy : Dig y) : Calls Tryz.prog 94 #[.string { data := #[83, 82, 88, n, 89, m, 73, x, 74, y] }] w fun e w' => ∃ v, e = .returned (.tuple #[.agg #[.int .i64 0, .int .i64 13, .int .i64 ((n.toNat - 48 : Nat) : Int), .int .i64 ((m.toNat - 48 : Nat) : Int), .bool false, .string { data := #[] }, .string { data := #[] }, .string { data := #[] }, .string { data := #[] }, .string { data := #[] }, v, .slice none 0 0], .int .i64 0]) ∧ Nums w' w.heap.size v [(((x.toNat - 48) * 1000000 : Nat) : Int), (((y.toNat - 48) * 1000000 : Nat) : Int)] ∧ Below w.heap.size w w' := by
  have h1 : ∀ w, Calls Tryz.prog 194 #[.string { data := #[83, 82, 88, n, 89, m, 73, x, 74, y] }, .string { data := #[76, 83] }] w fun e w' => e = .returned (.bool false) ∧ w = w' := fun w => hasP_no [83, 82, 88, n, 89, m, 73, x, 74, y] [76, 83] w (by simp) (by decide) (by simp)
  have h2 := fun w => fixed_step n m x y w
  have h3 := fun w => step_c n m x y w dn dm dx dy
  obtain ⟨N, eN⟩ : ∃ N : Int, ((n.toNat - 48 : Nat) : Int) = N := ⟨_, rfl⟩
  obtain ⟨M, eM⟩ : ∃ N : Int, ((m.toNat - 48 : Nat) : Int) = N := ⟨_, rfl⟩
  obtain ⟨P, eP⟩ : ∃ N : Int, (((x.toNat - 48) * 1000000 : Nat) : Int) = N := ⟨_, rfl⟩
  obtain ⟨Q, eQ⟩ : ∃ N : Int, (((y.toNat - 48) * 1000000 : Nat) : Int) = N := ⟨_, rfl⟩
  rw [eN, eM, eP, eQ] at h3
  rw [eN, eM, eP, eQ]
  obtain ⟨T, eT, zT, xT, xU⟩ : ∃ T : ByteArray, { data := #[83, 82, 88, n, 89, m, 73, x, 74, y] } = T ∧ T.size = 10 ∧ T.extract 0 2 = { data := #[83, 82] } ∧ T.extract 2 10 = { data := #[88, n, 89, m, 73, x, 74, y] } := ⟨_, rfl, rfl, rfl, rfl⟩
  rw [eT] at h1 h2 ⊢
  have H1 := Lib.hid h1
  have H2 := Lib.hid h2
  have H3 := Lib.hid h3
  clear h1 h2 h3 eT eN eM eP eQ dn dm dx dy
  go_enter Tryz.func94, Tryz.ntmps94
  go_wp2_with (first | (go_at_call 146; go_in) | (go_at_call 194; ((with_reducible refine (H1.out _).mono ?_); rintro e w' ⟨rfl, rfl⟩)))
  refine (H2.out _).mono ?_
  rintro e w1 ⟨rfl, hb⟩
  have hB1 : Below w.heap.size w w1 := Below.trans (by exact blw) (hb.mono (by first | omega | (simp; done) | (simp; omega)))
  have k1_0 : Blk w1 (w.heap.size) 103 #[.int .i64 0, .int .i64 0, .int .i64 0, .int .i64 0, .bool false, .string { data := #[] }, .string { data := #[] }, .string { data := #[] }, .string { data := #[] }, .string { data := #[] }, .slice none 0 0, .slice none 0 0] := Blk.below (by exact bkw) hb (by first | omega | (simp; done) | (simp; omega))
  have c1_0 := k1_0.cell
  have f1_0 := k1_0.frozen
  have l1_0 := k1_0.lt
  have l1 := hB1.size
  clear hb
  go_wp2_with fail
  refine (H3.out _).mono ?_
  rintro e w2 ⟨v, rfl, hn, hb⟩
  have hB2 : Below w.heap.size w w2 := Below.trans (by exact blw) (hb.mono (by first | omega | (simp; done) | (simp; omega)))
  have k2_0 : Blk w2 (w.heap.size) 103 #[.int .i64 0, .int .i64 0, .int .i64 0, .int .i64 0, .bool false, .string { data := #[] }, .string { data := #[] }, .string { data := #[] }, .string { data := #[] }, .string { data := #[] }, .slice none 0 0, .slice none 0 0] := Blk.below (by exact bkw) hb (by first | omega | (simp; done) | (simp; omega))
  have k2_1 : Blk w2 (w1.heap.size) 103 #[.int .i64 0, .int .i64 0, .int .i64 0, .int .i64 0, .bool false, .string { data := #[] }, .string { data := #[] }, .string { data := #[] }, .string { data := #[] }, .string { data := #[] }, .slice none 0 0, .slice none 0 0] := Blk.below (by exact bkw) hb (by first | omega | (simp; done) | (simp; omega))
  have c2_0 := k2_0.cell
  have f2_0 := k2_0.frozen
  have l2_0 := k2_0.lt
  have c2_1 := k2_1.cell
  have f2_1 := k2_1.frozen
  have l2_1 := k2_1.lt
  have l2 := hB2.size
  obtain ⟨g, cap, rfl, hge, hgl⟩ := World.ownsRow.form hn (by simp)
  have HN := Lib.hid hn
  have HN0 := Lib.hid (own_blk_ne hn k2_0 (by decide))
  have HN1 := Lib.hid (own_blk_ne hn k2_1 (by decide))
  have hge2 : w.heap.size ≤ g := by (simp at hge; omega)
  clear hn hge
  clear hb k1_0 c1_0 f1_0
  have HK := Lib.hid k2_1
  have HK0 := Lib.hid k2_0
  clear k2_1 k2_0 c2_0 c2_1 f2_0 f2_1
  go_wp2_with (refine wpList_storeBlk rfl 103 (.tmp 4) (.tmp 54) rfl rfl (w1.heap.size) #[.int .i64 0, .int .i64 13, .int .i64 N, .int .i64 M, .bool false, .string { data := #[] }, .string { data := #[] }, .string { data := #[] }, .string { data := #[] }, .string { data := #[] }, .slice (some ⟨g, 0, none⟩) 2 cap, .slice none 0 0] (by simp [Act.eval]) (by simp [Act.eval]) 103 #[.int .i64 0, .int .i64 0, .int .i64 0, .int .i64 0, .bool false, .string { data := #[] }, .string { data := #[] }, .string { data := #[] }, .string { data := #[] }, .string { data := #[] }, .slice none 0 0, .slice none 0 0] HK.out (by kernel_rfl) (by kernel_rfl) (by kernel_rfl) ?_)
  intro w5 k5 hgr
  have hk50 := Blk.grown' HK0.out hgr (by intro e; injection e with e; omega)
  have HK5 := Lib.hid hk50
  have hB5 : Below w.heap.size w w5 := Below.grown hB2 hgr l2 (by intro q hq; injection hq with hq; omega)
  have l5 := hB5.size
  have c5 := k5.cell
  have l5_0 := k5.lt
  have HN5 := Lib.hid (World.ownsRow.kept HN.out hgr (Or.inr HN1.out))
  clear hgr hk50
  go_wp2_with (refine wpList_storeBlk rfl 103 (.tmp 2) (.tmp 77) rfl rfl (w.heap.size) #[.int .i64 0, .int .i64 13, .int .i64 N, .int .i64 M, .bool false, .string { data := #[] }, .string { data := #[] }, .string { data := #[] }, .string { data := #[] }, .string { data := #[] }, .slice (some ⟨g, 0, none⟩) 2 cap, .slice none 0 0] (by simp [Act.eval]) (by simp [Act.eval]) 103 #[.int .i64 0, .int .i64 0, .int .i64 0, .int .i64 0, .bool false, .string { data := #[] }, .string { data := #[] }, .string { data := #[] }, .string { data := #[] }, .string { data := #[] }, .slice none 0 0, .slice none 0 0] HK5.out (by kernel_rfl) (by kernel_rfl) (by kernel_rfl) ?_)
  intro w9 k9 hgr
  have hb9 : Below w.heap.size w w9 := Below.grown hB5 hgr l5 (by intro q hq; injection hq with hq; omega)
  have HN9 := Lib.hid (World.ownsRow.kept HN5.out hgr (Or.inr HN0.out))
  clear hgr
  go_wp2_with fail
  have hq : Nums w9 w.heap.size (.slice (some ⟨g, 0, none⟩) 2 cap) [P, Q] := by
    obtain ⟨h1, h2⟩ := HN9.out
    refine ⟨h1, ?_⟩
    rcases h2 with ⟨h0, _⟩ | ⟨g', cap', cur, he, hb', hh, r1, r2, r3, r4⟩
    · cases h0
    · obtain ⟨rfl, _⟩ : g = g' ∧ cap = cap' := by simpa using he
      exact .inr ⟨g, cap', cur, he, hge2, hh, r1, r2, r3, r4⟩
  refine bodyPost_ret (results_row_tmp Tryz.results94 _ _ w.heap.size #[.int .i64 0, .int .i64 13, .int .i64 N, .int .i64 M, .bool false, .string { data := #[] }, .string { data := #[] }, .string { data := #[] }, .string { data := #[] }, .string { data := #[] }, .slice (some ⟨g, 0, none⟩) 2 cap, .slice none 0 0] (by rfl) (run_loadVar_row _ _ 103 103 _ (0, 0) _ k9 Tryz.underlying103 rfl (by kernel_rfl))) rfl ⟨_, rfl, hq, hb9⟩
def Cmds (w : World) (B : Nat) (v : Value) (l : List (List Value)) : Prop := (∀ c ∈ l, c.length = 12) ∧ w.ownsRow B 103 12 v l.length l.flatten
theorem one_c (c0 c1 c2 c3 c4 c5 c6 c7 c8 c9 c10 c11 : Value) (w : World) : Calls Tryz.prog 97 #[.agg #[c0, c1, c2, c3, c4, c5, c6, c7, c8, c9, c10, c11]] w fun e w' => ∃ v, e = .returned (.tuple #[v, .int .i64 0]) ∧ Cmds w' w.heap.size v [[c0, c1, c2, c3, c4, c5, c6, c7, c8, c9, c10, c11]] ∧ Below w.heap.size w w' := by
  go_enter Tryz.func97, Tryz.ntmps97
  go_wp2_with fail
  go_ret2
  refine ⟨_, rfl, ⟨by simp, ?_⟩, by exact blw⟩
  exact own_of_blk (g := w.heap.size + 1) (t := 103) (size := 12) (n := 1) (cs := #[c0, c1, c2, c3, c4, c5, c6, c7, c8, c9, c10, c11]) (by exact bkw) (by decide) rfl (by omega)
theorem plain_M02 (w : World) : Calls Tryz.prog 62 #[.string { data := #[77, 48, 50] }] w fun e w' => ∃ v, e = .returned (.tuple #[v, .int .i64 0]) ∧ Cmds w' w.heap.size v [[.int .i64 0, .int .i64 5, .int .i64 0, .int .i64 0, .bool false, .string { data := #[] }, .string { data := #[] }, .string { data := #[] }, .string { data := #[] }, .string { data := #[] }, .slice none 0 0, .slice none 0 0]] ∧ Below w.heap.size w w' := by
  go_enter Tryz.func62, Tryz.ntmps62
  go_wp2_with fail
  refine (one_c _ _ _ _ _ _ _ _ _ _ _ _ _).mono ?_
  rintro e w1 ⟨v, rfl, hn, hb⟩
  have hB : Below w.heap.size w w1 := Below.trans (by exact blw) (hb.mono (by first | omega | (simp; done) | (simp; omega)))
  have hq : Cmds w1 w.heap.size v [[.int .i64 0, .int .i64 5, .int .i64 0, .int .i64 0, .bool false, .string { data := #[] }, .string { data := #[] }, .string { data := #[] }, .string { data := #[] }, .string { data := #[] }, .slice none 0 0, .slice none 0 0]] := by
    refine ⟨hn.1, hn.2.1, ?_⟩
    rcases hn.2.2 with ⟨h0, h1⟩ | ⟨g', cap', cur, he, hb', hh, r1, r2, r3, r4⟩
    · exact absurd h1 (by simp)
    · exact .inr ⟨g', cap', cur, he, Nat.le_trans (by first | omega | (simp; done) | (simp; omega)) hb', hh, r1, r2, r3, r4⟩
  have HQ := Lib.hid hq
  clear hn hb hq
  go_wp2_with fail
  go_ret2
  exact ⟨_, rfl, HQ.out, hB⟩
theorem plain_D10 (w : World) : Calls Tryz.prog 62 #[.string { data := #[68, 49, 48] }] w fun e w' => ∃ v, e = .returned (.tuple #[v, .int .i64 0]) ∧ Cmds w' w.heap.size v [[.int .i64 0, .int .i64 6, .int .i64 10, .int .i64 0, .bool false, .string { data := #[] }, .string { data := #[] }, .string { data := #[] }, .string { data := #[] }, .string { data := #[] }, .slice none 0 0, .slice none 0 0]] ∧ Below w.heap.size w w' := by
  have h1 : ∀ w, Calls Tryz.prog 93 #[.string { data := #[68, 49, 48] }, .string { data := #[71, 48, 52] }] w fun e w' => e = .returned (.tuple #[.string { data := #[68, 49, 48] }, .bool false]) ∧ w = w' := fun w => cutP_no [68, 49, 48] [71, 48, 52] w (by decide) (by decide) (by decide)
  have h2 : ∀ w, Calls Tryz.prog 93 #[.string { data := #[68, 49, 48] }, .string { data := #[71, 48, 49] }] w fun e w' => e = .returned (.tuple #[.string { data := #[68, 49, 48] }, .bool false]) ∧ w = w' := fun w => cutP_no [68, 49, 48] [71, 48, 49] w (by decide) (by decide) (by decide)
  have h3 : ∀ w, Calls Tryz.prog 93 #[.string { data := #[68, 49, 48] }, .string { data := #[71, 48, 50] }] w fun e w' => e = .returned (.tuple #[.string { data := #[68, 49, 48] }, .bool false]) ∧ w = w' := fun w => cutP_no [68, 49, 48] [71, 48, 50] w (by decide) (by decide) (by decide)
  have h4 : ∀ w, Calls Tryz.prog 93 #[.string { data := #[68, 49, 48] }, .string { data := #[71, 48, 51] }] w fun e w' => e = .returned (.tuple #[.string { data := #[68, 49, 48] }, .bool false]) ∧ w = w' := fun w => cutP_no [68, 49, 48] [71, 48, 51] w (by decide) (by decide) (by decide)
  have h5 : ∀ w, Calls Tryz.prog 93 #[.string { data := #[68, 49, 48] }, .string { data := #[68] }] w fun e w' => e = .returned (.tuple #[.string { data := #[49, 48] }, .bool true]) ∧ w = w' := fun w => cutP_yes [68] [49, 48] w (by decide)
  have h6 : ∀ w, Calls Tryz.prog 98 #[.string { data := #[49, 48] }] w fun e w' => e = .returned (.tuple #[.int .i64 10, .bool true]) ∧ w = w' := fun w => code_c [49, 48] w (by decide) (by decide) (by intro c h; simp at h; rcases h with rfl | rfl <;> decide) (by decide)
  have H1 := Lib.hid h1
  have H2 := Lib.hid h2
  have H3 := Lib.hid h3
  have H4 := Lib.hid h4
  have H5 := Lib.hid h5
  have H6 := Lib.hid h6
  clear h1 h2 h3 h4 h5 h6
  go_enter Tryz.func62, Tryz.ntmps62
  go_wp2_with (go_at_call 93; ((with_reducible refine (H1.out _).mono ?_); rintro e w' ⟨rfl, rfl⟩))
  refine wp_loop_rounds 4 ?_
  rw [rounds_succ]
  go_wp2_with (go_at_call 93; ((with_reducible refine (H2.out _).mono ?_); rintro e w' ⟨rfl, rfl⟩))
  rw [rounds_succ]
  go_wp2_with (go_at_call 93; ((with_reducible refine (H3.out _).mono ?_); rintro e w' ⟨rfl, rfl⟩))
  rw [rounds_succ]
  go_wp2_with (go_at_call 93; ((with_reducible refine (H4.out _).mono ?_); rintro e w' ⟨rfl, rfl⟩))
  rw [rounds_succ]
  go_wp2_with (first | (go_at_call 93; ((with_reducible refine (H5.out _).mono ?_); rintro e w' ⟨rfl, rfl⟩)) | (go_at_call 98; ((with_reducible refine (H6.out _).mono ?_); rintro e w' ⟨rfl, rfl⟩)))
  refine (one_c _ _ _ _ _ _ _ _ _ _ _ _ _).mono ?_
  rintro e w1 ⟨v, rfl, hn, hb⟩
  have hB : Below w.heap.size w w1 := Below.trans (by exact blw) (hb.mono (by first | omega | (simp; done) | (simp; omega)))
  have hq : Cmds w1 w.heap.size v [[.int .i64 0, .int .i64 6, .int .i64 10, .int .i64 0, .bool false, .string { data := #[] }, .string { data := #[] }, .string { data := #[] }, .string { data := #[] }, .string { data := #[] }, .slice none 0 0, .slice none 0 0]] := by
    refine ⟨hn.1, hn.2.1, ?_⟩
    rcases hn.2.2 with ⟨h0, h1⟩ | ⟨g', cap', cur, he, hb', hh, r1, r2, r3, r4⟩
    · exact absurd h1 (by simp)
    · exact .inr ⟨g', cap', cur, he, Nat.le_trans (by first | omega | (simp; done) | (simp; omega)) hb', hh, r1, r2, r3, r4⟩
  have HQ := Lib.hid hq
  clear hn hb hq
  go_wp2_with fail
  go_ret2
  exact ⟨_, rfl, HQ.out, hB⟩
theorem plain_D20 (w : World) : Calls Tryz.prog 62 #[.string { data := #[68, 50, 48] }] w fun e w' => ∃ v, e = .returned (.tuple #[v, .int .i64 0]) ∧ Cmds w' w.heap.size v [[.int .i64 0, .int .i64 6, .int .i64 20, .int .i64 0, .bool false, .string { data := #[] }, .string { data := #[] }, .string { data := #[] }, .string { data := #[] }, .string { data := #[] }, .slice none 0 0, .slice none 0 0]] ∧ Below w.heap.size w w' := by
  have h1 : ∀ w, Calls Tryz.prog 93 #[.string { data := #[68, 50, 48] }, .string { data := #[71, 48, 52] }] w fun e w' => e = .returned (.tuple #[.string { data := #[68, 50, 48] }, .bool false]) ∧ w = w' := fun w => cutP_no [68, 50, 48] [71, 48, 52] w (by decide) (by decide) (by decide)
  have h2 : ∀ w, Calls Tryz.prog 93 #[.string { data := #[68, 50, 48] }, .string { data := #[71, 48, 49] }] w fun e w' => e = .returned (.tuple #[.string { data := #[68, 50, 48] }, .bool false]) ∧ w = w' := fun w => cutP_no [68, 50, 48] [71, 48, 49] w (by decide) (by decide) (by decide)
  have h3 : ∀ w, Calls Tryz.prog 93 #[.string { data := #[68, 50, 48] }, .string { data := #[71, 48, 50] }] w fun e w' => e = .returned (.tuple #[.string { data := #[68, 50, 48] }, .bool false]) ∧ w = w' := fun w => cutP_no [68, 50, 48] [71, 48, 50] w (by decide) (by decide) (by decide)
  have h4 : ∀ w, Calls Tryz.prog 93 #[.string { data := #[68, 50, 48] }, .string { data := #[71, 48, 51] }] w fun e w' => e = .returned (.tuple #[.string { data := #[68, 50, 48] }, .bool false]) ∧ w = w' := fun w => cutP_no [68, 50, 48] [71, 48, 51] w (by decide) (by decide) (by decide)
  have h5 : ∀ w, Calls Tryz.prog 93 #[.string { data := #[68, 50, 48] }, .string { data := #[68] }] w fun e w' => e = .returned (.tuple #[.string { data := #[50, 48] }, .bool true]) ∧ w = w' := fun w => cutP_yes [68] [50, 48] w (by decide)
  have h6 : ∀ w, Calls Tryz.prog 98 #[.string { data := #[50, 48] }] w fun e w' => e = .returned (.tuple #[.int .i64 20, .bool true]) ∧ w = w' := fun w => code_c [50, 48] w (by decide) (by decide) (by intro c h; simp at h; rcases h with rfl | rfl <;> decide) (by decide)
  have H1 := Lib.hid h1
  have H2 := Lib.hid h2
  have H3 := Lib.hid h3
  have H4 := Lib.hid h4
  have H5 := Lib.hid h5
  have H6 := Lib.hid h6
  clear h1 h2 h3 h4 h5 h6
  go_enter Tryz.func62, Tryz.ntmps62
  go_wp2_with (go_at_call 93; ((with_reducible refine (H1.out _).mono ?_); rintro e w' ⟨rfl, rfl⟩))
  refine wp_loop_rounds 4 ?_
  rw [rounds_succ]
  go_wp2_with (go_at_call 93; ((with_reducible refine (H2.out _).mono ?_); rintro e w' ⟨rfl, rfl⟩))
  rw [rounds_succ]
  go_wp2_with (go_at_call 93; ((with_reducible refine (H3.out _).mono ?_); rintro e w' ⟨rfl, rfl⟩))
  rw [rounds_succ]
  go_wp2_with (go_at_call 93; ((with_reducible refine (H4.out _).mono ?_); rintro e w' ⟨rfl, rfl⟩))
  rw [rounds_succ]
  go_wp2_with (first | (go_at_call 93; ((with_reducible refine (H5.out _).mono ?_); rintro e w' ⟨rfl, rfl⟩)) | (go_at_call 98; ((with_reducible refine (H6.out _).mono ?_); rintro e w' ⟨rfl, rfl⟩)))
  refine (one_c _ _ _ _ _ _ _ _ _ _ _ _ _).mono ?_
  rintro e w1 ⟨v, rfl, hn, hb⟩
  have hB : Below w.heap.size w w1 := Below.trans (by exact blw) (hb.mono (by first | omega | (simp; done) | (simp; omega)))
  have hq : Cmds w1 w.heap.size v [[.int .i64 0, .int .i64 6, .int .i64 20, .int .i64 0, .bool false, .string { data := #[] }, .string { data := #[] }, .string { data := #[] }, .string { data := #[] }, .string { data := #[] }, .slice none 0 0, .slice none 0 0]] := by
    refine ⟨hn.1, hn.2.1, ?_⟩
    rcases hn.2.2 with ⟨h0, h1⟩ | ⟨g', cap', cur, he, hb', hh, r1, r2, r3, r4⟩
    · exact absurd h1 (by simp)
    · exact .inr ⟨g', cap', cur, he, Nat.le_trans (by first | omega | (simp; done) | (simp; omega)) hb', hh, r1, r2, r3, r4⟩
  have HQ := Lib.hid hq
  clear hn hb hq
  go_wp2_with fail
  go_ret2
  exact ⟨_, rfl, HQ.out, hB⟩
end Go.Proofs.YtfajckkbinbpiaaGreatDoor
