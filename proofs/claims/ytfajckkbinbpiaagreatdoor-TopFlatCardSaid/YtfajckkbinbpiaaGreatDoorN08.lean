/- Walks: words that are always the same. Walks: formats, apertures, blocks and steps as they are written. Walks: apertures, blocks and steps as they are written. Words for memory, for the walks of package word: what a reader's block holds. -/
import Derived.Deep.AppendLies
import Derived.Deep.DeepCutAuto
import Derived.Deep.RegionHeld3
import Derived.Deep.RegionLaw
import Derived.Deep.RegionWith
import Derived.Laws.OwnMore
import Derived.Lib.SlBytesRow
import Derived.Outline
import Derived.OwnWalk
import Derived.Test.YtfajckkbinbpiaaGreatDoorN01
import Derived.Test.YtfajckkbinbpiaaGreatDoorN07
namespace Go.Proofs.YtfajckkbinbpiaaGreatDoor
set_option maxRecDepth 100000
set_option maxHeartbeats 32000000
set_option linter.unusedVariables false
set_option linter.unusedSimpArgs false
open Go.RowKit
theorem fixed_MOMM (w : World) : Calls Tryz.prog 147 #[.string { data := #[77, 79, 77, 77] }] w fun e w' => e = .returned (.tuple #[.agg #[.int .i64 0, .int .i64 9, .int .i64 1, .int .i64 0, .bool false, .string { data := #[] }, .string { data := #[] }, .string { data := #[] }, .string { data := #[] }, .string { data := #[] }, .slice none 0 0, .slice none 0 0], .bool true]) ∧ Below w.heap.size w w' := by
  go_enter Tryz.func147, Tryz.ntmps147
  go_wp2
  refine bodyPost_ret (results_row_tmp Tryz.results147 _ _ w.heap.size #[.int .i64 0, .int .i64 9, .int .i64 1, .int .i64 0, .bool false, .string { data := #[] }, .string { data := #[] }, .string { data := #[] }, .string { data := #[] }, .string { data := #[] }, .slice none 0 0, .slice none 0 0] (by rfl) (run_loadVar_row _ _ 103 103 _ (0, 0) _ ?_ Tryz.underlying103 rfl (by kernel_rfl))) rfl ⟨rfl, ?_⟩
  · exact Blk.new _ _ _
  · exact blw
theorem fixed_AB (w : World) : Calls Tryz.prog 147 #[.string { data := #[65, 66] }] w fun e w' => e = .returned (.tuple #[.agg #[.int .i64 0, .int .i64 12, .int .i64 0, .int .i64 0, .bool false, .string { data := #[] }, .string { data := #[] }, .string { data := #[] }, .string { data := #[] }, .string { data := #[] }, .slice none 0 0, .slice none 0 0], .bool true]) ∧ Below w.heap.size w w' := by
  go_enter Tryz.func147, Tryz.ntmps147
  go_wp2
  refine bodyPost_ret (results_row_tmp Tryz.results147 _ _ w.heap.size #[.int .i64 0, .int .i64 12, .int .i64 0, .int .i64 0, .bool false, .string { data := #[] }, .string { data := #[] }, .string { data := #[] }, .string { data := #[] }, .string { data := #[] }, .slice none 0 0, .slice none 0 0] (by rfl) (run_loadVar_row _ _ 103 103 _ (0, 0) _ ?_ Tryz.underlying103 rfl (by kernel_rfl))) rfl ⟨rfl, ?_⟩
  · exact Blk.new _ _ _
  · exact blw
theorem fixed_SR (w : World) : Calls Tryz.prog 147 #[.string { data := #[83, 82] }] w fun e w' => e = .returned (.tuple #[.agg #[.int .i64 0, .int .i64 14, .int .i64 0, .int .i64 0, .bool false, .string { data := #[] }, .string { data := #[] }, .string { data := #[] }, .string { data := #[] }, .string { data := #[] }, .slice none 0 0, .slice none 0 0], .bool true]) ∧ Below w.heap.size w w' := by
  go_enter Tryz.func147, Tryz.ntmps147
  go_wp2
  refine bodyPost_ret (results_row_tmp Tryz.results147 _ _ w.heap.size #[.int .i64 0, .int .i64 14, .int .i64 0, .int .i64 0, .bool false, .string { data := #[] }, .string { data := #[] }, .string { data := #[] }, .string { data := #[] }, .string { data := #[] }, .slice none 0 0, .slice none 0 0] (by rfl) (run_loadVar_row _ _ 103 103 _ (0, 0) _ ?_ Tryz.underlying103 rfl (by kernel_rfl))) rfl ⟨rfl, ?_⟩
  · exact Blk.new _ _ _
  · exact blw
theorem fixed_LPD (w : World) : Calls Tryz.prog 147 #[.string { data := #[76, 80, 68] }] w fun e w' => e = .returned (.tuple #[.agg #[.int .i64 0, .int .i64 15, .int .i64 0, .int .i64 0, .bool true, .string { data := #[] }, .string { data := #[] }, .string { data := #[] }, .string { data := #[] }, .string { data := #[] }, .slice none 0 0, .slice none 0 0], .bool true]) ∧ Below w.heap.size w w' := by
  go_enter Tryz.func147, Tryz.ntmps147
  go_wp2
  refine bodyPost_ret (results_row_tmp Tryz.results147 _ _ w.heap.size #[.int .i64 0, .int .i64 15, .int .i64 0, .int .i64 0, .bool true, .string { data := #[] }, .string { data := #[] }, .string { data := #[] }, .string { data := #[] }, .string { data := #[] }, .slice none 0 0, .slice none 0 0] (by rfl) (run_loadVar_row _ _ 103 103 _ (0, 0) _ ?_ Tryz.underlying103 rfl (by kernel_rfl))) rfl ⟨rfl, ?_⟩
  · exact Blk.new _ _ _
  · exact blw
theorem fixed_LPC (w : World) : Calls Tryz.prog 147 #[.string { data := #[76, 80, 67] }] w fun e w' => e = .returned (.tuple #[.agg #[.int .i64 0, .int .i64 15, .int .i64 0, .int .i64 0, .bool false, .string { data := #[] }, .string { data := #[] }, .string { data := #[] }, .string { data := #[] }, .string { data := #[] }, .slice none 0 0, .slice none 0 0], .bool true]) ∧ Below w.heap.size w w' := by
  go_enter Tryz.func147, Tryz.ntmps147
  go_wp2
  refine bodyPost_ret (results_row_tmp Tryz.results147 _ _ w.heap.size #[.int .i64 0, .int .i64 15, .int .i64 0, .int .i64 0, .bool false, .string { data := #[] }, .string { data := #[] }, .string { data := #[] }, .string { data := #[] }, .string { data := #[] }, .slice none 0 0, .slice none 0 0] (by rfl) (run_loadVar_row _ _ 103 103 _ (0, 0) _ ?_ Tryz.underlying103 rfl (by kernel_rfl))) rfl ⟨rfl, ?_⟩
  · exact Blk.new _ _ _
  · exact blw
theorem fixed_FSLAX24Y24 (w : World) : Calls Tryz.prog 147 #[.string { data := #[70, 83, 76, 65, 88, 50, 52, 89, 50, 52] }] w fun e w' => e = .returned (.tuple #[.agg #[.int .i64 0, .int .i64 0, .int .i64 0, .int .i64 0, .bool false, .string { data := #[] }, .string { data := #[] }, .string { data := #[] }, .string { data := #[] }, .string { data := #[] }, .slice none 0 0, .slice none 0 0], .bool false]) ∧ Below w.heap.size w w' := by
  go_enter Tryz.func147, Tryz.ntmps147
  go_wp2
  refine bodyPost_ret (results_row_tmp Tryz.results147 _ _ w.heap.size #[.int .i64 0, .int .i64 0, .int .i64 0, .int .i64 0, .bool false, .string { data := #[] }, .string { data := #[] }, .string { data := #[] }, .string { data := #[] }, .string { data := #[] }, .slice none 0 0, .slice none 0 0] (by rfl) (run_loadVar_row _ _ 103 103 _ (0, 0) _ ?_ Tryz.underlying103 rfl (by kernel_rfl))) rfl ⟨rfl, ?_⟩
  · exact Blk.new _ _ _
  · exact blw
theorem fixed_ADD10C_0_5 (w : World) : Calls Tryz.prog 147 #[.string { data := #[65, 68, 68, 49, 48, 67, 44, 48, 46, 53] }] w fun e w' => e = .returned (.tuple #[.agg #[.int .i64 0, .int .i64 0, .int .i64 0, .int .i64 0, .bool false, .string { data := #[] }, .string { data := #[] }, .string { data := #[] }, .string { data := #[] }, .string { data := #[] }, .slice none 0 0, .slice none 0 0], .bool false]) ∧ Below w.heap.size w w' := by
  go_enter Tryz.func147, Tryz.ntmps147
  go_wp2
  refine bodyPost_ret (results_row_tmp Tryz.results147 _ _ w.heap.size #[.int .i64 0, .int .i64 0, .int .i64 0, .int .i64 0, .bool false, .string { data := #[] }, .string { data := #[] }, .string { data := #[] }, .string { data := #[] }, .string { data := #[] }, .slice none 0 0, .slice none 0 0] (by rfl) (run_loadVar_row _ _ 103 103 _ (0, 0) _ ?_ Tryz.underlying103 rfl (by kernel_rfl))) rfl ⟨rfl, ?_⟩
  · exact Blk.new _ _ _
  · exact blw
theorem fixed_ADD10R_4X4 (w : World) : Calls Tryz.prog 147 #[.string { data := #[65, 68, 68, 49, 48, 82, 44, 52, 88, 52] }] w fun e w' => e = .returned (.tuple #[.agg #[.int .i64 0, .int .i64 0, .int .i64 0, .int .i64 0, .bool false, .string { data := #[] }, .string { data := #[] }, .string { data := #[] }, .string { data := #[] }, .string { data := #[] }, .slice none 0 0, .slice none 0 0], .bool false]) ∧ Below w.heap.size w w' := by
  go_enter Tryz.func147, Tryz.ntmps147
  go_wp2
  refine bodyPost_ret (results_row_tmp Tryz.results147 _ _ w.heap.size #[.int .i64 0, .int .i64 0, .int .i64 0, .int .i64 0, .bool false, .string { data := #[] }, .string { data := #[] }, .string { data := #[] }, .string { data := #[] }, .string { data := #[] }, .slice none 0 0, .slice none 0 0] (by rfl) (run_loadVar_row _ _ 103 103 _ (0, 0) _ ?_ Tryz.underlying103 rfl (by kernel_rfl))) rfl ⟨rfl, ?_⟩
  · exact Blk.new _ _ _
  · exact blw
theorem fixed_ABD20 (w : World) : Calls Tryz.prog 147 #[.string { data := #[65, 66, 68, 50, 48] }] w fun e w' => e = .returned (.tuple #[.agg #[.int .i64 0, .int .i64 0, .int .i64 0, .int .i64 0, .bool false, .string { data := #[] }, .string { data := #[] }, .string { data := #[] }, .string { data := #[] }, .string { data := #[] }, .slice none 0 0, .slice none 0 0], .bool false]) ∧ Below w.heap.size w w' := by
  go_enter Tryz.func147, Tryz.ntmps147
  go_wp2
  refine bodyPost_ret (results_row_tmp Tryz.results147 _ _ w.heap.size #[.int .i64 0, .int .i64 0, .int .i64 0, .int .i64 0, .bool false, .string { data := #[] }, .string { data := #[] }, .string { data := #[] }, .string { data := #[] }, .string { data := #[] }, .slice none 0 0, .slice none 0 0] (by rfl) (run_loadVar_row _ _ 103 103 _ (0, 0) _ ?_ Tryz.underlying103 rfl (by kernel_rfl))) rfl ⟨rfl, ?_⟩
  · exact Blk.new _ _ _
  · exact blw
theorem heap_drewN (w : World) (n : Nat) : (w.drewN n).heap = w.heap := rfl
theorem digits_two : ∀ w, Calls Tryz.prog 195 #[.string { data := #[50, 52, 89, 50, 52] }] w fun e w' => e = .returned (.int .i64 2) ∧ w' = w := fun w => (digits_c [50, 52] [89, 50, 52] w (by decide) (by intro c h; simp at h; rcases h with rfl | rfl <;> decide) (by intro c h; simp at h; subst h; decide)).mono fun e w' h => ⟨h.1, h.2.symm⟩
theorem format_c (w : World) : Calls Tryz.prog 148 #[.string { data := #[76, 65, 88, 50, 52, 89, 50, 52] }] w fun e w' => e = .returned (.tuple #[.agg #[.int .i64 0, .int .i64 8, .int .i64 2, .int .i64 4, .bool false, .string { data := #[] }, .string { data := #[] }, .string { data := #[] }, .string { data := #[] }, .string { data := #[] }, .slice none 0 0, .slice none 0 0], .bool true]) ∧ Below w.heap.size w w' := by
  obtain ⟨T, eT, zT, iT0, iT1, iT2, iT3, iT4, iT5, iT6, iT7, xT1_3, xT3_8, xT6_8, xT3_5⟩ : ∃ T : ByteArray, { data := #[76, 65, 88, 50, 52, 89, 50, 52] } = T ∧ T.size = 8 ∧ (∀ h : 0 < T.size, (T[0]'h).toNat = 76) ∧ (∀ h : 1 < T.size, (T[1]'h).toNat = 65) ∧ (∀ h : 2 < T.size, (T[2]'h).toNat = 88) ∧ (∀ h : 3 < T.size, (T[3]'h).toNat = 50) ∧ (∀ h : 4 < T.size, (T[4]'h).toNat = 52) ∧ (∀ h : 5 < T.size, (T[5]'h).toNat = 89) ∧ (∀ h : 6 < T.size, (T[6]'h).toNat = 50) ∧ (∀ h : 7 < T.size, (T[7]'h).toNat = 52) ∧ T.extract 1 3 = { data := #[65, 88] } ∧ T.extract 3 8 = { data := #[50, 52, 89, 50, 52] } ∧ T.extract 6 8 = { data := #[50, 52] } ∧ T.extract 3 5 = { data := #[50, 52] } := ⟨_, rfl, rfl, fun _ => rfl, fun _ => rfl, fun _ => rfl, fun _ => rfl, fun _ => rfl, fun _ => rfl, fun _ => rfl, fun _ => rfl, rfl, rfl, rfl, rfl⟩
  rw [eT]
  clear eT
  go_enter Tryz.func148, Tryz.ntmps148
  go_wp2_with fail
  go_quiet ((go_at_call 195; exact Calls.quiet_of_same (digits_two _)))
  go_wp2_with fail
  go_region
  go_wp2_with fail
  refine bodyPost_ret (results_row_tmp Tryz.results148 _ _ w.heap.size #[.int .i64 0, .int .i64 8, .int .i64 2, .int .i64 4, .bool false, .string { data := #[] }, .string { data := #[] }, .string { data := #[] }, .string { data := #[] }, .string { data := #[] }, .slice none 0 0, .slice none 0 0] (by rfl) (run_loadVar_row _ _ 103 103 _ (0, 0) _ ?_ Tryz.underlying103 rfl (by kernel_rfl))) rfl ⟨rfl, ?_⟩
  · first | (with_reducible exact Blk.new _ _ _) | (with_reducible exact heap_alloc_new _ _) | ((try simp only [World.setCell]); (try simp only [heap_drew]); (try simp only [heap_drewN]); (try simp only [Array.getElem?_modify, if_true]); (try simp only [heap_drew]); (try simp only [heap_drewN]); rw [heap_alloc_new]; rfl)
  · exact blw
theorem dd_05 : ∀ w, Calls Tryz.prog 197 #[.string { data := #[48, 46, 53] }] w fun e w' => e = .returned (.tuple #[.int .i64 0, .int .i64 1]) ∧ w = w' := fun w => ddigits_c [48] [46, 53] w (by decide) (by intro c h; simp at h; subst h; decide) (by intro c h; simp at h; subst h; decide) (by decide)
theorem dd_5 : ∀ w, Calls Tryz.prog 197 #[.string { data := #[53] }] w fun e w' => e = .returned (.tuple #[.int .i64 5, .int .i64 1]) ∧ w = w' := fun w => ddigits_c [53] [] w (by decide) (by intro c h; simp at h; subst h; decide) (by intro c h; simp at h) (by decide)
theorem parse_05 (w : World) : Calls Tryz.prog 152 #[.string { data := #[48, 46, 53] }] w fun e w' => e = .returned (.tuple #[.int .i64 500000, .bool true]) ∧ w = w' := by
  have h1 := dd_05
  have h2 := dd_5
  obtain ⟨T, eT, zT, iT0, iT1, xT, nT⟩ : ∃ T : ByteArray, { data := #[48, 46, 53] } = T ∧ T.size = 3 ∧ (∀ h : 0 < T.size, (T[0]'h).toNat = 48) ∧ (∀ h : 1 < T.size, (T[1]'h).toNat = 46) ∧ T.extract 1 3 = { data := #[46, 53] } ∧ T.toList.isEmpty = false := ⟨_, rfl, rfl, fun _ => rfl, fun _ => rfl, rfl, by rw [show { data := #[48, 46, 53] } = bs [48, 46, 53] from rfl, bs_toList]; rfl⟩
  rw [eT] at h1 ⊢
  obtain ⟨U, eU, zU, iU0, xU, yU, nU⟩ : ∃ T : ByteArray, { data := #[46, 53] } = T ∧ T.size = 2 ∧ (∀ h : 0 < T.size, (T[0]'h).toNat = 46) ∧ T.extract 1 2 = { data := #[53] } ∧ T.extract 2 2 = { data := #[] } ∧ T.toList.isEmpty = false := ⟨_, rfl, rfl, fun _ => rfl, rfl, rfl, by rw [show { data := #[46, 53] } = bs [46, 53] from rfl, bs_toList]; rfl⟩
  rw [eU] at xT
  have H1 := Lib.hid h1
  have H2 := Lib.hid h2
  clear eT eU h1 h2
  go_enter Tryz.func152, Tryz.ntmps152
  go_wp2_with (first | (go_at_call 197; (with_reducible refine (H1.out _).mono ?_); rintro e w' ⟨rfl, rfl⟩) | (go_at_call 197; (with_reducible refine (H2.out _).mono ?_); rintro e w' ⟨rfl, rfl⟩))
  refine wp_loop_rounds 6 ?_
  iterate 6 (rw [rounds_succ]; go_wp2_with fail)
  go_ret2
  exact ⟨rfl, rfl⟩
theorem name_C (w : World) : Calls Tryz.prog 95 #[.string { data := #[67] }] w fun e w' => e = .returned (.bool true) ∧ w = w' := by
  obtain ⟨T, eT, zT, iT0⟩ : ∃ T : ByteArray, { data := #[67] } = T ∧ T.size = 1 ∧ (∀ h : 0 < T.size, (T[0]'h).toNat = 67) := ⟨_, rfl, rfl, fun _ => rfl⟩
  rw [eT]
  clear eT
  go_enter Tryz.func95, Tryz.ntmps95
  go_wp2_with fail
  refine wp_loop_rounds 2 ?_
  iterate 2 (rw [rounds_succ]; go_wp2_with fail)
  go_ret
  exact ⟨rfl, rfl⟩
theorem name_R (w : World) : Calls Tryz.prog 95 #[.string { data := #[82] }] w fun e w' => e = .returned (.bool true) ∧ w = w' := by
  obtain ⟨T, eT, zT, iT0⟩ : ∃ T : ByteArray, { data := #[82] } = T ∧ T.size = 1 ∧ (∀ h : 0 < T.size, (T[0]'h).toNat = 82) := ⟨_, rfl, rfl, fun _ => rfl⟩
  rw [eT]
  clear eT
  go_enter Tryz.func95, Tryz.ntmps95
  go_wp2_with fail
  refine wp_loop_rounds 2 ?_
  iterate 2 (rw [rounds_succ]; go_wp2_with fail)
  go_ret
  exact ⟨rfl, rfl⟩
theorem block_c (w : World) : Calls Tryz.prog 150 #[.string { data := #[68, 50, 48] }] w fun e w' => e = .returned (.tuple #[.agg #[.int .i64 0, .int .i64 11, .int .i64 20, .int .i64 0, .bool false, .string { data := #[] }, .string { data := #[] }, .string { data := #[] }, .string { data := #[] }, .string { data := #[] }, .slice none 0 0, .slice none 0 0], .bool true]) ∧ Below w.heap.size w w' := by
  have h1 : ∀ w, Calls Tryz.prog 93 #[.string { data := #[68, 50, 48] }, .string { data := #[68] }] w fun e w' => e = .returned (.tuple #[.string { data := #[50, 48] }, .bool true]) ∧ w = w' := fun w => cutP_yes [68] [50, 48] w (by decide)
  have h2 : ∀ w, Calls Tryz.prog 98 #[.string { data := #[50, 48] }] w fun e w' => e = .returned (.tuple #[.int .i64 20, .bool true]) ∧ w = w' := fun w => code_c [50, 48] w (by decide) (by decide) (by intro c h; simp at h; rcases h with rfl | rfl <;> decide) (by decide)
  have H1 := Lib.hid h1
  have H2 := Lib.hid h2
  clear h1 h2
  go_enter Tryz.func150, Tryz.ntmps150
  go_wp2_with (first | (go_at_call 93; (with_reducible refine (H1.out _).mono ?_); rintro e w' ⟨rfl, rfl⟩) | (go_at_call 98; (with_reducible refine (H2.out _).mono ?_); rintro e w' ⟨rfl, rfl⟩))
  refine bodyPost_ret (results_row_tmp Tryz.results150 _ _ w.heap.size #[.int .i64 0, .int .i64 11, .int .i64 20, .int .i64 0, .bool false, .string { data := #[] }, .string { data := #[] }, .string { data := #[] }, .string { data := #[] }, .string { data := #[] }, .slice none 0 0, .slice none 0 0] (by rfl) (run_loadVar_row _ _ 103 103 _ (0, 0) _ ?_ Tryz.underlying103 rfl (by kernel_rfl))) rfl ⟨rfl, ?_⟩
  · first | (with_reducible exact Blk.new _ _ _) | (with_reducible exact heap_alloc_new _ _) | ((try simp only [World.setCell]); (try simp only [heap_drew]); (try simp only [heap_drewN]); (try simp only [Array.getElem?_modify, if_true]); (try simp only [heap_drew]); (try simp only [heap_drewN]); rw [heap_alloc_new]; rfl)
  · exact blw
section
variable {w w' : World} {g : Nat} {t : TypeId} {cs : Array Value}
theorem Blk.grown {row : Option Nat} (h : Blk w g t cs) (hb : w.grownBy w' row) (hg : some g ≠ row) : Blk w' g t cs := (hb.block g h.lt hg).trans h
theorem Blk.ne_ {g' : Nat} {t' : TypeId} {cs' : Array Value} (h : Blk w g t cs) (h' : Blk w g' t' cs') (hne : t ≠ t') : g ≠ g' := by
  rintro rfl
  unfold Blk at h h'
  rw [h] at h'
  injection h' with h'
  injection h' with _ ht
  exact hne ht
theorem own_blk_ne {base : Nat} {e : TypeId} {size n : Nat} {v : Value} {xs : List Value} (h : w.ownsRow base e size v n xs) (hg : Blk w g t cs) (hne : e ≠ t) : v.ownBlock ≠ some g := by
  rcases h.2 with ⟨rfl, _⟩ | ⟨g', cap, cur, rfl, _, hh, _⟩
  · simp [Value.ownBlock]
  · intro he
    have : g' = g := by simpa [Value.ownBlock] using he
    subst this
    exact Blk.ne_ (t := e) hh hg hne rfl
theorem own_own_ne {b1 b2 : Nat} {e1 e2 : TypeId} {s1 s2 n1 n2 : Nat} {v1 v2 : Value} {xs1 xs2 : List Value} (h : w.ownsRow b1 e1 s1 v1 n1 xs1) (h' : w.ownsRow b2 e2 s2 v2 n2 xs2) (hne : e1 ≠ e2) : v1.ownBlock = none ∨ v1.ownBlock ≠ v2.ownBlock := by
  rcases h'.2 with ⟨rfl, _⟩ | ⟨g', cap, cur, rfl, _, hh, _⟩
  · rcases h.2 with ⟨rfl, _⟩ | ⟨g'', cap, cur, rfl, _⟩
    · left; rfl
    · right; simp [Value.ownBlock]
  · right; exact own_blk_ne h (show Blk w g' e2 cur from hh) hne
theorem own_far {base : Nat} {e : TypeId} {size n : Nat} {v : Value} {xs : List Value} (h : w.ownsRow base e size v n xs) {p : Addr} (hp : v.ownBlock ≠ some p.block) (u : Value) : (w.setCell p u).ownsRow base e size v n xs := by
  refine ⟨h.1, ?_⟩
  rcases h.2 with h0 | ⟨g', cap, cur, rfl, hb, hh, hr⟩
  · exact .inl h0
  · refine .inr ⟨g', cap, cur, rfl, hb, (Below.heap_setCell w p u g' ?_).trans hh, hr⟩
    intro he; exact hp (by simp [Value.ownBlock, he])
theorem own_below {base : Nat} {e : TypeId} {size n : Nat} {v : Value} {xs : List Value} (h : w.ownsRow base e size v n xs) {B : Nat} (hb : Below B w w') (hB : w.heap.size ≤ B) : w'.ownsRow base e size v n xs := by
  refine ⟨h.1, ?_⟩
  rcases h.2 with h0 | ⟨g', cap, cur, rfl, hbb, hh, hr⟩
  · exact .inl h0
  · have hlt : g' < w.heap.size := (h.lt g' rfl).2
    exact .inr ⟨g', cap, cur, rfl, hbb, (hb.block g' (by omega)).trans hh, hr⟩
end
theorem info28 : (Tryz.prog.info? 146).map (fun i => (i.zero, i.size, i.bytes)) = some (some (.agg #[.int .i64 0, .bool false, .bool false, .string ByteArray.empty]), 4, 32) := by kernel_rfl
theorem info5 : (Tryz.prog.info? 5).map (fun i => (i.zero, i.size, i.bytes)) = some (some (.int .u8 0), 1, 1) := by kernel_rfl
structure RdAt (w : World) (B g : Nat) (wv tv : Value) (r : Rd) : Prop where
  blk : Blk w g 203 #[wv, tv, .int .i64 (r.at_ : Int), .bool r.group, .int .i64 (r.inner : Int)]
  ws : w.ownsRow B 146 4 wv r.words.length (wcells r.words)
  ts : w.ownsRow B 5 1 tv r.text.length (tcells r.text)
  le : B ≤ g
def RdIs (w : World) (B g : Nat) (r : Rd) : Prop := ∃ wv tv, RdAt w B g wv tv r
theorem conv_text {w : World} {B cap g : Nat} {l : List UInt8} (h : w.ownsRow B 5 1 (.slice (some ⟨g, 0, none⟩) l.length cap) l.length (tcells l)) :
    (convert 35 9 (.slice (some ⟨g, 0, none⟩) l.length cap)).run Tryz.prog w = .ok (.string (bs l)) w := by
  have hb : Lib.Bytes w g 0 (bs l) := by
    intro i hi
    have hi' : i < l.length := by simpa [bs, ByteArray.size] using hi
    have := h.cellAt i (by omega)
    rw [Nat.zero_add, this]
    simp [tcells, bs, hi']
    rfl
  have hs : (bs l).size = l.length := by simp [bs, ByteArray.size]
  have := Lib.run_convert_whole (P := Tryz.prog) w 35 5 9 Tryz.underlying35 Tryz.underlying5 Tryz.underlying9 g 0 (bs l) hb cap
  rw [hs] at this
  exact this
end Go.Proofs.YtfajckkbinbpiaaGreatDoor
