/- Walks: package plot: a command is executed by its method. Walks: words of drawings in inches. -/
import Derived.Outline
import Derived.Test.YtfajckkbinbpiaaGreatDoorJ03
import Derived.Test.YtfajckkbinbpiaaGreatDoorJ07
namespace Go.Proofs.YtfajckkbinbpiaaGreatDoor
set_option maxRecDepth 100000
set_option maxHeartbeats 32000000
set_option linter.unusedVariables false
set_option linter.unusedSimpArgs false
open Go.RowKit
theorem do_8 (P : Nat) (A cn cm : Int) (con : Bool) (ct cx cy ce : ByteArray) (np : Option Addr) (nn nc : Nat) {v0 v1 v2 v3 v4 v5 v6 v7 v8 v9 v10 v11 v12 v13 v14 v15 v16 v17 v18 v20 v21 v22 v23 : Value} (w : World) (R : World → Prop) (hP : Blk w P 159 #[v0, v1, v2, v3, v4, v5, v6, v7, v8, v9, v10, v11, v12, v13, v14, v15, v16, v17, v18, .bool false, v20, v21, v22, v23, .bool false]) (h : Calls Tryz.prog 100 #[.pointer (some ⟨P, 0, none⟩), .agg #[.int .i64 A, .int .i64 8, .int .i64 cn, .int .i64 cm, .bool con, .string ct, .string cx, .string cy, .string ce, .string ce, .slice np nn nc, .slice none 0 0]] (w.alloc (.cells #[.int .i64 A, .int .i64 8, .int .i64 cn, .int .i64 cm, .bool con, .string ct, .string cx, .string cy, .string ce, .string ce, .slice np nn nc, .slice none 0 0] 103)) fun e w' => e = .returned (.int .i64 0) ∧ R w') :
    Calls Tryz.prog 63 #[.pointer (some ⟨P, 0, none⟩), .agg #[.int .i64 A, .int .i64 8, .int .i64 cn, .int .i64 cm, .bool con, .string ct, .string cx, .string cy, .string ce, .string ce, .slice np nn nc, .slice none 0 0]] w fun e w' => e = .returned (.int .i64 0) ∧ R w' := by
  have c := hP.cell
  have l := hP.lt
  have H := Lib.hid h
  clear h hP
  go_enter Tryz.func63, Tryz.ntmps63
  go_wp2_with (go_at_call 100; refine (H.out).mono ?_; rintro e w1 ⟨rfl, hR⟩)
  have HR := Lib.hid hR
  clear hR
  go_wp2_with fail
  go_ret
  exact ⟨rfl, HR.out⟩
theorem do_9 (P : Nat) (A cn cm : Int) (con : Bool) (ct cx cy ce : ByteArray) (np : Option Addr) (nn nc : Nat) {v0 v1 v2 v3 v4 v5 v6 v7 v8 v9 v10 v11 v12 v13 v14 v15 v16 v17 v18 v20 v21 v22 v23 : Value} (w : World) (R : World → Prop) (hP : Blk w P 159 #[v0, v1, v2, v3, v4, v5, v6, v7, v8, v9, v10, v11, v12, v13, v14, v15, v16, v17, v18, .bool false, v20, v21, v22, v23, .bool false]) (h : Calls Tryz.prog 100 #[.pointer (some ⟨P, 0, none⟩), .agg #[.int .i64 A, .int .i64 9, .int .i64 cn, .int .i64 cm, .bool con, .string ct, .string cx, .string cy, .string ce, .string ce, .slice np nn nc, .slice none 0 0]] (w.alloc (.cells #[.int .i64 A, .int .i64 9, .int .i64 cn, .int .i64 cm, .bool con, .string ct, .string cx, .string cy, .string ce, .string ce, .slice np nn nc, .slice none 0 0] 103)) fun e w' => e = .returned (.int .i64 0) ∧ R w') :
    Calls Tryz.prog 63 #[.pointer (some ⟨P, 0, none⟩), .agg #[.int .i64 A, .int .i64 9, .int .i64 cn, .int .i64 cm, .bool con, .string ct, .string cx, .string cy, .string ce, .string ce, .slice np nn nc, .slice none 0 0]] w fun e w' => e = .returned (.int .i64 0) ∧ R w' := by
  have c := hP.cell
  have l := hP.lt
  have H := Lib.hid h
  clear h hP
  go_enter Tryz.func63, Tryz.ntmps63
  go_wp2_with (go_at_call 100; refine (H.out).mono ?_; rintro e w1 ⟨rfl, hR⟩)
  have HR := Lib.hid hR
  clear hR
  go_wp2_with fail
  go_ret
  exact ⟨rfl, HR.out⟩
theorem do_10 (P : Nat) (A cn cm : Int) (con : Bool) (ct cx cy ce : ByteArray) (np : Option Addr) (nn nc : Nat) {v0 v1 v2 v3 v4 v5 v6 v7 v8 v9 v10 v11 v12 v13 v14 v15 v16 v17 v18 v20 v21 v22 v23 : Value} (w : World) (R : World → Prop) (hP : Blk w P 159 #[v0, v1, v2, v3, v4, v5, v6, v7, v8, v9, v10, v11, v12, v13, v14, v15, v16, v17, v18, .bool false, v20, v21, v22, v23, .bool false]) (h : Calls Tryz.prog 100 #[.pointer (some ⟨P, 0, none⟩), .agg #[.int .i64 A, .int .i64 10, .int .i64 cn, .int .i64 cm, .bool con, .string ct, .string cx, .string cy, .string ce, .string ce, .slice np nn nc, .slice none 0 0]] (w.alloc (.cells #[.int .i64 A, .int .i64 10, .int .i64 cn, .int .i64 cm, .bool con, .string ct, .string cx, .string cy, .string ce, .string ce, .slice np nn nc, .slice none 0 0] 103)) fun e w' => e = .returned (.int .i64 0) ∧ R w') :
    Calls Tryz.prog 63 #[.pointer (some ⟨P, 0, none⟩), .agg #[.int .i64 A, .int .i64 10, .int .i64 cn, .int .i64 cm, .bool con, .string ct, .string cx, .string cy, .string ce, .string ce, .slice np nn nc, .slice none 0 0]] w fun e w' => e = .returned (.int .i64 0) ∧ R w' := by
  have c := hP.cell
  have l := hP.lt
  have H := Lib.hid h
  clear h hP
  go_enter Tryz.func63, Tryz.ntmps63
  go_wp2_with (go_at_call 100; refine (H.out).mono ?_; rintro e w1 ⟨rfl, hR⟩)
  have HR := Lib.hid hR
  clear hR
  go_wp2_with fail
  go_ret
  exact ⟨rfl, HR.out⟩
theorem do_6 (P : Nat) (A cn cm : Int) (con : Bool) (ct cx cy ce : ByteArray) (np : Option Addr) (nn nc : Nat) {v0 v1 v2 v3 v4 v5 v6 v7 v8 v9 v10 v11 v12 v13 v14 v15 v16 v17 v18 v20 v21 v22 v23 : Value} (w : World) (R : World → Prop) (hP : Blk w P 159 #[v0, v1, v2, v3, v4, v5, v6, v7, v8, v9, v10, v11, v12, v13, v14, v15, v16, v17, v18, .bool false, v20, v21, v22, v23, .bool false]) (h : Calls Tryz.prog 101 #[.pointer (some ⟨P, 0, none⟩), .agg #[.int .i64 A, .int .i64 6, .int .i64 cn, .int .i64 cm, .bool con, .string ct, .string cx, .string cy, .string ce, .string ce, .slice np nn nc, .slice none 0 0]] (w.alloc (.cells #[.int .i64 A, .int .i64 6, .int .i64 cn, .int .i64 cm, .bool con, .string ct, .string cx, .string cy, .string ce, .string ce, .slice np nn nc, .slice none 0 0] 103)) fun e w' => e = .returned (.int .i64 0) ∧ R w') :
    Calls Tryz.prog 63 #[.pointer (some ⟨P, 0, none⟩), .agg #[.int .i64 A, .int .i64 6, .int .i64 cn, .int .i64 cm, .bool con, .string ct, .string cx, .string cy, .string ce, .string ce, .slice np nn nc, .slice none 0 0]] w fun e w' => e = .returned (.int .i64 0) ∧ R w' := by
  have c := hP.cell
  have l := hP.lt
  have H := Lib.hid h
  clear h hP
  go_enter Tryz.func63, Tryz.ntmps63
  go_wp2_with (go_at_call 101; refine (H.out).mono ?_; rintro e w1 ⟨rfl, hR⟩)
  have HR := Lib.hid hR
  clear hR
  go_wp2_with fail
  go_ret
  exact ⟨rfl, HR.out⟩
theorem do_7 (P : Nat) (A cn cm : Int) (con : Bool) (ct cx cy ce : ByteArray) (np : Option Addr) (nn nc : Nat) {v0 v1 v2 v3 v4 v5 v6 v7 v8 v9 v10 v11 v12 v13 v14 v15 v16 v17 v18 v20 v21 v22 v23 : Value} (w : World) (R : World → Prop) (hP : Blk w P 159 #[v0, v1, v2, v3, v4, v5, v6, v7, v8, v9, v10, v11, v12, v13, v14, v15, v16, v17, v18, .bool false, v20, v21, v22, v23, .bool false]) (h : Calls Tryz.prog 103 #[.pointer (some ⟨P, 0, none⟩), .agg #[.int .i64 A, .int .i64 7, .int .i64 cn, .int .i64 cm, .bool con, .string ct, .string cx, .string cy, .string ce, .string ce, .slice np nn nc, .slice none 0 0]] (w.alloc (.cells #[.int .i64 A, .int .i64 7, .int .i64 cn, .int .i64 cm, .bool con, .string ct, .string cx, .string cy, .string ce, .string ce, .slice np nn nc, .slice none 0 0] 103)) fun e w' => e = .returned (.int .i64 0) ∧ R w') :
    Calls Tryz.prog 63 #[.pointer (some ⟨P, 0, none⟩), .agg #[.int .i64 A, .int .i64 7, .int .i64 cn, .int .i64 cm, .bool con, .string ct, .string cx, .string cy, .string ce, .string ce, .slice np nn nc, .slice none 0 0]] w fun e w' => e = .returned (.int .i64 0) ∧ R w' := by
  have c := hP.cell
  have l := hP.lt
  have H := Lib.hid h
  clear h hP
  go_enter Tryz.func63, Tryz.ntmps63
  go_wp2_with (go_at_call 103; refine (H.out).mono ?_; rintro e w1 ⟨rfl, hR⟩)
  have HR := Lib.hid hR
  clear hR
  go_wp2_with fail
  go_ret
  exact ⟨rfl, HR.out⟩
theorem do_5 (P : Nat) (A cn cm : Int) (con : Bool) (ct cx cy ce : ByteArray) (np : Option Addr) (nn nc : Nat) (gL capL : Nat) {v0 v1 v2 v3 v4 v5 v6 v7 v8 v9 v10 v11 v12 v13 v14 v15 v16 v17 v18 v20 v22 v23 : Value} (w : World) (hP : Blk w P 159 #[v0, v1, v2, v3, v4, v5, v6, v7, v8, v9, v10, v11, v12, v13, v14, v15, v16, v17, v18, .bool false, v20, .slice (some ⟨gL, 0, none⟩) 1 capL, v22, v23, .bool false]) :
    Calls Tryz.prog 63 #[.pointer (some ⟨P, 0, none⟩), .agg #[.int .i64 A, .int .i64 5, .int .i64 cn, .int .i64 cm, .bool con, .string ct, .string cx, .string cy, .string ce, .string ce, .slice np nn nc, .slice none 0 0]] w fun e w' => e = .returned (.int .i64 0) ∧ Blk w' P 159 #[v0, v1, v2, v3, v4, v5, v6, v7, v8, v9, v10, v11, v12, v13, v14, v15, v16, v17, v18, .bool false, v20, .slice (some ⟨gL, 0, none⟩) 1 capL, v22, v23, .bool true] ∧ Only [P] w w' := by
  have c := hP.cell
  have f := hP.frozen
  have l := hP.lt
  have HP := Lib.hid hP
  clear hP
  go_enter Tryz.func63, Tryz.ntmps63
  go_wp2_with fail
  go_ret
  exact ⟨rfl, (HP.out.set_ 24 _ rfl).alloc _, by exact onw⟩
theorem fixed_MOIN (w : World) : Calls Tryz.prog 147 #[.string { data := #[77, 79, 73, 78] }] w fun e w' => e = .returned (.tuple #[.agg #[.int .i64 0, .int .i64 9, .int .i64 2, .int .i64 0, .bool false, .string { data := #[] }, .string { data := #[] }, .string { data := #[] }, .string { data := #[] }, .string { data := #[] }, .slice none 0 0, .slice none 0 0], .bool true]) ∧ Below w.heap.size w w' := by
  go_enter Tryz.func147, Tryz.ntmps147
  go_wp2
  refine bodyPost_ret (results_row_tmp Tryz.results147 _ _ w.heap.size #[.int .i64 0, .int .i64 9, .int .i64 2, .int .i64 0, .bool false, .string { data := #[] }, .string { data := #[] }, .string { data := #[] }, .string { data := #[] }, .string { data := #[] }, .slice none 0 0, .slice none 0 0] (by rfl) (run_loadVar_row _ _ 103 103 _ (0, 0) _ ?_ Tryz.underlying103 rfl (by kernel_rfl))) rfl ⟨rfl, ?_⟩
  · exact Blk.new _ _ _
  · exact blw
theorem fixed_FSLAX26Y26 (w : World) : Calls Tryz.prog 147 #[.string { data := #[70, 83, 76, 65, 88, 50, 54, 89, 50, 54] }] w fun e w' => e = .returned (.tuple #[.agg #[.int .i64 0, .int .i64 0, .int .i64 0, .int .i64 0, .bool false, .string { data := #[] }, .string { data := #[] }, .string { data := #[] }, .string { data := #[] }, .string { data := #[] }, .slice none 0 0, .slice none 0 0], .bool false]) ∧ Below w.heap.size w w' := by
  go_enter Tryz.func147, Tryz.ntmps147
  go_wp2
  refine bodyPost_ret (results_row_tmp Tryz.results147 _ _ w.heap.size #[.int .i64 0, .int .i64 0, .int .i64 0, .int .i64 0, .bool false, .string { data := #[] }, .string { data := #[] }, .string { data := #[] }, .string { data := #[] }, .string { data := #[] }, .slice none 0 0, .slice none 0 0] (by rfl) (run_loadVar_row _ _ 103 103 _ (0, 0) _ ?_ Tryz.underlying103 rfl (by kernel_rfl))) rfl ⟨rfl, ?_⟩
  · exact Blk.new _ _ _
  · exact blw
theorem fixed_ADD10C_0_05 (w : World) : Calls Tryz.prog 147 #[.string { data := #[65, 68, 68, 49, 48, 67, 44, 48, 46, 48, 53] }] w fun e w' => e = .returned (.tuple #[.agg #[.int .i64 0, .int .i64 0, .int .i64 0, .int .i64 0, .bool false, .string { data := #[] }, .string { data := #[] }, .string { data := #[] }, .string { data := #[] }, .string { data := #[] }, .slice none 0 0, .slice none 0 0], .bool false]) ∧ Below w.heap.size w w' := by
  go_enter Tryz.func147, Tryz.ntmps147
  go_wp2
  refine bodyPost_ret (results_row_tmp Tryz.results147 _ _ w.heap.size #[.int .i64 0, .int .i64 0, .int .i64 0, .int .i64 0, .bool false, .string { data := #[] }, .string { data := #[] }, .string { data := #[] }, .string { data := #[] }, .string { data := #[] }, .slice none 0 0, .slice none 0 0] (by rfl) (run_loadVar_row _ _ 103 103 _ (0, 0) _ ?_ Tryz.underlying103 rfl (by kernel_rfl))) rfl ⟨rfl, ?_⟩
  · exact Blk.new _ _ _
  · exact blw
theorem fixed_ADD10C_1_27 (w : World) : Calls Tryz.prog 147 #[.string { data := #[65, 68, 68, 49, 48, 67, 44, 49, 46, 50, 55] }] w fun e w' => e = .returned (.tuple #[.agg #[.int .i64 0, .int .i64 0, .int .i64 0, .int .i64 0, .bool false, .string { data := #[] }, .string { data := #[] }, .string { data := #[] }, .string { data := #[] }, .string { data := #[] }, .slice none 0 0, .slice none 0 0], .bool false]) ∧ Below w.heap.size w w' := by
  go_enter Tryz.func147, Tryz.ntmps147
  go_wp2
  refine bodyPost_ret (results_row_tmp Tryz.results147 _ _ w.heap.size #[.int .i64 0, .int .i64 0, .int .i64 0, .int .i64 0, .bool false, .string { data := #[] }, .string { data := #[] }, .string { data := #[] }, .string { data := #[] }, .string { data := #[] }, .slice none 0 0, .slice none 0 0] (by rfl) (run_loadVar_row _ _ 103 103 _ (0, 0) _ ?_ Tryz.underlying103 rfl (by kernel_rfl))) rfl ⟨rfl, ?_⟩
  · exact Blk.new _ _ _
  · exact blw
theorem digits_two6 : ∀ w, Calls Tryz.prog 195 #[.string { data := #[50, 54, 89, 50, 54] }] w fun e w' => e = .returned (.int .i64 2) ∧ w' = w := fun w => (digits_c [50, 54] [89, 50, 54] w (by decide) (by intro c h; simp at h; rcases h with rfl | rfl <;> decide) (by intro c h; simp at h; subst h; decide)).mono fun e w' h => ⟨h.1, h.2.symm⟩
theorem format_c6 (w : World) : Calls Tryz.prog 148 #[.string { data := #[76, 65, 88, 50, 54, 89, 50, 54] }] w fun e w' => e = .returned (.tuple #[.agg #[.int .i64 0, .int .i64 8, .int .i64 2, .int .i64 6, .bool false, .string { data := #[] }, .string { data := #[] }, .string { data := #[] }, .string { data := #[] }, .string { data := #[] }, .slice none 0 0, .slice none 0 0], .bool true]) ∧ Below w.heap.size w w' := by
  obtain ⟨T, eT, zT, iT0, iT1, iT2, iT3, iT4, iT5, iT6, iT7, xT1_3, xT3_8, xT6_8, xT3_5⟩ : ∃ T : ByteArray, { data := #[76, 65, 88, 50, 54, 89, 50, 54] } = T ∧ T.size = 8 ∧ (∀ h : 0 < T.size, (T[0]'h).toNat = 76) ∧ (∀ h : 1 < T.size, (T[1]'h).toNat = 65) ∧ (∀ h : 2 < T.size, (T[2]'h).toNat = 88) ∧ (∀ h : 3 < T.size, (T[3]'h).toNat = 50) ∧ (∀ h : 4 < T.size, (T[4]'h).toNat = 54) ∧ (∀ h : 5 < T.size, (T[5]'h).toNat = 89) ∧ (∀ h : 6 < T.size, (T[6]'h).toNat = 50) ∧ (∀ h : 7 < T.size, (T[7]'h).toNat = 54) ∧ T.extract 1 3 = { data := #[65, 88] } ∧ T.extract 3 8 = { data := #[50, 54, 89, 50, 54] } ∧ T.extract 6 8 = { data := #[50, 54] } ∧ T.extract 3 5 = { data := #[50, 54] } := ⟨_, rfl, rfl, fun _ => rfl, fun _ => rfl, fun _ => rfl, fun _ => rfl, fun _ => rfl, fun _ => rfl, fun _ => rfl, fun _ => rfl, rfl, rfl, rfl, rfl⟩
  rw [eT]
  clear eT
  go_enter Tryz.func148, Tryz.ntmps148
  go_wp2_with fail
  go_quiet ((go_at_call 195; exact Calls.quiet_of_same (digits_two6 _)))
  go_wp2_with fail
  go_region
  go_wp2_with fail
  refine bodyPost_ret (results_row_tmp Tryz.results148 _ _ w.heap.size #[.int .i64 0, .int .i64 8, .int .i64 2, .int .i64 6, .bool false, .string { data := #[] }, .string { data := #[] }, .string { data := #[] }, .string { data := #[] }, .string { data := #[] }, .slice none 0 0, .slice none 0 0] (by rfl) (run_loadVar_row _ _ 103 103 _ (0, 0) _ ?_ Tryz.underlying103 rfl (by kernel_rfl))) rfl ⟨rfl, ?_⟩
  · first | (with_reducible exact Blk.new _ _ _) | (with_reducible exact heap_alloc_new _ _) | ((try simp only [World.setCell]); (try simp only [heap_drew]); (try simp only [heap_drewN]); (try simp only [Array.getElem?_modify, if_true]); (try simp only [heap_drew]); (try simp only [heap_drewN]); rw [heap_alloc_new]; rfl)
  · exact blw
theorem dd_005a : ∀ w, Calls Tryz.prog 197 #[.string { data := #[48, 46, 48, 53] }] w fun e w' => e = .returned (.tuple #[.int .i64 0, .int .i64 1]) ∧ w = w' := fun w => ddigits_c [48] [46, 48, 53] w (by decide) (by intro c h; simp at h; subst h; decide) (by intro c h; simp at h; subst h; decide) (by decide)
theorem dd_005b : ∀ w, Calls Tryz.prog 197 #[.string { data := #[48, 53] }] w fun e w' => e = .returned (.tuple #[.int .i64 5, .int .i64 2]) ∧ w = w' := fun w => ddigits_c [48, 53] [] w (by decide) (by intro c h; simp at h; rcases h with rfl | rfl <;> decide) (by intro c h; simp at h) (by decide)
theorem parse_005 (w : World) : Calls Tryz.prog 152 #[.string { data := #[48, 46, 48, 53] }] w fun e w' => e = .returned (.tuple #[.int .i64 50000, .bool true]) ∧ w = w' := by
  have h1 := dd_005a
  have h2 := dd_005b
  obtain ⟨T, eT, zT, iT0, iT1, xT, nT⟩ : ∃ T : ByteArray, { data := #[48, 46, 48, 53] } = T ∧ T.size = 4 ∧ (∀ h : 0 < T.size, (T[0]'h).toNat = 48) ∧ (∀ h : 1 < T.size, (T[1]'h).toNat = 46) ∧ T.extract 1 4 = { data := #[46, 48, 53] } ∧ T.toList.isEmpty = false := ⟨_, rfl, rfl, fun _ => rfl, fun _ => rfl, rfl, by rw [show { data := #[48, 46, 48, 53] } = bs [48, 46, 48, 53] from rfl, bs_toList]; rfl⟩
  rw [eT] at h1 ⊢
  obtain ⟨U, eU, zU, iU0, xU, yU, nU⟩ : ∃ T : ByteArray, { data := #[46, 48, 53] } = T ∧ T.size = 3 ∧ (∀ h : 0 < T.size, (T[0]'h).toNat = 46) ∧ T.extract 1 3 = { data := #[48, 53] } ∧ T.extract 3 3 = { data := #[] } ∧ T.toList.isEmpty = false := ⟨_, rfl, rfl, fun _ => rfl, rfl, rfl, by rw [show { data := #[46, 48, 53] } = bs [46, 48, 53] from rfl, bs_toList]; rfl⟩
  rw [eU] at xT
  have H1 := Lib.hid h1
  have H2 := Lib.hid h2
  clear eT eU h1 h2
  go_enter Tryz.func152, Tryz.ntmps152
  go_wp2_with (first | (go_at_call 197; (with_reducible refine (H1.out _).mono ?_); rintro e w' ⟨rfl, rfl⟩) | (go_at_call 197; (with_reducible refine (H2.out _).mono ?_); rintro e w' ⟨rfl, rfl⟩))
  refine wp_loop_rounds 5 ?_
  iterate 5 (rw [rounds_succ]; go_wp2_with fail)
  go_ret2
  exact ⟨rfl, rfl⟩
theorem dd_127a : ∀ w, Calls Tryz.prog 197 #[.string { data := #[49, 46, 50, 55] }] w fun e w' => e = .returned (.tuple #[.int .i64 1, .int .i64 1]) ∧ w = w' := fun w => ddigits_c [49] [46, 50, 55] w (by decide) (by intro c h; simp at h; subst h; decide) (by intro c h; simp at h; subst h; decide) (by decide)
theorem dd_127b : ∀ w, Calls Tryz.prog 197 #[.string { data := #[50, 55] }] w fun e w' => e = .returned (.tuple #[.int .i64 27, .int .i64 2]) ∧ w = w' := fun w => ddigits_c [50, 55] [] w (by decide) (by intro c h; simp at h; rcases h with rfl | rfl <;> decide) (by intro c h; simp at h) (by decide)
theorem parse_127 (w : World) : Calls Tryz.prog 152 #[.string { data := #[49, 46, 50, 55] }] w fun e w' => e = .returned (.tuple #[.int .i64 1270000, .bool true]) ∧ w = w' := by
  have h1 := dd_127a
  have h2 := dd_127b
  obtain ⟨T, eT, zT, iT0, iT1, xT, nT⟩ : ∃ T : ByteArray, { data := #[49, 46, 50, 55] } = T ∧ T.size = 4 ∧ (∀ h : 0 < T.size, (T[0]'h).toNat = 49) ∧ (∀ h : 1 < T.size, (T[1]'h).toNat = 46) ∧ T.extract 1 4 = { data := #[46, 50, 55] } ∧ T.toList.isEmpty = false := ⟨_, rfl, rfl, fun _ => rfl, fun _ => rfl, rfl, by rw [show { data := #[49, 46, 50, 55] } = bs [49, 46, 50, 55] from rfl, bs_toList]; rfl⟩
  rw [eT] at h1 ⊢
  obtain ⟨U, eU, zU, iU0, xU, yU, nU⟩ : ∃ T : ByteArray, { data := #[46, 50, 55] } = T ∧ T.size = 3 ∧ (∀ h : 0 < T.size, (T[0]'h).toNat = 46) ∧ T.extract 1 3 = { data := #[50, 55] } ∧ T.extract 3 3 = { data := #[] } ∧ T.toList.isEmpty = false := ⟨_, rfl, rfl, fun _ => rfl, rfl, rfl, by rw [show { data := #[46, 50, 55] } = bs [46, 50, 55] from rfl, bs_toList]; rfl⟩
  rw [eU] at xT
  have H1 := Lib.hid h1
  have H2 := Lib.hid h2
  clear eT eU h1 h2
  go_enter Tryz.func152, Tryz.ntmps152
  go_wp2_with (first | (go_at_call 197; (with_reducible refine (H1.out _).mono ?_); rintro e w' ⟨rfl, rfl⟩) | (go_at_call 197; (with_reducible refine (H2.out _).mono ?_); rintro e w' ⟨rfl, rfl⟩))
  refine wp_loop_rounds 5 ?_
  iterate 5 (rw [rounds_succ]; go_wp2_with fail)
  go_ret2
  exact ⟨rfl, rfl⟩
theorem aperture_005 (w : World) : Calls Tryz.prog 149 #[.string { data := #[68, 49, 48, 67, 44, 48, 46, 48, 53] }] w fun e w' => ∃ v, e = .returned (.tuple #[.agg #[.int .i64 0, .int .i64 10, .int .i64 10, .int .i64 0, .bool false, .string { data := #[67] }, .string { data := #[] }, .string { data := #[] }, .string { data := #[] }, .string { data := #[] }, v, .slice none 0 0], .bool true]) ∧ Nums w' w.heap.size v [50000] ∧ Below w.heap.size w w' := by
  have h1 : ∀ w, Calls Tryz.prog 93 #[.string { data := #[68, 49, 48, 67, 44, 48, 46, 48, 53] }, .string { data := #[68] }] w fun e w' => e = .returned (.tuple #[.string { data := #[49, 48, 67, 44, 48, 46, 48, 53] }, .bool true]) ∧ w = w' := fun w => cutP_yes [68] [49, 48, 67, 44, 48, 46, 48, 53] w (by decide)
  have h2 : ∀ w, Calls Tryz.prog 195 #[.string { data := #[49, 48, 67, 44, 48, 46, 48, 53] }] w fun e w' => e = .returned (.int .i64 2) ∧ w = w' := fun w => digits_c [49, 48] [67, 44, 48, 46, 48, 53] w (by decide) (by intro c h; simp at h; rcases h with rfl | rfl <;> decide) (by intro c h; simp at h; subst h; decide)
  have h3 : ∀ w, Calls Tryz.prog 98 #[.string { data := #[49, 48] }] w fun e w' => e = .returned (.tuple #[.int .i64 10, .bool true]) ∧ w = w' := fun w => code_c [49, 48] w (by decide) (by decide) (by intro c h; simp at h; rcases h with rfl | rfl <;> decide) (by decide)
  have h4 : ∀ w, Calls Tryz.prog 196 #[.string { data := #[67, 44, 48, 46, 48, 53] }, .string { data := #[44] }] w fun e w' => e = .returned (.tuple #[.string { data := #[67] }, .string { data := #[48, 46, 48, 53] }, .bool true]) ∧ Below w.heap.size w w' := fun w => cut_yes [67] [48, 46, 48, 53] 44 w (by decide) (by decide) (by decide)
  have h5 : ∀ w, Calls Tryz.prog 196 #[.string { data := #[48, 46, 48, 53] }, .string { data := #[88] }] w fun e w' => e = .returned (.tuple #[.string { data := #[48, 46, 48, 53] }, .string { data := #[] }, .bool false]) ∧ Below w.heap.size w w' := fun w => cut_no [48, 46, 48, 53] 88 w (by decide) (by decide)
  have H1 := Lib.hid h1
  have H2 := Lib.hid h2
  have H3 := Lib.hid h3
  have H4 := Lib.hid h4
  have H5 := Lib.hid h5
  clear h1 h2 h3 h4 h5
  have x1 : ({ data := #[49, 48, 67, 44, 48, 46, 48, 53] } : ByteArray).extract 0 2 = { data := #[49, 48] } := rfl
  have x2 : ({ data := #[49, 48, 67, 44, 48, 46, 48, 53] } : ByteArray).extract 2 8 = { data := #[67, 44, 48, 46, 48, 53] } := rfl
  obtain ⟨i2, hi2, hz0, hz1, hz2⟩ := info_parts info2
  have HI := Lib.hid (And.intro hi2 (And.intro hz0 (And.intro hz1 hz2)))
  clear hi2 hz0 hz1 hz2
  go_enter Tryz.func149, Tryz.ntmps149
  go_wp2_with (first | (go_at_call 93; ((with_reducible refine (H1.out _).mono ?_); rintro e w' ⟨rfl, rfl⟩)) | (go_at_call 195; ((with_reducible refine (H2.out _).mono ?_); rintro e w' ⟨rfl, rfl⟩)) | (go_at_call 98; ((with_reducible refine (H3.out _).mono ?_); rintro e w' ⟨rfl, rfl⟩)))
  refine (H4.out _).mono ?_
  rintro e w1 ⟨rfl, hb⟩
  have hB1 : Below w.heap.size w w1 := Below.trans (by exact blw) (hb.mono (by first | omega | (simp; done) | (simp; omega)))
  have k1_0 : Blk w1 (w.heap.size) 103 #[.int .i64 0, .int .i64 0, .int .i64 0, .int .i64 0, .bool false, .string { data := #[] }, .string { data := #[] }, .string { data := #[] }, .string { data := #[] }, .string { data := #[] }, .slice none 0 0, .slice none 0 0] := Blk.below (by exact bkw) hb (by first | omega | (simp; done) | (simp; omega))
  have c1_0 := k1_0.cell
  have f1_0 := k1_0.frozen
  have l1_0 := k1_0.lt
  have l1 := hB1.size
  clear hb
  go_wp2_with (go_at_call 95; (with_reducible refine (name_C _).mono ?_); rintro e w' ⟨rfl, rfl⟩)
  refine wp_loop_rounds 2 ?_
  rw [rounds_succ]
  go_wp2_with fail
  refine (H5.out _).mono ?_
  rintro e w2 ⟨rfl, hb⟩
  have hB2 : Below w.heap.size w w2 := Below.trans (by exact blw) (hb.mono (by first | omega | (simp; done) | (simp; omega)))
  have k2_0 : Blk w2 (w.heap.size) 103 #[.int .i64 0, .int .i64 0, .int .i64 0, .int .i64 0, .bool false, .string { data := #[] }, .string { data := #[] }, .string { data := #[] }, .string { data := #[] }, .string { data := #[] }, .slice none 0 0, .slice none 0 0] := Blk.below (by exact bkw) hb (by first | omega | (simp; done) | (simp; omega))
  have k2_1 : Blk w2 (w1.heap.size) 103 #[.int .i64 0, .int .i64 10, .int .i64 10, .int .i64 0, .bool false, .string { data := #[67] }, .string { data := #[] }, .string { data := #[] }, .string { data := #[] }, .string { data := #[] }, .slice none 0 0, .slice none 0 0] := Blk.below (by exact bkw) hb (by first | omega | (simp; done) | (simp; omega))
  have c2_0 := k2_0.cell
  have f2_0 := k2_0.frozen
  have l2_0 := k2_0.lt
  have c2_1 := k2_1.cell
  have f2_1 := k2_1.frozen
  have l2_1 := k2_1.lt
  have l2 := hB2.size
  clear hb k1_0 c1_0 f1_0
  have hs : ∀ o, w.heap.size ≤ (w2.alloc o).heap.size := fun o => Nat.le_trans l2 (by simp)
  have hN : ∀ j u, ([.int .i64 50000] : List Value)[j]? = some u → (w2.alloc (.cells #[.int .i64 50000] 2)).cell? ((⟨w2.heap.size, 0, none⟩ : Addr).add j) = some u :=
    World.news_of_block (cs := #[.int .i64 50000]) (Blk.newAt (w := w2) rfl)
  have HS := Lib.hid hs
  have HN := Lib.hid hN
  have hO : Hid (∀ u ∈ ([.int .i64 50000] : List Value), u.oneCell' = true) := Lib.hid (by intro u hu; simp at hu; subst hu; rfl)
  clear hs hN
  go_wp2_with (first | (go_at_call 152; (with_reducible refine (parse_005 _).mono ?_); rintro e w' ⟨rfl, rfl⟩) | (at_builtin; refine wpList_append_lies _ rfl (.tmp 66) (.tmp 68) 22 rfl w.heap.size 2 i2 _ 1 8 Tryz.underlying22 HI.out.1 HI.out.2.1 HI.out.2.2.1 HI.out.2.2.2 rfl (by decide) (.slice none 0 0) 0 [] (by simp [Act.eval]) (World.ownsRow_nil _ _ _ _) ⟨w2.heap.size, 0, none⟩ 1 1 [.int .i64 50000] (by simp [Act.eval]) rfl HN.out hO.out (by decide) (by decide) (by decide) (HS.out _) _ rfl ?_))
  intro g cap w3 hown hgrow hat hlt
  have k3_0 := (k2_0.alloc (.cells #[.int .i64 50000] 2)).grown hgrow (by simp [Value.ownBlock])
  have k3_1 := (k2_1.alloc (.cells #[.int .i64 50000] 2)).grown hgrow (by simp [Value.ownBlock])
  have hB3 : Below w.heap.size w w3 := Below.grown (Below.alloc hB2 l2 _) hgrow (HS.out _) (by simp [Value.ownBlock])
  have hne0 := own_blk_ne hown k3_0 (by decide)
  have hne1 := own_blk_ne hown k3_1 (by decide)
  have HO3 := Lib.hid hown
  have HN0 := Lib.hid hne0
  have HN1 := Lib.hid hne1
  have c3_0 := k3_0.cell
  have c3_1 := k3_1.cell
  have f3_0 := k3_0.frozen
  have f3_1 := k3_1.frozen
  have l3_0 := k3_0.lt
  have l3_1 := k3_1.lt
  clear k2_0 k2_1 c2_0 c2_1 f2_0 f2_1 hown hgrow hat hne0 hne1
  go_wp2_with fail
  rw [rounds_succ]
  go_wp2_with fail
  refine bodyPost_ret (results_row_tmp Tryz.results149 _ _ w.heap.size #[.int .i64 0, .int .i64 10, .int .i64 10, .int .i64 0, .bool false, .string { data := #[67] }, .string { data := #[] }, .string { data := #[] }, .string { data := #[] }, .string { data := #[] }, .slice (some ⟨g, 0, none⟩) 1 cap, .slice none 0 0] (by rfl) (run_loadVar_row _ _ 103 103 _ (0, 0) _ ?_ Tryz.underlying103 rfl (by kernel_rfl))) rfl ⟨_, rfl, ?_, ?_⟩
  · unfold Blk at k3_0
    simp [World.setCell, Array.getElem?_modify, k3_0, Nat.ne_of_gt l1_0]
  · unfold Nums
    (repeat' (first | (with_reducible exact HO3.out) | (with_reducible refine own_far ?_ ?_ _) | (with_reducible exact HN0.out) | (with_reducible exact HN1.out) | exact HO3.out))
  · exact blw
theorem aperture_127 (w : World) : Calls Tryz.prog 149 #[.string { data := #[68, 49, 48, 67, 44, 49, 46, 50, 55] }] w fun e w' => ∃ v, e = .returned (.tuple #[.agg #[.int .i64 0, .int .i64 10, .int .i64 10, .int .i64 0, .bool false, .string { data := #[67] }, .string { data := #[] }, .string { data := #[] }, .string { data := #[] }, .string { data := #[] }, v, .slice none 0 0], .bool true]) ∧ Nums w' w.heap.size v [1270000] ∧ Below w.heap.size w w' := by
  have h1 : ∀ w, Calls Tryz.prog 93 #[.string { data := #[68, 49, 48, 67, 44, 49, 46, 50, 55] }, .string { data := #[68] }] w fun e w' => e = .returned (.tuple #[.string { data := #[49, 48, 67, 44, 49, 46, 50, 55] }, .bool true]) ∧ w = w' := fun w => cutP_yes [68] [49, 48, 67, 44, 49, 46, 50, 55] w (by decide)
  have h2 : ∀ w, Calls Tryz.prog 195 #[.string { data := #[49, 48, 67, 44, 49, 46, 50, 55] }] w fun e w' => e = .returned (.int .i64 2) ∧ w = w' := fun w => digits_c [49, 48] [67, 44, 49, 46, 50, 55] w (by decide) (by intro c h; simp at h; rcases h with rfl | rfl <;> decide) (by intro c h; simp at h; subst h; decide)
  have h3 : ∀ w, Calls Tryz.prog 98 #[.string { data := #[49, 48] }] w fun e w' => e = .returned (.tuple #[.int .i64 10, .bool true]) ∧ w = w' := fun w => code_c [49, 48] w (by decide) (by decide) (by intro c h; simp at h; rcases h with rfl | rfl <;> decide) (by decide)
  have h4 : ∀ w, Calls Tryz.prog 196 #[.string { data := #[67, 44, 49, 46, 50, 55] }, .string { data := #[44] }] w fun e w' => e = .returned (.tuple #[.string { data := #[67] }, .string { data := #[49, 46, 50, 55] }, .bool true]) ∧ Below w.heap.size w w' := fun w => cut_yes [67] [49, 46, 50, 55] 44 w (by decide) (by decide) (by decide)
  have h5 : ∀ w, Calls Tryz.prog 196 #[.string { data := #[49, 46, 50, 55] }, .string { data := #[88] }] w fun e w' => e = .returned (.tuple #[.string { data := #[49, 46, 50, 55] }, .string { data := #[] }, .bool false]) ∧ Below w.heap.size w w' := fun w => cut_no [49, 46, 50, 55] 88 w (by decide) (by decide)
  have H1 := Lib.hid h1
  have H2 := Lib.hid h2
  have H3 := Lib.hid h3
  have H4 := Lib.hid h4
  have H5 := Lib.hid h5
  clear h1 h2 h3 h4 h5
  have x1 : ({ data := #[49, 48, 67, 44, 49, 46, 50, 55] } : ByteArray).extract 0 2 = { data := #[49, 48] } := rfl
  have x2 : ({ data := #[49, 48, 67, 44, 49, 46, 50, 55] } : ByteArray).extract 2 8 = { data := #[67, 44, 49, 46, 50, 55] } := rfl
  obtain ⟨i2, hi2, hz0, hz1, hz2⟩ := info_parts info2
  have HI := Lib.hid (And.intro hi2 (And.intro hz0 (And.intro hz1 hz2)))
  clear hi2 hz0 hz1 hz2
  go_enter Tryz.func149, Tryz.ntmps149
  go_wp2_with (first | (go_at_call 93; ((with_reducible refine (H1.out _).mono ?_); rintro e w' ⟨rfl, rfl⟩)) | (go_at_call 195; ((with_reducible refine (H2.out _).mono ?_); rintro e w' ⟨rfl, rfl⟩)) | (go_at_call 98; ((with_reducible refine (H3.out _).mono ?_); rintro e w' ⟨rfl, rfl⟩)))
  refine (H4.out _).mono ?_
  rintro e w1 ⟨rfl, hb⟩
  have hB1 : Below w.heap.size w w1 := Below.trans (by exact blw) (hb.mono (by first | omega | (simp; done) | (simp; omega)))
  have k1_0 : Blk w1 (w.heap.size) 103 #[.int .i64 0, .int .i64 0, .int .i64 0, .int .i64 0, .bool false, .string { data := #[] }, .string { data := #[] }, .string { data := #[] }, .string { data := #[] }, .string { data := #[] }, .slice none 0 0, .slice none 0 0] := Blk.below (by exact bkw) hb (by first | omega | (simp; done) | (simp; omega))
  have c1_0 := k1_0.cell
  have f1_0 := k1_0.frozen
  have l1_0 := k1_0.lt
  have l1 := hB1.size
  clear hb
  go_wp2_with (go_at_call 95; (with_reducible refine (name_C _).mono ?_); rintro e w' ⟨rfl, rfl⟩)
  refine wp_loop_rounds 2 ?_
  rw [rounds_succ]
  go_wp2_with fail
  refine (H5.out _).mono ?_
  rintro e w2 ⟨rfl, hb⟩
  have hB2 : Below w.heap.size w w2 := Below.trans (by exact blw) (hb.mono (by first | omega | (simp; done) | (simp; omega)))
  have k2_0 : Blk w2 (w.heap.size) 103 #[.int .i64 0, .int .i64 0, .int .i64 0, .int .i64 0, .bool false, .string { data := #[] }, .string { data := #[] }, .string { data := #[] }, .string { data := #[] }, .string { data := #[] }, .slice none 0 0, .slice none 0 0] := Blk.below (by exact bkw) hb (by first | omega | (simp; done) | (simp; omega))
  have k2_1 : Blk w2 (w1.heap.size) 103 #[.int .i64 0, .int .i64 10, .int .i64 10, .int .i64 0, .bool false, .string { data := #[67] }, .string { data := #[] }, .string { data := #[] }, .string { data := #[] }, .string { data := #[] }, .slice none 0 0, .slice none 0 0] := Blk.below (by exact bkw) hb (by first | omega | (simp; done) | (simp; omega))
  have c2_0 := k2_0.cell
  have f2_0 := k2_0.frozen
  have l2_0 := k2_0.lt
  have c2_1 := k2_1.cell
  have f2_1 := k2_1.frozen
  have l2_1 := k2_1.lt
  have l2 := hB2.size
  clear hb k1_0 c1_0 f1_0
  have hs : ∀ o, w.heap.size ≤ (w2.alloc o).heap.size := fun o => Nat.le_trans l2 (by simp)
  have hN : ∀ j u, ([.int .i64 1270000] : List Value)[j]? = some u → (w2.alloc (.cells #[.int .i64 1270000] 2)).cell? ((⟨w2.heap.size, 0, none⟩ : Addr).add j) = some u :=
    World.news_of_block (cs := #[.int .i64 1270000]) (Blk.newAt (w := w2) rfl)
  have HS := Lib.hid hs
  have HN := Lib.hid hN
  have hO : Hid (∀ u ∈ ([.int .i64 1270000] : List Value), u.oneCell' = true) := Lib.hid (by intro u hu; simp at hu; subst hu; rfl)
  clear hs hN
  go_wp2_with (first | (go_at_call 152; (with_reducible refine (parse_127 _).mono ?_); rintro e w' ⟨rfl, rfl⟩) | (at_builtin; refine wpList_append_lies _ rfl (.tmp 66) (.tmp 68) 22 rfl w.heap.size 2 i2 _ 1 8 Tryz.underlying22 HI.out.1 HI.out.2.1 HI.out.2.2.1 HI.out.2.2.2 rfl (by decide) (.slice none 0 0) 0 [] (by simp [Act.eval]) (World.ownsRow_nil _ _ _ _) ⟨w2.heap.size, 0, none⟩ 1 1 [.int .i64 1270000] (by simp [Act.eval]) rfl HN.out hO.out (by decide) (by decide) (by decide) (HS.out _) _ rfl ?_))
  intro g cap w3 hown hgrow hat hlt
  have k3_0 := (k2_0.alloc (.cells #[.int .i64 1270000] 2)).grown hgrow (by simp [Value.ownBlock])
  have k3_1 := (k2_1.alloc (.cells #[.int .i64 1270000] 2)).grown hgrow (by simp [Value.ownBlock])
  have hB3 : Below w.heap.size w w3 := Below.grown (Below.alloc hB2 l2 _) hgrow (HS.out _) (by simp [Value.ownBlock])
  have hne0 := own_blk_ne hown k3_0 (by decide)
  have hne1 := own_blk_ne hown k3_1 (by decide)
  have HO3 := Lib.hid hown
  have HN0 := Lib.hid hne0
  have HN1 := Lib.hid hne1
  have c3_0 := k3_0.cell
  have c3_1 := k3_1.cell
  have f3_0 := k3_0.frozen
  have f3_1 := k3_1.frozen
  have l3_0 := k3_0.lt
  have l3_1 := k3_1.lt
  clear k2_0 k2_1 c2_0 c2_1 f2_0 f2_1 hown hgrow hat hne0 hne1
  go_wp2_with fail
  rw [rounds_succ]
  go_wp2_with fail
  refine bodyPost_ret (results_row_tmp Tryz.results149 _ _ w.heap.size #[.int .i64 0, .int .i64 10, .int .i64 10, .int .i64 0, .bool false, .string { data := #[67] }, .string { data := #[] }, .string { data := #[] }, .string { data := #[] }, .string { data := #[] }, .slice (some ⟨g, 0, none⟩) 1 cap, .slice none 0 0] (by rfl) (run_loadVar_row _ _ 103 103 _ (0, 0) _ ?_ Tryz.underlying103 rfl (by kernel_rfl))) rfl ⟨_, rfl, ?_, ?_⟩
  · unfold Blk at k3_0
    simp [World.setCell, Array.getElem?_modify, k3_0, Nat.ne_of_gt l1_0]
  · unfold Nums
    (repeat' (first | (with_reducible exact HO3.out) | (with_reducible refine own_far ?_ ?_ _) | (with_reducible exact HN0.out) | (with_reducible exact HN1.out) | exact HO3.out))
  · exact blw
end Go.Proofs.YtfajckkbinbpiaaGreatDoor
