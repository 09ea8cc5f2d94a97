/- Walks: definitions of apertures. Walks: the definition of a rectangle. A struct stored whole into a block that is known: the walk goes on in a world of which the block is known, and that all else is as it was. Walks: a step as it is written. -/
import Derived.Deep.AppendLies
import Derived.Laws.OwnMore
import Derived.Laws.Tables
import Derived.Outline
import Derived.OwnWalk
import Derived.Test.YtfajckkbinbpiaaGreatDoorN01
import Derived.Test.YtfajckkbinbpiaaGreatDoorN08
namespace Go.Proofs.YtfajckkbinbpiaaGreatDoor
set_option maxRecDepth 100000
set_option maxHeartbeats 32000000
set_option linter.unusedVariables false
set_option linter.unusedSimpArgs false
open Go.RowKit
theorem info2 : (Tryz.prog.info? 2).map (fun i => (i.zero, i.size, i.bytes)) = some (some (.int .i64 0), 1, 8) := by kernel_rfl
def Nums (w : World) (B : Nat) (v : Value) (l : List Int) : Prop := w.ownsRow B 2 1 v l.length (l.map fun x => .int .i64 x)
theorem aperture_C (w : World) : Calls Tryz.prog 149 #[.string { data := #[68, 49, 48, 67, 44, 48, 46, 53] }] w fun e w' => ∃ v, e = .returned (.tuple #[.agg #[.int .i64 0, .int .i64 10, .int .i64 10, .int .i64 0, .bool false, .string { data := #[67] }, .string { data := #[] }, .string { data := #[] }, .string { data := #[] }, .string { data := #[] }, v, .slice none 0 0], .bool true]) ∧ Nums w' w.heap.size v [500000] ∧ Below w.heap.size w w' := by
  have h1 : ∀ w, Calls Tryz.prog 93 #[.string { data := #[68, 49, 48, 67, 44, 48, 46, 53] }, .string { data := #[68] }] w fun e w' => e = .returned (.tuple #[.string { data := #[49, 48, 67, 44, 48, 46, 53] }, .bool true]) ∧ w = w' := fun w => cutP_yes [68] [49, 48, 67, 44, 48, 46, 53] w (by decide)
  have h2 : ∀ w, Calls Tryz.prog 195 #[.string { data := #[49, 48, 67, 44, 48, 46, 53] }] w fun e w' => e = .returned (.int .i64 2) ∧ w = w' := fun w => digits_c [49, 48] [67, 44, 48, 46, 53] w (by decide) (by intro c h; simp at h; rcases h with rfl | rfl <;> decide) (by intro c h; simp at h; subst h; decide)
  have h3 : ∀ w, Calls Tryz.prog 98 #[.string { data := #[49, 48] }] w fun e w' => e = .returned (.tuple #[.int .i64 10, .bool true]) ∧ w = w' := fun w => code_c [49, 48] w (by decide) (by decide) (by intro c h; simp at h; rcases h with rfl | rfl <;> decide) (by decide)
  have h4 : ∀ w, Calls Tryz.prog 196 #[.string { data := #[67, 44, 48, 46, 53] }, .string { data := #[44] }] w fun e w' => e = .returned (.tuple #[.string { data := #[67] }, .string { data := #[48, 46, 53] }, .bool true]) ∧ Below w.heap.size w w' := fun w => cut_yes [67] [48, 46, 53] 44 w (by decide) (by decide) (by decide)
  have h5 : ∀ w, Calls Tryz.prog 196 #[.string { data := #[48, 46, 53] }, .string { data := #[88] }] w fun e w' => e = .returned (.tuple #[.string { data := #[48, 46, 53] }, .string { data := #[] }, .bool false]) ∧ Below w.heap.size w w' := fun w => cut_no [48, 46, 53] 88 w (by decide) (by decide)
  have H1 := Lib.hid h1
  have H2 := Lib.hid h2
  have H3 := Lib.hid h3
  have H4 := Lib.hid h4
  have H5 := Lib.hid h5
  clear h1 h2 h3 h4 h5
  have x1 : ({ data := #[49, 48, 67, 44, 48, 46, 53] } : ByteArray).extract 0 2 = { data := #[49, 48] } := rfl
  have x2 : ({ data := #[49, 48, 67, 44, 48, 46, 53] } : ByteArray).extract 2 7 = { data := #[67, 44, 48, 46, 53] } := rfl
  obtain ⟨i2, hi2, hz0, hz1, hz2⟩ := info_parts info2
  have HI := Lib.hid (And.intro hi2 (And.intro hz0 (And.intro hz1 hz2)))
  clear hi2 hz0 hz1 hz2
  go_enter Tryz.func149, Tryz.ntmps149
  go_wp2_with (first | (go_at_call 93; ((with_reducible refine (H1.out _).mono ?_); rintro e w' ⟨rfl, rfl⟩)) | (go_at_call 195; ((with_reducible refine (H2.out _).mono ?_); rintro e w' ⟨rfl, rfl⟩)) | (go_at_call 98; ((with_reducible refine (H3.out _).mono ?_); rintro e w' ⟨rfl, rfl⟩)))
  refine (H4.out _).mono ?_
  rintro e w1 ⟨rfl, hb⟩
  have hB1 : Below w.heap.size w w1 := Below.trans (by exact blw) (hb.mono (by first | omega | (simp; done) | (simp; omega)))
  have k1_0 : Blk w1 (w.heap.size) 103 #[.int .i64 0, .int .i64 0, .int .i64 0, .int .i64 0, .bool false, .string { data := #[] }, .string { data := #[] }, .string { data := #[] }, .string { data := #[] }, .string { data := #[] }, .slice none 0 0, .slice none 0 0] := Blk.below (by exact bkw) hb (by first | omega | (simp; done) | (simp; omega))
  have c1_0 := k1_0.cell
  have f1_0 := k1_0.frozen
  have l1_0 := k1_0.lt
  have l1 := hB1.size
  clear hb
  go_wp2_with (go_at_call 95; (with_reducible refine (name_C _).mono ?_); rintro e w' ⟨rfl, rfl⟩)
  refine wp_loop_rounds 2 ?_
  rw [rounds_succ]
  go_wp2_with fail
  refine (H5.out _).mono ?_
  rintro e w2 ⟨rfl, hb⟩
  have hB2 : Below w.heap.size w w2 := Below.trans (by exact blw) (hb.mono (by first | omega | (simp; done) | (simp; omega)))
  have k2_0 : Blk w2 (w.heap.size) 103 #[.int .i64 0, .int .i64 0, .int .i64 0, .int .i64 0, .bool false, .string { data := #[] }, .string { data := #[] }, .string { data := #[] }, .string { data := #[] }, .string { data := #[] }, .slice none 0 0, .slice none 0 0] := Blk.below (by exact bkw) hb (by first | omega | (simp; done) | (simp; omega))
  have k2_1 : Blk w2 (w1.heap.size) 103 #[.int .i64 0, .int .i64 10, .int .i64 10, .int .i64 0, .bool false, .string { data := #[67] }, .string { data := #[] }, .string { data := #[] }, .string { data := #[] }, .string { data := #[] }, .slice none 0 0, .slice none 0 0] := Blk.below (by exact bkw) hb (by first | omega | (simp; done) | (simp; omega))
  have c2_0 := k2_0.cell
  have f2_0 := k2_0.frozen
  have l2_0 := k2_0.lt
  have c2_1 := k2_1.cell
  have f2_1 := k2_1.frozen
  have l2_1 := k2_1.lt
  have l2 := hB2.size
  clear hb k1_0 c1_0 f1_0
  have hs : ∀ o, w.heap.size ≤ (w2.alloc o).heap.size := fun o => Nat.le_trans l2 (by simp)
  have hN : ∀ j u, ([.int .i64 500000] : List Value)[j]? = some u → (w2.alloc (.cells #[.int .i64 500000] 2)).cell? ((⟨w2.heap.size, 0, none⟩ : Addr).add j) = some u :=
    World.news_of_block (cs := #[.int .i64 500000]) (Blk.newAt (w := w2) rfl)
  have HS := Lib.hid hs
  have HN := Lib.hid hN
  have hO : Hid (∀ u ∈ ([.int .i64 500000] : List Value), u.oneCell' = true) := Lib.hid (by intro u hu; simp at hu; subst hu; rfl)
  clear hs hN
  go_wp2_with (first | (go_at_call 152; (with_reducible refine (parse_05 _).mono ?_); rintro e w' ⟨rfl, rfl⟩) | (at_builtin; refine wpList_append_lies _ rfl (.tmp 66) (.tmp 68) 22 rfl w.heap.size 2 i2 _ 1 8 Tryz.underlying22 HI.out.1 HI.out.2.1 HI.out.2.2.1 HI.out.2.2.2 rfl (by decide) (.slice none 0 0) 0 [] (by simp [Act.eval]) (World.ownsRow_nil _ _ _ _) ⟨w2.heap.size, 0, none⟩ 1 1 [.int .i64 500000] (by simp [Act.eval]) rfl HN.out hO.out (by decide) (by decide) (by decide) (HS.out _) _ rfl ?_))
  intro g cap w3 hown hgrow hat hlt
  have k3_0 := (k2_0.alloc (.cells #[.int .i64 500000] 2)).grown hgrow (by simp [Value.ownBlock])
  have k3_1 := (k2_1.alloc (.cells #[.int .i64 500000] 2)).grown hgrow (by simp [Value.ownBlock])
  have hB3 : Below w.heap.size w w3 := Below.grown (Below.alloc hB2 l2 _) hgrow (HS.out _) (by simp [Value.ownBlock])
  have hne0 := own_blk_ne hown k3_0 (by decide)
  have hne1 := own_blk_ne hown k3_1 (by decide)
  have HO3 := Lib.hid hown
  have HN0 := Lib.hid hne0
  have HN1 := Lib.hid hne1
  have c3_0 := k3_0.cell
  have c3_1 := k3_1.cell
  have f3_0 := k3_0.frozen
  have f3_1 := k3_1.frozen
  have l3_0 := k3_0.lt
  have l3_1 := k3_1.lt
  clear k2_0 k2_1 c2_0 c2_1 f2_0 f2_1 hown hgrow hat hne0 hne1
  go_wp2_with fail
  rw [rounds_succ]
  go_wp2_with fail
  refine bodyPost_ret (results_row_tmp Tryz.results149 _ _ w.heap.size #[.int .i64 0, .int .i64 10, .int .i64 10, .int .i64 0, .bool false, .string { data := #[67] }, .string { data := #[] }, .string { data := #[] }, .string { data := #[] }, .string { data := #[] }, .slice (some ⟨g, 0, none⟩) 1 cap, .slice none 0 0] (by rfl) (run_loadVar_row _ _ 103 103 _ (0, 0) _ ?_ Tryz.underlying103 rfl (by kernel_rfl))) rfl ⟨_, rfl, ?_, ?_⟩
  · unfold Blk at k3_0
    simp [World.setCell, Array.getElem?_modify, k3_0, Nat.ne_of_gt l1_0]
  · unfold Nums
    (repeat' (first | (with_reducible exact HO3.out) | (with_reducible refine own_far ?_ ?_ _) | (with_reducible exact HN0.out) | (with_reducible exact HN1.out) | exact HO3.out))
  · exact blw
theorem aperture_R (w : World) : Calls Tryz.prog 149 #[.string { data := #[68, 49, 48, 82, 44, 52, 88, 52] }] w fun e w' => ∃ v, e = .returned (.tuple #[.agg #[.int .i64 0, .int .i64 10, .int .i64 10, .int .i64 0, .bool false, .string { data := #[82] }, .string { data := #[] }, .string { data := #[] }, .string { data := #[] }, .string { data := #[] }, v, .slice none 0 0], .bool true]) ∧ Nums w' w.heap.size v [4000000, 4000000] ∧ Below w.heap.size w w' := by
  have h1 : ∀ w, Calls Tryz.prog 93 #[.string { data := #[68, 49, 48, 82, 44, 52, 88, 52] }, .string { data := #[68] }] w fun e w' => e = .returned (.tuple #[.string { data := #[49, 48, 82, 44, 52, 88, 52] }, .bool true]) ∧ w = w' := fun w => cutP_yes [68] [49, 48, 82, 44, 52, 88, 52] w (by decide)
  have h2 : ∀ w, Calls Tryz.prog 195 #[.string { data := #[49, 48, 82, 44, 52, 88, 52] }] w fun e w' => e = .returned (.int .i64 2) ∧ w = w' := fun w => digits_c [49, 48] [82, 44, 52, 88, 52] w (by decide) (by intro c h; simp at h; rcases h with rfl | rfl <;> decide) (by intro c h; simp at h; subst h; decide)
  have h3 : ∀ w, Calls Tryz.prog 98 #[.string { data := #[49, 48] }] w fun e w' => e = .returned (.tuple #[.int .i64 10, .bool true]) ∧ w = w' := fun w => code_c [49, 48] w (by decide) (by decide) (by intro c h; simp at h; rcases h with rfl | rfl <;> decide) (by decide)
  have h4 : ∀ w, Calls Tryz.prog 196 #[.string { data := #[82, 44, 52, 88, 52] }, .string { data := #[44] }] w fun e w' => e = .returned (.tuple #[.string { data := #[82] }, .string { data := #[52, 88, 52] }, .bool true]) ∧ Below w.heap.size w w' := fun w => cut_yes [82] [52, 88, 52] 44 w (by decide) (by decide) (by decide)
  have h5 : ∀ w, Calls Tryz.prog 196 #[.string { data := #[52, 88, 52] }, .string { data := #[88] }] w fun e w' => e = .returned (.tuple #[.string { data := #[52] }, .string { data := #[52] }, .bool true]) ∧ Below w.heap.size w w' := fun w => cut_yes [52] [52] 88 w (by decide) (by decide) (by decide)
  have h6 : ∀ w, Calls Tryz.prog 196 #[.string { data := #[52] }, .string { data := #[88] }] w fun e w' => e = .returned (.tuple #[.string { data := #[52] }, .string { data := #[] }, .bool false]) ∧ Below w.heap.size w w' := fun w => cut_no [52] 88 w (by decide) (by decide)
  have h7 : ∀ w, Calls Tryz.prog 152 #[.string { data := #[52] }] w fun e w' => e = .returned (.tuple #[.int .i64 4000000, .bool true]) ∧ w = w' := fun w => parse_int [52] w (by decide) (by decide) (by intro c h; simp at h; subst h; decide)
  have H1 := Lib.hid h1
  have H2 := Lib.hid h2
  have H3 := Lib.hid h3
  have H4 := Lib.hid h4
  have H5 := Lib.hid h5
  have H6 := Lib.hid h6
  have H7 := Lib.hid h7
  clear h1 h2 h3 h4 h5 h6 h7
  have x1 : ({ data := #[49, 48, 82, 44, 52, 88, 52] } : ByteArray).extract 0 2 = { data := #[49, 48] } := rfl
  have x2 : ({ data := #[49, 48, 82, 44, 52, 88, 52] } : ByteArray).extract 2 7 = { data := #[82, 44, 52, 88, 52] } := rfl
  obtain ⟨i2, hi2, hz0, hz1, hz2⟩ := info_parts info2
  have HI := Lib.hid (And.intro hi2 (And.intro hz0 (And.intro hz1 hz2)))
  have hO : Hid (∀ u ∈ ([.int .i64 4000000] : List Value), u.oneCell' = true) := Lib.hid (by intro u hu; simp at hu; subst hu; rfl)
  clear hi2 hz0 hz1 hz2
  go_enter Tryz.func149, Tryz.ntmps149
  go_wp2_with (first | (go_at_call 93; ((with_reducible refine (H1.out _).mono ?_); rintro e w' ⟨rfl, rfl⟩)) | (go_at_call 195; ((with_reducible refine (H2.out _).mono ?_); rintro e w' ⟨rfl, rfl⟩)) | (go_at_call 98; ((with_reducible refine (H3.out _).mono ?_); rintro e w' ⟨rfl, rfl⟩)))
  refine (H4.out _).mono ?_
  rintro e w1 ⟨rfl, hb⟩
  have hB1 : Below w.heap.size w w1 := Below.trans (by exact blw) (hb.mono (by first | omega | (simp; done) | (simp; omega)))
  have k1_0 : Blk w1 (w.heap.size) 103 #[.int .i64 0, .int .i64 0, .int .i64 0, .int .i64 0, .bool false, .string { data := #[] }, .string { data := #[] }, .string { data := #[] }, .string { data := #[] }, .string { data := #[] }, .slice none 0 0, .slice none 0 0] := Blk.below (by exact bkw) hb (by first | omega | (simp; done) | (simp; omega))
  have c1_0 := k1_0.cell
  have f1_0 := k1_0.frozen
  have l1_0 := k1_0.lt
  have l1 := hB1.size
  clear hb
  go_wp2_with (go_at_call 95; (with_reducible refine (name_R _).mono ?_); rintro e w' ⟨rfl, rfl⟩)
  refine wp_loop_rounds 3 ?_
  rw [rounds_succ]
  go_wp2_with fail
  refine (H5.out _).mono ?_
  rintro e w2 ⟨rfl, hb⟩
  have hB2 : Below w.heap.size w w2 := Below.trans (by exact blw) (hb.mono (by first | omega | (simp; done) | (simp; omega)))
  have k2_0 : Blk w2 (w.heap.size) 103 #[.int .i64 0, .int .i64 0, .int .i64 0, .int .i64 0, .bool false, .string { data := #[] }, .string { data := #[] }, .string { data := #[] }, .string { data := #[] }, .string { data := #[] }, .slice none 0 0, .slice none 0 0] := Blk.below (by exact bkw) hb (by first | omega | (simp; done) | (simp; omega))
  have k2_1 : Blk w2 (w1.heap.size) 103 #[.int .i64 0, .int .i64 10, .int .i64 10, .int .i64 0, .bool false, .string { data := #[82] }, .string { data := #[] }, .string { data := #[] }, .string { data := #[] }, .string { data := #[] }, .slice none 0 0, .slice none 0 0] := Blk.below (by exact bkw) hb (by first | omega | (simp; done) | (simp; omega))
  have c2_0 := k2_0.cell
  have f2_0 := k2_0.frozen
  have l2_0 := k2_0.lt
  have c2_1 := k2_1.cell
  have f2_1 := k2_1.frozen
  have l2_1 := k2_1.lt
  have l2 := hB2.size
  clear hb k1_0 c1_0 f1_0
  have hs : ∀ o, w.heap.size ≤ (w2.alloc o).heap.size := fun o => Nat.le_trans l2 (by simp)
  have hN : ∀ j u, ([.int .i64 4000000] : List Value)[j]? = some u → (w2.alloc (.cells #[.int .i64 4000000] 2)).cell? ((⟨w2.heap.size, 0, none⟩ : Addr).add j) = some u :=
    World.news_of_block (cs := #[.int .i64 4000000]) (Blk.newAt (w := w2) rfl)
  have HS := Lib.hid hs
  have HN := Lib.hid hN
  clear hs hN
  go_wp2_with (first | (go_at_call 152; ((with_reducible refine (H7.out _).mono ?_); rintro e w' ⟨rfl, rfl⟩)) | (at_builtin; refine wpList_append_lies _ rfl (.tmp 66) (.tmp 68) 22 rfl w.heap.size 2 i2 _ 1 8 Tryz.underlying22 HI.out.1 HI.out.2.1 HI.out.2.2.1 HI.out.2.2.2 rfl (by decide) (.slice none 0 0) 0 [] (by simp [Act.eval]) (World.ownsRow_nil _ _ _ _) ⟨w2.heap.size, 0, none⟩ 1 1 [.int .i64 4000000] (by simp [Act.eval]) rfl HN.out hO.out (by decide) (by decide) (by decide) (HS.out _) _ rfl ?_))
  intro g3 cap3 w3 hown hgrow hat hlt
  have k3_0 := (k2_0.alloc (.cells #[.int .i64 4000000] 2)).grown hgrow (by simp [Value.ownBlock])
  have k3_1 := (k2_1.alloc (.cells #[.int .i64 4000000] 2)).grown hgrow (by simp [Value.ownBlock])
  have hB3 : Below w.heap.size w w3 := Below.grown (Below.alloc hB2 l2 _) hgrow (HS.out _) (by simp [Value.ownBlock])
  have HN0 := Lib.hid (own_blk_ne hown k3_0 (by decide))
  have HN1 := Lib.hid (own_blk_ne hown k3_1 (by decide))
  have HO := Lib.hid hown
  have c3_0 := k3_0.cell
  have c3_1 := k3_1.cell
  have f3_0 := k3_0.frozen
  have f3_1 := k3_1.frozen
  have l3_0 := k3_0.lt
  have l3_1 := k3_1.lt
  have l3 := hB3.size
  clear k2_0 k2_1 c2_0 c2_1 f2_0 f2_1 hown hgrow hat HS HN
  go_wp2_with fail
  rw [rounds_succ]
  go_wp2_with fail
  refine (H6.out _).mono ?_
  rintro e w4 ⟨rfl, hb⟩
  have hB4 : Below w.heap.size w w4 := Below.trans (by exact blw) (hb.mono (by first | omega | (simp; done) | (simp; omega)))
  have k4_0 : Blk w4 (w.heap.size) 103 #[.int .i64 0, .int .i64 0, .int .i64 0, .int .i64 0, .bool false, .string { data := #[] }, .string { data := #[] }, .string { data := #[] }, .string { data := #[] }, .string { data := #[] }, .slice none 0 0, .slice none 0 0] := Blk.below (by exact bkw) hb (by first | omega | (simp; done) | (simp; omega))
  have k4_1 : Blk w4 (w1.heap.size) 103 #[.int .i64 0, .int .i64 10, .int .i64 10, .int .i64 0, .bool false, .string { data := #[82] }, .string { data := #[] }, .string { data := #[] }, .string { data := #[] }, .string { data := #[] }, .slice (some ⟨g3, 0, none⟩) 1 cap3, .slice none 0 0] := Blk.below (by exact bkw) hb (by first | omega | (simp; done) | (simp; omega))
  have c4_0 := k4_0.cell
  have f4_0 := k4_0.frozen
  have l4_0 := k4_0.lt
  have c4_1 := k4_1.cell
  have f4_1 := k4_1.frozen
  have l4_1 := k4_1.lt
  have l4 := hB4.size
  have HO4 := Lib.hid (own_below (own_far HO.out (p := ⟨w1.heap.size, 10, none⟩) HN1.out (.slice (some ⟨g3, 0, none⟩) 1 cap3)) hb (Nat.le_refl _))
  clear hb k3_0 k3_1 c3_0 c3_1 f3_0 f3_1 HO HN0 HN1
  have HO := HO4
  clear HO4
  have HM0 := Lib.hid (own_blk_ne HO.out k4_0 (by decide))
  have HM1 := Lib.hid (own_blk_ne HO.out k4_1 (by decide))
  have hs : ∀ o, w.heap.size ≤ (w4.alloc o).heap.size := fun o => Nat.le_trans l4 (by simp)
  have hN : ∀ j u, ([.int .i64 4000000] : List Value)[j]? = some u → (w4.alloc (.cells #[.int .i64 4000000] 2)).cell? ((⟨w4.heap.size, 0, none⟩ : Addr).add j) = some u :=
    World.news_of_block (cs := #[.int .i64 4000000]) (Blk.newAt (w := w4) rfl)
  have HS := Lib.hid hs
  have HN := Lib.hid hN
  clear hs hN
  go_wp2_with (first | (go_at_call 152; ((with_reducible refine (H7.out _).mono ?_); rintro e w' ⟨rfl, rfl⟩)) | (at_builtin; refine wpList_append_lies _ rfl (.tmp 66) (.tmp 68) 22 rfl w.heap.size 2 i2 _ 1 8 Tryz.underlying22 HI.out.1 HI.out.2.1 HI.out.2.2.1 HI.out.2.2.2 rfl (by decide) (.slice (some ⟨g3, 0, none⟩) 1 cap3) 1 [.int .i64 4000000] (by simp [Act.eval]) (HO.out.alloc _) ⟨w4.heap.size, 0, none⟩ 1 1 [.int .i64 4000000] (by simp [Act.eval]) rfl HN.out hO.out (by decide) (by decide) (by decide) (HS.out _) _ rfl ?_))
  have HGE := Lib.hid (fun q (hq : (Value.slice (some ⟨g3, 0, none⟩) 1 cap3).ownBlock = some q) => (HO.out.lt q hq).1)
  intro g5 cap5 w5 hown hgrow hat hlt
  have k5_0 := (k4_0.alloc (.cells #[.int .i64 4000000] 2)).grown hgrow (fun e => HM0.out e.symm)
  have k5_1 := (k4_1.alloc (.cells #[.int .i64 4000000] 2)).grown hgrow (fun e => HM1.out e.symm)
  have hB5 : Below w.heap.size w w5 := Below.grown (Below.alloc hB4 l4 _) hgrow (HS.out _) HGE.out
  have HN0 := Lib.hid (own_blk_ne hown k5_0 (by decide))
  have HN1 := Lib.hid (own_blk_ne hown k5_1 (by decide))
  have HO := Lib.hid hown
  have c5_0 := k5_0.cell
  have c5_1 := k5_1.cell
  have f5_0 := k5_0.frozen
  have f5_1 := k5_1.frozen
  have l5_0 := k5_0.lt
  have l5_1 := k5_1.lt
  have l5 := hB5.size
  clear k4_0 k4_1 c4_0 c4_1 f4_0 f4_1 hown hgrow hat HS HN
  go_wp2_with fail
  rw [rounds_succ]
  go_wp2_with fail
  refine bodyPost_ret (results_row_tmp Tryz.results149 _ _ w.heap.size #[.int .i64 0, .int .i64 10, .int .i64 10, .int .i64 0, .bool false, .string { data := #[82] }, .string { data := #[] }, .string { data := #[] }, .string { data := #[] }, .string { data := #[] }, .slice (some ⟨g5, 0, none⟩) (1 + 1) cap5, .slice none 0 0] (by rfl) (run_loadVar_row _ _ 103 103 _ (0, 0) _ ?_ Tryz.underlying103 rfl (by kernel_rfl))) rfl ⟨_, rfl, ?_, ?_⟩
  · unfold Blk at k5_0
    simp [World.setCell, Array.getElem?_modify, k5_0, Nat.ne_of_gt l1_0]
  · unfold Nums
    (repeat' (first | (with_reducible exact HO.out) | (with_reducible refine own_far ?_ ?_ _) | (with_reducible exact HN0.out) | (with_reducible exact HN1.out) | exact HO.out))
  · exact blw
theorem grown_setRow (w : World) (g : Nat) (cs : Array Value) : w.grownBy (w.setRow g cs) (some g) :=
  ⟨rfl, rfl, rfl, by simp, fun b _ hne => setRow_other w g b cs (fun e => hne (by rw [e]))⟩
theorem wpList_storeBlk {ops : Array Oper} {rest : List Oper} {o : Oper} {a : Act} {w : World} {Q : Exit → Act → World → Prop} (hgd : o.guard = none) (ty : TypeId) (x y : Operand) (ho : o.op = .store ty x y)
    (hd : o.dst = none) (g : Nat) (cells : Array Value) (hx : a.eval x = .pointer (some ⟨g, 0, none⟩)) (hy : a.eval y = .agg cells)
    (t : TypeId) (old : Array Value) (hg : Blk w g t old) (hi : (Tryz.prog.info? ty).map (·.size) = some cells.size)
    (hold : old.size = cells.size) (h1 : cells.all (·.oneCell') = true)
    (h : ∀ w1, Blk w1 g t cells → w.grownBy w1 (some g) → wpList Tryz.prog ops Q rest a w1) : wpList Tryz.prog ops Q (o :: rest) a w :=
  wpList_store_row hgd ty x y ho g cells hx hy t old hg hi hold h1 (by
    rw [hd]
    exact h _ (setRow_heap w g old cells t (0, 0) hg) (grown_setRow w g cells))
theorem Blk.grown' {w w' : World} {g : Nat} {t : TypeId} {cs : Array Value} {row : Option Nat} (h : Blk w g t cs) (hb : w.grownBy w' row) (hg : some g ≠ row) : Blk w' g t cs := (hb.block g h.lt hg).trans h
theorem own_of_blk {w : World} {g t size n : Nat} {cs : Array Value} (h : Blk w g t cs) (hn : n ≤ maxLen) (hs : cs.size = n * size) {B : Nat} (hB : B ≤ g) : w.ownsRow B t size (.slice (some ⟨g, 0, none⟩) n n) n cs.toList := by
  refine ⟨by simpa using hs, .inr ⟨g, n, cs, rfl, hB, h, Nat.le_refl _, hn, hs, ?_⟩⟩
  rw [← hs, ← Array.length_toList, List.take_length]
def Dig (b : UInt8) : Prop := 48 ≤ b.toNat ∧ b.toNat ≤ 57
theorem dig_one {b : UInt8} (h : Dig b) : Digits [b] := by intro c hc; simp at hc; subst hc; exact h
theorem dig_num (b : UInt8) : numV [b] = b.toNat - 48 := by simp [numV]
theorem dig_ne {b c : UInt8} (h : Dig b) (hc : 57 < c.toNat) : c ∉ [b] := by
  intro hm; simp at hm; subst hm; have := h.2; omega
theorem step_c (n m x y : UInt8) (w : World) (dn : Dig n) (dm : Dig m) (dx : Dig x) (dy : Dig y) : Calls Tryz.prog 151 #[.string { data := #[88, n, 89, m, 73, x, 74, y] }] w fun e w' => ∃ v, e = .returned (.tuple #[.agg #[.int .i64 0, .int .i64 13, .int .i64 ((n.toNat - 48 : Nat) : Int), .int .i64 ((m.toNat - 48 : Nat) : Int), .bool false, .string { data := #[] }, .string { data := #[] }, .string { data := #[] }, .string { data := #[] }, .string { data := #[] }, v, .slice none 0 0], .bool true]) ∧ Nums w' w.heap.size v [(((x.toNat - 48) * 1000000 : Nat) : Int), (((y.toNat - 48) * 1000000 : Nat) : Int)] ∧ Below w.heap.size w w' := by
  obtain ⟨N, eN⟩ : ∃ N : Int, ((n.toNat - 48 : Nat) : Int) = N := ⟨_, rfl⟩
  obtain ⟨M, eM⟩ : ∃ N : Int, ((m.toNat - 48 : Nat) : Int) = N := ⟨_, rfl⟩
  obtain ⟨P, eP⟩ : ∃ N : Int, (((x.toNat - 48) * 1000000 : Nat) : Int) = N := ⟨_, rfl⟩
  obtain ⟨Q, eQ⟩ : ∃ N : Int, (((y.toNat - 48) * 1000000 : Nat) : Int) = N := ⟨_, rfl⟩
  have h1 : ∀ w, Calls Tryz.prog 93 #[.string { data := #[88, n, 89, m, 73, x, 74, y] }, .string { data := #[88] }] w fun e w' => e = .returned (.tuple #[.string { data := #[n, 89, m, 73, x, 74, y] }, .bool true]) ∧ w = w' := fun w => cutP_yes [88] [n, 89, m, 73, x, 74, y] w (by simp)
  have h2 : ∀ w, Calls Tryz.prog 196 #[.string { data := #[n, 89, m, 73, x, 74, y] }, .string { data := #[89] }] w fun e w' => e = .returned (.tuple #[.string { data := #[n] }, .string { data := #[m, 73, x, 74, y] }, .bool true]) ∧ Below w.heap.size w w' := fun w => cut_yes [n] [m, 73, x, 74, y] 89 w (by simp) (dig_ne dn (by decide)) (by simp)
  have h3 : ∀ w, Calls Tryz.prog 196 #[.string { data := #[m, 73, x, 74, y] }, .string { data := #[73] }] w fun e w' => e = .returned (.tuple #[.string { data := #[m] }, .string { data := #[x, 74, y] }, .bool true]) ∧ Below w.heap.size w w' := fun w => cut_yes [m] [x, 74, y] 73 w (by simp) (dig_ne dm (by decide)) (by simp)
  have h4 : ∀ w, Calls Tryz.prog 196 #[.string { data := #[x, 74, y] }, .string { data := #[74] }] w fun e w' => e = .returned (.tuple #[.string { data := #[x] }, .string { data := #[y] }, .bool true]) ∧ Below w.heap.size w w' := fun w => cut_yes [x] [y] 74 w (by simp) (dig_ne dx (by decide)) (by simp)
  have h5 : ∀ w, Calls Tryz.prog 154 #[.string { data := #[n] }] w fun e w' => e = .returned (.tuple #[.int .i64 N, .bool true]) ∧ w = w' := fun w => by have h := count_c [n] w (by simp) (by simp) (dig_one dn); rw [dig_num, eN] at h; exact h
  have h6 : ∀ w, Calls Tryz.prog 154 #[.string { data := #[m] }] w fun e w' => e = .returned (.tuple #[.int .i64 M, .bool true]) ∧ w = w' := fun w => by have h := count_c [m] w (by simp) (by simp) (dig_one dm); rw [dig_num, eM] at h; exact h
  have h7 : ∀ w, Calls Tryz.prog 152 #[.string { data := #[x] }] w fun e w' => e = .returned (.tuple #[.int .i64 P, .bool true]) ∧ w = w' := fun w => by have h := parse_int [x] w (by simp) (by simp) (dig_one dx); rw [dig_num, eP] at h; exact h
  have h8 : ∀ w, Calls Tryz.prog 152 #[.string { data := #[y] }] w fun e w' => e = .returned (.tuple #[.int .i64 Q, .bool true]) ∧ w = w' := fun w => by have h := parse_int [y] w (by simp) (by simp) (dig_one dy); rw [dig_num, eQ] at h; exact h
  rw [eN, eM, eP, eQ]
  have H1 := Lib.hid h1
  have H2 := Lib.hid h2
  have H3 := Lib.hid h3
  have H4 := Lib.hid h4
  have H5 := Lib.hid h5
  have H6 := Lib.hid h6
  have H7 := Lib.hid h7
  have H8 := Lib.hid h8
  clear h1 h2 h3 h4 h5 h6 h7 h8 eN eM eP eQ dn dm dx dy
  obtain ⟨A0, eA0⟩ : ∃ T : ByteArray, { data := #[88, n, 89, m, 73, x, 74, y] } = T := ⟨_, rfl⟩
  obtain ⟨A1, eA1⟩ : ∃ T : ByteArray, { data := #[n, 89, m, 73, x, 74, y] } = T := ⟨_, rfl⟩
  obtain ⟨A2, eA2⟩ : ∃ T : ByteArray, { data := #[m, 73, x, 74, y] } = T := ⟨_, rfl⟩
  obtain ⟨A3, eA3⟩ : ∃ T : ByteArray, { data := #[x, 74, y] } = T := ⟨_, rfl⟩
  obtain ⟨An, eAn⟩ : ∃ T : ByteArray, { data := #[n] } = T := ⟨_, rfl⟩
  obtain ⟨Am, eAm⟩ : ∃ T : ByteArray, { data := #[m] } = T := ⟨_, rfl⟩
  obtain ⟨Ax, eAx⟩ : ∃ T : ByteArray, { data := #[x] } = T := ⟨_, rfl⟩
  obtain ⟨Ay, eAy⟩ : ∃ T : ByteArray, { data := #[y] } = T := ⟨_, rfl⟩
  rw [eA0, eA1] at H1
  rw [eA1, eAn, eA2] at H2
  rw [eA2, eAm, eA3] at H3
  rw [eA3, eAx, eAy] at H4
  rw [eAn] at H5
  rw [eAm] at H6
  rw [eAx] at H7
  rw [eAy] at H8
  rw [eA0]
  clear eA0 eA1 eA2 eA3 eAn eAm eAx eAy
  go_enter Tryz.func151, Tryz.ntmps151
  go_wp2_with (go_at_call 93; ((with_reducible refine (H1.out _).mono ?_); rintro e w' ⟨rfl, rfl⟩))
  refine (H2.out _).mono ?_
  rintro e w1 ⟨rfl, hb⟩
  have hB1 : Below w.heap.size w w1 := Below.trans (by exact blw) (hb.mono (by first | omega | (simp; done) | (simp; omega)))
  have k1_0 : Blk w1 (w.heap.size) 103 #[.int .i64 0, .int .i64 0, .int .i64 0, .int .i64 0, .bool false, .string { data := #[] }, .string { data := #[] }, .string { data := #[] }, .string { data := #[] }, .string { data := #[] }, .slice none 0 0, .slice none 0 0] := Blk.below (by exact bkw) hb (by first | omega | (simp; done) | (simp; omega))
  have c1_0 := k1_0.cell
  have f1_0 := k1_0.frozen
  have l1_0 := k1_0.lt
  have l1 := hB1.size
  clear hb
  go_wp2_with fail
  refine (H3.out _).mono ?_
  rintro e w2 ⟨rfl, hb⟩
  have hB2 : Below w.heap.size w w2 := Below.trans (by exact blw) (hb.mono (by first | omega | (simp; done) | (simp; omega)))
  have k2_0 : Blk w2 (w.heap.size) 103 #[.int .i64 0, .int .i64 0, .int .i64 0, .int .i64 0, .bool false, .string { data := #[] }, .string { data := #[] }, .string { data := #[] }, .string { data := #[] }, .string { data := #[] }, .slice none 0 0, .slice none 0 0] := Blk.below (by exact bkw) hb (by first | omega | (simp; done) | (simp; omega))
  have c2_0 := k2_0.cell
  have f2_0 := k2_0.frozen
  have l2_0 := k2_0.lt
  have l2 := hB2.size
  clear hb k1_0 c1_0 f1_0
  go_wp2_with fail
  refine (H4.out _).mono ?_
  rintro e w3 ⟨rfl, hb⟩
  have hB3 : Below w.heap.size w w3 := Below.trans (by exact blw) (hb.mono (by first | omega | (simp; done) | (simp; omega)))
  have k3_0 : Blk w3 (w.heap.size) 103 #[.int .i64 0, .int .i64 0, .int .i64 0, .int .i64 0, .bool false, .string { data := #[] }, .string { data := #[] }, .string { data := #[] }, .string { data := #[] }, .string { data := #[] }, .slice none 0 0, .slice none 0 0] := Blk.below (by exact bkw) hb (by first | omega | (simp; done) | (simp; omega))
  have c3_0 := k3_0.cell
  have f3_0 := k3_0.frozen
  have l3_0 := k3_0.lt
  have l3 := hB3.size
  clear hb k2_0 c2_0 f2_0
  go_wp2_with fail
  refine (H5.out _).mono ?_
  rintro e w' ⟨rfl, rfl⟩
  go_wp2_with fail
  refine (H6.out _).mono ?_
  rintro e w' ⟨rfl, rfl⟩
  go_wp2_with fail
  refine (H7.out _).mono ?_
  rintro e w' ⟨rfl, rfl⟩
  go_wp2_with fail
  refine (H8.out _).mono ?_
  rintro e w' ⟨rfl, rfl⟩
  have hk4 := k3_0.alloc (.cells #[.int .i64 P, .int .i64 Q] 2)
  have HK := Lib.hid hk4
  clear hk4
  go_wp2_with (refine wpList_storeBlk rfl 103 (.tmp 2) (.tmp 86) rfl rfl w.heap.size #[.int .i64 0, .int .i64 13, .int .i64 N, .int .i64 M, .bool false, .string { data := #[] }, .string { data := #[] }, .string { data := #[] }, .string { data := #[] }, .string { data := #[] }, .slice (some ⟨w3.heap.size, 0, none⟩) 2 2, .slice none 0 0] (by simp [Act.eval]) (by simp [Act.eval]) 103 #[.int .i64 0, .int .i64 0, .int .i64 0, .int .i64 0, .bool false, .string { data := #[] }, .string { data := #[] }, .string { data := #[] }, .string { data := #[] }, .string { data := #[] }, .slice none 0 0, .slice none 0 0] HK.out (by kernel_rfl) (by kernel_rfl) (by kernel_rfl) ?_)
  intro w5 k5 hgr
  have hb5 : Below w.heap.size w w5 := Below.grown (Below.alloc hB3 l3 _) hgr (by simp; omega) (by intro q hq; injection hq with hq; omega)
  have hk6 : Blk w5 w3.heap.size 2 #[.int .i64 P, .int .i64 Q] := Blk.grown' (Blk.new w3 2 _) hgr (by intro e; injection e with e; omega)
  have HK6 := Lib.hid hk6
  clear hgr hk6
  go_wp2_with fail
  refine bodyPost_ret (results_row_tmp Tryz.results151 _ _ w.heap.size #[.int .i64 0, .int .i64 13, .int .i64 N, .int .i64 M, .bool false, .string { data := #[] }, .string { data := #[] }, .string { data := #[] }, .string { data := #[] }, .string { data := #[] }, .slice (some ⟨w3.heap.size, 0, none⟩) 2 2, .slice none 0 0] (by rfl) (run_loadVar_row _ _ 103 103 _ (0, 0) _ k5 Tryz.underlying103 rfl (by kernel_rfl))) rfl ⟨_, rfl, ?_, hb5⟩
  exact own_of_blk HK6.out (by decide) rfl (by omega)
end Go.Proofs.YtfajckkbinbpiaaGreatDoor
