/- Walks: definitions of apertures. Walks: the definition of a rectangle. A struct stored whole into a block that is known: the walk goes on in a world of which the block is known, and that all else is as it was. -/
import Derived.Test.YtfajckkbinbpiaaGreatDoorM05
import Derived.Laws.OwnMore
import Derived.Deep.AppendLies
import Derived.OwnWalk
import Derived.Outline
import Derived.Test.YtfajckkbinbpiaaGreatDoorM01
import Derived.Laws.Tables
namespace Go.Proofs.YtfajckkbinbpiaaGreatDoor
open Go.RowKit
set_option linter.unusedVariables false
set_option linter.unusedSimpArgs false

theorem info2 : (Tryz.prog.info? 2).map (fun i => (i.zero, i.size, i.bytes)) = some (some (.int .i64 0), 1, 8) := by kernel_rfl
/-- A row of numbers that a command bears. -/
def Nums (w : World) (B : Nat) (v : Value) (l : List Int) : Prop := w.ownsRow B 2 1 v l.length (l.map fun x => .int .i64 x)
set_option maxRecDepth 100000 in
set_option maxHeartbeats 4000000 in
theorem aperture_C (w : World) : Calls Tryz.prog 149 #[.string { data := #[68, 49, 48, 67, 44, 48, 46, 53] }] w fun e w' => ∃ v, e = .returned (.tuple #[.agg #[.int .i64 0, .int .i64 10, .int .i64 10, .int .i64 0, .bool false, .string { data := #[67] }, .string { data := #[] }, .string { data := #[] }, .string { data := #[] }, .string { data := #[] }, v, .slice none 0 0], .bool true]) ∧ Nums w' w.heap.size v [500000] ∧ Below w.heap.size w w' := by
  have h1 : ∀ w, Calls Tryz.prog 93 #[.string { data := #[68, 49, 48, 67, 44, 48, 46, 53] }, .string { data := #[68] }] w fun e w' => e = .returned (.tuple #[.string { data := #[49, 48, 67, 44, 48, 46, 53] }, .bool true]) ∧ w = w' := fun w => cutP_yes [68] [49, 48, 67, 44, 48, 46, 53] w (by decide)
  have h2 : ∀ w, Calls Tryz.prog 195 #[.string { data := #[49, 48, 67, 44, 48, 46, 53] }] w fun e w' => e = .returned (.int .i64 2) ∧ w = w' := fun w => digits_c [49, 48] [67, 44, 48, 46, 53] w (by decide) (by intro c h; simp at h; rcases h with rfl | rfl <;> decide) (by intro c h; simp at h; subst h; decide)
  have h3 : ∀ w, Calls Tryz.prog 98 #[.string { data := #[49, 48] }] w fun e w' => e = .returned (.tuple #[.int .i64 10, .bool true]) ∧ w = w' := fun w => code_c [49, 48] w (by decide) (by decide) (by intro c h; simp at h; rcases h with rfl | rfl <;> decide) (by decide)
  have h4 : ∀ w, Calls Tryz.prog 196 #[.string { data := #[67, 44, 48, 46, 53] }, .string { data := #[44] }] w fun e w' => e = .returned (.tuple #[.string { data := #[67] }, .string { data := #[48, 46, 53] }, .bool true]) ∧ Below w.heap.size w w' := fun w => cut_yes [67] [48, 46, 53] 44 w (by decide) (by decide) (by decide)
  have h5 : ∀ w, Calls Tryz.prog 196 #[.string { data := #[48, 46, 53] }, .string { data := #[88] }] w fun e w' => e = .returned (.tuple #[.string { data := #[48, 46, 53] }, .string { data := #[] }, .bool false]) ∧ Below w.heap.size w w' := fun w => cut_no [48, 46, 53] 88 w (by decide) (by decide)
  have H1 := Lib.hid h1
  have H2 := Lib.hid h2
  have H3 := Lib.hid h3
  have H4 := Lib.hid h4
  have H5 := Lib.hid h5
  clear h1 h2 h3 h4 h5
  have x1 : ({ data := #[49, 48, 67, 44, 48, 46, 53] } : ByteArray).extract 0 2 = { data := #[49, 48] } := rfl
  have x2 : ({ data := #[49, 48, 67, 44, 48, 46, 53] } : ByteArray).extract 2 7 = { data := #[67, 44, 48, 46, 53] } := rfl
  obtain ⟨i2, hi2, hz0, hz1, hz2⟩ := info_parts info2
  have HI := Lib.hid (And.intro hi2 (And.intro hz0 (And.intro hz1 hz2)))
  clear hi2 hz0 hz1 hz2
  go_enter Tryz.func149, Tryz.ntmps149
  go_wp2_with (first | (go_at_call 93; ((with_reducible refine (H1.out _).mono ?_); rintro e w' ⟨rfl, rfl⟩)) | (go_at_call 195; ((with_reducible refine (H2.out _).mono ?_); rintro e w' ⟨rfl, rfl⟩)) | (go_at_call 98; ((with_reducible refine (H3.out _).mono ?_); rintro e w' ⟨rfl, rfl⟩)))
  refine (H4.out _).mono ?_
  rintro e w1 ⟨rfl, hb⟩
  have hB1 : Below w.heap.size w w1 := Below.trans (by (repeat' (first | (with_reducible exact Below.refl _ _) | (with_reducible assumption) | (with_reducible refine below_drewN ?_ _) | (with_reducible refine Below.drew ?_) | (with_reducible refine Below.alloc ?_ ?_ _) | (with_reducible refine Below.setCell ?_ ?_ _) | omega | (simp; done) | (simp; omega)))) (hb.mono (by first | omega | (simp; done) | (simp; omega)))
  have k1_0 : Blk w1 (w.heap.size) 103 #[.int .i64 0, .int .i64 0, .int .i64 0, .int .i64 0, .bool false, .string { data := #[] }, .string { data := #[] }, .string { data := #[] }, .string { data := #[] }, .string { data := #[] }, .slice none 0 0, .slice none 0 0] := Blk.below (by (repeat' (first | (with_reducible assumption) | (with_reducible exact Blk.new _ _ _) | (exact Blk.newAt (by first | rfl | (simp; done) | omega)) | (with_reducible refine Blk.drewN ?_ _) | (with_reducible refine Blk.drew ?_) | (with_reducible refine Blk.alloc ?_ _) | (with_reducible apply Blk.set_) | (with_reducible refine Blk.far ?_ ?_ _) | rfl | omega | (simp; done) | (simp; omega)))) hb (by first | omega | (simp; done) | (simp; omega))
  have c1_0 := k1_0.cell
  have f1_0 := k1_0.frozen
  have l1_0 := k1_0.lt
  have l1 := hB1.size
  clear hb
  go_wp2_with (go_at_call 95; (with_reducible refine (name_C _).mono ?_); rintro e w' ⟨rfl, rfl⟩)
  refine wp_loop_rounds 2 ?_
  rw [rounds_succ]
  go_wp2_with fail
  refine (H5.out _).mono ?_
  rintro e w2 ⟨rfl, hb⟩
  have hB2 : Below w.heap.size w w2 := Below.trans (by (repeat' (first | (with_reducible exact Below.refl _ _) | (with_reducible assumption) | (with_reducible refine below_drewN ?_ _) | (with_reducible refine Below.drew ?_) | (with_reducible refine Below.alloc ?_ ?_ _) | (with_reducible refine Below.setCell ?_ ?_ _) | omega | (simp; done) | (simp; omega)))) (hb.mono (by first | omega | (simp; done) | (simp; omega)))
  have k2_0 : Blk w2 (w.heap.size) 103 #[.int .i64 0, .int .i64 0, .int .i64 0, .int .i64 0, .bool false, .string { data := #[] }, .string { data := #[] }, .string { data := #[] }, .string { data := #[] }, .string { data := #[] }, .slice none 0 0, .slice none 0 0] := Blk.below (by (repeat' (first | (with_reducible assumption) | (with_reducible exact Blk.new _ _ _) | (exact Blk.newAt (by first | rfl | (simp; done) | omega)) | (with_reducible refine Blk.drewN ?_ _) | (with_reducible refine Blk.drew ?_) | (with_reducible refine Blk.alloc ?_ _) | (with_reducible apply Blk.set_) | (with_reducible refine Blk.far ?_ ?_ _) | rfl | omega | (simp; done) | (simp; omega)))) hb (by first | omega | (simp; done) | (simp; omega))
  have k2_1 : Blk w2 (w1.heap.size) 103 #[.int .i64 0, .int .i64 10, .int .i64 10, .int .i64 0, .bool false, .string { data := #[67] }, .string { data := #[] }, .string { data := #[] }, .string { data := #[] }, .string { data := #[] }, .slice none 0 0, .slice none 0 0] := Blk.below (by (repeat' (first | (with_reducible assumption) | (with_reducible exact Blk.new _ _ _) | (exact Blk.newAt (by first | rfl | (simp; done) | omega)) | (with_reducible refine Blk.drewN ?_ _) | (with_reducible refine Blk.drew ?_) | (with_reducible refine Blk.alloc ?_ _) | (with_reducible apply Blk.set_) | (with_reducible refine Blk.far ?_ ?_ _) | rfl | omega | (simp; done) | (simp; omega)))) hb (by first | omega | (simp; done) | (simp; omega))
  have c2_0 := k2_0.cell
  have f2_0 := k2_0.frozen
  have l2_0 := k2_0.lt
  have c2_1 := k2_1.cell
  have f2_1 := k2_1.frozen
  have l2_1 := k2_1.lt
  have l2 := hB2.size
  clear hb k1_0 c1_0 f1_0
  have hs : ∀ o, w.heap.size ≤ (w2.alloc o).heap.size := fun o => Nat.le_trans l2 (by simp)
  have hN : ∀ j u, ([.int .i64 500000] : List Value)[j]? = some u → (w2.alloc (.cells #[.int .i64 500000] 2)).cell? ((⟨w2.heap.size, 0, none⟩ : Addr).add j) = some u :=
    World.news_of_block (cs := #[.int .i64 500000]) (Blk.newAt (w := w2) rfl)
  have HS := Lib.hid hs
  have HN := Lib.hid hN
  have hO : Hid (∀ u ∈ ([.int .i64 500000] : List Value), u.oneCell' = true) := Lib.hid (by intro u hu; simp at hu; subst hu; rfl)
  clear hs hN
  go_wp2_with (first | (go_at_call 152; (with_reducible refine (parse_05 _).mono ?_); rintro e w' ⟨rfl, rfl⟩) | (at_builtin; refine wpList_append_lies _ rfl (.tmp 66) (.tmp 68) 22 rfl w.heap.size 2 i2 _ 1 8 Tryz.underlying22 HI.out.1 HI.out.2.1 HI.out.2.2.1 HI.out.2.2.2 rfl (by decide) (.slice none 0 0) 0 [] (by simp [Act.eval]) (World.ownsRow_nil _ _ _ _) ⟨w2.heap.size, 0, none⟩ 1 1 [.int .i64 500000] (by simp [Act.eval]) rfl HN.out hO.out (by decide) (by decide) (by decide) (HS.out _) _ rfl ?_))
  intro g cap w3 hown hgrow hat hlt
  have k3_0 := (k2_0.alloc (.cells #[.int .i64 500000] 2)).grown hgrow (by simp [Value.ownBlock])
  have k3_1 := (k2_1.alloc (.cells #[.int .i64 500000] 2)).grown hgrow (by simp [Value.ownBlock])
  have hB3 : Below w.heap.size w w3 := Below.grown (Below.alloc hB2 l2 _) hgrow (HS.out _) (by simp [Value.ownBlock])
  have hne0 := own_blk_ne hown k3_0 (by decide)
  have hne1 := own_blk_ne hown k3_1 (by decide)
  have HO3 := Lib.hid hown
  have HN0 := Lib.hid hne0
  have HN1 := Lib.hid hne1
  have c3_0 := k3_0.cell
  have c3_1 := k3_1.cell
  have f3_0 := k3_0.frozen
  have f3_1 := k3_1.frozen
  have l3_0 := k3_0.lt
  have l3_1 := k3_1.lt
  clear k2_0 k2_1 c2_0 c2_1 f2_0 f2_1 hown hgrow hat hne0 hne1
  go_wp2_with fail
  rw [rounds_succ]
  go_wp2_with fail
  refine bodyPost_ret (results_row_tmp Tryz.results149 _ _ w.heap.size #[.int .i64 0, .int .i64 10, .int .i64 10, .int .i64 0, .bool false, .string { data := #[67] }, .string { data := #[] }, .string { data := #[] }, .string { data := #[] }, .string { data := #[] }, .slice (some ⟨g, 0, none⟩) 1 cap, .slice none 0 0] (by rfl) (run_loadVar_row _ _ 103 103 _ (0, 0) _ ?_ Tryz.underlying103 rfl (by kernel_rfl))) rfl ⟨_, rfl, ?_, ?_⟩
  · unfold Blk at k3_0
    simp [World.setCell, Array.getElem?_modify, k3_0, Nat.ne_of_gt l1_0]
  · unfold Nums
    (repeat' (first | (with_reducible exact HO3.out) | (with_reducible refine own_far ?_ ?_ _) | (with_reducible exact HN0.out) | (with_reducible exact HN1.out) | exact HO3.out))
  · (repeat' (first | (with_reducible exact Below.refl _ _) | (with_reducible assumption) | (with_reducible refine below_drewN ?_ _) | (with_reducible refine Below.drew ?_) | (with_reducible refine Below.alloc ?_ ?_ _) | (with_reducible refine Below.setCell ?_ ?_ _) | omega | (simp; done) | (simp; omega)))
end Go.Proofs.YtfajckkbinbpiaaGreatDoor
namespace Go.Proofs.YtfajckkbinbpiaaGreatDoor
open Go.RowKit
set_option linter.unusedVariables false
set_option linter.unusedSimpArgs false

set_option maxRecDepth 100000 in
set_option maxHeartbeats 4000000 in
theorem aperture_R (w : World) : Calls Tryz.prog 149 #[.string { data := #[68, 49, 48, 82, 44, 52, 88, 52] }] w fun e w' => ∃ v, e = .returned (.tuple #[.agg #[.int .i64 0, .int .i64 10, .int .i64 10, .int .i64 0, .bool false, .string { data := #[82] }, .string { data := #[] }, .string { data := #[] }, .string { data := #[] }, .string { data := #[] }, v, .slice none 0 0], .bool true]) ∧ Nums w' w.heap.size v [4000000, 4000000] ∧ Below w.heap.size w w' := by
  have h1 : ∀ w, Calls Tryz.prog 93 #[.string { data := #[68, 49, 48, 82, 44, 52, 88, 52] }, .string { data := #[68] }] w fun e w' => e = .returned (.tuple #[.string { data := #[49, 48, 82, 44, 52, 88, 52] }, .bool true]) ∧ w = w' := fun w => cutP_yes [68] [49, 48, 82, 44, 52, 88, 52] w (by decide)
  have h2 : ∀ w, Calls Tryz.prog 195 #[.string { data := #[49, 48, 82, 44, 52, 88, 52] }] w fun e w' => e = .returned (.int .i64 2) ∧ w = w' := fun w => digits_c [49, 48] [82, 44, 52, 88, 52] w (by decide) (by intro c h; simp at h; rcases h with rfl | rfl <;> decide) (by intro c h; simp at h; subst h; decide)
  have h3 : ∀ w, Calls Tryz.prog 98 #[.string { data := #[49, 48] }] w fun e w' => e = .returned (.tuple #[.int .i64 10, .bool true]) ∧ w = w' := fun w => code_c [49, 48] w (by decide) (by decide) (by intro c h; simp at h; rcases h with rfl | rfl <;> decide) (by decide)
  have h4 : ∀ w, Calls Tryz.prog 196 #[.string { data := #[82, 44, 52, 88, 52] }, .string { data := #[44] }] w fun e w' => e = .returned (.tuple #[.string { data := #[82] }, .string { data := #[52, 88, 52] }, .bool true]) ∧ Below w.heap.size w w' := fun w => cut_yes [82] [52, 88, 52] 44 w (by decide) (by decide) (by decide)
  have h5 : ∀ w, Calls Tryz.prog 196 #[.string { data := #[52, 88, 52] }, .string { data := #[88] }] w fun e w' => e = .returned (.tuple #[.string { data := #[52] }, .string { data := #[52] }, .bool true]) ∧ Below w.heap.size w w' := fun w => cut_yes [52] [52] 88 w (by decide) (by decide) (by decide)
  have h6 : ∀ w, Calls Tryz.prog 196 #[.string { data := #[52] }, .string { data := #[88] }] w fun e w' => e = .returned (.tuple #[.string { data := #[52] }, .string { data := #[] }, .bool false]) ∧ Below w.heap.size w w' := fun w => cut_no [52] 88 w (by decide) (by decide)
  have h7 : ∀ w, Calls Tryz.prog 152 #[.string { data := #[52] }] w fun e w' => e = .returned (.tuple #[.int .i64 4000000, .bool true]) ∧ w = w' := fun w => parse_int [52] w (by decide) (by decide) (by intro c h; simp at h; subst h; decide)
  have H1 := Lib.hid h1
  have H2 := Lib.hid h2
  have H3 := Lib.hid h3
  have H4 := Lib.hid h4
  have H5 := Lib.hid h5
  have H6 := Lib.hid h6
  have H7 := Lib.hid h7
  clear h1 h2 h3 h4 h5 h6 h7
  have x1 : ({ data := #[49, 48, 82, 44, 52, 88, 52] } : ByteArray).extract 0 2 = { data := #[49, 48] } := rfl
  have x2 : ({ data := #[49, 48, 82, 44, 52, 88, 52] } : ByteArray).extract 2 7 = { data := #[82, 44, 52, 88, 52] } := rfl
  obtain ⟨i2, hi2, hz0, hz1, hz2⟩ := info_parts info2
  have HI := Lib.hid (And.intro hi2 (And.intro hz0 (And.intro hz1 hz2)))
  have hO : Hid (∀ u ∈ ([.int .i64 4000000] : List Value), u.oneCell' = true) := Lib.hid (by intro u hu; simp at hu; subst hu; rfl)
  clear hi2 hz0 hz1 hz2
  go_enter Tryz.func149, Tryz.ntmps149
  go_wp2_with (first | (go_at_call 93; ((with_reducible refine (H1.out _).mono ?_); rintro e w' ⟨rfl, rfl⟩)) | (go_at_call 195; ((with_reducible refine (H2.out _).mono ?_); rintro e w' ⟨rfl, rfl⟩)) | (go_at_call 98; ((with_reducible refine (H3.out _).mono ?_); rintro e w' ⟨rfl, rfl⟩)))
  refine (H4.out _).mono ?_
  rintro e w1 ⟨rfl, hb⟩
  have hB1 : Below w.heap.size w w1 := Below.trans (by (repeat' (first | (with_reducible exact Below.refl _ _) | (with_reducible assumption) | (with_reducible refine below_drewN ?_ _) | (with_reducible refine Below.drew ?_) | (with_reducible refine Below.alloc ?_ ?_ _) | (with_reducible refine Below.setCell ?_ ?_ _) | omega | (simp; done) | (simp; omega)))) (hb.mono (by first | omega | (simp; done) | (simp; omega)))
  have k1_0 : Blk w1 (w.heap.size) 103 #[.int .i64 0, .int .i64 0, .int .i64 0, .int .i64 0, .bool false, .string { data := #[] }, .string { data := #[] }, .string { data := #[] }, .string { data := #[] }, .string { data := #[] }, .slice none 0 0, .slice none 0 0] := Blk.below (by (repeat' (first | (with_reducible assumption) | (with_reducible exact Blk.new _ _ _) | (exact Blk.newAt (by first | rfl | (simp; done) | omega)) | (with_reducible refine Blk.drewN ?_ _) | (with_reducible refine Blk.drew ?_) | (with_reducible refine Blk.alloc ?_ _) | (with_reducible apply Blk.set_) | (with_reducible refine Blk.far ?_ ?_ _) | rfl | omega | (simp; done) | (simp; omega)))) hb (by first | omega | (simp; done) | (simp; omega))
  have c1_0 := k1_0.cell
  have f1_0 := k1_0.frozen
  have l1_0 := k1_0.lt
  have l1 := hB1.size
  clear hb
  go_wp2_with (go_at_call 95; (with_reducible refine (name_R _).mono ?_); rintro e w' ⟨rfl, rfl⟩)
  refine wp_loop_rounds 3 ?_
  rw [rounds_succ]
  go_wp2_with fail
  refine (H5.out _).mono ?_
  rintro e w2 ⟨rfl, hb⟩
  have hB2 : Below w.heap.size w w2 := Below.trans (by (repeat' (first | (with_reducible exact Below.refl _ _) | (with_reducible assumption) | (with_reducible refine below_drewN ?_ _) | (with_reducible refine Below.drew ?_) | (with_reducible refine Below.alloc ?_ ?_ _) | (with_reducible refine Below.setCell ?_ ?_ _) | omega | (simp; done) | (simp; omega)))) (hb.mono (by first | omega | (simp; done) | (simp; omega)))
  have k2_0 : Blk w2 (w.heap.size) 103 #[.int .i64 0, .int .i64 0, .int .i64 0, .int .i64 0, .bool false, .string { data := #[] }, .string { data := #[] }, .string { data := #[] }, .string { data := #[] }, .string { data := #[] }, .slice none 0 0, .slice none 0 0] := Blk.below (by (repeat' (first | (with_reducible assumption) | (with_reducible exact Blk.new _ _ _) | (exact Blk.newAt (by first | rfl | (simp; done) | omega)) | (with_reducible refine Blk.drewN ?_ _) | (with_reducible refine Blk.drew ?_) | (with_reducible refine Blk.alloc ?_ _) | (with_reducible apply Blk.set_) | (with_reducible refine Blk.far ?_ ?_ _) | rfl | omega | (simp; done) | (simp; omega)))) hb (by first | omega | (simp; done) | (simp; omega))
  have k2_1 : Blk w2 (w1.heap.size) 103 #[.int .i64 0, .int .i64 10, .int .i64 10, .int .i64 0, .bool false, .string { data := #[82] }, .string { data := #[] }, .string { data := #[] }, .string { data := #[] }, .string { data := #[] }, .slice none 0 0, .slice none 0 0] := Blk.below (by (repeat' (first | (with_reducible assumption) | (with_reducible exact Blk.new _ _ _) | (exact Blk.newAt (by first | rfl | (simp; done) | omega)) | (with_reducible refine Blk.drewN ?_ _) | (with_reducible refine Blk.drew ?_) | (with_reducible refine Blk.alloc ?_ _) | (with_reducible apply Blk.set_) | (with_reducible refine Blk.far ?_ ?_ _) | rfl | omega | (simp; done) | (simp; omega)))) hb (by first | omega | (simp; done) | (simp; omega))
  have c2_0 := k2_0.cell
  have f2_0 := k2_0.frozen
  have l2_0 := k2_0.lt
  have c2_1 := k2_1.cell
  have f2_1 := k2_1.frozen
  have l2_1 := k2_1.lt
  have l2 := hB2.size
  clear hb k1_0 c1_0 f1_0
  have hs : ∀ o, w.heap.size ≤ (w2.alloc o).heap.size := fun o => Nat.le_trans l2 (by simp)
  have hN : ∀ j u, ([.int .i64 4000000] : List Value)[j]? = some u → (w2.alloc (.cells #[.int .i64 4000000] 2)).cell? ((⟨w2.heap.size, 0, none⟩ : Addr).add j) = some u :=
    World.news_of_block (cs := #[.int .i64 4000000]) (Blk.newAt (w := w2) rfl)
  have HS := Lib.hid hs
  have HN := Lib.hid hN
  clear hs hN
  go_wp2_with (first | (go_at_call 152; ((with_reducible refine (H7.out _).mono ?_); rintro e w' ⟨rfl, rfl⟩)) | (at_builtin; refine wpList_append_lies _ rfl (.tmp 66) (.tmp 68) 22 rfl w.heap.size 2 i2 _ 1 8 Tryz.underlying22 HI.out.1 HI.out.2.1 HI.out.2.2.1 HI.out.2.2.2 rfl (by decide) (.slice none 0 0) 0 [] (by simp [Act.eval]) (World.ownsRow_nil _ _ _ _) ⟨w2.heap.size, 0, none⟩ 1 1 [.int .i64 4000000] (by simp [Act.eval]) rfl HN.out hO.out (by decide) (by decide) (by decide) (HS.out _) _ rfl ?_))
  intro g3 cap3 w3 hown hgrow hat hlt
  have k3_0 := (k2_0.alloc (.cells #[.int .i64 4000000] 2)).grown hgrow (by simp [Value.ownBlock])
  have k3_1 := (k2_1.alloc (.cells #[.int .i64 4000000] 2)).grown hgrow (by simp [Value.ownBlock])
  have hB3 : Below w.heap.size w w3 := Below.grown (Below.alloc hB2 l2 _) hgrow (HS.out _) (by simp [Value.ownBlock])
  have HN0 := Lib.hid (own_blk_ne hown k3_0 (by decide))
  have HN1 := Lib.hid (own_blk_ne hown k3_1 (by decide))
  have HO := Lib.hid hown
  have c3_0 := k3_0.cell
  have c3_1 := k3_1.cell
  have f3_0 := k3_0.frozen
  have f3_1 := k3_1.frozen
  have l3_0 := k3_0.lt
  have l3_1 := k3_1.lt
  have l3 := hB3.size
  clear k2_0 k2_1 c2_0 c2_1 f2_0 f2_1 hown hgrow hat HS HN
  go_wp2_with fail
  rw [rounds_succ]
  go_wp2_with fail
  refine (H6.out _).mono ?_
  rintro e w4 ⟨rfl, hb⟩
  have hB4 : Below w.heap.size w w4 := Below.trans (by (repeat' (first | (with_reducible exact Below.refl _ _) | (with_reducible assumption) | (with_reducible refine below_drewN ?_ _) | (with_reducible refine Below.drew ?_) | (with_reducible refine Below.alloc ?_ ?_ _) | (with_reducible refine Below.setCell ?_ ?_ _) | omega | (simp; done) | (simp; omega)))) (hb.mono (by first | omega | (simp; done) | (simp; omega)))
  have k4_0 : Blk w4 (w.heap.size) 103 #[.int .i64 0, .int .i64 0, .int .i64 0, .int .i64 0, .bool false, .string { data := #[] }, .string { data := #[] }, .string { data := #[] }, .string { data := #[] }, .string { data := #[] }, .slice none 0 0, .slice none 0 0] := Blk.below (by (repeat' (first | (with_reducible assumption) | (with_reducible exact Blk.new _ _ _) | (exact Blk.newAt (by first | rfl | (simp; done) | omega)) | (with_reducible refine Blk.drewN ?_ _) | (with_reducible refine Blk.drew ?_) | (with_reducible refine Blk.alloc ?_ _) | (with_reducible apply Blk.set_) | (with_reducible refine Blk.far ?_ ?_ _) | rfl | omega | (simp; done) | (simp; omega)))) hb (by first | omega | (simp; done) | (simp; omega))
  have k4_1 : Blk w4 (w1.heap.size) 103 #[.int .i64 0, .int .i64 10, .int .i64 10, .int .i64 0, .bool false, .string { data := #[82] }, .string { data := #[] }, .string { data := #[] }, .string { data := #[] }, .string { data := #[] }, .slice (some ⟨g3, 0, none⟩) 1 cap3, .slice none 0 0] := Blk.below (by (repeat' (first | (with_reducible assumption) | (with_reducible exact Blk.new _ _ _) | (exact Blk.newAt (by first | rfl | (simp; done) | omega)) | (with_reducible refine Blk.drewN ?_ _) | (with_reducible refine Blk.drew ?_) | (with_reducible refine Blk.alloc ?_ _) | (with_reducible apply Blk.set_) | (with_reducible refine Blk.far ?_ ?_ _) | rfl | omega | (simp; done) | (simp; omega)))) hb (by first | omega | (simp; done) | (simp; omega))
  have c4_0 := k4_0.cell
  have f4_0 := k4_0.frozen
  have l4_0 := k4_0.lt
  have c4_1 := k4_1.cell
  have f4_1 := k4_1.frozen
  have l4_1 := k4_1.lt
  have l4 := hB4.size
  have HO4 := Lib.hid (own_below (own_far HO.out (p := ⟨w1.heap.size, 10, none⟩) HN1.out (.slice (some ⟨g3, 0, none⟩) 1 cap3)) hb (Nat.le_refl _))
  clear hb k3_0 k3_1 c3_0 c3_1 f3_0 f3_1 HO HN0 HN1
  have HO := HO4
  clear HO4
  have HM0 := Lib.hid (own_blk_ne HO.out k4_0 (by decide))
  have HM1 := Lib.hid (own_blk_ne HO.out k4_1 (by decide))
  have hs : ∀ o, w.heap.size ≤ (w4.alloc o).heap.size := fun o => Nat.le_trans l4 (by simp)
  have hN : ∀ j u, ([.int .i64 4000000] : List Value)[j]? = some u → (w4.alloc (.cells #[.int .i64 4000000] 2)).cell? ((⟨w4.heap.size, 0, none⟩ : Addr).add j) = some u :=
    World.news_of_block (cs := #[.int .i64 4000000]) (Blk.newAt (w := w4) rfl)
  have HS := Lib.hid hs
  have HN := Lib.hid hN
  clear hs hN
  go_wp2_with (first | (go_at_call 152; ((with_reducible refine (H7.out _).mono ?_); rintro e w' ⟨rfl, rfl⟩)) | (at_builtin; refine wpList_append_lies _ rfl (.tmp 66) (.tmp 68) 22 rfl w.heap.size 2 i2 _ 1 8 Tryz.underlying22 HI.out.1 HI.out.2.1 HI.out.2.2.1 HI.out.2.2.2 rfl (by decide) (.slice (some ⟨g3, 0, none⟩) 1 cap3) 1 [.int .i64 4000000] (by simp [Act.eval]) (HO.out.alloc _) ⟨w4.heap.size, 0, none⟩ 1 1 [.int .i64 4000000] (by simp [Act.eval]) rfl HN.out hO.out (by decide) (by decide) (by decide) (HS.out _) _ rfl ?_))
  have HGE := Lib.hid (fun q (hq : (Value.slice (some ⟨g3, 0, none⟩) 1 cap3).ownBlock = some q) => (HO.out.lt q hq).1)
  intro g5 cap5 w5 hown hgrow hat hlt
  have k5_0 := (k4_0.alloc (.cells #[.int .i64 4000000] 2)).grown hgrow (fun e => HM0.out e.symm)
  have k5_1 := (k4_1.alloc (.cells #[.int .i64 4000000] 2)).grown hgrow (fun e => HM1.out e.symm)
  have hB5 : Below w.heap.size w w5 := Below.grown (Below.alloc hB4 l4 _) hgrow (HS.out _) HGE.out
  have HN0 := Lib.hid (own_blk_ne hown k5_0 (by decide))
  have HN1 := Lib.hid (own_blk_ne hown k5_1 (by decide))
  have HO := Lib.hid hown
  have c5_0 := k5_0.cell
  have c5_1 := k5_1.cell
  have f5_0 := k5_0.frozen
  have f5_1 := k5_1.frozen
  have l5_0 := k5_0.lt
  have l5_1 := k5_1.lt
  have l5 := hB5.size
  clear k4_0 k4_1 c4_0 c4_1 f4_0 f4_1 hown hgrow hat HS HN
  go_wp2_with fail
  rw [rounds_succ]
  go_wp2_with fail
  refine bodyPost_ret (results_row_tmp Tryz.results149 _ _ w.heap.size #[.int .i64 0, .int .i64 10, .int .i64 10, .int .i64 0, .bool false, .string { data := #[82] }, .string { data := #[] }, .string { data := #[] }, .string { data := #[] }, .string { data := #[] }, .slice (some ⟨g5, 0, none⟩) (1 + 1) cap5, .slice none 0 0] (by rfl) (run_loadVar_row _ _ 103 103 _ (0, 0) _ ?_ Tryz.underlying103 rfl (by kernel_rfl))) rfl ⟨_, rfl, ?_, ?_⟩
  · unfold Blk at k5_0
    simp [World.setCell, Array.getElem?_modify, k5_0, Nat.ne_of_gt l1_0]
  · unfold Nums
    (repeat' (first | (with_reducible exact HO.out) | (with_reducible refine own_far ?_ ?_ _) | (with_reducible exact HN0.out) | (with_reducible exact HN1.out) | exact HO.out))
  · (repeat' (first | (with_reducible exact Below.refl _ _) | (with_reducible assumption) | (with_reducible refine below_drewN ?_ _) | (with_reducible refine Below.drew ?_) | (with_reducible refine Below.alloc ?_ ?_ _) | (with_reducible refine Below.setCell ?_ ?_ _) | omega | (simp; done) | (simp; omega)))
end Go.Proofs.YtfajckkbinbpiaaGreatDoor
namespace Go.Proofs.YtfajckkbinbpiaaGreatDoor
open Go.RowKit
set_option linter.unusedVariables false
set_option linter.unusedSimpArgs false

theorem grown_setRow (w : World) (g : Nat) (cs : Array Value) : w.grownBy (w.setRow g cs) (some g) :=
  ⟨rfl, rfl, rfl, by simp, fun b _ hne => setRow_other w g b cs (fun e => hne (by rw [e]))⟩
theorem wpList_storeBlk {ops : Array Oper} {rest : List Oper} {o : Oper} {a : Act} {w : World} {Q : Exit → Act → World → Prop} (hgd : o.guard = none) (ty : TypeId) (x y : Operand) (ho : o.op = .store ty x y)
    (hd : o.dst = none) (g : Nat) (cells : Array Value) (hx : a.eval x = .pointer (some ⟨g, 0, none⟩)) (hy : a.eval y = .agg cells)
    (t : TypeId) (old : Array Value) (hg : Blk w g t old) (hi : (Tryz.prog.info? ty).map (·.size) = some cells.size)
    (hold : old.size = cells.size) (h1 : cells.all (·.oneCell') = true)
    (h : ∀ w1, Blk w1 g t cells → w.grownBy w1 (some g) → wpList Tryz.prog ops Q rest a w1) : wpList Tryz.prog ops Q (o :: rest) a w :=
  wpList_store_row hgd ty x y ho g cells hx hy t old hg hi hold h1 (by
    rw [hd]
    exact h _ (setRow_heap w g old cells t (0, 0) hg) (grown_setRow w g cells))
/-- The same, of one cell. -/
theorem Blk.grown' {w w' : World} {g : Nat} {t : TypeId} {cs : Array Value} {row : Option Nat} (h : Blk w g t cs) (hb : w.grownBy w' row) (hg : some g ≠ row) : Blk w' g t cs := (hb.block g h.lt hg).trans h
end Go.Proofs.YtfajckkbinbpiaaGreatDoor
