/- Walks: the definition of a rectangle. A struct stored whole into a block that is known: the walk goes on in a world of which the block is known, and that all else is as it was. Walks: a step as it is written. Walks: the command of a group. -/
import Derived.Laws.OwnMore
import Derived.Laws.Tables
import Derived.Test.YtfajckkbinbpiaaGreatDoorJ01
import Derived.Test.YtfajckkbinbpiaaGreatDoorJ03
namespace Go.Proofs.YtfajckkbinbpiaaGreatDoor
set_option maxRecDepth 100000
set_option maxHeartbeats 32000000
set_option linter.unusedVariables false
set_option linter.unusedSimpArgs false
open Go.RowKit
theorem aperture_R (w : World) : Calls Tryz.prog 149 #[.string { data := #[68, 49, 48, 82, 44, 52, 88, 52] }] w fun e w' => ∃ v, e = .returned (.tuple #[.agg #[.int .i64 0, .int .i64 10, .int .i64 10, .int .i64 0, .bool false, .string { data := #[82] }, .string { data := #[] }, .string { data := #[] }, .string { data := #[] }, .string { data := #[] }, v, .slice none 0 0], .bool true]) ∧ Nums w' w.heap.size v [4000000, 4000000] ∧ Below w.heap.size w w' := by
  have h1 : ∀ w, Calls Tryz.prog 93 #[.string { data := #[68, 49, 48, 82, 44, 52, 88, 52] }, .string { data := #[68] }] w fun e w' => e = .returned (.tuple #[.string { data := #[49, 48, 82, 44, 52, 88, 52] }, .bool true]) ∧ w = w' := fun w => cutP_yes [68] [49, 48, 82, 44, 52, 88, 52] w (by decide)
  have h2 : ∀ w, Calls Tryz.prog 195 #[.string { data := #[49, 48, 82, 44, 52, 88, 52] }] w fun e w' => e = .returned (.int .i64 2) ∧ w = w' := fun w => digits_c [49, 48] [82, 44, 52, 88, 52] w (by decide) (by intro c h; simp at h; rcases h with rfl | rfl <;> decide) (by intro c h; simp at h; subst h; decide)
  have h3 : ∀ w, Calls Tryz.prog 98 #[.string { data := #[49, 48] }] w fun e w' => e = .returned (.tuple #[.int .i64 10, .bool true]) ∧ w = w' := fun w => code_c [49, 48] w (by decide) (by decide) (by intro c h; simp at h; rcases h with rfl | rfl <;> decide) (by decide)
  have h4 : ∀ w, Calls Tryz.prog 196 #[.string { data := #[82, 44, 52, 88, 52] }, .string { data := #[44] }] w fun e w' => e = .returned (.tuple #[.string { data := #[82] }, .string { data := #[52, 88, 52] }, .bool true]) ∧ Below w.heap.size w w' := fun w => cut_yes [82] [52, 88, 52] 44 w (by decide) (by decide) (by decide)
  have h5 : ∀ w, Calls Tryz.prog 196 #[.string { data := #[52, 88, 52] }, .string { data := #[88] }] w fun e w' => e = .returned (.tuple #[.string { data := #[52] }, .string { data := #[52] }, .bool true]) ∧ Below w.heap.size w w' := fun w => cut_yes [52] [52] 88 w (by decide) (by decide) (by decide)
  have h6 : ∀ w, Calls Tryz.prog 196 #[.string { data := #[52] }, .string { data := #[88] }] w fun e w' => e = .returned (.tuple #[.string { data := #[52] }, .string { data := #[] }, .bool false]) ∧ Below w.heap.size w w' := fun w => cut_no [52] 88 w (by decide) (by decide)
  have h7 : ∀ w, Calls Tryz.prog 152 #[.string { data := #[52] }] w fun e w' => e = .returned (.tuple #[.int .i64 4000000, .bool true]) ∧ w = w' := fun w => parse_int [52] w (by decide) (by decide) (by intro c h; simp at h; subst h; decide)
  have H1 := Lib.hid h1
  have H2 := Lib.hid h2
  have H3 := Lib.hid h3
  have H4 := Lib.hid h4
  have H5 := Lib.hid h5
  have H6 := Lib.hid h6
  have H7 := Lib.hid h7
  clear h1 h2 h3 h4 h5 h6 h7
  have x1 : ({ data := #[49, 48, 82, 44, 52, 88, 52] } : ByteArray).extract 0 2 = { data := #[49, 48] } := rfl
  have x2 : ({ data := #[49, 48, 82, 44, 52, 88, 52] } : ByteArray).extract 2 7 = { data := #[82, 44, 52, 88, 52] } := rfl
  obtain ⟨i2, hi2, hz0, hz1, hz2⟩ := info_parts info2
  have HI := Lib.hid (And.intro hi2 (And.intro hz0 (And.intro hz1 hz2)))
  have hO : Hid (∀ u ∈ ([.int .i64 4000000] : List Value), u.oneCell' = true) := Lib.hid (by intro u hu; simp at hu; subst hu; rfl)
  clear hi2 hz0 hz1 hz2
  go_enter Tryz.func149, Tryz.ntmps149
  go_wp2_with (first | (go_at_call 93; ((with_reducible refine (H1.out _).mono ?_); rintro e w' ⟨rfl, rfl⟩)) | (go_at_call 195; ((with_reducible refine (H2.out _).mono ?_); rintro e w' ⟨rfl, rfl⟩)) | (go_at_call 98; ((with_reducible refine (H3.out _).mono ?_); rintro e w' ⟨rfl, rfl⟩)))
  refine (H4.out _).mono ?_
  rintro e w1 ⟨rfl, hb⟩
  have hB1 : Below w.heap.size w w1 := Below.trans (by exact blw) (hb.mono (by first | omega | (simp; done) | (simp; omega)))
  have k1_0 : Blk w1 (w.heap.size) 103 #[.int .i64 0, .int .i64 0, .int .i64 0, .int .i64 0, .bool false, .string { data := #[] }, .string { data := #[] }, .string { data := #[] }, .string { data := #[] }, .string { data := #[] }, .slice none 0 0, .slice none 0 0] := Blk.below (by exact bkw) hb (by first | omega | (simp; done) | (simp; omega))
  have c1_0 := k1_0.cell
  have f1_0 := k1_0.frozen
  have l1_0 := k1_0.lt
  have l1 := hB1.size
  clear hb
  go_wp2_with (go_at_call 95; (with_reducible refine (name_R _).mono ?_); rintro e w' ⟨rfl, rfl⟩)
  refine wp_loop_rounds 3 ?_
  rw [rounds_succ]
  go_wp2_with fail
  refine (H5.out _).mono ?_
  rintro e w2 ⟨rfl, hb⟩
  have hB2 : Below w.heap.size w w2 := Below.trans (by exact blw) (hb.mono (by first | omega | (simp; done) | (simp; omega)))
  have k2_0 : Blk w2 (w.heap.size) 103 #[.int .i64 0, .int .i64 0, .int .i64 0, .int .i64 0, .bool false, .string { data := #[] }, .string { data := #[] }, .string { data := #[] }, .string { data := #[] }, .string { data := #[] }, .slice none 0 0, .slice none 0 0] := Blk.below (by exact bkw) hb (by first | omega | (simp; done) | (simp; omega))
  have k2_1 : Blk w2 (w1.heap.size) 103 #[.int .i64 0, .int .i64 10, .int .i64 10, .int .i64 0, .bool false, .string { data := #[82] }, .string { data := #[] }, .string { data := #[] }, .string { data := #[] }, .string { data := #[] }, .slice none 0 0, .slice none 0 0] := Blk.below (by exact bkw) hb (by first | omega | (simp; done) | (simp; omega))
  have c2_0 := k2_0.cell
  have f2_0 := k2_0.frozen
  have l2_0 := k2_0.lt
  have c2_1 := k2_1.cell
  have f2_1 := k2_1.frozen
  have l2_1 := k2_1.lt
  have l2 := hB2.size
  clear hb k1_0 c1_0 f1_0
  have hs : ∀ o, w.heap.size ≤ (w2.alloc o).heap.size := fun o => Nat.le_trans l2 (by simp)
  have hN : ∀ j u, ([.int .i64 4000000] : List Value)[j]? = some u → (w2.alloc (.cells #[.int .i64 4000000] 2)).cell? ((⟨w2.heap.size, 0, none⟩ : Addr).add j) = some u :=
    World.news_of_block (cs := #[.int .i64 4000000]) (Blk.newAt (w := w2) rfl)
  have HS := Lib.hid hs
  have HN := Lib.hid hN
  clear hs hN
  go_wp2_with (first | (go_at_call 152; ((with_reducible refine (H7.out _).mono ?_); rintro e w' ⟨rfl, rfl⟩)) | (at_builtin; refine wpList_append_lies _ rfl (.tmp 66) (.tmp 68) 22 rfl w.heap.size 2 i2 _ 1 8 Tryz.underlying22 HI.out.1 HI.out.2.1 HI.out.2.2.1 HI.out.2.2.2 rfl (by decide) (.slice none 0 0) 0 [] (by simp [Act.eval]) (World.ownsRow_nil _ _ _ _) ⟨w2.heap.size, 0, none⟩ 1 1 [.int .i64 4000000] (by simp [Act.eval]) rfl HN.out hO.out (by decide) (by decide) (by decide) (HS.out _) _ rfl ?_))
  intro g3 cap3 w3 hown hgrow hat hlt
  have k3_0 := (k2_0.alloc (.cells #[.int .i64 4000000] 2)).grown hgrow (by simp [Value.ownBlock])
  have k3_1 := (k2_1.alloc (.cells #[.int .i64 4000000] 2)).grown hgrow (by simp [Value.ownBlock])
  have hB3 : Below w.heap.size w w3 := Below.grown (Below.alloc hB2 l2 _) hgrow (HS.out _) (by simp [Value.ownBlock])
  have HN0 := Lib.hid (own_blk_ne hown k3_0 (by decide))
  have HN1 := Lib.hid (own_blk_ne hown k3_1 (by decide))
  have HO := Lib.hid hown
  have c3_0 := k3_0.cell
  have c3_1 := k3_1.cell
  have f3_0 := k3_0.frozen
  have f3_1 := k3_1.frozen
  have l3_0 := k3_0.lt
  have l3_1 := k3_1.lt
  have l3 := hB3.size
  clear k2_0 k2_1 c2_0 c2_1 f2_0 f2_1 hown hgrow hat HS HN
  go_wp2_with fail
  rw [rounds_succ]
  go_wp2_with fail
  refine (H6.out _).mono ?_
  rintro e w4 ⟨rfl, hb⟩
  have hB4 : Below w.heap.size w w4 := Below.trans (by exact blw) (hb.mono (by first | omega | (simp; done) | (simp; omega)))
  have k4_0 : Blk w4 (w.heap.size) 103 #[.int .i64 0, .int .i64 0, .int .i64 0, .int .i64 0, .bool false, .string { data := #[] }, .string { data := #[] }, .string { data := #[] }, .string { data := #[] }, .string { data := #[] }, .slice none 0 0, .slice none 0 0] := Blk.below (by exact bkw) hb (by first | omega | (simp; done) | (simp; omega))
  have k4_1 : Blk w4 (w1.heap.size) 103 #[.int .i64 0, .int .i64 10, .int .i64 10, .int .i64 0, .bool false, .string { data := #[82] }, .string { data := #[] }, .string { data := #[] }, .string { data := #[] }, .string { data := #[] }, .slice (some ⟨g3, 0, none⟩) 1 cap3, .slice none 0 0] := Blk.below (by exact bkw) hb (by first | omega | (simp; done) | (simp; omega))
  have c4_0 := k4_0.cell
  have f4_0 := k4_0.frozen
  have l4_0 := k4_0.lt
  have c4_1 := k4_1.cell
  have f4_1 := k4_1.frozen
  have l4_1 := k4_1.lt
  have l4 := hB4.size
  have HO4 := Lib.hid (own_below (own_far HO.out (p := ⟨w1.heap.size, 10, none⟩) HN1.out (.slice (some ⟨g3, 0, none⟩) 1 cap3)) hb (Nat.le_refl _))
  clear hb k3_0 k3_1 c3_0 c3_1 f3_0 f3_1 HO HN0 HN1
  have HO := HO4
  clear HO4
  have HM0 := Lib.hid (own_blk_ne HO.out k4_0 (by decide))
  have HM1 := Lib.hid (own_blk_ne HO.out k4_1 (by decide))
  have hs : ∀ o, w.heap.size ≤ (w4.alloc o).heap.size := fun o => Nat.le_trans l4 (by simp)
  have hN : ∀ j u, ([.int .i64 4000000] : List Value)[j]? = some u → (w4.alloc (.cells #[.int .i64 4000000] 2)).cell? ((⟨w4.heap.size, 0, none⟩ : Addr).add j) = some u :=
    World.news_of_block (cs := #[.int .i64 4000000]) (Blk.newAt (w := w4) rfl)
  have HS := Lib.hid hs
  have HN := Lib.hid hN
  clear hs hN
  go_wp2_with (first | (go_at_call 152; ((with_reducible refine (H7.out _).mono ?_); rintro e w' ⟨rfl, rfl⟩)) | (at_builtin; refine wpList_append_lies _ rfl (.tmp 66) (.tmp 68) 22 rfl w.heap.size 2 i2 _ 1 8 Tryz.underlying22 HI.out.1 HI.out.2.1 HI.out.2.2.1 HI.out.2.2.2 rfl (by decide) (.slice (some ⟨g3, 0, none⟩) 1 cap3) 1 [.int .i64 4000000] (by simp [Act.eval]) (HO.out.alloc _) ⟨w4.heap.size, 0, none⟩ 1 1 [.int .i64 4000000] (by simp [Act.eval]) rfl HN.out hO.out (by decide) (by decide) (by decide) (HS.out _) _ rfl ?_))
  have HGE := Lib.hid (fun q (hq : (Value.slice (some ⟨g3, 0, none⟩) 1 cap3).ownBlock = some q) => (HO.out.lt q hq).1)
  intro g5 cap5 w5 hown hgrow hat hlt
  have k5_0 := (k4_0.alloc (.cells #[.int .i64 4000000] 2)).grown hgrow (fun e => HM0.out e.symm)
  have k5_1 := (k4_1.alloc (.cells #[.int .i64 4000000] 2)).grown hgrow (fun e => HM1.out e.symm)
  have hB5 : Below w.heap.size w w5 := Below.grown (Below.alloc hB4 l4 _) hgrow (HS.out _) HGE.out
  have HN0 := Lib.hid (own_blk_ne hown k5_0 (by decide))
  have HN1 := Lib.hid (own_blk_ne hown k5_1 (by decide))
  have HO := Lib.hid hown
  have c5_0 := k5_0.cell
  have c5_1 := k5_1.cell
  have f5_0 := k5_0.frozen
  have f5_1 := k5_1.frozen
  have l5_0 := k5_0.lt
  have l5_1 := k5_1.lt
  have l5 := hB5.size
  clear k4_0 k4_1 c4_0 c4_1 f4_0 f4_1 hown hgrow hat HS HN
  go_wp2_with fail
  rw [rounds_succ]
  go_wp2_with fail
  refine bodyPost_ret (results_row_tmp Tryz.results149 _ _ w.heap.size #[.int .i64 0, .int .i64 10, .int .i64 10, .int .i64 0, .bool false, .string { data := #[82] }, .string { data := #[] }, .string { data := #[] }, .string { data := #[] }, .string { data := #[] }, .slice (some ⟨g5, 0, none⟩) (1 + 1) cap5, .slice none 0 0] (by rfl) (run_loadVar_row _ _ 103 103 _ (0, 0) _ ?_ Tryz.underlying103 rfl (by kernel_rfl))) rfl ⟨_, rfl, ?_, ?_⟩
  · unfold Blk at k5_0
    simp [World.setCell, Array.getElem?_modify, k5_0, Nat.ne_of_gt l1_0]
  · unfold Nums
    (repeat' (first | (with_reducible exact HO.out) | (with_reducible refine own_far ?_ ?_ _) | (with_reducible exact HN0.out) | (with_reducible exact HN1.out) | exact HO.out))
  · exact blw
theorem grown_setRow (w : World) (g : Nat) (cs : Array Value) : w.grownBy (w.setRow g cs) (some g) :=
  ⟨rfl, rfl, rfl, by simp, fun b _ hne => setRow_other w g b cs (fun e => hne (by rw [e]))⟩
theorem wpList_storeBlk {ops : Array Oper} {rest : List Oper} {o : Oper} {a : Act} {w : World} {Q : Exit → Act → World → Prop} (hgd : o.guard = none) (ty : TypeId) (x y : Operand) (ho : o.op = .store ty x y)
    (hd : o.dst = none) (g : Nat) (cells : Array Value) (hx : a.eval x = .pointer (some ⟨g, 0, none⟩)) (hy : a.eval y = .agg cells)
    (t : TypeId) (old : Array Value) (hg : Blk w g t old) (hi : (Tryz.prog.info? ty).map (·.size) = some cells.size)
    (hold : old.size = cells.size) (h1 : cells.all (·.oneCell') = true)
    (h : ∀ w1, Blk w1 g t cells → w.grownBy w1 (some g) → wpList Tryz.prog ops Q rest a w1) : wpList Tryz.prog ops Q (o :: rest) a w :=
  wpList_store_row hgd ty x y ho g cells hx hy t old hg hi hold h1 (by
    rw [hd]
    exact h _ (setRow_heap w g old cells t (0, 0) hg) (grown_setRow w g cells))
theorem Blk.grown' {w w' : World} {g : Nat} {t : TypeId} {cs : Array Value} {row : Option Nat} (h : Blk w g t cs) (hb : w.grownBy w' row) (hg : some g ≠ row) : Blk w' g t cs := (hb.block g h.lt hg).trans h
theorem own_of_blk {w : World} {g t size n : Nat} {cs : Array Value} (h : Blk w g t cs) (hn : n ≤ maxLen) (hs : cs.size = n * size) {B : Nat} (hB : B ≤ g) : w.ownsRow B t size (.slice (some ⟨g, 0, none⟩) n n) n cs.toList := by
  refine ⟨by simpa using hs, .inr ⟨g, n, cs, rfl, hB, h, Nat.le_refl _, hn, hs, ?_⟩⟩
  rw [← hs, ← Array.length_toList, List.take_length]
theorem extended_MOMM (w : World) : Calls Tryz.prog 94 #[.string { data := #[77, 79, 77, 77] }] w fun e w' => e = .returned (.tuple #[.agg #[.int .i64 0, .int .i64 9, .int .i64 1, .int .i64 0, .bool false, .string { data := #[] }, .string { data := #[] }, .string { data := #[] }, .string { data := #[] }, .string { data := #[] }, .slice none 0 0, .slice none 0 0], .int .i64 0]) ∧ Below w.heap.size w w' := by
  have h1 : ∀ w, Calls Tryz.prog 194 #[.string { data := #[77, 79, 77, 77] }, .string { data := #[76, 83] }] w fun e w' => e = .returned (.bool false) ∧ w = w' := fun w => hasP_no [77, 79, 77, 77] [76, 83] w (by decide) (by decide) (by decide)
  have h2 : ∀ w, Calls Tryz.prog 147 #[.string { data := #[77, 79, 77, 77] }] w fun e w' => e = .returned (.tuple #[.agg #[.int .i64 0, .int .i64 9, .int .i64 1, .int .i64 0, .bool false, .string { data := #[] }, .string { data := #[] }, .string { data := #[] }, .string { data := #[] }, .string { data := #[] }, .slice none 0 0, .slice none 0 0], .bool true]) ∧ Below w.heap.size w w' := fun w => fixed_MOMM w
  have H1 := Lib.hid h1
  have H2 := Lib.hid h2
  clear h1 h2
  go_enter Tryz.func94, Tryz.ntmps94
  go_wp2_with (first | (go_at_call 146; go_in) | (go_at_call 194; ((with_reducible refine (H1.out _).mono ?_); rintro e w' ⟨rfl, rfl⟩)))
  refine (H2.out _).mono ?_
  rintro e w1 ⟨rfl, hb⟩
  have hB1 : Below w.heap.size w w1 := Below.trans (by exact blw) (hb.mono (by first | omega | (simp; done) | (simp; omega)))
  have k1_0 : Blk w1 (w.heap.size) 103 #[.int .i64 0, .int .i64 0, .int .i64 0, .int .i64 0, .bool false, .string { data := #[] }, .string { data := #[] }, .string { data := #[] }, .string { data := #[] }, .string { data := #[] }, .slice none 0 0, .slice none 0 0] := Blk.below (by exact bkw) hb (by first | omega | (simp; done) | (simp; omega))
  have c1_0 := k1_0.cell
  have f1_0 := k1_0.frozen
  have l1_0 := k1_0.lt
  have l1 := hB1.size
  clear hb
  have HK := Lib.hid (k1_0.alloc (.cells #[.int .i64 0, .int .i64 9, .int .i64 1, .int .i64 0, .bool false, .string { data := #[] }, .string { data := #[] }, .string { data := #[] }, .string { data := #[] }, .string { data := #[] }, .slice none 0 0, .slice none 0 0] 103))
  go_wp2_with (refine wpList_storeBlk rfl 103 (.tmp 2) (.tmp 77) rfl rfl (w.heap.size) #[.int .i64 0, .int .i64 9, .int .i64 1, .int .i64 0, .bool false, .string { data := #[] }, .string { data := #[] }, .string { data := #[] }, .string { data := #[] }, .string { data := #[] }, .slice none 0 0, .slice none 0 0] (by simp [Act.eval]) (by simp [Act.eval]) 103 #[.int .i64 0, .int .i64 0, .int .i64 0, .int .i64 0, .bool false, .string { data := #[] }, .string { data := #[] }, .string { data := #[] }, .string { data := #[] }, .string { data := #[] }, .slice none 0 0, .slice none 0 0] HK.out (by kernel_rfl) (by kernel_rfl) (by kernel_rfl) ?_)
  intro w9 k9 hgr
  have hb9 : Below w.heap.size w w9 := Below.grown (Below.alloc hB1 l1 _) hgr (by simp; omega) (by intro q hq; injection hq with hq; omega)
  clear hgr
  go_wp2_with fail
  refine bodyPost_ret (results_row_tmp Tryz.results94 _ _ w.heap.size #[.int .i64 0, .int .i64 9, .int .i64 1, .int .i64 0, .bool false, .string { data := #[] }, .string { data := #[] }, .string { data := #[] }, .string { data := #[] }, .string { data := #[] }, .slice none 0 0, .slice none 0 0] (by rfl) (run_loadVar_row _ _ 103 103 _ (0, 0) _ k9 Tryz.underlying103 rfl (by kernel_rfl))) rfl ⟨rfl, hb9⟩
theorem extended_FSLAX24Y24 (w : World) : Calls Tryz.prog 94 #[.string { data := #[70, 83, 76, 65, 88, 50, 52, 89, 50, 52] }] w fun e w' => e = .returned (.tuple #[.agg #[.int .i64 0, .int .i64 8, .int .i64 2, .int .i64 4, .bool false, .string { data := #[] }, .string { data := #[] }, .string { data := #[] }, .string { data := #[] }, .string { data := #[] }, .slice none 0 0, .slice none 0 0], .int .i64 0]) ∧ Below w.heap.size w w' := by
  have h1 : ∀ w, Calls Tryz.prog 194 #[.string { data := #[70, 83, 76, 65, 88, 50, 52, 89, 50, 52] }, .string { data := #[76, 83] }] w fun e w' => e = .returned (.bool false) ∧ w = w' := fun w => hasP_no [70, 83, 76, 65, 88, 50, 52, 89, 50, 52] [76, 83] w (by decide) (by decide) (by decide)
  have h2 : ∀ w, Calls Tryz.prog 147 #[.string { data := #[70, 83, 76, 65, 88, 50, 52, 89, 50, 52] }] w fun e w' => e = .returned (.tuple #[.agg #[.int .i64 0, .int .i64 0, .int .i64 0, .int .i64 0, .bool false, .string { data := #[] }, .string { data := #[] }, .string { data := #[] }, .string { data := #[] }, .string { data := #[] }, .slice none 0 0, .slice none 0 0], .bool false]) ∧ Below w.heap.size w w' := fun w => fixed_FSLAX24Y24 w
  have h3 : ∀ w, Calls Tryz.prog 148 #[.string { data := #[76, 65, 88, 50, 52, 89, 50, 52] }] w fun e w' => e = .returned (.tuple #[.agg #[.int .i64 0, .int .i64 8, .int .i64 2, .int .i64 4, .bool false, .string { data := #[] }, .string { data := #[] }, .string { data := #[] }, .string { data := #[] }, .string { data := #[] }, .slice none 0 0, .slice none 0 0], .bool true]) ∧ Below w.heap.size w w' := fun w => format_c w
  have H1 := Lib.hid h1
  have H2 := Lib.hid h2
  have H3 := Lib.hid h3
  clear h1 h2 h3
  have x1 : ({ data := #[70, 83, 76, 65, 88, 50, 52, 89, 50, 52] } : ByteArray).extract 0 2 = { data := #[70, 83] } := rfl
  have x2 : ({ data := #[70, 83, 76, 65, 88, 50, 52, 89, 50, 52] } : ByteArray).extract 2 10 = { data := #[76, 65, 88, 50, 52, 89, 50, 52] } := rfl
  go_enter Tryz.func94, Tryz.ntmps94
  go_wp2_with (first | (go_at_call 146; go_in) | (go_at_call 194; ((with_reducible refine (H1.out _).mono ?_); rintro e w' ⟨rfl, rfl⟩)))
  refine (H2.out _).mono ?_
  rintro e w1 ⟨rfl, hb⟩
  have hB1 : Below w.heap.size w w1 := Below.trans (by exact blw) (hb.mono (by first | omega | (simp; done) | (simp; omega)))
  have k1_0 : Blk w1 (w.heap.size) 103 #[.int .i64 0, .int .i64 0, .int .i64 0, .int .i64 0, .bool false, .string { data := #[] }, .string { data := #[] }, .string { data := #[] }, .string { data := #[] }, .string { data := #[] }, .slice none 0 0, .slice none 0 0] := Blk.below (by exact bkw) hb (by first | omega | (simp; done) | (simp; omega))
  have c1_0 := k1_0.cell
  have f1_0 := k1_0.frozen
  have l1_0 := k1_0.lt
  have l1 := hB1.size
  clear hb
  go_wp2_with fail
  refine (H3.out _).mono ?_
  rintro e w2 ⟨rfl, hb⟩
  have hB2 : Below w.heap.size w w2 := Below.trans (by exact blw) (hb.mono (by first | omega | (simp; done) | (simp; omega)))
  have k2_0 : Blk w2 (w.heap.size) 103 #[.int .i64 0, .int .i64 0, .int .i64 0, .int .i64 0, .bool false, .string { data := #[] }, .string { data := #[] }, .string { data := #[] }, .string { data := #[] }, .string { data := #[] }, .slice none 0 0, .slice none 0 0] := Blk.below (by exact bkw) hb (by first | omega | (simp; done) | (simp; omega))
  have k2_1 : Blk w2 (w1.heap.size) 103 #[.int .i64 0, .int .i64 0, .int .i64 0, .int .i64 0, .bool false, .string { data := #[] }, .string { data := #[] }, .string { data := #[] }, .string { data := #[] }, .string { data := #[] }, .slice none 0 0, .slice none 0 0] := Blk.below (by exact bkw) hb (by first | omega | (simp; done) | (simp; omega))
  have c2_0 := k2_0.cell
  have f2_0 := k2_0.frozen
  have l2_0 := k2_0.lt
  have c2_1 := k2_1.cell
  have f2_1 := k2_1.frozen
  have l2_1 := k2_1.lt
  have l2 := hB2.size
  clear hb k1_0 c1_0 f1_0
  have HK := Lib.hid k2_1
  have HK0 := Lib.hid k2_0
  clear k2_1 k2_0 c2_0 c2_1 f2_0 f2_1
  go_wp2_with (refine wpList_storeBlk rfl 103 (.tmp 4) (.tmp 30) rfl rfl (w1.heap.size) #[.int .i64 0, .int .i64 8, .int .i64 2, .int .i64 4, .bool false, .string { data := #[] }, .string { data := #[] }, .string { data := #[] }, .string { data := #[] }, .string { data := #[] }, .slice none 0 0, .slice none 0 0] (by simp [Act.eval]) (by simp [Act.eval]) 103 #[.int .i64 0, .int .i64 0, .int .i64 0, .int .i64 0, .bool false, .string { data := #[] }, .string { data := #[] }, .string { data := #[] }, .string { data := #[] }, .string { data := #[] }, .slice none 0 0, .slice none 0 0] HK.out (by kernel_rfl) (by kernel_rfl) (by kernel_rfl) ?_)
  intro w5 k5 hgr
  have hk50 := Blk.grown' HK0.out hgr (by intro e; injection e with e; omega)
  have HK5 := Lib.hid hk50
  have hB5 : Below w.heap.size w w5 := Below.grown hB2 hgr l2 (by intro q hq; injection hq with hq; omega)
  have l5 := hB5.size
  have c5 := k5.cell
  have l5_0 := k5.lt
  clear hgr hk50
  go_wp2_with (refine wpList_storeBlk rfl 103 (.tmp 2) (.tmp 77) rfl rfl (w.heap.size) #[.int .i64 0, .int .i64 8, .int .i64 2, .int .i64 4, .bool false, .string { data := #[] }, .string { data := #[] }, .string { data := #[] }, .string { data := #[] }, .string { data := #[] }, .slice none 0 0, .slice none 0 0] (by simp [Act.eval]) (by simp [Act.eval]) 103 #[.int .i64 0, .int .i64 0, .int .i64 0, .int .i64 0, .bool false, .string { data := #[] }, .string { data := #[] }, .string { data := #[] }, .string { data := #[] }, .string { data := #[] }, .slice none 0 0, .slice none 0 0] HK5.out (by kernel_rfl) (by kernel_rfl) (by kernel_rfl) ?_)
  intro w9 k9 hgr
  have hb9 : Below w.heap.size w w9 := Below.grown hB5 hgr l5 (by intro q hq; injection hq with hq; omega)
  clear hgr
  go_wp2_with fail
  refine bodyPost_ret (results_row_tmp Tryz.results94 _ _ w.heap.size #[.int .i64 0, .int .i64 8, .int .i64 2, .int .i64 4, .bool false, .string { data := #[] }, .string { data := #[] }, .string { data := #[] }, .string { data := #[] }, .string { data := #[] }, .slice none 0 0, .slice none 0 0] (by rfl) (run_loadVar_row _ _ 103 103 _ (0, 0) _ k9 Tryz.underlying103 rfl (by kernel_rfl))) rfl ⟨rfl, hb9⟩
theorem extended_ADD10R_4X4 (w : World) : Calls Tryz.prog 94 #[.string { data := #[65, 68, 68, 49, 48, 82, 44, 52, 88, 52] }] w fun e w' => ∃ v, e = .returned (.tuple #[.agg #[.int .i64 0, .int .i64 10, .int .i64 10, .int .i64 0, .bool false, .string { data := #[82] }, .string { data := #[] }, .string { data := #[] }, .string { data := #[] }, .string { data := #[] }, v, .slice none 0 0], .int .i64 0]) ∧ Nums w' w.heap.size v [4000000, 4000000] ∧ Below w.heap.size w w' := by
  have h1 : ∀ w, Calls Tryz.prog 194 #[.string { data := #[65, 68, 68, 49, 48, 82, 44, 52, 88, 52] }, .string { data := #[76, 83] }] w fun e w' => e = .returned (.bool false) ∧ w = w' := fun w => hasP_no [65, 68, 68, 49, 48, 82, 44, 52, 88, 52] [76, 83] w (by decide) (by decide) (by decide)
  have h2 : ∀ w, Calls Tryz.prog 147 #[.string { data := #[65, 68, 68, 49, 48, 82, 44, 52, 88, 52] }] w fun e w' => e = .returned (.tuple #[.agg #[.int .i64 0, .int .i64 0, .int .i64 0, .int .i64 0, .bool false, .string { data := #[] }, .string { data := #[] }, .string { data := #[] }, .string { data := #[] }, .string { data := #[] }, .slice none 0 0, .slice none 0 0], .bool false]) ∧ Below w.heap.size w w' := fun w => fixed_ADD10R_4X4 w
  have H1 := Lib.hid h1
  have H2 := Lib.hid h2
  clear h1 h2
  have x1 : ({ data := #[65, 68, 68, 49, 48, 82, 44, 52, 88, 52] } : ByteArray).extract 0 2 = { data := #[65, 68] } := rfl
  have x2 : ({ data := #[65, 68, 68, 49, 48, 82, 44, 52, 88, 52] } : ByteArray).extract 2 10 = { data := #[68, 49, 48, 82, 44, 52, 88, 52] } := rfl
  go_enter Tryz.func94, Tryz.ntmps94
  go_wp2_with (first | (go_at_call 146; go_in) | (go_at_call 194; ((with_reducible refine (H1.out _).mono ?_); rintro e w' ⟨rfl, rfl⟩)))
  refine (H2.out _).mono ?_
  rintro e w1 ⟨rfl, hb⟩
  have hB1 : Below w.heap.size w w1 := Below.trans (by exact blw) (hb.mono (by first | omega | (simp; done) | (simp; omega)))
  have k1_0 : Blk w1 (w.heap.size) 103 #[.int .i64 0, .int .i64 0, .int .i64 0, .int .i64 0, .bool false, .string { data := #[] }, .string { data := #[] }, .string { data := #[] }, .string { data := #[] }, .string { data := #[] }, .slice none 0 0, .slice none 0 0] := Blk.below (by exact bkw) hb (by first | omega | (simp; done) | (simp; omega))
  have c1_0 := k1_0.cell
  have f1_0 := k1_0.frozen
  have l1_0 := k1_0.lt
  have l1 := hB1.size
  clear hb
  go_wp2_with fail
  refine (aperture_R _).mono ?_
  rintro e w2 ⟨v, rfl, hn, hb⟩
  have hB2 : Below w.heap.size w w2 := Below.trans (by exact blw) (hb.mono (by first | omega | (simp; done) | (simp; omega)))
  have k2_0 : Blk w2 (w.heap.size) 103 #[.int .i64 0, .int .i64 0, .int .i64 0, .int .i64 0, .bool false, .string { data := #[] }, .string { data := #[] }, .string { data := #[] }, .string { data := #[] }, .string { data := #[] }, .slice none 0 0, .slice none 0 0] := Blk.below (by exact bkw) hb (by first | omega | (simp; done) | (simp; omega))
  have k2_1 : Blk w2 (w1.heap.size) 103 #[.int .i64 0, .int .i64 0, .int .i64 0, .int .i64 0, .bool false, .string { data := #[] }, .string { data := #[] }, .string { data := #[] }, .string { data := #[] }, .string { data := #[] }, .slice none 0 0, .slice none 0 0] := Blk.below (by exact bkw) hb (by first | omega | (simp; done) | (simp; omega))
  have c2_0 := k2_0.cell
  have f2_0 := k2_0.frozen
  have l2_0 := k2_0.lt
  have c2_1 := k2_1.cell
  have f2_1 := k2_1.frozen
  have l2_1 := k2_1.lt
  have l2 := hB2.size
  obtain ⟨g, cap, rfl, hge, hgl⟩ := World.ownsRow.form hn (by decide)
  have HN := Lib.hid hn
  have HN0 := Lib.hid (own_blk_ne hn k2_0 (by decide))
  have HN1 := Lib.hid (own_blk_ne hn k2_1 (by decide))
  have hge2 : w.heap.size ≤ g := by (simp at hge; omega)
  clear hn hge
  clear hb k1_0 c1_0 f1_0
  have HK := Lib.hid k2_1
  have HK0 := Lib.hid k2_0
  clear k2_1 k2_0 c2_0 c2_1 f2_0 f2_1
  go_wp2_with (refine wpList_storeBlk rfl 103 (.tmp 4) (.tmp 38) rfl rfl (w1.heap.size) #[.int .i64 0, .int .i64 10, .int .i64 10, .int .i64 0, .bool false, .string { data := #[82] }, .string { data := #[] }, .string { data := #[] }, .string { data := #[] }, .string { data := #[] }, .slice (some ⟨g, 0, none⟩) 2 cap, .slice none 0 0] (by simp [Act.eval]) (by simp [Act.eval]) 103 #[.int .i64 0, .int .i64 0, .int .i64 0, .int .i64 0, .bool false, .string { data := #[] }, .string { data := #[] }, .string { data := #[] }, .string { data := #[] }, .string { data := #[] }, .slice none 0 0, .slice none 0 0] HK.out (by kernel_rfl) (by kernel_rfl) (by kernel_rfl) ?_)
  intro w5 k5 hgr
  have hk50 := Blk.grown' HK0.out hgr (by intro e; injection e with e; omega)
  have HK5 := Lib.hid hk50
  have hB5 : Below w.heap.size w w5 := Below.grown hB2 hgr l2 (by intro q hq; injection hq with hq; omega)
  have l5 := hB5.size
  have c5 := k5.cell
  have l5_0 := k5.lt
  have HN5 := Lib.hid (World.ownsRow.kept HN.out hgr (Or.inr HN1.out))
  clear hgr hk50
  go_wp2_with (refine wpList_storeBlk rfl 103 (.tmp 2) (.tmp 77) rfl rfl (w.heap.size) #[.int .i64 0, .int .i64 10, .int .i64 10, .int .i64 0, .bool false, .string { data := #[82] }, .string { data := #[] }, .string { data := #[] }, .string { data := #[] }, .string { data := #[] }, .slice (some ⟨g, 0, none⟩) 2 cap, .slice none 0 0] (by simp [Act.eval]) (by simp [Act.eval]) 103 #[.int .i64 0, .int .i64 0, .int .i64 0, .int .i64 0, .bool false, .string { data := #[] }, .string { data := #[] }, .string { data := #[] }, .string { data := #[] }, .string { data := #[] }, .slice none 0 0, .slice none 0 0] HK5.out (by kernel_rfl) (by kernel_rfl) (by kernel_rfl) ?_)
  intro w9 k9 hgr
  have hb9 : Below w.heap.size w w9 := Below.grown hB5 hgr l5 (by intro q hq; injection hq with hq; omega)
  have HN9 := Lib.hid (World.ownsRow.kept HN5.out hgr (Or.inr HN0.out))
  clear hgr
  go_wp2_with fail
  have hq : Nums w9 w.heap.size (.slice (some ⟨g, 0, none⟩) 2 cap) [4000000, 4000000] := by
    obtain ⟨h1, h2⟩ := HN9.out
    refine ⟨h1, ?_⟩
    rcases h2 with ⟨h0, _⟩ | ⟨g', cap', cur, he, hb', hh, r1, r2, r3, r4⟩
    · cases h0
    · obtain ⟨rfl, _⟩ : g = g' ∧ cap = cap' := by simpa using he
      exact .inr ⟨g, cap', cur, he, hge2, hh, r1, r2, r3, r4⟩
  refine bodyPost_ret (results_row_tmp Tryz.results94 _ _ w.heap.size #[.int .i64 0, .int .i64 10, .int .i64 10, .int .i64 0, .bool false, .string { data := #[82] }, .string { data := #[] }, .string { data := #[] }, .string { data := #[] }, .string { data := #[] }, .slice (some ⟨g, 0, none⟩) 2 cap, .slice none 0 0] (by rfl) (run_loadVar_row _ _ 103 103 _ (0, 0) _ k9 Tryz.underlying103 rfl (by kernel_rfl))) rfl ⟨_, rfl, hq, hb9⟩
end Go.Proofs.YtfajckkbinbpiaaGreatDoor
