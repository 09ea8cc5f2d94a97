/- Walks: the group of what may cover a box. Walks: a box is examined. -/
import Derived.Test.YtfajckkbinbpiaaGreatDoorM21
import Derived.Test.YtfajckkbinbpiaaGreatDoorM23
import Derived.Deep.AppendLies
import Derived.Deep.RegionLaw
namespace Go.Proofs.YtfajckkbinbpiaaGreatDoor
open Go.RowKit
set_option linter.unusedVariables false
set_option linter.unusedSimpArgs false

theorem ob1 {gl cl : Nat} : ∀ v ∈ ([.bool true, .int .i64 2, .int .i64 0, .int .i64 0, .int .i64 0, .int .i64 0, .int .i64 0, .int .i64 0, .int .i64 0, .slice (some ⟨gl, 0, none⟩) 1 cl, .slice none 0 0] : List Value), v.oneCell' = true := by
  intro v hv
  simp only [List.mem_cons, List.not_mem_nil, or_false] at hv
  rcases hv with rfl | rfl | rfl | rfl | rfl | rfl | rfl | rfl | rfl | rfl | rfl <;> rfl
theorem ex1 : ∀ v ∈ ([.int .i64 (-20000000), .int .i64 (-20000000), .int .i64 20000000, .int .i64 20000000, .bool false] : List Value), v.oneCell' = true := by
  intro v hv
  simp only [List.mem_cons, List.not_mem_nil, or_false] at hv
  rcases hv with rfl | rfl | rfl | rfl | rfl <;> rfl
theorem SqAt.grown {w w' : World} {gl gp cp : Nat} {row : Option Nat} (h : SqAt w gl gp cp) (hg : w.grownBy w' row) (h1 : some gl ≠ row) (h2 : some gp ≠ row) : SqAt w' gl gp cp := h.same (hg.block _ h.lt1 h1) (hg.block _ h.lt2 h2)
theorem info251 : (Tryz.prog.info? 224).map (fun i => (i.zero, i.size, i.bytes)) = some (some (.agg #[.int .i64 0, .int .i64 0, .int .i64 0, .int .i64 0, .bool false]), 5, 40) := by kernel_rfl
set_option maxRecDepth 100000 in
set_option maxHeartbeats 4000000 in
theorem near_sq (a b c d : Int) (v1 v2 : Value) (gl cl gp cp : Nat) (w : World) (hO : ObR w v1 gl cl gp cp) (hE : ExR w v2) (a0 : -10000000 ≤ a) (ac : a ≤ c) (c1 : c ≤ 10000000) (b0 : -10000000 ≤ b) (bd : b ≤ d) (d1 : d ≤ 10000000) :
    Calls Tryz.prog 74 #[.agg #[v1, v2], .agg #[.int .i64 a, .int .i64 b, .int .i64 c, .int .i64 d]] w fun e w' => ∃ u1 u2, e = .returned (.agg #[u1, u2]) ∧ ObR w' u1 gl cl gp cp ∧ ExR w' u2 ∧ Below w.heap.size w w' := by
  have lgl := hO.2.lt1
  have lgp := hO.2.lt2
  obtain ⟨g1, cap1, rfl, lg1, _⟩ := hO.form
  obtain ⟨g2, cap2, rfl, lg2, _⟩ := hE.form
  have HO := Lib.hid hO
  have HE := Lib.hid hE
  clear hO hE
  obtain ⟨i48, hi48, hz0, hz1, hz2⟩ := info_parts info48
  have HI := Lib.hid (And.intro hi48 (And.intro hz0 (And.intro hz1 hz2)))
  have hZ : Hid ((Value.agg #[.bool false, .int .i64 0, .int .i64 0, .int .i64 0, .int .i64 0, .int .i64 0, .int .i64 0, .int .i64 0, .int .i64 0, .slice none 0 0, .slice none 0 0]).cells.size = 11) := Lib.hid (by kernel_rfl)
  obtain ⟨i251, hi251, he0, he1, he2⟩ := info_parts info251
  have HJ := Lib.hid (And.intro hi251 (And.intro he0 (And.intro he1 he2)))
  have hY : Hid ((Value.agg #[.int .i64 0, .int .i64 0, .int .i64 0, .int .i64 0, .bool false]).cells.size = 5) := Lib.hid (by kernel_rfl)
  clear hi48 hz0 hz1 hz2 hi251 he0 he1 he2
  go_enter Tryz.func74, Tryz.ntmps74
  go_wp2_with fail
  obtain ⟨u0, eu⟩ : ∃ u, (((w.alloc (.cells #[.slice (some ⟨g1, 0, none⟩) 1 cap1, .slice (some ⟨g2, 0, none⟩) 1 cap2] 169)).alloc (.cells #[.int .i64 a, .int .i64 b, .int .i64 c, .int .i64 d] 70)).alloc (.cells #[.slice none 0 0, .slice none 0 0] 169)).alloc (.cells #[.slice none 0 0, .slice none 0 0] 169) = u := ⟨_, rfl⟩
  have B0 : Below w.heap.size w u0 := by rw [← eu]; (repeat' (first | (with_reducible exact Below.refl _ _) | (with_reducible assumption) | (with_reducible refine below_drewN ?_ _) | (with_reducible refine Below.drew ?_) | (with_reducible refine Below.alloc ?_ ?_ _) | (with_reducible refine Below.setCell ?_ ?_ _) | omega | (simp; done) | (simp; omega)))
  have kG : Blk u0 w.heap.size 169 #[.slice (some ⟨g1, 0, none⟩) 1 cap1, .slice (some ⟨g2, 0, none⟩) 1 cap2] := by rw [← eu]; (repeat' (first | (with_reducible assumption) | (with_reducible exact Blk.new _ _ _) | (exact Blk.newAt (by first | rfl | (simp; done) | omega)) | (with_reducible refine Blk.drewN ?_ _) | (with_reducible refine Blk.drew ?_) | (with_reducible refine Blk.alloc ?_ _) | (with_reducible apply Blk.set_) | (with_reducible refine Blk.far ?_ ?_ _) | rfl | omega | (simp; done) | (simp; omega)))
  have kB : Blk u0 (w.heap.size + 1) 70 #[.int .i64 a, .int .i64 b, .int .i64 c, .int .i64 d] := by rw [← eu]; (repeat' (first | (with_reducible assumption) | (with_reducible exact Blk.new _ _ _) | (exact Blk.newAt (by first | rfl | (simp; done) | omega)) | (with_reducible refine Blk.drewN ?_ _) | (with_reducible refine Blk.drew ?_) | (with_reducible refine Blk.alloc ?_ _) | (with_reducible apply Blk.set_) | (with_reducible refine Blk.far ?_ ?_ _) | rfl | omega | (simp; done) | (simp; omega)))
  have kR : Blk u0 (w.heap.size + 1 + 1) 169 #[.slice none 0 0, .slice none 0 0] := by rw [← eu]; (repeat' (first | (with_reducible assumption) | (with_reducible exact Blk.new _ _ _) | (exact Blk.newAt (by first | rfl | (simp; done) | omega)) | (with_reducible refine Blk.drewN ?_ _) | (with_reducible refine Blk.drew ?_) | (with_reducible refine Blk.alloc ?_ _) | (with_reducible apply Blk.set_) | (with_reducible refine Blk.far ?_ ?_ _) | rfl | omega | (simp; done) | (simp; omega)))
  have kr : Blk u0 (w.heap.size + 1 + 1 + 1) 169 #[.slice none 0 0, .slice none 0 0] := by rw [← eu]; (repeat' (first | (with_reducible assumption) | (with_reducible exact Blk.new _ _ _) | (exact Blk.newAt (by first | rfl | (simp; done) | omega)) | (with_reducible refine Blk.drewN ?_ _) | (with_reducible refine Blk.drew ?_) | (with_reducible refine Blk.alloc ?_ _) | (with_reducible apply Blk.set_) | (with_reducible refine Blk.far ?_ ?_ _) | rfl | omega | (simp; done) | (simp; omega)))
  have HO0 := HO.out.below B0 (Nat.le_refl _)
  have HE0 := HE.out.below B0 (Nat.le_refl _)
  obtain ⟨_, _, hq1, _, e0, e1, e2, e3, e4⟩ := HE0.form
  injection hq1 with hq1 hq2 hq3
  injection hq1 with hq1
  injection hq1 with hq1
  subst hq1 hq3
  have cG := kG.cell
  have lG := kG.lt
  have cB := kB.cell
  have lB := kB.lt
  have lR := kR.lt
  have lr := kr.lt
  have lg2' : g2 < u0.heap.size := Nat.lt_of_lt_of_le lg2 B0.size
  have b0s := B0.size
  have n9 : ¬ u0.heap.size = w.heap.size + 1 + 1 + 1 := by have h9 := congrArg (fun w => w.heap.size) eu; simp at h9; omega
  rw [eu]
  have HOO := Lib.hid HO0
  clear eu HO0 HE0
  refine wp_loop_rounds 2 ?_
  rw [rounds_succ]
  go_wp2_with fail
  refine (apart_no a b c d _ a0 ac c1 b0 bd d1).mono ?_
  rintro e w1 ⟨rfl, hb⟩
  have hB1 : Below w.heap.size w w1 := Below.trans (by (repeat' (first | (with_reducible exact Below.refl _ _) | (with_reducible assumption) | (with_reducible refine below_drewN ?_ _) | (with_reducible refine Below.drew ?_) | (with_reducible refine Below.alloc ?_ ?_ _) | (with_reducible refine Below.setCell ?_ ?_ _) | omega | (simp; done) | (simp; omega)))) (hb.mono (by first | omega | (simp; done) | (simp; omega)))
  have k1_0 : Blk w1 (w.heap.size) 169 #[.slice (some ⟨g1, 0, none⟩) 1 cap1, .slice (some ⟨g2, 0, none⟩) 1 cap2] := Blk.below (by (repeat' (first | (with_reducible assumption) | (with_reducible exact Blk.new _ _ _) | (exact Blk.newAt (by first | rfl | (simp; done) | omega)) | (with_reducible refine Blk.drewN ?_ _) | (with_reducible refine Blk.drew ?_) | (with_reducible refine Blk.alloc ?_ _) | (with_reducible apply Blk.set_) | (with_reducible refine Blk.far ?_ ?_ _) | rfl | omega | (simp; done) | (simp; omega)))) hb (by first | omega | (simp; done) | (simp; omega))
  have k1_1 : Blk w1 (w.heap.size + 1) 70 #[.int .i64 a, .int .i64 b, .int .i64 c, .int .i64 d] := Blk.below (by (repeat' (first | (with_reducible assumption) | (with_reducible exact Blk.new _ _ _) | (exact Blk.newAt (by first | rfl | (simp; done) | omega)) | (with_reducible refine Blk.drewN ?_ _) | (with_reducible refine Blk.drew ?_) | (with_reducible refine Blk.alloc ?_ _) | (with_reducible apply Blk.set_) | (with_reducible refine Blk.far ?_ ?_ _) | rfl | omega | (simp; done) | (simp; omega)))) hb (by first | omega | (simp; done) | (simp; omega))
  have k1_2 : Blk w1 (w.heap.size + 1 + 1) 169 #[.slice none 0 0, .slice none 0 0] := Blk.below (by (repeat' (first | (with_reducible assumption) | (with_reducible exact Blk.new _ _ _) | (exact Blk.newAt (by first | rfl | (simp; done) | omega)) | (with_reducible refine Blk.drewN ?_ _) | (with_reducible refine Blk.drew ?_) | (with_reducible refine Blk.alloc ?_ _) | (with_reducible apply Blk.set_) | (with_reducible refine Blk.far ?_ ?_ _) | rfl | omega | (simp; done) | (simp; omega)))) hb (by first | omega | (simp; done) | (simp; omega))
  have k1_3 : Blk w1 (w.heap.size + 1 + 1 + 1) 169 #[.slice none 0 0, .slice none 0 0] := Blk.below (by (repeat' (first | (with_reducible assumption) | (with_reducible exact Blk.new _ _ _) | (exact Blk.newAt (by first | rfl | (simp; done) | omega)) | (with_reducible refine Blk.drewN ?_ _) | (with_reducible refine Blk.drew ?_) | (with_reducible refine Blk.alloc ?_ _) | (with_reducible apply Blk.set_) | (with_reducible refine Blk.far ?_ ?_ _) | rfl | omega | (simp; done) | (simp; omega)))) hb (by first | omega | (simp; done) | (simp; omega))
  have k1_4 : Blk w1 (u0.heap.size) 224 #[.int .i64 (-20000000), .int .i64 (-20000000), .int .i64 20000000, .int .i64 20000000, .bool false] := Blk.below (by (repeat' (first | (with_reducible assumption) | (with_reducible exact Blk.new _ _ _) | (exact Blk.newAt (by first | rfl | (simp; done) | omega)) | (with_reducible refine Blk.drewN ?_ _) | (with_reducible refine Blk.drew ?_) | (with_reducible refine Blk.alloc ?_ _) | (with_reducible apply Blk.set_) | (with_reducible refine Blk.far ?_ ?_ _) | rfl | omega | (simp; done) | (simp; omega)))) hb (by first | omega | (simp; done) | (simp; omega))
  have c1_0 := k1_0.cell
  have f1_0 := k1_0.frozen
  have l1_0 := k1_0.lt
  have c1_1 := k1_1.cell
  have f1_1 := k1_1.frozen
  have l1_1 := k1_1.lt
  have c1_2 := k1_2.cell
  have f1_2 := k1_2.frozen
  have l1_2 := k1_2.lt
  have c1_3 := k1_3.cell
  have f1_3 := k1_3.frozen
  have l1_3 := k1_3.lt
  have c1_4 := k1_4.cell
  have f1_4 := k1_4.frozen
  have l1_4 := k1_4.lt
  have l1 := hB1.size
  clear hb kG kB kR kr cG lG cB lB e0 e1 e2 e3 e4
  go_wp2_with fail
  have s1 : ObR w1 (.slice (some ⟨g1, 0, none⟩) 1 cap1) gl cl gp cp := HO.out.below hB1 (Nat.le_refl _)
  obtain ⟨_, _, hq1, _, a0_, a1_, a2_, a3_, a4_, a5_, a6_, a7_, a8_, a9_, a10_⟩ := s1.form
  injection hq1 with hq1 hq2 hq3
  injection hq1 with hq1
  injection hq1 with hq1
  subst hq1 hq3
  have lg1' : g1 < w1.heap.size := Nat.lt_of_lt_of_le lg1 hB1.size
  have hN : ∀ j v, ([.bool true, .int .i64 2, .int .i64 0, .int .i64 0, .int .i64 0, .int .i64 0, .int .i64 0, .int .i64 0, .int .i64 0, .slice (some ⟨gl, 0, none⟩) 1 cl, .slice none 0 0] : List Value)[j]? = some v → ((w1.alloc (.cells #[.bool true, .int .i64 2, .int .i64 0, .int .i64 0, .int .i64 0, .int .i64 0, .int .i64 0, .int .i64 0, .int .i64 0, .slice (some ⟨gl, 0, none⟩) 1 cl, .slice none 0 0] 65)).drew).cell? ((⟨w1.heap.size, 0, none⟩ : Addr).add j) = some v :=
    World.news_of_block (cs := #[.bool true, .int .i64 2, .int .i64 0, .int .i64 0, .int .i64 0, .int .i64 0, .int .i64 0, .int .i64 0, .int .i64 0, .slice (some ⟨gl, 0, none⟩) 1 cl, .slice none 0 0]) (Blk.newAt (w := w1) rfl)
  have HN := Lib.hid hN
  have K1 := Lib.hid k1_2
  have K2 := Lib.hid k1_3
  have K3 := Lib.hid k1_4
  have S1 := Lib.hid s1
  clear hN s1 k1_1 k1_2 k1_3 k1_4
  go_region_law (refine step_append_lies _ rfl (.tmp 26) (.tmp 32) 47 rfl 0 65 i48 _ 11 120 Tryz.underlying47 HI.out.1 HI.out.2.1 HI.out.2.2.1 HI.out.2.2.2 hZ.out (by decide) (.slice none 0 0) 0 [] (by simp [Act.eval, Act.put]) (World.ownsRow_nil _ _ _ _) ⟨w1.heap.size, 0, none⟩ 1 1 [.bool true, .int .i64 2, .int .i64 0, .int .i64 0, .int .i64 0, .int .i64 0, .int .i64 0, .int .i64 0, .int .i64 0, .slice (some ⟨gl, 0, none⟩) 1 cl, .slice none 0 0] (by simp [Act.eval, Act.put]) rfl HN.out ob1 (by decide) (by decide) (by decide) (Nat.zero_le _) _ rfl ?_; intro q cq w3 hown hgrow hat hlt; have r3 := (K2.out.alloc (.cells #[.bool true, .int .i64 2, .int .i64 0, .int .i64 0, .int .i64 0, .int .i64 0, .int .i64 0, .int .i64 0, .int .i64 0, .slice (some ⟨gl, 0, none⟩) 1 cl, .slice none 0 0] 65)).drew.grown hgrow (by simp [Value.ownBlock]); have c3 := r3.cell; have f3 := r3.frozen; have l3 := r3.lt; have r4 := (K3.out.alloc (.cells #[.bool true, .int .i64 2, .int .i64 0, .int .i64 0, .int .i64 0, .int .i64 0, .int .i64 0, .int .i64 0, .int .i64 0, .slice (some ⟨gl, 0, none⟩) 1 cl, .slice none 0 0] 65)).drew.grown hgrow (by simp [Value.ownBlock]); have c4 := r4.cell; have f4 := r4.frozen; have l4 := r4.lt)
  all_goals
    have hS3 : SqAt w3 gl gp cp := (S1.out.2.alloc (.cells #[.bool true, .int .i64 2, .int .i64 0, .int .i64 0, .int .i64 0, .int .i64 0, .int .i64 0, .int .i64 0, .int .i64 0, .slice (some ⟨gl, 0, none⟩) 1 cl, .slice none 0 0] 65)).drew.grown hgrow (by simp [Value.ownBlock]) (by simp [Value.ownBlock])
    have p3 := (K1.out.alloc (.cells #[.bool true, .int .i64 2, .int .i64 0, .int .i64 0, .int .i64 0, .int .i64 0, .int .i64 0, .int .i64 0, .int .i64 0, .slice (some ⟨gl, 0, none⟩) 1 cl, .slice none 0 0] 65)).drew.grown hgrow (by simp [Value.ownBlock])
    have hb2x : Below w.heap.size w ((w1.alloc (.cells #[.bool true, .int .i64 2, .int .i64 0, .int .i64 0, .int .i64 0, .int .i64 0, .int .i64 0, .int .i64 0, .int .i64 0, .slice (some ⟨gl, 0, none⟩) 1 cl, .slice none 0 0] 65)).drew) := by (repeat' (first | (with_reducible exact Below.refl _ _) | (with_reducible assumption) | (with_reducible refine below_drewN ?_ _) | (with_reducible refine Below.drew ?_) | (with_reducible refine Below.alloc ?_ ?_ _) | (with_reducible refine Below.setCell ?_ ?_ _) | omega | (simp; done) | (simp; omega)))
    have hB3 : Below w.heap.size w w3 := Below.grown hb2x hgrow (by have := hB1.size; simp; omega) (by simp [Value.ownBlock])
    have hN2 : ∀ j v, ([.int .i64 (-20000000), .int .i64 (-20000000), .int .i64 20000000, .int .i64 20000000, .bool false] : List Value)[j]? = some v → ((w3.setCell ⟨w.heap.size + 1 + 1 + 1, 0, none⟩ (.slice (some ⟨q, 0, none⟩) 1 cq)).alloc (.cells #[.int .i64 (-20000000), .int .i64 (-20000000), .int .i64 20000000, .int .i64 20000000, .bool false] 224)).cell? ((⟨w3.heap.size, 0, none⟩ : Addr).add j) = some v :=
      World.news_of_block (cs := #[.int .i64 (-20000000), .int .i64 (-20000000), .int .i64 20000000, .int .i64 20000000, .bool false]) (Blk.newAt (w := w3.setCell ⟨w.heap.size + 1 + 1 + 1, 0, none⟩ (.slice (some ⟨q, 0, none⟩) 1 cq)) (by simp))
    have HN2 := Lib.hid hN2
    have HOW := Lib.hid hown
    have HP3 := Lib.hid p3
    have HR3 := Lib.hid r3
    have HS3 := Lib.hid hS3
    clear hN2 hS3 p3 hown hgrow hat hlt
    go_wp2_with (at_builtin; refine wpList_append_lies _ rfl (.tmp 36) (.tmp 38) 167 rfl 0 224 i251 _ 5 40 Tryz.underlying167 HJ.out.1 HJ.out.2.1 HJ.out.2.2.1 HJ.out.2.2.2 hY.out (by decide) (.slice none 0 0) 0 [] (by simp [Act.eval]) (World.ownsRow_nil _ _ _ _) ⟨w3.heap.size, 0, none⟩ 1 1 [.int .i64 (-20000000), .int .i64 (-20000000), .int .i64 20000000, .int .i64 20000000, .bool false] (by simp [Act.eval]) rfl HN2.out ex1 (by decide) (by decide) (by decide) (Nat.zero_le _) _ rfl ?_)
    intro q2 cq2 w4 hown2 hgrow2 hat2 hlt2
    have r4 := ((HR3.out.set_ 0 (.slice (some ⟨q, 0, none⟩) 1 cq) rfl).alloc (.cells #[.int .i64 (-20000000), .int .i64 (-20000000), .int .i64 20000000, .int .i64 20000000, .bool false] 224)).grown hgrow2 (by simp [Value.ownBlock])
    have p4 := ((HP3.out.far (p := ⟨w.heap.size + 1 + 1 + 1, 0, none⟩) (by simp) (.slice (some ⟨q, 0, none⟩) 1 cq)).alloc (.cells #[.int .i64 (-20000000), .int .i64 (-20000000), .int .i64 20000000, .int .i64 20000000, .bool false] 224)).grown hgrow2 (by simp [Value.ownBlock])
    have O4 : Only [w.heap.size + 1 + 1 + 1, w.heap.size + 1 + 1] w3 w4 := (((Only.refl _ _).setCell (p := ⟨w.heap.size + 1 + 1 + 1, 0, none⟩) (by simp) (.slice (some ⟨q, 0, none⟩) 1 cq)).alloc (.cells #[.int .i64 (-20000000), .int .i64 (-20000000), .int .i64 20000000, .int .i64 20000000, .bool false] 224)).grown hgrow2 (by intro b hb; simp [Value.ownBlock] at hb)
    have c4 := r4.cell
    have f4 := r4.frozen
    have l4 := r4.lt
    have c5 := p4.cell
    have f5 := p4.frozen
    have l5 := p4.lt
    have HOW2 := Lib.hid hown2
    have HP4 := Lib.hid p4
    have HR4 := Lib.hid r4
    clear hown2 hgrow2 hat2 hlt2 r4 p4 c3 f3 l3 r3
    go_wp2_with fail
    rw [rounds_succ]
    go_wp2_with fail
    have OF : Only [w.heap.size + 1 + 1 + 1, w.heap.size + 1 + 1] w3 _ := ((O4.setCell (p := ⟨w.heap.size + 1 + 1 + 1, 1, none⟩) (by simp) (.slice (some ⟨q2, 0, none⟩) 1 cq2)).setCell (p := ⟨w.heap.size + 1 + 1, 0, none⟩) (by simp) (.slice (some ⟨q, 0, none⟩) 1 cq)).setCell (p := ⟨w.heap.size + 1 + 1, 1, none⟩) (by simp) (.slice (some ⟨q2, 0, none⟩) 1 cq2)
    have O5 : Only [w.heap.size + 1 + 1 + 1, w.heap.size + 1 + 1] w4 _ := (((Only.refl _ w4).setCell (p := ⟨w.heap.size + 1 + 1 + 1, 1, none⟩) (by simp) (.slice (some ⟨q2, 0, none⟩) 1 cq2)).setCell (p := ⟨w.heap.size + 1 + 1, 0, none⟩) (by simp) (.slice (some ⟨q, 0, none⟩) 1 cq)).setCell (p := ⟨w.heap.size + 1 + 1, 1, none⟩) (by simp) (.slice (some ⟨q2, 0, none⟩) 1 cq2)
    refine bodyPost_ret (results_cell_row (t := 169) Tryz.results74 _ _ (w.heap.size + 1 + 1) #[.slice (some ⟨q, 0, none⟩) 1 cq, .slice (some ⟨q2, 0, none⟩) 1 cq2] (0, 0) _ (by rfl) ?_ Tryz.underlying169 rfl (by kernel_rfl)) rfl ⟨_, _, rfl, ⟨OF.own HOW.out ?_, HS3.out.only OF (by simp; omega) (by simp; omega)⟩, O5.own HOW2.out ?_, hB3.trans (OF.toBelow hB3.size (by simp; omega))⟩
    · exact (((HP4.out.far (p := ⟨w.heap.size + 1 + 1 + 1, 1, none⟩) (by simp) _).set_ 0 _ rfl).set_ 1 _ rfl)
    · intro b hb hm
      simp only [List.mem_cons, List.not_mem_nil, or_false] at hm
      rcases hm with rfl | rfl
      · exact own_blk_ne HOW.out HR3.out (by decide) hb
      · exact own_blk_ne HOW.out HP3.out (by decide) hb
    · intro b hb hm
      simp only [List.mem_cons, List.not_mem_nil, or_false] at hm
      rcases hm with rfl | rfl
      · exact own_blk_ne HOW2.out HR4.out (by decide) hb
      · exact own_blk_ne HOW2.out HP4.out (by decide) hb
end Go.Proofs.YtfajckkbinbpiaaGreatDoor
namespace Go.Proofs.YtfajckkbinbpiaaGreatDoor
open Go.RowKit
set_option linter.unusedVariables false
set_option linter.unusedSimpArgs false

set_option maxRecDepth 100000 in
set_option maxHeartbeats 4000000 in
theorem SqAt.ne_meter {w : World} {gl gp cp M : Nat} {x : Value} (h : SqAt w gl gp cp) (hM : Blk w M 133 #[.int .i64 100, x]) : gl ≠ M ∧ gp ≠ M := by
  have h0 : w.cell? ⟨M, 0, none⟩ = some (.int .i64 100) := hM.cell 0
  constructor
  · rintro rfl
    have h1 := h.1
    rw [h0] at h1
    cases h1
  · rintro rfl
    have h1 := h.2 0 _ rfl
    rw [h0] at h1
    cases h1
theorem ObR.only {S : List Nat} {w w' : World} {v : Value} {gl cl gp cp : Nat} (h : ObR w v gl cl gp cp) (ho : Only S w w') (h1 : gl ∉ S) (h2 : gp ∉ S) (h3 : ∀ b, v.ownBlock = some b → b ∉ S) : ObR w' v gl cl gp cp := ⟨ho.own h.1 h3, h.2.only ho h1 h2⟩
set_option maxRecDepth 100000 in
set_option maxHeartbeats 4000000 in
theorem examine_sq (a b c d k : Int) (M : Nat) (v1 v2 : Value) (gl cl gp cp : Nat) (w : World) (hO : ObR w v1 gl cl gp cp) (hM : Blk w M 133 #[.int .i64 100, .int .i64 k]) (h0 : 0 ≤ k) (h1 : k < 100) (a0 : -10000000 ≤ a) (ac : a ≤ c) (c1 : c ≤ 10000000) (b0 : -10000000 ≤ b) (bd : b ≤ d) (d1 : d ≤ 10000000) :
    Calls Tryz.prog 75 #[.agg #[v1, v2], .agg #[.int .i64 a, .int .i64 b, .int .i64 c, .int .i64 d], .int .i64 0, .pointer (some ⟨M, 0, none⟩)] w fun e w' => e = .returned (.tuple #[.agg #[.int .i64 1, .int .i64 1], .int .i64 0]) ∧ Blk w' M 133 #[.int .i64 100, .int .i64 (k + 1)] ∧ Only [M] w w' := by
  obtain ⟨n1, n2⟩ := hO.2.ne_meter hM
  have n3 := own_blk_ne hO.1 hM (by decide)
  have lM := hM.lt
  have lgl := hO.2.lt1
  have lgp := hO.2.lt2
  obtain ⟨g1, cap1, rfl, lg1, _⟩ := hO.form
  have HO := Lib.hid hO
  have HM := Lib.hid hM
  clear hO hM
  go_enter Tryz.func75, Tryz.ntmps75
  go_wp2_with fail
  obtain ⟨u0, eu⟩ : ∃ u, ((w.alloc (.cells #[.slice (some ⟨g1, 0, none⟩) 1 cap1, v2] 169)).alloc (.cells #[.int .i64 a, .int .i64 b, .int .i64 c, .int .i64 d] 70)).alloc (.cells #[.int .i64 0, .int .i64 0] 75) = u := ⟨_, rfl⟩
  have B0 : Below w.heap.size w u0 := by rw [← eu]; (repeat' (first | (with_reducible exact Below.refl _ _) | (with_reducible assumption) | (with_reducible refine below_drewN ?_ _) | (with_reducible refine Below.drew ?_) | (with_reducible refine Below.alloc ?_ ?_ _) | (with_reducible refine Below.setCell ?_ ?_ _) | omega | (simp; done) | (simp; omega)))
  have kG : Blk u0 w.heap.size 169 #[.slice (some ⟨g1, 0, none⟩) 1 cap1, v2] := by rw [← eu]; (repeat' (first | (with_reducible assumption) | (with_reducible exact Blk.new _ _ _) | (exact Blk.newAt (by first | rfl | (simp; done) | omega)) | (with_reducible refine Blk.drewN ?_ _) | (with_reducible refine Blk.drew ?_) | (with_reducible refine Blk.alloc ?_ _) | (with_reducible apply Blk.set_) | (with_reducible refine Blk.far ?_ ?_ _) | rfl | omega | (simp; done) | (simp; omega)))
  have kB : Blk u0 (w.heap.size + 1) 70 #[.int .i64 a, .int .i64 b, .int .i64 c, .int .i64 d] := by rw [← eu]; (repeat' (first | (with_reducible assumption) | (with_reducible exact Blk.new _ _ _) | (exact Blk.newAt (by first | rfl | (simp; done) | omega)) | (with_reducible refine Blk.drewN ?_ _) | (with_reducible refine Blk.drew ?_) | (with_reducible refine Blk.alloc ?_ _) | (with_reducible apply Blk.set_) | (with_reducible refine Blk.far ?_ ?_ _) | rfl | omega | (simp; done) | (simp; omega)))
  have kC : Blk u0 (w.heap.size + 1 + 1) 75 #[.int .i64 0, .int .i64 0] := by rw [← eu]; (repeat' (first | (with_reducible assumption) | (with_reducible exact Blk.new _ _ _) | (exact Blk.newAt (by first | rfl | (simp; done) | omega)) | (with_reducible refine Blk.drewN ?_ _) | (with_reducible refine Blk.drew ?_) | (with_reducible refine Blk.alloc ?_ _) | (with_reducible apply Blk.set_) | (with_reducible refine Blk.far ?_ ?_ _) | rfl | omega | (simp; done) | (simp; omega)))
  have kM := HM.out.below B0 (by omega)
  have b0s := B0.size
  rw [eu]
  clear eu
  refine (meterTake_c M k u0 h0 h1 kM).mono ?_
  rintro e w1 ⟨rfl, kM1, O1⟩
  have jG := O1.blk kG (by simp; omega)
  have jB := O1.blk kB (by simp; omega)
  have jC := O1.blk kC (by simp; omega)
  have jO := (HO.out.below B0 (Nat.le_refl _)).only O1 (by simpa using n1) (by simpa using n2) (by intro b hb hm; simp at hm; subst hm; exact n3 hb)
  have cG := jG.cell
  have lG := jG.lt
  have cB := jB.cell
  have lB := jB.lt
  have lC := jC.lt
  have OO := (Only.of_below B0 (Nat.le_refl _) [M]).trans O1
  have JM := Lib.hid kM1
  have JC := Lib.hid jC
  have JO := Lib.hid jO
  clear kG kB kC kM kM1 O1 jG jB jC jO B0
  go_wp2_with fail
  refine (pclass_sq a b c d _ gl cl gp cp w1 JO.out a0 ac c1 b0 bd d1).mono ?_
  rintro e w2 ⟨rfl, hb⟩
  have iC := JC.out.below hb lC
  have lM1 := JM.out.lt
  have iM := JM.out.below hb lM1
  have OP := OO.below hb OO.size
  have cC := iC.cell
  have fC := iC.frozen
  have lC2 := iC.lt
  clear hb
  go_wp2_with fail
  refine bodyPost_ret (results_row_tmp Tryz.results75 _ _ (w.heap.size + 1 + 1) #[.int .i64 1, .int .i64 1] (by rfl) (run_loadVar_row _ _ 75 75 _ (0, 0) _ ?_ Tryz.underlying75 rfl (by kernel_rfl))) rfl ⟨rfl, ?_, ?_⟩
  · exact (iC.set_ 0 _ rfl).set_ 1 _ rfl
  · exact (iM.far (by simp; omega) _).far (by simp; omega) _
  · exact (OP.setCell (p := ⟨w.heap.size + 1 + 1, 0, none⟩) (.inr (by simp; omega)) _).setCell (p := ⟨w.heap.size + 1 + 1, 1, none⟩) (.inr (by simp; omega)) _
end Go.Proofs.YtfajckkbinbpiaaGreatDoor
