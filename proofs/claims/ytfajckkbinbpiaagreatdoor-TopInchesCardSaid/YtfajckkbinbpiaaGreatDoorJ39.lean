/- Walks: package plot: the text of the one square is plotted. Walks: package plot: the file of the one square. -/
import Derived.Test.YtfajckkbinbpiaaGreatDoorJ25
import Derived.Test.YtfajckkbinbpiaaGreatDoorJ38
namespace Go.Proofs.YtfajckkbinbpiaaGreatDoor
set_option maxRecDepth 100000
set_option maxHeartbeats 32000000
set_option linter.unusedVariables false
set_option linter.unusedSimpArgs false
open Go.RowKit
theorem plot_r (cs : List (List Value)) (v : Value) (B' : Nat) (w : World) (hC : Cmds w B' v cs) (hG : CmdsOf w B' [Gr.fs, .mo, .adr, .d10, .op3 [48] [48], .m02] cs) :
    Calls Tryz.prog 35 #[v, .int .i64 10] w fun e w' => ∃ v0 gl gp cp, e = .returned (.tuple #[v0, .int .i64 0, .int .i64 0]) ∧ ObR w' v0 gl 1 gp cp ∧ Below w.heap.size w w' := by
  have hcl := hG.length
  obtain ⟨gc, cap0, rfl, _, hgc⟩ := World.ownsRow.form hC.2 (by rw [hcl]; decide)
  rw [hcl]
  have hmm := @run_makeMap Tryz.prog
  have hmk : ∀ w, (Instr.makeSlice 152 (.int .i64 1) (.int .i64 1)).run Tryz.prog w = .ok (.slice (some ⟨w.heap.size, 0, none⟩) 1 1) (w.alloc (.cells #[.bool false, .int .i64 0, .int .i64 0, .int .i64 0, .int .i64 0, .int .i64 0, .slice none 0 0] 162)) := fun _ => by kernel_rfl
  have HC := Lib.hid hC
  have HG := Lib.hid hG
  have HCL := Lib.hid hcl
  clear hC hG hcl
  have hcell : ∀ k (hk : k < 6), ∃ A nv, (∀ W, Below w.heap.size w W → ∀ j u, j < 12 → (([Gr.fs, .mo, .adr, .d10, .op3 [48] [48], .m02] : List Gr)[k].cells A nv)[j]? = some u → W.cell? ⟨gc, k * 12 + j, none⟩ = some u) ∧ Numz w B' nv (([Gr.fs, .mo, .adr, .d10, .op3 [48] [48], .m02] : List Gr)[k]).nums := fun k hk => by
    obtain ⟨hkc, A, nv, e1, e2⟩ := HG.out.mem k hk
    refine ⟨A, nv, fun W hB j u hj hu => ?_, e2⟩
    rw [hB.cell (p := ⟨gc, k * 12 + j, none⟩) hgc]
    have h1 := HC.out.2
    have h2 := h1.cellAt (k * 12 + j) (by have := HCL.out; simp at this; omega)
    rw [h2, flat_at cs k hkc j HC.out.1 hj, e1, hu]
  have HCELL := Lib.hid hcell
  clear hcell
  go_enter Tryz.func35, Tryz.ntmps35
  go_wp2_with fail
  obtain ⟨W0, eu⟩ : ∃ u, ((w.alloc (.map #[] 0)).alloc (.cells #[.bool false, .int .i64 0, .int .i64 0, .int .i64 0, .int .i64 0, .int .i64 0, .slice none 0 0] 162)).alloc (.cells #[.int .i64 0, .int .i64 0, .int .i64 0, .int .i64 0, .bool false, .bool false, .map (some w.heap.size), .int .i64 0, .slice none 0 0, .int .i64 0, .int .i64 0, .int .i64 1, .bool false, .bool true, .bool false, .bool false, .int .i64 0, .int .i64 0, .int .i64 0, .bool false, .slice none 0 0, .slice (some ⟨w.heap.size + 1, 0, none⟩) 1 1, .int .i64 0, .int .i64 10, .bool false] 159) = u := ⟨_, rfl⟩
  have KP : Blk W0 (w.heap.size + 1 + 1) 159 #[.int .i64 0, .int .i64 0, .int .i64 0, .int .i64 0, .bool false, .bool false, .map (some w.heap.size), .int .i64 0, .slice none 0 0, .int .i64 0, .int .i64 0, .int .i64 1, .bool false, .bool true, .bool false, .bool false, .int .i64 0, .int .i64 0, .int .i64 0, .bool false, .slice none 0 0, .slice (some ⟨w.heap.size + 1, 0, none⟩) 1 1, .int .i64 0, .int .i64 10, .bool false] := by rw [← eu]; exact Blk.newAt (by simp)
  have KL : Blk W0 (w.heap.size + 1) 162 #[.bool false, .int .i64 0, .int .i64 0, .int .i64 0, .int .i64 0, .int .i64 0, .slice none 0 0] := by rw [← eu]; exact (Blk.newAt (by simp)).alloc _
  have KM : IsMap W0 w.heap.size #[] 0 := by rw [← eu]; exact ((IsMap.new w #[] 0).alloc _).alloc _
  have BB : Below w.heap.size w W0 := by rw [← eu]; exact blw
  rw [show min (max (10 : Int) 0) 100000 = 10 from by decide, eu]
  clear hmm hmk eu
  refine wp_loop_rounds 7 ?_
  obtain ⟨A, nv, hq, hn⟩ := HCELL.out 0 (by decide)
  have hnv := hn.2 rfl
  subst hnv
  clear hn
  have q0 : W0.cell? ⟨gc, 0, none⟩ = some (.int .i64 A) := hq W0 BB 0 _ (by omega) rfl
  have q1 : W0.cell? ⟨gc, 1, none⟩ = some (.int .i64 8) := hq W0 BB 1 _ (by omega) rfl
  have q2 : W0.cell? ⟨gc, 2, none⟩ = some (.int .i64 2) := hq W0 BB 2 _ (by omega) rfl
  have q3 : W0.cell? ⟨gc, 3, none⟩ = some (.int .i64 4) := hq W0 BB 3 _ (by omega) rfl
  have q4 : W0.cell? ⟨gc, 4, none⟩ = some (.bool false) := hq W0 BB 4 _ (by omega) rfl
  have q5 : W0.cell? ⟨gc, 5, none⟩ = some (.string (bs [])) := hq W0 BB 5 _ (by omega) rfl
  have q6 : W0.cell? ⟨gc, 6, none⟩ = some (.string (bs [])) := hq W0 BB 6 _ (by omega) rfl
  have q7 : W0.cell? ⟨gc, 7, none⟩ = some (.string (bs [])) := hq W0 BB 7 _ (by omega) rfl
  have q8 : W0.cell? ⟨gc, 8, none⟩ = some (.string (bs [])) := hq W0 BB 8 _ (by omega) rfl
  have q9 : W0.cell? ⟨gc, 9, none⟩ = some (.string (bs [])) := hq W0 BB 9 _ (by omega) rfl
  have q10 : W0.cell? ⟨gc, 10, none⟩ = some (.slice none 0 0) := hq W0 BB 10 _ (by omega) rfl
  have q11 : W0.cell? ⟨gc, 11, none⟩ = some (.slice none 0 0) := hq W0 BB 11 _ (by omega) rfl
  have lgc : gc < W0.heap.size := Nat.lt_of_lt_of_le hgc BB.size
  have bsz := BB.size
  clear hq
  rw [rounds_succ]
  go_wp2_with fail
  refine (do_8 (w.heap.size + 1 + 1) A 2 4 false (bs []) (bs []) (bs []) (bs []) none 0 0 _ _ (KP.alloc _) (define_fs (w.heap.size + 1 + 1) A _ _ _ _ _ ((KP.alloc _).alloc _))).mono ?_
  rintro e W1 ⟨rfl, k1, o1⟩
  have nL := o1.blk ((KL.alloc (.cells #[.int .i64 A, .int .i64 8, .int .i64 2, .int .i64 4, .bool false, .string (bs []), .string (bs []), .string (bs []), .string (bs []), .string (bs []), .slice none 0 0, .slice none 0 0] 103)).alloc (.cells #[.int .i64 A, .int .i64 8, .int .i64 2, .int .i64 4, .bool false, .string (bs []), .string (bs []), .string (bs []), .string (bs []), .string (bs []), .slice none 0 0, .slice none 0 0] 103)) (by first | (simp; done) | (simp; omega))
  have nM := o1.map ((KM.alloc (.cells #[.int .i64 A, .int .i64 8, .int .i64 2, .int .i64 4, .bool false, .string (bs []), .string (bs []), .string (bs []), .string (bs []), .string (bs []), .slice none 0 0, .slice none 0 0] 103)).alloc (.cells #[.int .i64 A, .int .i64 8, .int .i64 2, .int .i64 4, .bool false, .string (bs []), .string (bs []), .string (bs []), .string (bs []), .string (bs []), .slice none 0 0, .slice none 0 0] 103)) (by first | (simp; done) | (simp; omega))
  have nB : Below w.heap.size w W1 := Below.trans ((BB.alloc BB.size (.cells #[.int .i64 A, .int .i64 8, .int .i64 2, .int .i64 4, .bool false, .string (bs []), .string (bs []), .string (bs []), .string (bs []), .string (bs []), .slice none 0 0, .slice none 0 0] 103)).alloc (by have := BB.size; simp; omega) (.cells #[.int .i64 A, .int .i64 8, .int .i64 2, .int .i64 4, .bool false, .string (bs []), .string (bs []), .string (bs []), .string (bs []), .string (bs []), .slice none 0 0, .slice none 0 0] 103)) (o1.toBelow (by have := BB.size; simp; omega) (by first | (simp; done) | (simp; omega)))
  clear KP KL KM BB o1
  have KP := k1
  have KL := nL
  have KM := nM
  have BB := nB
  clear k1 nL nM nB
  clear q0 q1 q2 q3 q4 q5 q6 q7 q8 q9 q10 q11 lgc bsz
  go_wp2_with fail
  obtain ⟨A, nv, hq, hn⟩ := HCELL.out 1 (by decide)
  have hnv := hn.2 rfl
  subst hnv
  clear hn
  have q0 : W1.cell? ⟨gc, 12, none⟩ = some (.int .i64 A) := hq W1 BB 0 _ (by omega) rfl
  have q1 : W1.cell? ⟨gc, 13, none⟩ = some (.int .i64 9) := hq W1 BB 1 _ (by omega) rfl
  have q2 : W1.cell? ⟨gc, 14, none⟩ = some (.int .i64 1) := hq W1 BB 2 _ (by omega) rfl
  have q3 : W1.cell? ⟨gc, 15, none⟩ = some (.int .i64 0) := hq W1 BB 3 _ (by omega) rfl
  have q4 : W1.cell? ⟨gc, 16, none⟩ = some (.bool false) := hq W1 BB 4 _ (by omega) rfl
  have q5 : W1.cell? ⟨gc, 17, none⟩ = some (.string (bs [])) := hq W1 BB 5 _ (by omega) rfl
  have q6 : W1.cell? ⟨gc, 18, none⟩ = some (.string (bs [])) := hq W1 BB 6 _ (by omega) rfl
  have q7 : W1.cell? ⟨gc, 19, none⟩ = some (.string (bs [])) := hq W1 BB 7 _ (by omega) rfl
  have q8 : W1.cell? ⟨gc, 20, none⟩ = some (.string (bs [])) := hq W1 BB 8 _ (by omega) rfl
  have q9 : W1.cell? ⟨gc, 21, none⟩ = some (.string (bs [])) := hq W1 BB 9 _ (by omega) rfl
  have q10 : W1.cell? ⟨gc, 22, none⟩ = some (.slice none 0 0) := hq W1 BB 10 _ (by omega) rfl
  have q11 : W1.cell? ⟨gc, 23, none⟩ = some (.slice none 0 0) := hq W1 BB 11 _ (by omega) rfl
  have lgc : gc < W1.heap.size := Nat.lt_of_lt_of_le hgc BB.size
  have bsz := BB.size
  clear hq
  rw [rounds_succ]
  go_wp2_with fail
  refine (do_9 (w.heap.size + 1 + 1) A 1 0 false (bs []) (bs []) (bs []) (bs []) none 0 0 _ _ (KP.alloc _) (define_mo (w.heap.size + 1 + 1) A _ ((KP.alloc _).alloc _))).mono ?_
  rintro e W2 ⟨rfl, k1, o1⟩
  have nL := o1.blk ((KL.alloc (.cells #[.int .i64 A, .int .i64 9, .int .i64 1, .int .i64 0, .bool false, .string (bs []), .string (bs []), .string (bs []), .string (bs []), .string (bs []), .slice none 0 0, .slice none 0 0] 103)).alloc (.cells #[.int .i64 A, .int .i64 9, .int .i64 1, .int .i64 0, .bool false, .string (bs []), .string (bs []), .string (bs []), .string (bs []), .string (bs []), .slice none 0 0, .slice none 0 0] 103)) (by first | (simp; done) | (simp; omega))
  have nM := o1.map ((KM.alloc (.cells #[.int .i64 A, .int .i64 9, .int .i64 1, .int .i64 0, .bool false, .string (bs []), .string (bs []), .string (bs []), .string (bs []), .string (bs []), .slice none 0 0, .slice none 0 0] 103)).alloc (.cells #[.int .i64 A, .int .i64 9, .int .i64 1, .int .i64 0, .bool false, .string (bs []), .string (bs []), .string (bs []), .string (bs []), .string (bs []), .slice none 0 0, .slice none 0 0] 103)) (by first | (simp; done) | (simp; omega))
  have nB : Below w.heap.size w W2 := Below.trans ((BB.alloc BB.size (.cells #[.int .i64 A, .int .i64 9, .int .i64 1, .int .i64 0, .bool false, .string (bs []), .string (bs []), .string (bs []), .string (bs []), .string (bs []), .slice none 0 0, .slice none 0 0] 103)).alloc (by have := BB.size; simp; omega) (.cells #[.int .i64 A, .int .i64 9, .int .i64 1, .int .i64 0, .bool false, .string (bs []), .string (bs []), .string (bs []), .string (bs []), .string (bs []), .slice none 0 0, .slice none 0 0] 103)) (o1.toBelow (by have := BB.size; simp; omega) (by first | (simp; done) | (simp; omega)))
  clear KP KL KM BB o1
  have KP := k1
  have KL := nL
  have KM := nM
  have BB := nB
  clear k1 nL nM nB
  clear q0 q1 q2 q3 q4 q5 q6 q7 q8 q9 q10 q11 lgc bsz
  go_wp2_with fail
  obtain ⟨A, nv, hq, hn⟩ := HCELL.out 2 (by decide)
  obtain ⟨gn, cn, rfl, _, hgn⟩ := World.ownsRow.form hn.1 (by decide)
  have hn1 : w.cell? ⟨gn, 0, none⟩ = some (.int .i64 4000000) := by have := hn.1.cellAt 0 (by decide); simpa [Gr.nums] using this
  have hn2 : w.cell? ⟨gn, 1, none⟩ = some (.int .i64 4000000) := by have := hn.1.cellAt 1 (by decide); simpa [Gr.nums] using this
  clear hn
  have q0 : W2.cell? ⟨gc, 24, none⟩ = some (.int .i64 A) := hq W2 BB 0 _ (by omega) rfl
  have q1 : W2.cell? ⟨gc, 25, none⟩ = some (.int .i64 10) := hq W2 BB 1 _ (by omega) rfl
  have q2 : W2.cell? ⟨gc, 26, none⟩ = some (.int .i64 10) := hq W2 BB 2 _ (by omega) rfl
  have q3 : W2.cell? ⟨gc, 27, none⟩ = some (.int .i64 0) := hq W2 BB 3 _ (by omega) rfl
  have q4 : W2.cell? ⟨gc, 28, none⟩ = some (.bool false) := hq W2 BB 4 _ (by omega) rfl
  have q5 : W2.cell? ⟨gc, 29, none⟩ = some (.string (bs [82])) := hq W2 BB 5 _ (by omega) rfl
  have q6 : W2.cell? ⟨gc, 30, none⟩ = some (.string (bs [])) := hq W2 BB 6 _ (by omega) rfl
  have q7 : W2.cell? ⟨gc, 31, none⟩ = some (.string (bs [])) := hq W2 BB 7 _ (by omega) rfl
  have q8 : W2.cell? ⟨gc, 32, none⟩ = some (.string (bs [])) := hq W2 BB 8 _ (by omega) rfl
  have q9 : W2.cell? ⟨gc, 33, none⟩ = some (.string (bs [])) := hq W2 BB 9 _ (by omega) rfl
  have q10 : W2.cell? ⟨gc, 34, none⟩ = some (.slice (some ⟨gn, 0, none⟩) 2 cn) := hq W2 BB 10 _ (by omega) rfl
  have q11 : W2.cell? ⟨gc, 35, none⟩ = some (.slice none 0 0) := hq W2 BB 11 _ (by omega) rfl
  have lgc : gc < W2.heap.size := Nat.lt_of_lt_of_le hgc BB.size
  have bsz := BB.size
  clear hq
  rw [rounds_succ]
  go_wp2_with fail
  have hw1 : ((W2.alloc (.cells #[.int .i64 A, .int .i64 10, .int .i64 10, .int .i64 0, .bool false, .string (bs [82]), .string (bs []), .string (bs []), .string (bs []), .string (bs []), .slice (some ⟨gn, 0, none⟩) 2 cn, .slice none 0 0] 103)).alloc (.cells #[.int .i64 A, .int .i64 10, .int .i64 10, .int .i64 0, .bool false, .string (bs [82]), .string (bs []), .string (bs []), .string (bs []), .string (bs []), .slice (some ⟨gn, 0, none⟩) 2 cn, .slice none 0 0] 103)).cell? ⟨gn, 0, none⟩ = some (.int .i64 4000000) := ((BB.alloc BB.size (.cells #[.int .i64 A, .int .i64 10, .int .i64 10, .int .i64 0, .bool false, .string (bs [82]), .string (bs []), .string (bs []), .string (bs []), .string (bs []), .slice (some ⟨gn, 0, none⟩) 2 cn, .slice none 0 0] 103)).alloc (by have := BB.size; simp; omega) (.cells #[.int .i64 A, .int .i64 10, .int .i64 10, .int .i64 0, .bool false, .string (bs [82]), .string (bs []), .string (bs []), .string (bs []), .string (bs []), .slice (some ⟨gn, 0, none⟩) 2 cn, .slice none 0 0] 103)).cell (p := ⟨gn, 0, none⟩) hgn |>.trans hn1
  have hw2 : ((W2.alloc (.cells #[.int .i64 A, .int .i64 10, .int .i64 10, .int .i64 0, .bool false, .string (bs [82]), .string (bs []), .string (bs []), .string (bs []), .string (bs []), .slice (some ⟨gn, 0, none⟩) 2 cn, .slice none 0 0] 103)).alloc (.cells #[.int .i64 A, .int .i64 10, .int .i64 10, .int .i64 0, .bool false, .string (bs [82]), .string (bs []), .string (bs []), .string (bs []), .string (bs []), .slice (some ⟨gn, 0, none⟩) 2 cn, .slice none 0 0] 103)).cell? ⟨gn, 1, none⟩ = some (.int .i64 4000000) := ((BB.alloc BB.size (.cells #[.int .i64 A, .int .i64 10, .int .i64 10, .int .i64 0, .bool false, .string (bs [82]), .string (bs []), .string (bs []), .string (bs []), .string (bs []), .slice (some ⟨gn, 0, none⟩) 2 cn, .slice none 0 0] 103)).alloc (by have := BB.size; simp; omega) (.cells #[.int .i64 A, .int .i64 10, .int .i64 10, .int .i64 0, .bool false, .string (bs [82]), .string (bs []), .string (bs []), .string (bs []), .string (bs []), .slice (some ⟨gn, 0, none⟩) 2 cn, .slice none 0 0] 103)).cell (p := ⟨gn, 1, none⟩) hgn |>.trans hn2
  refine (do_10 (w.heap.size + 1 + 1) A 10 0 false (bs [82]) (bs []) (bs []) (bs []) (some ⟨gn, 0, none⟩) 2 cn _ (fun w' => ∃ gl gp cp, IsMap w' w.heap.size #[{ key := .int .i64 10, val := .agg #[.int .i64 2, .int .i64 0, .int .i64 0, .int .i64 0, .int .i64 0, .int .i64 0, .int .i64 0, .int .i64 0, .slice (some ⟨gl, 0, none⟩) 1 1, .slice none 0 0, .int .i64 0, .bool false, .bool false, .slice none 0 0], born := 0 }] 1 ∧ SqAt w' gl gp cp ∧ Only [w.heap.size] ((W2.alloc (.cells #[.int .i64 A, .int .i64 10, .int .i64 10, .int .i64 0, .bool false, .string (bs [82]), .string (bs []), .string (bs []), .string (bs []), .string (bs []), .slice (some ⟨gn, 0, none⟩) 2 cn, .slice none 0 0] 103)).alloc (.cells #[.int .i64 A, .int .i64 10, .int .i64 10, .int .i64 0, .bool false, .string (bs [82]), .string (bs []), .string (bs []), .string (bs []), .string (bs []), .slice (some ⟨gn, 0, none⟩) 2 cn, .slice none 0 0] 103)) w') (KP.alloc _) ((define_adr (w.heap.size + 1 + 1) w.heap.size (w.heap.size + 1) 1 gn cn A _ ((KP.alloc _).alloc _) ((KM.alloc _).alloc _) (by omega) hw1 hw2 (by simp; omega)).mono (fun e w' h => by obtain ⟨gl, gp, cp, h1, h2⟩ := h; exact ⟨h1, gl, gp, cp, h2⟩))).mono ?_
  rintro e W3 ⟨rfl, gl, gp, cp, nM, KS, o1⟩
  have nP := o1.blk ((KP.alloc (.cells #[.int .i64 A, .int .i64 10, .int .i64 10, .int .i64 0, .bool false, .string (bs [82]), .string (bs []), .string (bs []), .string (bs []), .string (bs []), .slice (some ⟨gn, 0, none⟩) 2 cn, .slice none 0 0] 103)).alloc (.cells #[.int .i64 A, .int .i64 10, .int .i64 10, .int .i64 0, .bool false, .string (bs [82]), .string (bs []), .string (bs []), .string (bs []), .string (bs []), .slice (some ⟨gn, 0, none⟩) 2 cn, .slice none 0 0] 103)) (by first | (simp; done) | (simp; omega))
  have nL := o1.blk ((KL.alloc (.cells #[.int .i64 A, .int .i64 10, .int .i64 10, .int .i64 0, .bool false, .string (bs [82]), .string (bs []), .string (bs []), .string (bs []), .string (bs []), .slice (some ⟨gn, 0, none⟩) 2 cn, .slice none 0 0] 103)).alloc (.cells #[.int .i64 A, .int .i64 10, .int .i64 10, .int .i64 0, .bool false, .string (bs [82]), .string (bs []), .string (bs []), .string (bs []), .string (bs []), .slice (some ⟨gn, 0, none⟩) 2 cn, .slice none 0 0] 103)) (by first | (simp; done) | (simp; omega))
  have nB : Below w.heap.size w W3 := Below.trans ((BB.alloc BB.size (.cells #[.int .i64 A, .int .i64 10, .int .i64 10, .int .i64 0, .bool false, .string (bs [82]), .string (bs []), .string (bs []), .string (bs []), .string (bs []), .slice (some ⟨gn, 0, none⟩) 2 cn, .slice none 0 0] 103)).alloc (by have := BB.size; simp; omega) (.cells #[.int .i64 A, .int .i64 10, .int .i64 10, .int .i64 0, .bool false, .string (bs [82]), .string (bs []), .string (bs []), .string (bs []), .string (bs []), .slice (some ⟨gn, 0, none⟩) 2 cn, .slice none 0 0] 103)) (o1.toBelow (by have := BB.size; simp; omega) (by first | (simp; done) | (simp; omega)))
  clear KP KL KM BB o1 hw1 hw2 hn1 hn2
  have KP := nP
  have KL := nL
  have KM := nM
  have BB := nB
  clear nP nL nM nB
  clear q0 q1 q2 q3 q4 q5 q6 q7 q8 q9 q10 q11 lgc bsz
  go_wp2_with fail
  obtain ⟨A, nv, hq, hn⟩ := HCELL.out 3 (by decide)
  have hnv := hn.2 rfl
  subst hnv
  clear hn
  have q0 : W3.cell? ⟨gc, 36, none⟩ = some (.int .i64 A) := hq W3 BB 0 _ (by omega) rfl
  have q1 : W3.cell? ⟨gc, 37, none⟩ = some (.int .i64 6) := hq W3 BB 1 _ (by omega) rfl
  have q2 : W3.cell? ⟨gc, 38, none⟩ = some (.int .i64 10) := hq W3 BB 2 _ (by omega) rfl
  have q3 : W3.cell? ⟨gc, 39, none⟩ = some (.int .i64 0) := hq W3 BB 3 _ (by omega) rfl
  have q4 : W3.cell? ⟨gc, 40, none⟩ = some (.bool false) := hq W3 BB 4 _ (by omega) rfl
  have q5 : W3.cell? ⟨gc, 41, none⟩ = some (.string (bs [])) := hq W3 BB 5 _ (by omega) rfl
  have q6 : W3.cell? ⟨gc, 42, none⟩ = some (.string (bs [])) := hq W3 BB 6 _ (by omega) rfl
  have q7 : W3.cell? ⟨gc, 43, none⟩ = some (.string (bs [])) := hq W3 BB 7 _ (by omega) rfl
  have q8 : W3.cell? ⟨gc, 44, none⟩ = some (.string (bs [])) := hq W3 BB 8 _ (by omega) rfl
  have q9 : W3.cell? ⟨gc, 45, none⟩ = some (.string (bs [])) := hq W3 BB 9 _ (by omega) rfl
  have q10 : W3.cell? ⟨gc, 46, none⟩ = some (.slice none 0 0) := hq W3 BB 10 _ (by omega) rfl
  have q11 : W3.cell? ⟨gc, 47, none⟩ = some (.slice none 0 0) := hq W3 BB 11 _ (by omega) rfl
  have lgc : gc < W3.heap.size := Nat.lt_of_lt_of_le hgc BB.size
  have bsz := BB.size
  clear hq
  rw [rounds_succ]
  go_wp2_with fail
  refine (do_6 (w.heap.size + 1 + 1) A 10 0 false (bs []) (bs []) (bs []) (bs []) none 0 0 _ _ (KP.alloc _) (set_pick (w.heap.size + 1 + 1) w.heap.size A 10 _ 2 0 0 false false (some ⟨gl, 0, none⟩) none 1 1 0 0 #[{ key := .int .i64 10, val := .agg #[.int .i64 2, .int .i64 0, .int .i64 0, .int .i64 0, .int .i64 0, .int .i64 0, .int .i64 0, .int .i64 0, .slice (some ⟨gl, 0, none⟩) 1 1, .slice none 0 0, .int .i64 0, .bool false, .bool false, .slice none 0 0], born := 0 }] 1 _ ((KP.alloc _).alloc _) ((KM.alloc _).alloc _) rfl)).mono ?_
  rintro e W4 ⟨rfl, k1, o1⟩
  have nL := o1.blk ((KL.alloc (.cells #[.int .i64 A, .int .i64 6, .int .i64 10, .int .i64 0, .bool false, .string (bs []), .string (bs []), .string (bs []), .string (bs []), .string (bs []), .slice none 0 0, .slice none 0 0] 103)).alloc (.cells #[.int .i64 A, .int .i64 6, .int .i64 10, .int .i64 0, .bool false, .string (bs []), .string (bs []), .string (bs []), .string (bs []), .string (bs []), .slice none 0 0, .slice none 0 0] 103)) (by first | (simp; done) | (simp; omega))
  have nM := o1.map ((KM.alloc (.cells #[.int .i64 A, .int .i64 6, .int .i64 10, .int .i64 0, .bool false, .string (bs []), .string (bs []), .string (bs []), .string (bs []), .string (bs []), .slice none 0 0, .slice none 0 0] 103)).alloc (.cells #[.int .i64 A, .int .i64 6, .int .i64 10, .int .i64 0, .bool false, .string (bs []), .string (bs []), .string (bs []), .string (bs []), .string (bs []), .slice none 0 0, .slice none 0 0] 103)) (by first | (simp; done) | (simp; omega))
  have nB : Below w.heap.size w W4 := Below.trans ((BB.alloc BB.size (.cells #[.int .i64 A, .int .i64 6, .int .i64 10, .int .i64 0, .bool false, .string (bs []), .string (bs []), .string (bs []), .string (bs []), .string (bs []), .slice none 0 0, .slice none 0 0] 103)).alloc (by have := BB.size; simp; omega) (.cells #[.int .i64 A, .int .i64 6, .int .i64 10, .int .i64 0, .bool false, .string (bs []), .string (bs []), .string (bs []), .string (bs []), .string (bs []), .slice none 0 0, .slice none 0 0] 103)) (o1.toBelow (by have := BB.size; simp; omega) (by first | (simp; done) | (simp; omega)))
  have nz := KS.ne_int (KP.cell 0) (by decide)
  have nS : SqAt W4 gl gp cp := ((KS.alloc (.cells #[.int .i64 A, .int .i64 6, .int .i64 10, .int .i64 0, .bool false, .string (bs []), .string (bs []), .string (bs []), .string (bs []), .string (bs []), .slice none 0 0, .slice none 0 0] 103)).alloc (.cells #[.int .i64 A, .int .i64 6, .int .i64 10, .int .i64 0, .bool false, .string (bs []), .string (bs []), .string (bs []), .string (bs []), .string (bs []), .slice none 0 0, .slice none 0 0] 103)).only o1 (by simpa using nz.1) (by simpa using nz.2)
  clear KP KL KM BB o1 KS nz
  have KS := nS
  clear nS
  have KP := k1
  have KL := nL
  have KM := nM
  have BB := nB
  clear k1 nL nM nB
  clear q0 q1 q2 q3 q4 q5 q6 q7 q8 q9 q10 q11 lgc bsz
  go_wp2_with fail
  obtain ⟨A, nv, hq, hn⟩ := HCELL.out 4 (by decide)
  have hnv := hn.2 rfl
  subst hnv
  clear hn
  have q0 : W4.cell? ⟨gc, 48, none⟩ = some (.int .i64 A) := hq W4 BB 0 _ (by omega) rfl
  have q1 : W4.cell? ⟨gc, 49, none⟩ = some (.int .i64 7) := hq W4 BB 1 _ (by omega) rfl
  have q2 : W4.cell? ⟨gc, 50, none⟩ = some (.int .i64 3) := hq W4 BB 2 _ (by omega) rfl
  have q3 : W4.cell? ⟨gc, 51, none⟩ = some (.int .i64 0) := hq W4 BB 3 _ (by omega) rfl
  have q4 : W4.cell? ⟨gc, 52, none⟩ = some (.bool false) := hq W4 BB 4 _ (by omega) rfl
  have q5 : W4.cell? ⟨gc, 53, none⟩ = some (.string (bs [])) := hq W4 BB 5 _ (by omega) rfl
  have q6 : W4.cell? ⟨gc, 54, none⟩ = some (.string (bs [48])) := hq W4 BB 6 _ (by omega) rfl
  have q7 : W4.cell? ⟨gc, 55, none⟩ = some (.string (bs [48])) := hq W4 BB 7 _ (by omega) rfl
  have q8 : W4.cell? ⟨gc, 56, none⟩ = some (.string (bs [])) := hq W4 BB 8 _ (by omega) rfl
  have q9 : W4.cell? ⟨gc, 57, none⟩ = some (.string (bs [])) := hq W4 BB 9 _ (by omega) rfl
  have q10 : W4.cell? ⟨gc, 58, none⟩ = some (.slice none 0 0) := hq W4 BB 10 _ (by omega) rfl
  have q11 : W4.cell? ⟨gc, 59, none⟩ = some (.slice none 0 0) := hq W4 BB 11 _ (by omega) rfl
  have lgc : gc < W4.heap.size := Nat.lt_of_lt_of_le hgc BB.size
  have bsz := BB.size
  clear hq
  rw [rounds_succ]
  go_wp2_with fail
  refine (do_7 (w.heap.size + 1 + 1) A 3 0 false (bs []) (bs [48]) (bs [48]) (bs []) none 0 0 _ (fun w' => ∃ gl2 gp2 cp2 g cap, Blk w' (w.heap.size + 1 + 1) 159 #[.int .i64 1, .int .i64 1, .int .i64 2, .int .i64 4, .bool false, .bool true, .map (some w.heap.size), .int .i64 10, .slice none 0 0, .int .i64 0, .int .i64 0, .int .i64 1, .bool false, .bool true, .bool false, .bool false, .int .i64 0, .int .i64 0, .int .i64 0, .bool false, .slice none 0 0, .slice (some ⟨w.heap.size + 1, 0, none⟩) 1 1, .int .i64 1, .int .i64 10, .bool false] ∧ Blk w' (w.heap.size + 1) 162 #[.bool false, .int .i64 0, .int .i64 0, .int .i64 0, .int .i64 0, .int .i64 0, .slice (some ⟨g, 0, none⟩) 1 cap] ∧ w'.ownsRow 0 65 11 (.slice (some ⟨g, 0, none⟩) 1 cap) 1 [.bool true, .int .i64 2, .int .i64 0, .int .i64 0, .int .i64 0, .int .i64 0, .int .i64 0, .int .i64 0, .int .i64 0, .slice (some ⟨gl2, 0, none⟩) 1 1, .slice none 0 0] ∧ SqAt w' gl2 gp2 cp2 ∧ Only [w.heap.size + 1 + 1, w.heap.size + 1] ((W4.alloc (.cells #[.int .i64 A, .int .i64 7, .int .i64 3, .int .i64 0, .bool false, .string (bs []), .string (bs [48]), .string (bs [48]), .string (bs []), .string (bs []), .slice none 0 0, .slice none 0 0] 103)).alloc (.cells #[.int .i64 A, .int .i64 7, .int .i64 3, .int .i64 0, .bool false, .string (bs []), .string (bs [48]), .string (bs [48]), .string (bs []), .string (bs []), .slice none 0 0, .slice none 0 0] 103)) w') (KP.alloc _) ((operate_sq (w.heap.size + 1 + 1) w.heap.size (w.heap.size + 1) 0 gl gp cp A _ ((KP.alloc _).alloc _) ((KL.alloc _).alloc _) ((KS.alloc _).alloc _) (Nat.zero_le _) (by omega) ((KM.alloc _).alloc _)).mono (fun e w' h => by obtain ⟨gl2, gp2, cp2, g, cap, h1, h2⟩ := h; exact ⟨h1, gl2, gp2, cp2, g, cap, h2⟩))).mono ?_
  rintro e W5 ⟨rfl, gl2, gp2, cp2, g, cap, nP, nL, nO, nS, o1⟩
  have nB : Below w.heap.size w W5 := Below.trans ((BB.alloc BB.size (.cells #[.int .i64 A, .int .i64 7, .int .i64 3, .int .i64 0, .bool false, .string (bs []), .string (bs [48]), .string (bs [48]), .string (bs []), .string (bs []), .slice none 0 0, .slice none 0 0] 103)).alloc (by have := BB.size; simp; omega) (.cells #[.int .i64 A, .int .i64 7, .int .i64 3, .int .i64 0, .bool false, .string (bs []), .string (bs [48]), .string (bs [48]), .string (bs []), .string (bs []), .slice none 0 0, .slice none 0 0] 103)) (o1.toBelow (by have := BB.size; simp; omega) (by first | (simp; done) | (simp; omega)))
  clear KP KL KM BB o1 KS
  have KP := nP
  have KL := nL
  have KS := nS
  have KO := nO
  have BB := nB
  clear nP nL nS nO nB
  clear q0 q1 q2 q3 q4 q5 q6 q7 q8 q9 q10 q11 lgc bsz
  go_wp2_with fail
  obtain ⟨A, nv, hq, hn⟩ := HCELL.out 5 (by decide)
  have hnv := hn.2 rfl
  subst hnv
  clear hn
  have q0 : W5.cell? ⟨gc, 60, none⟩ = some (.int .i64 A) := hq W5 BB 0 _ (by omega) rfl
  have q1 : W5.cell? ⟨gc, 61, none⟩ = some (.int .i64 5) := hq W5 BB 1 _ (by omega) rfl
  have q2 : W5.cell? ⟨gc, 62, none⟩ = some (.int .i64 0) := hq W5 BB 2 _ (by omega) rfl
  have q3 : W5.cell? ⟨gc, 63, none⟩ = some (.int .i64 0) := hq W5 BB 3 _ (by omega) rfl
  have q4 : W5.cell? ⟨gc, 64, none⟩ = some (.bool false) := hq W5 BB 4 _ (by omega) rfl
  have q5 : W5.cell? ⟨gc, 65, none⟩ = some (.string (bs [])) := hq W5 BB 5 _ (by omega) rfl
  have q6 : W5.cell? ⟨gc, 66, none⟩ = some (.string (bs [])) := hq W5 BB 6 _ (by omega) rfl
  have q7 : W5.cell? ⟨gc, 67, none⟩ = some (.string (bs [])) := hq W5 BB 7 _ (by omega) rfl
  have q8 : W5.cell? ⟨gc, 68, none⟩ = some (.string (bs [])) := hq W5 BB 8 _ (by omega) rfl
  have q9 : W5.cell? ⟨gc, 69, none⟩ = some (.string (bs [])) := hq W5 BB 9 _ (by omega) rfl
  have q10 : W5.cell? ⟨gc, 70, none⟩ = some (.slice none 0 0) := hq W5 BB 10 _ (by omega) rfl
  have q11 : W5.cell? ⟨gc, 71, none⟩ = some (.slice none 0 0) := hq W5 BB 11 _ (by omega) rfl
  have lgc : gc < W5.heap.size := Nat.lt_of_lt_of_le hgc BB.size
  have bsz := BB.size
  clear hq
  rw [rounds_succ]
  go_wp2_with fail
  refine (do_5 (w.heap.size + 1 + 1) A 0 0 false (bs []) (bs []) (bs []) (bs []) none 0 0 (w.heap.size + 1) 1 _ (KP.alloc _)).mono ?_
  rintro e W6 ⟨rfl, k1, o1⟩
  have nz := KS.ne_int (KP.cell 0) (by decide)
  have nL := o1.blk (KL.alloc (.cells #[.int .i64 A, .int .i64 5, .int .i64 0, .int .i64 0, .bool false, .string (bs []), .string (bs []), .string (bs []), .string (bs []), .string (bs []), .slice none 0 0, .slice none 0 0] 103)) (by first | (simp; done) | (simp; omega))
  have nS : SqAt W6 gl2 gp2 cp2 := (KS.alloc (.cells #[.int .i64 A, .int .i64 5, .int .i64 0, .int .i64 0, .bool false, .string (bs []), .string (bs []), .string (bs []), .string (bs []), .string (bs []), .slice none 0 0, .slice none 0 0] 103)).only o1 (by simpa using nz.1) (by simpa using nz.2)
  have nO := o1.own (KO.alloc (.cells #[.int .i64 A, .int .i64 5, .int .i64 0, .int .i64 0, .bool false, .string (bs []), .string (bs []), .string (bs []), .string (bs []), .string (bs []), .slice none 0 0, .slice none 0 0] 103)) (fun b hb hm => by simp at hm; subst hm; exact own_blk_ne KO KP (by decide) hb)
  have nB : Below w.heap.size w W6 := Below.trans (BB.alloc BB.size (.cells #[.int .i64 A, .int .i64 5, .int .i64 0, .int .i64 0, .bool false, .string (bs []), .string (bs []), .string (bs []), .string (bs []), .string (bs []), .slice none 0 0, .slice none 0 0] 103)) (o1.toBelow (by have := BB.size; simp; omega) (by first | (simp; done) | (simp; omega)))
  have p24 : W6.cell? ⟨w.heap.size + 1 + 1, 24, none⟩ = some (.bool true) := k1.cell 24
  have p21 : W6.cell? ⟨w.heap.size + 1 + 1, 21, none⟩ = some (.slice (some ⟨w.heap.size + 1, 0, none⟩) 1 1) := k1.cell 21
  have r6 : W6.cell? ⟨w.heap.size + 1, 6, none⟩ = some (.slice (some ⟨g, 0, none⟩) 1 cap) := nL.cell 6
  clear KP KL BB o1 KS KO k1 nz
  clear q0 q1 q2 q3 q4 q5 q6 q7 q8 q9 q10 q11 lgc bsz
  go_wp2_with fail
  rw [rounds_succ]
  go_wp2_with fail
  go_ret3
  exact ⟨_, gl2, gp2, cp2, rfl, ⟨nO, nS⟩, nB⟩
theorem file_r (w : World) :
    Calls Tryz.prog 13 #[.string { data := #[37, 70, 83, 76, 65, 88, 50, 52, 89, 50, 52, 42, 37, 37, 77, 79, 77, 77, 42, 37, 37, 65, 68, 68, 49, 48, 82, 44, 52, 88, 52, 42, 37, 68, 49, 48, 42, 88, 48, 89, 48, 68, 48, 51, 42, 77, 48, 50, 42] }, .int .i64 10] w fun e w' => ∃ v0 gl gp cp, e = .returned (.tuple #[v0, .int .i64 0, .int .i64 0]) ∧ ObR w' v0 gl 1 gp cp ∧ Below w.heap.size w w' := by
  have ho : ∀ g ∈ ([Gr.fs, .mo, .adr, .d10, .op3 [48] [48], .m02] : List Gr), g.Ok := by
    intro g hg
    simp only [List.mem_cons, List.not_mem_nil, or_false] at hg
    rcases hg with rfl | rfl | rfl | rfl | rfl | rfl
    · trivial
    · trivial
    · trivial
    · trivial
    · have hd : Digits [48] := by intro c hc; simp at hc; subst hc; decide
      exact ⟨⟨hd, by decide, by decide, by decide⟩, ⟨hd, by decide, by decide, by decide⟩⟩
    · trivial
  have h1 := parse_c [Gr.fs, .mo, .adr, .d10, .op3 [48] [48], .m02] (by simp) ho (by decide) (by decide) w
  have h2 := fun cs v B' w' hC hG => plot_r cs v B' w' hC hG
  obtain ⟨T, eT⟩ : ∃ T, bs (texts [Gr.fs, .mo, .adr, .d10, .op3 [48] [48], .m02]) = T := ⟨_, rfl⟩
  have eL : ({ data := #[37, 70, 83, 76, 65, 88, 50, 52, 89, 50, 52, 42, 37, 37, 77, 79, 77, 77, 42, 37, 37, 65, 68, 68, 49, 48, 82, 44, 52, 88, 52, 42, 37, 68, 49, 48, 42, 88, 48, 89, 48, 68, 48, 51, 42, 77, 48, 50, 42] } : ByteArray) = T := by rw [← eT]; rfl
  rw [eL]
  rw [eT] at h1
  have H1 := Lib.hid h1
  have H2 := Lib.hid h2
  clear h1 h2 ho eT eL
  go_enter Tryz.func13, Tryz.ntmps13
  go_wp2_with fail
  refine (H1.out).mono ?_
  rintro e w1 ⟨v, cs, rfl, hC, hG, hb⟩
  have H3 := Lib.hid (H2.out cs v _ w1 hC hG)
  have HB := Lib.hid hb
  clear hC hG hb
  go_wp2_with fail
  refine (H3.out).mono ?_
  rintro e w2 ⟨v0, gl, gp, cp, rfl, hv, hb⟩
  have HV := Lib.hid hv
  have HB2 := Lib.hid (HB.out.trans (hb.mono HB.out.size))
  clear hv hb
  go_wp2_with fail
  go_ret3
  exact ⟨v0, gl, gp, cp, rfl, HV.out, HB2.out⟩
end Go.Proofs.YtfajckkbinbpiaaGreatDoor
