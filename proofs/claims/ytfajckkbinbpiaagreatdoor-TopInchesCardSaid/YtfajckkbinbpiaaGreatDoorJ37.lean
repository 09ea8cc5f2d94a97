/- Walks: package plot: the one square is an aperture. Walks: a square is copied. Walks: the one shape, the one pile are copied. Walks: package plot: the one square is flashed. -/
import Derived.Deep.AppendLies
import Derived.Deep.RegionLaw
import Derived.StillTailTactics
import Derived.Test.YtfajckkbinbpiaaGreatDoorJ07
import Derived.Test.YtfajckkbinbpiaaGreatDoorJ09
import Derived.Test.YtfajckkbinbpiaaGreatDoorJ25
import Derived.Test.YtfajckkbinbpiaaGreatDoorJ36
namespace Go.Proofs.YtfajckkbinbpiaaGreatDoor
set_option maxRecDepth 100000
set_option maxHeartbeats 32000000
set_option linter.unusedVariables false
set_option linter.unusedSimpArgs false
open Go.RowKit
theorem define_adr (P M gL capL gn cn : Nat) (A : Int) {v1 v2 v3 v4 v5 v7 v9 v10 v11 v12 v13 v14 v15 v16 v17 v18 v19 v20 v22 v23 v24 : Value} (w : World) (hP : Blk w P 159 #[.int .i64 1, v1, v2, v3, v4, v5, .map (some M), v7, .slice none 0 0, v9, v10, v11, v12, v13, v14, v15, v16, v17, v18, v19, v20, .slice (some ⟨gL, 0, none⟩) 1 capL, v22, v23, v24]) (hM : IsMap w M #[] 0) (hcap : 1 ≤ capL) (hn : w.cell? ⟨gn, 0, none⟩ = some (.int .i64 4000000)) (hn2 : w.cell? ⟨gn, 1, none⟩ = some (.int .i64 4000000)) (hgn : gn < w.heap.size) :
    Calls Tryz.prog 100 #[.pointer (some ⟨P, 0, none⟩), .agg #[.int .i64 A, .int .i64 10, .int .i64 10, .int .i64 0, .bool false, .string { data := #[82] }, .string { data := #[] }, .string { data := #[] }, .string { data := #[] }, .string { data := #[] }, .slice (some ⟨gn, 0, none⟩) 2 cn, .slice none 0 0]] w fun e w' => ∃ gl gp cp, e = .returned (.int .i64 0) ∧ IsMap w' M #[{ key := .int .i64 10, val := .agg #[.int .i64 2, .int .i64 0, .int .i64 0, .int .i64 0, .int .i64 0, .int .i64 0, .int .i64 0, .int .i64 0, .slice (some ⟨gl, 0, none⟩) 1 1, .slice none 0 0, .int .i64 0, .bool false, .bool false, .slice none 0 0], born := 0 }] 1 ∧ SqAt w' gl gp cp ∧ Only [M] w w' := by
  have hne : M ≠ P := hM.blk_ne hP
  have l := hP.lt
  have lM := hM.lt
  have c := hP.cell
  have f := hP.frozen
  have HP := Lib.hid hP
  have HM := Lib.hid hM
  clear hP hM
  go_enter Tryz.func100, Tryz.ntmps100
  go_wp2_with fail
  refine (taken_no P M gL capL 10 #[] 0 _ (HP.out.alloc _) (HM.out.alloc _) rfl hcap).mono ?_
  rintro e w1 ⟨rfl, hb⟩
  have o1 : Only [] w w1 := ((Only.refl _ _).alloc _).below hb (by simp)
  have k1 := (HP.out.alloc (.cells #[.int .i64 A, .int .i64 10, .int .i64 10, .int .i64 0, .bool false, .string { data := #[82] }, .string { data := #[] }, .string { data := #[] }, .string { data := #[] }, .string { data := #[] }, .slice (some ⟨gn, 0, none⟩) 2 cn, .slice none 0 0] 103)).below hb (by simp; omega)
  have k2 : Blk w1 w.heap.size 103 #[.int .i64 A, .int .i64 10, .int .i64 10, .int .i64 0, .bool false, .string { data := #[82] }, .string { data := #[] }, .string { data := #[] }, .string { data := #[] }, .string { data := #[] }, .slice (some ⟨gn, 0, none⟩) 2 cn, .slice none 0 0] := (Blk.new w 103 #[.int .i64 A, .int .i64 10, .int .i64 10, .int .i64 0, .bool false, .string { data := #[82] }, .string { data := #[] }, .string { data := #[] }, .string { data := #[] }, .string { data := #[] }, .slice (some ⟨gn, 0, none⟩) 2 cn, .slice none 0 0]).below hb (by simp)
  have hn1 : w1.cell? ⟨gn, 0, none⟩ = some (.int .i64 4000000) := o1.cell0 hgn hn
  have hn3 : w1.cell? ⟨gn, 1, none⟩ = some (.int .i64 4000000) := o1.cell0 hgn hn2
  have m1 := o1.map HM.out (by simp)
  have l1 := o1.size
  have hgn1 : gn < w1.heap.size := by omega
  have c1 := k1.cell
  have f1 := k1.frozen
  have lP := k1.lt
  have c2 := k2.cell
  have lC := k2.lt
  have p0 : w1.cell? ⟨P, 0, none⟩ = some (.int .i64 1) := c1 0
  have p8 : w1.cell? ⟨P, 8, none⟩ = some (.slice none 0 0) := c1 8
  have q5 : w1.cell? ⟨w.heap.size, 5, none⟩ = some (.string { data := #[82] }) := c2 5
  have q10 : w1.cell? ⟨w.heap.size, 10, none⟩ = some (.slice (some ⟨gn, 0, none⟩) 2 cn) := c2 10
  have O1 := Lib.hid o1
  have K1 := Lib.hid k1
  have K2 := Lib.hid k2
  have M1 := Lib.hid m1
  clear hb o1 k1 k2 m1 c f
  have hKS : ∀ w', Only [] w1 w' → (w'.cell? ⟨w.heap.size, 5, none⟩ = some (.string { data := #[82] }) ∧ w'.cell? ⟨w.heap.size, 10, none⟩ = some (.slice (some ⟨gn, 0, none⟩) 2 cn) ∧ w'.cell? ⟨P, 0, none⟩ = some (.int .i64 1) ∧ w'.cell? ⟨P, 8, none⟩ = some (.slice none 0 0) ∧ w'.cell? ⟨gn, 0, none⟩ = some (.int .i64 4000000) ∧ w'.cell? ⟨gn, 1, none⟩ = some (.int .i64 4000000) ∧ gn < w'.heap.size ∧ Only [] w1 w') := fun w' o => ⟨o.cell0 lC q5, o.cell0 lC q10, o.cell0 lP p0, o.cell0 lP p8, o.cell0 hgn1 hn1, o.cell0 hgn1 hn3, Nat.lt_of_lt_of_le hgn1 o.size, o⟩
  go_upto_region 22 with (fail)
  go_cut [8, 9] (fun p e wx => ∃ q gl gp cp, p = .pointer (some ⟨q, 0, none⟩) ∧ e = .int .i64 0 ∧ Blk wx q 276 #[.int .i64 2, .int .i64 0, .int .i64 0, .int .i64 0, .int .i64 0, .int .i64 0, .int .i64 0, .int .i64 0, .slice (some ⟨gl, 0, none⟩) 1 1, .slice none 0 0, .int .i64 0] ∧ w1.heap.size ≤ q ∧ SqAt wx gl gp cp ∧ Only [] w1 wx)
  case first =>
    go_region_held3 (fun w' => (w'.cell? ⟨w.heap.size, 5, none⟩ = some (.string { data := #[82] }) ∧ w'.cell? ⟨w.heap.size, 10, none⟩ = some (.slice (some ⟨gn, 0, none⟩) 2 cn) ∧ w'.cell? ⟨P, 0, none⟩ = some (.int .i64 1) ∧ w'.cell? ⟨P, 8, none⟩ = some (.slice none 0 0) ∧ w'.cell? ⟨gn, 0, none⟩ = some (.int .i64 4000000) ∧ w'.cell? ⟨gn, 1, none⟩ = some (.int .i64 4000000) ∧ gn < w'.heap.size ∧ Only [] w1 w'))
      (exact hKS _ (by exact onw))
      (first | (go_at_call 158; refine (make_R gn cn _ (Only.cell0 (w := w1) (by exact onw) hgn1 hn1) (Only.cell0 (w := w1) (by exact onw) hgn1 hn3) (by first | assumption | (simp; omega))).mono ?_; rintro e w5 ⟨gl, gp, cp, rfl, hs5, hb⟩; have o5 : Only [] w1 w5 := Only.below (by exact onw) hb (by first | (simp; done) | (simp; omega) | omega); have l5 := o5.size; (first | (have k5 : Blk w5 w1.heap.size 276 #[.int .i64 0, .int .i64 0, .int .i64 0, .int .i64 0, .int .i64 0, .int .i64 0, .int .i64 0, .int .i64 0, .slice none 0 0, .slice none 0 0, .int .i64 0] := Blk.below (by exact (Blk.new w1 276 #[.int .i64 0, .int .i64 0, .int .i64 0, .int .i64 0, .int .i64 0, .int .i64 0, .int .i64 0, .int .i64 0, .slice none 0 0, .slice none 0 0, .int .i64 0]).drew) hb (by simp); have c5 := k5.cell; have f5 := k5.frozen; have l51 := k5.lt; have n5 := hs5.ne_int (k5.cell 0) (by decide)) | skip)))
    all_goals
      go_wp2_with fail
      go_meet
      refine ⟨_, gl, gp, cp, rfl, rfl, ?_, ?_, ?_, ?_⟩
      · first | (with_reducible exact Blk.new _ _ _) | (with_reducible exact (((((((((((k5.set_ 0 _ rfl).set_ 1 _ rfl).set_ 2 _ rfl).set_ 3 _ rfl).set_ 4 _ rfl).set_ 5 _ rfl).set_ 6 _ rfl).set_ 7 _ rfl).set_ 8 _ rfl).set_ 9 _ rfl).set_ 10 _ rfl))
      · first | (with_reducible exact l5) | (with_reducible exact Nat.le_refl _)
      · first | (with_reducible exact hs5.alloc _) | (with_reducible exact (((((((((((hs5).far n5.1 n5.2 _).far n5.1 n5.2 _).far n5.1 n5.2 _).far n5.1 n5.2 _).far n5.1 n5.2 _).far n5.1 n5.2 _).far n5.1 n5.2 _).far n5.1 n5.2 _).far n5.1 n5.2 _).far n5.1 n5.2 _).far n5.1 n5.2 _)
      · exact onw
  case rest =>
  obtain ⟨q, gl, gp, cp, rfl, rfl, kq, hq, hsq, oq⟩ := hcut
  have k3 := oq.blk K1.out (by simp)
  have k4 := oq.blk K2.out (by simp)
  have m3 := oq.map M1.out (by simp)
  have c := k3.cell
  have f := k3.frozen
  have l3 := k3.lt
  have c4 := k4.cell
  have l4 := k4.lt
  have cq := kq.cell
  have lq := kq.lt
  have nm := hsq.ne_map m3
  have M3 := Lib.hid m3
  have OQ := Lib.hid oq
  have HSQ := Lib.hid hsq
  have NM := Lib.hid nm
  clear k3 k4 m3 kq oq c1 f1 c2 p0 p8 q5 q10 hKS hsq nm
  go_wp2_with fail
  go_still_tail 12, (by kernel_rfl)
  change wpList _ _ _ _ _ wc.drew
  go_wp2_with (at_mapUpdate; refine wpList_put _ rfl (.tmp 132) (.tmp 134) (.tmp 140) rfl (by simp [Act.eval]) (M3.out.drew) 10 (by simp [Act.eval]) (.agg #[.int .i64 2, .int .i64 0, .int .i64 0, .int .i64 0, .int .i64 0, .int .i64 0, .int .i64 0, .int .i64 0, .slice (some ⟨gl, 0, none⟩) 1 1, .slice none 0 0, .int .i64 0, .bool false, .bool false, .slice none 0 0]) (by simp [Act.eval]) rfl ?_; intro w7 m7 g7)
  simp only [List.push_toArray, List.nil_append, Nat.zero_add] at m7
  have M7 := Lib.hid m7
  have S7 : SqAt w7 gl gp cp := (HSQ.out.drew).grown' g7 (by simpa using NM.out.1) (by simpa using NM.out.2)
  have O7 : Only [M] w w7 := ((((O1.out.mono (by simp)).trans (OQ.out.mono (by simp))).drew).grown g7 (by intro b hb; injection hb with hb; simp [hb]))
  clear m7 g7
  go_wp2_with fail
  go_ret
  exact ⟨gl, gp, cp, rfl, M7.out, S7, O7⟩
theorem sq1 : ∀ v ∈ sqv, v.oneCell' = true := by
  intro v hv
  simp only [sqv, List.mem_cons, List.not_mem_nil, or_false] at hv
  rcases hv with rfl | rfl | rfl | rfl | rfl | rfl | rfl | rfl <;> rfl
theorem info42 : (Tryz.prog.info? 58).map (fun i => (i.zero, i.size, i.bytes)) = some (some (.agg #[.int .i64 0, .int .i64 0]), 2, 16) := by kernel_rfl
theorem count_sq (p : Option Addr) (m c : Nat) (w : World) : Calls Tryz.prog 141 #[.agg #[.int .i64 2, .int .i64 0, .int .i64 0, .int .i64 0, .int .i64 0, .int .i64 0, .int .i64 0, .int .i64 0, .slice p m c, .slice none 0 0]] w fun e w' => e = .returned (.int .i64 1) ∧ Below w.heap.size w w' := by
  go_enter Tryz.func141, Tryz.ntmps141
  go_wp2
  go_ret
  exact ⟨rfl, by exact blw⟩
theorem pcontours_sq (gl cl gp cp : Nat) (w : World) (hS : SqAt w gl gp cp) :
    Calls Tryz.prog 142 #[.slice (some ⟨gl, 0, none⟩) 1 cl] w fun e w' => ∃ gl2 gp2 cp2, e = .returned (.slice (some ⟨gl2, 0, none⟩) 1 1) ∧ SqAt w' gl2 gp2 cp2 ∧ Below w.heap.size w w' := by
  have HS := Lib.hid hS
  have lgl := hS.lt1
  have lgp := hS.lt2
  obtain ⟨qa0, qb0_0, qb0_1, qb0_2, qb0_3, qb0_4, qb0_5, qb0_6, qb0_7⟩ := hS.cells
  clear hS
  obtain ⟨i42, hi42, hz0, hz1, hz2⟩ := info_parts info42
  have HI := Lib.hid (And.intro hi42 (And.intro hz0 (And.intro hz1 hz2)))
  have hZ : Hid ((Value.agg #[.int .i64 0, .int .i64 0]).cells.size = 2) := Lib.hid (by kernel_rfl)
  have hmk : ∀ w, (Instr.makeSlice 59 (.int .i64 1) (.int .i64 1)).run Tryz.prog w = .ok (.slice (some ⟨w.heap.size, 0, none⟩) 1 1) (w.alloc (.cells #[.slice none 0 0] 166)) := fun _ => by kernel_rfl
  clear hi42 hz0 hz1 hz2
  go_enter Tryz.func142, Tryz.ntmps142
  go_wp2_with fail
  obtain ⟨u, eu⟩ : ∃ u, w.alloc (.cells #[.slice none 0 0] 166) = u := ⟨_, rfl⟩
  have B0 : Below w.heap.size w u := by rw [← eu]; exact blw
  have k0 : Blk u w.heap.size 166 #[.slice none 0 0] := by rw [← eu]; exact bkw
  have s0 := HS.out.below B0 (Nat.le_refl _)
  have hN : ∀ j v, sqv[j]? = some v → u.cell? ((⟨gp, 0, none⟩ : Addr).add j) = some v := fun j v hj => by have h9 := s0.2 j v hj; cases j <;> simpa [Addr.add] using h9
  have lgl0 := s0.lt1
  have qc0 := s0.1
  have HN := Lib.hid hN
  have K0 := Lib.hid k0
  have b0s := B0.size
  rw [eu]
  clear eu hN qb0_0 qb0_1 qb0_2 qb0_3 qb0_4 qb0_5 qb0_6 qb0_7 qa0 s0
  refine wp_loop_rounds 2 ?_
  rw [rounds_succ]
  go_wp2_with (at_builtin; refine wpList_append_lies _ rfl (.const (.slice none 0 0)) (.tmp 21) 166 rfl 0 58 i42 _ 2 16 Tryz.underlying166 HI.out.1 HI.out.2.1 HI.out.2.2.1 HI.out.2.2.2 hZ.out (by decide) (.slice none 0 0) 0 [] (by simp [Act.eval]) (World.ownsRow_nil _ _ _ _) ⟨gp, 0, none⟩ 4 cp sqv (by simp [Act.eval]) rfl HN.out sq1 (by decide) (by decide) (by decide) (Nat.zero_le _) _ rfl ?_)
  intro q cq w3 hown hgrow hat hlt
  have k3 := K0.out.grown hgrow (by simp [Value.ownBlock])
  have hB3 : Below w.heap.size w w3 := Below.grown B0 hgrow b0s (by simp [Value.ownBlock])
  have c3 := k3.cell
  have f3 := k3.frozen
  have l3 := k3.lt
  have nq : w.heap.size ≠ q := by
    rcases hat with h | h
    · simp [Value.ownBlock] at h
    · have := K0.out.lt; omega
  have HOW := Lib.hid hown
  have hq : ∀ j v, sqv[j]? = some v → w3.cell? ⟨q, j, none⟩ = some v := fun j v hj => by
    have hj8 : j < 8 := by
      rcases Nat.lt_or_ge j 8 with h | h
      · exact h
      · rw [List.getElem?_eq_none (by simpa [sqv] using h)] at hj; cases hj
    have h9 := hown.cellAt j (by omega)
    rw [h9]
    simpa using hj
  have HQ := Lib.hid hq
  clear hown hgrow hat hlt hq
  go_wp2_with fail
  rw [rounds_succ]
  go_wp2_with fail
  go_ret
  refine ⟨w.heap.size, q, cq, rfl, ⟨?_, ?_⟩, by exact blw⟩
  · exact (k3.set_ 0 (.slice (some ⟨q, 0, none⟩) 4 cq) rfl).cell 0
  · intro j v hj
    exact (World.cell?_setCell_other _ _ _ _ (by intro h; injection h with h1 h2; exact nq (by first | exact h1 | exact h1.symm))).trans (HQ.out j v hj)
theorem SqAt.ne_blk {w : World} {gl gp cp b : Nat} {x : Value} (h : SqAt w gl gp cp) (hc : w.cell? ⟨b, 0, none⟩ = some x) (h1 : ∀ p n c, x ≠ .slice p n c) (h2 : x ≠ .int .i64 (-20000000)) : gl ≠ b ∧ gp ≠ b := by
  constructor
  · rintro rfl
    have h3 := h.1
    rw [hc] at h3
    injection h3 with h3
    exact h1 _ _ _ h3
  · rintro rfl
    have h3 := h.2 0 _ rfl
    rw [hc] at h3
    injection h3 with h3
    exact h2 h3
theorem copy_sq (gl cl gp cp : Nat) (w : World) (hS : SqAt w gl gp cp) :
    Calls Tryz.prog 89 #[.agg #[.int .i64 2, .int .i64 0, .int .i64 0, .int .i64 0, .int .i64 0, .int .i64 0, .int .i64 0, .int .i64 0, .slice (some ⟨gl, 0, none⟩) 1 cl, .slice none 0 0]] w fun e w' => ∃ gl2 gp2 cp2, e = .returned (.agg #[.int .i64 2, .int .i64 0, .int .i64 0, .int .i64 0, .int .i64 0, .int .i64 0, .int .i64 0, .int .i64 0, .slice (some ⟨gl2, 0, none⟩) 1 1, .slice none 0 0]) ∧ SqAt w' gl2 gp2 cp2 ∧ Below w.heap.size w w' := by
  have HS := Lib.hid hS
  clear hS
  go_enter Tryz.func89, Tryz.ntmps89
  go_wp2_with fail
  refine (count_sq _ _ _ _).mono ?_
  rintro e w1 ⟨rfl, hb⟩
  have hB1 : Below w.heap.size w w1 := Below.trans (by exact blw) (hb.mono (by first | omega | (simp; done) | (simp; omega)))
  have k1_0 : Blk w1 (w.heap.size) 62 #[.int .i64 2, .int .i64 0, .int .i64 0, .int .i64 0, .int .i64 0, .int .i64 0, .int .i64 0, .int .i64 0, .slice (some ⟨gl, 0, none⟩) 1 cl, .slice none 0 0] := Blk.below (by exact bkw) hb (by first | omega | (simp; done) | (simp; omega))
  have k1_1 : Blk w1 (w.heap.size + 1) 62 #[.int .i64 0, .int .i64 0, .int .i64 0, .int .i64 0, .int .i64 0, .int .i64 0, .int .i64 0, .int .i64 0, .slice none 0 0, .slice none 0 0] := Blk.below (by exact bkw) hb (by first | omega | (simp; done) | (simp; omega))
  have c1_0 := k1_0.cell
  have f1_0 := k1_0.frozen
  have l1_0 := k1_0.lt
  have c1_1 := k1_1.cell
  have f1_1 := k1_1.frozen
  have l1_1 := k1_1.lt
  have l1 := hB1.size
  clear hb
  obtain ⟨v, ev⟩ : ∃ v, w1.alloc (.cells #[.pointer (some ⟨w.heap.size, 0, none⟩)] 252) = v := ⟨_, rfl⟩
  have hBv : Below w.heap.size w v := by rw [← ev]; exact blw
  have k0 : Blk v w.heap.size 62 #[.int .i64 2, .int .i64 0, .int .i64 0, .int .i64 0, .int .i64 0, .int .i64 0, .int .i64 0, .int .i64 0, .slice (some ⟨gl, 0, none⟩) 1 cl, .slice none 0 0] := by rw [← ev]; exact bkw
  have k1 : Blk v (w.heap.size + 1) 62 #[.int .i64 0, .int .i64 0, .int .i64 0, .int .i64 0, .int .i64 0, .int .i64 0, .int .i64 0, .int .i64 0, .slice none 0 0, .slice none 0 0] := by rw [← ev]; exact bkw
  have kT : Blk v w1.heap.size 252 #[.pointer (some ⟨w.heap.size, 0, none⟩)] := by rw [← ev]; exact bkw
  have sv := HS.out.below hBv (Nat.le_refl _)
  have c0 := k0.cell
  have f0 := k0.frozen
  have l0 := k0.lt
  have cT := kT.cell
  have lT := kT.lt
  have lw1 := hB1.size
  have lv1 := k1.lt
  have K0 := Lib.hid k0
  have K1 := Lib.hid k1
  have SV := Lib.hid sv
  have HBV := Lib.hid hBv
  clear c1_0 c1_1 f1_0 f1_1 k1_0 k1_1 k0 k1 kT sv hBv hB1
  go_wp2_with fail
  clear ev
  refine wp_loop_rounds 2 ?_
  rw [rounds_succ]
  go_wp2_with fail
  refine (pcontours_sq gl cl gp cp v SV.out).mono ?_
  rintro e w2 ⟨gl2, gp2, cp2, rfl, s2, hb⟩
  have k2 := K0.out.below hb l0
  have k3 := K1.out.below hb lv1
  have hB2 : Below w.heap.size w w2 := HBV.out.trans (hb.mono HBV.out.size)
  have c2 := k2.cell
  have f2 := k2.frozen
  have l2 := k2.lt
  have c3 := k3.cell
  have f3 := k3.frozen
  have l3 := k3.lt
  have n0 := s2.ne_blk (b := w.heap.size) (k2.cell 0) (by intro p n c h; cases h) (by intro h; injection h with h1 h2; exact absurd h2 (by decide))
  have n1 := s2.ne_blk (b := w.heap.size + 1) (k3.cell 0) (by intro p n c h; cases h) (by intro h; injection h with h1 h2; exact absurd h2 (by decide))
  have K2 := Lib.hid k2
  have K3 := Lib.hid k3
  have S2 := Lib.hid s2
  have HB2 := Lib.hid hB2
  have N0 := Lib.hid n0
  have N1 := Lib.hid n1
  clear hb k2 k3 s2 n0 n1 hB2 c0 f0 l0 cT lT
  go_wp2_with fail
  rw [rounds_succ]
  go_wp2_with fail
  refine bodyPost_ret (results_cell_row (t := 62) Tryz.results89 _ _ (w.heap.size + 1) #[.int .i64 2, .int .i64 0, .int .i64 0, .int .i64 0, .int .i64 0, .int .i64 0, .int .i64 0, .int .i64 0, .slice (some ⟨gl2, 0, none⟩) 1 1, .slice none 0 0] (0, 0) _ (by rfl) ?_ Tryz.underlying62 rfl (by kernel_rfl)) rfl ⟨gl2, gp2, cp2, rfl, ?_, ?_⟩
  · exact ((((((((((((K3.out.far (by simp) _).far (by simp) _).set_ 0 _ rfl).set_ 1 _ rfl).set_ 2 _ rfl).set_ 3 _ rfl).set_ 4 _ rfl).set_ 5 _ rfl).set_ 6 _ rfl).set_ 7 _ rfl).set_ 8 _ rfl).set_ 9 _ rfl)
  · exact ((((((((((((S2.out).far (by simpa using N0.out.1) (by simpa using N0.out.2) _).far (by simpa using N0.out.1) (by simpa using N0.out.2) _).far (by simpa using N1.out.1) (by simpa using N1.out.2) _).far (by simpa using N1.out.1) (by simpa using N1.out.2) _).far (by simpa using N1.out.1) (by simpa using N1.out.2) _).far (by simpa using N1.out.1) (by simpa using N1.out.2) _).far (by simpa using N1.out.1) (by simpa using N1.out.2) _).far (by simpa using N1.out.1) (by simpa using N1.out.2) _).far (by simpa using N1.out.1) (by simpa using N1.out.2) _).far (by simpa using N1.out.1) (by simpa using N1.out.2) _).far (by simpa using N1.out.1) (by simpa using N1.out.2) _).far (by simpa using N1.out.1) (by simpa using N1.out.2) _
  · have := HB2.out
    exact blw
theorem addT_sq (P M gL B gl gp cp : Nat) (w : World) (hP : Blk w P 159 #[.int .i64 1, .int .i64 1, .int .i64 2, .int .i64 4, .bool false, .bool true, .map (some M), .int .i64 10, .slice none 0 0, .int .i64 0, .int .i64 0, .int .i64 1, .bool false, .bool true, .bool false, .bool false, .int .i64 0, .int .i64 0, .int .i64 0, .bool false, .slice none 0 0, .slice (some ⟨gL, 0, none⟩) 1 1, .int .i64 0, .int .i64 10, .bool false]) (hL : Blk w gL 162 #[.bool false, .int .i64 0, .int .i64 0, .int .i64 0, .int .i64 0, .int .i64 0, .slice none 0 0]) (hS : SqAt w gl gp cp) (hB : B ≤ w.heap.size) (hPM : P ≠ M) :
    Calls Tryz.prog 168 #[.pointer (some ⟨P, 0, none⟩), .bool true, .agg #[.int .i64 2, .int .i64 0, .int .i64 0, .int .i64 0, .int .i64 0, .int .i64 0, .int .i64 0, .int .i64 0, .slice (some ⟨gl, 0, none⟩) 1 1, .slice none 0 0], .agg #[.bool false, .bool false, .int .i64 0, .int .i64 0, .int .i64 0]] w fun e w' => ∃ gl2 gp2 cp2 g cap, e = .returned (.int .i64 0) ∧ Added P gL 6 B 0 #[.int .i64 1, .int .i64 1, .int .i64 2, .int .i64 4, .bool false, .bool true, .map (some M), .int .i64 10, .slice none 0 0, .int .i64 0, .int .i64 0, .int .i64 1, .bool false, .bool true, .bool false, .bool false, .int .i64 0, .int .i64 0, .int .i64 0, .bool false, .slice none 0 0, .slice (some ⟨gL, 0, none⟩) 1 1, .int .i64 1, .int .i64 10, .bool false] #[.bool false, .int .i64 0, .int .i64 0, .int .i64 0, .int .i64 0, .int .i64 0, .slice none 0 0] (.slice none 0 0) [.bool true, .int .i64 2, .int .i64 0, .int .i64 0, .int .i64 0, .int .i64 0, .int .i64 0, .int .i64 0, .int .i64 0, .slice (some ⟨gl2, 0, none⟩) 1 1, .slice none 0 0] g cap w w' ∧ SqAt w' gl2 gp2 cp2 := by
  have l := hP.lt
  have lL := hL.lt
  have HP := Lib.hid hP
  have HL := Lib.hid hL
  have HS := Lib.hid hS
  have HB := Lib.hid hB
  clear hP hL hS hB
  go_enter Tryz.func168, Tryz.ntmps168
  go_wp2_with fail
  refine (Apply_sq gl 1 gp cp _ ((HS.out.alloc _).alloc _)).mono ?_
  rintro e w1 ⟨gl2, gp2, cp2, rfl, hs2, hb⟩
  have hu : Only [] w w1 := (((Only.refl _ _).alloc _).alloc _).below hb (by first | (simp; done) | (simp; omega))
  have HU := Lib.hid hu
  have l1 := hb.size
  have k1 := ((HP.out.alloc _).alloc _).below hb (by first | (simp; done) | (simp; omega))
  have k2 := ((HL.out.alloc _).alloc _).below hb (by first | (simp; done) | (simp; omega))
  have n1 := hs2.ne_int (k1.cell 0) (by decide)
  have n2 := hs2.ne_blk (k2.cell 0) (by intro p n c h; cases h) (by intro h; cases h)
  have K1 := Lib.hid k1
  have K2 := Lib.hid k2
  have S2 := Lib.hid hs2
  have N12 := Lib.hid (And.intro n1 n2)
  clear hu hb k1 k2 hs2 n1 n2
  go_wp2_with fail
  refine (add_1 P gL 1 B 0 0 10 2 0 0 0 true (some ⟨gl2, 0, none⟩) 1 1 (.slice none 0 0) #[.bool false, .int .i64 0, .int .i64 0, .int .i64 0, .int .i64 0, .int .i64 0, .slice none 0 0] [] _ (K1.out.alloc _) (K2.out.alloc _) rfl (World.ownsRow_nil _ _ _ _) (by omega) (by omega) (by omega) (by omega) (by have := HB.out; have := HU.out.size; simp; omega) ((ok_sq gl2 1 gp2 cp2 _ ((S2.out.alloc _).alloc _)).mono fun e w' h => ⟨h.1, by simpa using h.2⟩)).mono ?_
  rintro e w2 ⟨g, cap, rfl, hA⟩
  have hs3 : SqAt w2 gl2 gp2 cp2 := (S2.out.alloc _).only hA.2.2.2.1 (by have := N12.out; simp [Value.ownBlock]; exact ⟨this.1.1, this.2.1⟩) (by have := N12.out; simp [Value.ownBlock]; exact ⟨this.1.2, this.2.2⟩)
  have HA := Lib.hid (hA.from ((HU.out).alloc _))
  have HS3 := Lib.hid hs3
  clear hA hs3
  go_wp2_with fail
  go_ret
  exact ⟨gl2, gp2, cp2, g, cap, rfl, HA.out, HS3.out⟩
theorem flash_sq (P M gL B gl gp cp : Nat) (w : World) (hP : Blk w P 159 #[.int .i64 1, .int .i64 1, .int .i64 2, .int .i64 4, .bool false, .bool true, .map (some M), .int .i64 10, .slice none 0 0, .int .i64 0, .int .i64 0, .int .i64 1, .bool false, .bool true, .bool false, .bool false, .int .i64 0, .int .i64 0, .int .i64 0, .bool false, .slice none 0 0, .slice (some ⟨gL, 0, none⟩) 1 1, .int .i64 0, .int .i64 10, .bool false]) (hL : Blk w gL 162 #[.bool false, .int .i64 0, .int .i64 0, .int .i64 0, .int .i64 0, .int .i64 0, .slice none 0 0]) (hS : SqAt w gl gp cp) (hB : B ≤ w.heap.size) (hPM : P ≠ M) (hM : IsMap w M #[{ key := .int .i64 10, val := .agg #[.int .i64 2, .int .i64 0, .int .i64 0, .int .i64 0, .int .i64 0, .int .i64 0, .int .i64 0, .int .i64 0, .slice (some ⟨gl, 0, none⟩) 1 1, .slice none 0 0, .int .i64 0, .bool false, .bool false, .slice none 0 0], born := 0 }] 1) :
    Calls Tryz.prog 165 #[.pointer (some ⟨P, 0, none⟩), .agg #[.int .i64 0, .int .i64 0]] w fun e w' => ∃ gl2 gp2 cp2 g cap, e = .returned (.int .i64 0) ∧ Added P gL 6 B 0 #[.int .i64 1, .int .i64 1, .int .i64 2, .int .i64 4, .bool false, .bool true, .map (some M), .int .i64 10, .slice none 0 0, .int .i64 0, .int .i64 0, .int .i64 1, .bool false, .bool true, .bool false, .bool false, .int .i64 0, .int .i64 0, .int .i64 0, .bool false, .slice none 0 0, .slice (some ⟨gL, 0, none⟩) 1 1, .int .i64 1, .int .i64 10, .bool false] #[.bool false, .int .i64 0, .int .i64 0, .int .i64 0, .int .i64 0, .int .i64 0, .slice none 0 0] (.slice none 0 0) [.bool true, .int .i64 2, .int .i64 0, .int .i64 0, .int .i64 0, .int .i64 0, .int .i64 0, .int .i64 0, .int .i64 0, .slice (some ⟨gl2, 0, none⟩) 1 1, .slice none 0 0] g cap w w' ∧ SqAt w' gl2 gp2 cp2 := by
  have l := hP.lt
  have lM := hM.lt
  have lL := hL.lt
  have c := hP.cell
  have f := hP.frozen
  have hl : ∀ w', w'.heap[M]? = some (.map #[{ key := .int .i64 10, val := .agg #[.int .i64 2, .int .i64 0, .int .i64 0, .int .i64 0, .int .i64 0, .int .i64 0, .int .i64 0, .int .i64 0, .slice (some ⟨gl, 0, none⟩) 1 1, .slice none 0 0, .int .i64 0, .bool false, .bool false, .slice none 0 0], born := 0 }] 1) → (Instr.lookup 151 (.map (some M)) (.int .i64 10) true).run Tryz.prog w' = .ok (.tuple #[.agg #[.int .i64 2, .int .i64 0, .int .i64 0, .int .i64 0, .int .i64 0, .int .i64 0, .int .i64 0, .int .i64 0, .slice (some ⟨gl, 0, none⟩) 1 1, .slice none 0 0, .int .i64 0, .bool false, .bool false, .slice none 0 0], .bool true]) w' := fun w' hm => look_run w' hm 10 (.agg #[.int .i64 2, .int .i64 0, .int .i64 0, .int .i64 0, .int .i64 0, .int .i64 0, .int .i64 0, .int .i64 0, .slice (some ⟨gl, 0, none⟩) 1 1, .slice none 0 0, .int .i64 0, .bool false, .bool false, .slice none 0 0], true) rfl (fun h => by cases h)
  have HP := Lib.hid hP
  have HL := Lib.hid hL
  have HS := Lib.hid hS
  have HB := Lib.hid hB
  clear hP hL hS hB
  go_enter Tryz.func165, Tryz.ntmps165
  go_wp2_with fail
  have hl1 := hl _ ((hM.alloc (.cells #[.int .i64 0, .int .i64 0] 58)).drew)
  have hl2 := hl _ (((hM.alloc (.cells #[.int .i64 0, .int .i64 0] 58)).alloc (.cells #[.int .i64 0, .int .i64 0, .int .i64 0, .int .i64 0, .int .i64 0, .int .i64 0, .int .i64 0, .int .i64 0, .slice none 0 0, .slice none 0 0, .int .i64 0, .bool false, .bool false, .slice none 0 0] 280)).drew)
  clear hl
  go_region
  all_goals
    go_wp2_with fail
    obtain ⟨u, eu⟩ : ∃ u, (((w.alloc (.cells #[.int .i64 0, .int .i64 0] 58)).alloc (.cells #[.int .i64 2, .int .i64 0, .int .i64 0, .int .i64 0, .int .i64 0, .int .i64 0, .int .i64 0, .int .i64 0, .slice (some ⟨gl, 0, none⟩) 1 1, .slice none 0 0, .int .i64 0, .bool false, .bool false, .slice none 0 0] 280)).alloc (.cells #[.bool false, .bool false, .int .i64 0, .int .i64 0, .int .i64 0] 157)).drew = u := ⟨_, rfl⟩
    have u1 : Blk u P 159 #[.int .i64 1, .int .i64 1, .int .i64 2, .int .i64 4, .bool false, .bool true, .map (some M), .int .i64 10, .slice none 0 0, .int .i64 0, .int .i64 0, .int .i64 1, .bool false, .bool true, .bool false, .bool false, .int .i64 0, .int .i64 0, .int .i64 0, .bool false, .slice none 0 0, .slice (some ⟨gL, 0, none⟩) 1 1, .int .i64 0, .int .i64 10, .bool false] := by rw [← eu]; exact (((HP.out.alloc _).alloc _).alloc _).drew
    have u2 : Blk u gL 162 #[.bool false, .int .i64 0, .int .i64 0, .int .i64 0, .int .i64 0, .int .i64 0, .slice none 0 0] := by rw [← eu]; exact (((HL.out.alloc _).alloc _).alloc _).drew
    have u3 : SqAt u gl gp cp := by rw [← eu]; exact (((HS.out.alloc _).alloc _).alloc _).drew
    have u4 : Blk u (w.heap.size + 1) 280 #[.int .i64 2, .int .i64 0, .int .i64 0, .int .i64 0, .int .i64 0, .int .i64 0, .int .i64 0, .int .i64 0, .slice (some ⟨gl, 0, none⟩) 1 1, .slice none 0 0, .int .i64 0, .bool false, .bool false, .slice none 0 0] := by rw [← eu]; exact ((Blk.newAt (by simp)).alloc _).drew
    have u5 : Blk u (w.heap.size + 1 + 1) 157 #[.bool false, .bool false, .int .i64 0, .int .i64 0, .int .i64 0] := by rw [← eu]; exact (Blk.newAt (by simp)).drew
    have u6 : Only [] w u := by rw [← eu]; exact ((((Only.refl _ _).alloc _).alloc _).alloc _).drew
    rw [eu]
    have c := u1.cell
    have f := u1.frozen
    have l := u1.lt
    have c4 := u4.cell
    have l4 := u4.lt
    have c5 := u5.cell
    have l5 := u5.lt
    have hT := addT_sq P M gL B gl gp cp u.drew u1.drew u2.drew u3.drew (by have := HB.out; have := u6.size; simp; omega) hPM
    have HT := Lib.hid hT
    have HU := Lib.hid u6
    clear hl1 hl2 eu u1 u2 u3 u4 u5 u6 hT
    go_still_tail 8, (by kernel_rfl)
    change wpList _ _ _ _ _ u.drew
    go_wp2_with (go_at_call 168; refine (HT.out).mono ?_; rintro e w3 ⟨gl2, gp2, cp2, g, cap, rfl, hA, hs3⟩)
    have HA := Lib.hid (hA.from HU.out.drew)
    have HS3 := Lib.hid hs3
    clear hA hs3
    go_wp2_with fail
    go_ret
    exact ⟨gl2, gp2, cp2, g, cap, rfl, HA.out, HS3.out⟩
end Go.Proofs.YtfajckkbinbpiaaGreatDoor
