/- Walks: a square is copied. Walks: the one shape, the one pile are copied. Walks: package plot: an object is added to what is open. Walks: package plot: a disc is added, moved. Walks: package plot: a disc is flashed. Walks: package plot: the one square is flashed. Walks: package plot: operations. Objects added one behind the other. Walks: package plot: a block is flashed. Walks: package plot: the operation that flashes the one square. Walks: package plot: a block or a step is closed. -/
import Derived.Deep.AppendLies
import Derived.Deep.RegionLaw
import Derived.LoopTactic
import Derived.StillTailTactics
import Derived.Test.YtfajckkbinbpiaaGreatDoorN06
import Derived.Test.YtfajckkbinbpiaaGreatDoorN12
import Derived.Test.YtfajckkbinbpiaaGreatDoorN14
import Derived.Test.YtfajckkbinbpiaaGreatDoorN32
import Derived.Test.YtfajckkbinbpiaaGreatDoorN33
import Derived.Test.YtfajckkbinbpiaaGreatDoorN36
namespace Go.Proofs.YtfajckkbinbpiaaGreatDoor
set_option maxRecDepth 100000
set_option maxHeartbeats 32000000
set_option linter.unusedVariables false
set_option linter.unusedSimpArgs false
open Go.RowKit
theorem sq1 : ∀ v ∈ sqv, v.oneCell' = true := by
  intro v hv
  simp only [sqv, List.mem_cons, List.not_mem_nil, or_false] at hv
  rcases hv with rfl | rfl | rfl | rfl | rfl | rfl | rfl | rfl <;> rfl
theorem info42 : (Tryz.prog.info? 58).map (fun i => (i.zero, i.size, i.bytes)) = some (some (.agg #[.int .i64 0, .int .i64 0]), 2, 16) := by kernel_rfl
theorem count_sq (p : Option Addr) (m c : Nat) (w : World) : Calls Tryz.prog 141 #[.agg #[.int .i64 2, .int .i64 0, .int .i64 0, .int .i64 0, .int .i64 0, .int .i64 0, .int .i64 0, .int .i64 0, .slice p m c, .slice none 0 0]] w fun e w' => e = .returned (.int .i64 1) ∧ Below w.heap.size w w' := by
  go_enter Tryz.func141, Tryz.ntmps141
  go_wp2
  go_ret
  exact ⟨rfl, by exact blw⟩
theorem pcontours_sq (gl cl gp cp : Nat) (w : World) (hS : SqAt w gl gp cp) :
    Calls Tryz.prog 142 #[.slice (some ⟨gl, 0, none⟩) 1 cl] w fun e w' => ∃ gl2 gp2 cp2, e = .returned (.slice (some ⟨gl2, 0, none⟩) 1 1) ∧ SqAt w' gl2 gp2 cp2 ∧ Below w.heap.size w w' := by
  have HS := Lib.hid hS
  have lgl := hS.lt1
  have lgp := hS.lt2
  obtain ⟨qa0, qb0_0, qb0_1, qb0_2, qb0_3, qb0_4, qb0_5, qb0_6, qb0_7⟩ := hS.cells
  clear hS
  obtain ⟨i42, hi42, hz0, hz1, hz2⟩ := info_parts info42
  have HI := Lib.hid (And.intro hi42 (And.intro hz0 (And.intro hz1 hz2)))
  have hZ : Hid ((Value.agg #[.int .i64 0, .int .i64 0]).cells.size = 2) := Lib.hid (by kernel_rfl)
  have hmk : ∀ w, (Instr.makeSlice 59 (.int .i64 1) (.int .i64 1)).run Tryz.prog w = .ok (.slice (some ⟨w.heap.size, 0, none⟩) 1 1) (w.alloc (.cells #[.slice none 0 0] 166)) := fun _ => by kernel_rfl
  clear hi42 hz0 hz1 hz2
  go_enter Tryz.func142, Tryz.ntmps142
  go_wp2_with fail
  obtain ⟨u, eu⟩ : ∃ u, w.alloc (.cells #[.slice none 0 0] 166) = u := ⟨_, rfl⟩
  have B0 : Below w.heap.size w u := by rw [← eu]; exact blw
  have k0 : Blk u w.heap.size 166 #[.slice none 0 0] := by rw [← eu]; exact bkw
  have s0 := HS.out.below B0 (Nat.le_refl _)
  have hN : ∀ j v, sqv[j]? = some v → u.cell? ((⟨gp, 0, none⟩ : Addr).add j) = some v := fun j v hj => by have h9 := s0.2 j v hj; cases j <;> simpa [Addr.add] using h9
  have lgl0 := s0.lt1
  have qc0 := s0.1
  have HN := Lib.hid hN
  have K0 := Lib.hid k0
  have b0s := B0.size
  rw [eu]
  clear eu hN qb0_0 qb0_1 qb0_2 qb0_3 qb0_4 qb0_5 qb0_6 qb0_7 qa0 s0
  refine wp_loop_rounds 2 ?_
  rw [rounds_succ]
  go_wp2_with (at_builtin; refine wpList_append_lies _ rfl (.const (.slice none 0 0)) (.tmp 21) 166 rfl 0 58 i42 _ 2 16 Tryz.underlying166 HI.out.1 HI.out.2.1 HI.out.2.2.1 HI.out.2.2.2 hZ.out (by decide) (.slice none 0 0) 0 [] (by simp [Act.eval]) (World.ownsRow_nil _ _ _ _) ⟨gp, 0, none⟩ 4 cp sqv (by simp [Act.eval]) rfl HN.out sq1 (by decide) (by decide) (by decide) (Nat.zero_le _) _ rfl ?_)
  intro q cq w3 hown hgrow hat hlt
  have k3 := K0.out.grown hgrow (by simp [Value.ownBlock])
  have hB3 : Below w.heap.size w w3 := Below.grown B0 hgrow b0s (by simp [Value.ownBlock])
  have c3 := k3.cell
  have f3 := k3.frozen
  have l3 := k3.lt
  have nq : w.heap.size ≠ q := by
    rcases hat with h | h
    · simp [Value.ownBlock] at h
    · have := K0.out.lt; omega
  have HOW := Lib.hid hown
  have hq : ∀ j v, sqv[j]? = some v → w3.cell? ⟨q, j, none⟩ = some v := fun j v hj => by
    have hj8 : j < 8 := by
      rcases Nat.lt_or_ge j 8 with h | h
      · exact h
      · rw [List.getElem?_eq_none (by simpa [sqv] using h)] at hj; cases hj
    have h9 := hown.cellAt j (by omega)
    rw [h9]
    simpa using hj
  have HQ := Lib.hid hq
  clear hown hgrow hat hlt hq
  go_wp2_with fail
  rw [rounds_succ]
  go_wp2_with fail
  go_ret
  refine ⟨w.heap.size, q, cq, rfl, ⟨?_, ?_⟩, by exact blw⟩
  · exact (k3.set_ 0 (.slice (some ⟨q, 0, none⟩) 4 cq) rfl).cell 0
  · intro j v hj
    exact (World.cell?_setCell_other _ _ _ _ (by intro h; injection h with h1 h2; exact nq (by first | exact h1 | exact h1.symm))).trans (HQ.out j v hj)
theorem SqAt.ne_blk {w : World} {gl gp cp b : Nat} {x : Value} (h : SqAt w gl gp cp) (hc : w.cell? ⟨b, 0, none⟩ = some x) (h1 : ∀ p n c, x ≠ .slice p n c) (h2 : x ≠ .int .i64 (-20000000)) : gl ≠ b ∧ gp ≠ b := by
  constructor
  · rintro rfl
    have h3 := h.1
    rw [hc] at h3
    injection h3 with h3
    exact h1 _ _ _ h3
  · rintro rfl
    have h3 := h.2 0 _ rfl
    rw [hc] at h3
    injection h3 with h3
    exact h2 h3
theorem copy_sq (gl cl gp cp : Nat) (w : World) (hS : SqAt w gl gp cp) :
    Calls Tryz.prog 89 #[.agg #[.int .i64 2, .int .i64 0, .int .i64 0, .int .i64 0, .int .i64 0, .int .i64 0, .int .i64 0, .int .i64 0, .slice (some ⟨gl, 0, none⟩) 1 cl, .slice none 0 0]] w fun e w' => ∃ gl2 gp2 cp2, e = .returned (.agg #[.int .i64 2, .int .i64 0, .int .i64 0, .int .i64 0, .int .i64 0, .int .i64 0, .int .i64 0, .int .i64 0, .slice (some ⟨gl2, 0, none⟩) 1 1, .slice none 0 0]) ∧ SqAt w' gl2 gp2 cp2 ∧ Below w.heap.size w w' := by
  have HS := Lib.hid hS
  clear hS
  go_enter Tryz.func89, Tryz.ntmps89
  go_wp2_with fail
  refine (count_sq _ _ _ _).mono ?_
  rintro e w1 ⟨rfl, hb⟩
  have hB1 : Below w.heap.size w w1 := Below.trans (by exact blw) (hb.mono (by first | omega | (simp; done) | (simp; omega)))
  have k1_0 : Blk w1 (w.heap.size) 62 #[.int .i64 2, .int .i64 0, .int .i64 0, .int .i64 0, .int .i64 0, .int .i64 0, .int .i64 0, .int .i64 0, .slice (some ⟨gl, 0, none⟩) 1 cl, .slice none 0 0] := Blk.below (by exact bkw) hb (by first | omega | (simp; done) | (simp; omega))
  have k1_1 : Blk w1 (w.heap.size + 1) 62 #[.int .i64 0, .int .i64 0, .int .i64 0, .int .i64 0, .int .i64 0, .int .i64 0, .int .i64 0, .int .i64 0, .slice none 0 0, .slice none 0 0] := Blk.below (by exact bkw) hb (by first | omega | (simp; done) | (simp; omega))
  have c1_0 := k1_0.cell
  have f1_0 := k1_0.frozen
  have l1_0 := k1_0.lt
  have c1_1 := k1_1.cell
  have f1_1 := k1_1.frozen
  have l1_1 := k1_1.lt
  have l1 := hB1.size
  clear hb
  obtain ⟨v, ev⟩ : ∃ v, w1.alloc (.cells #[.pointer (some ⟨w.heap.size, 0, none⟩)] 252) = v := ⟨_, rfl⟩
  have hBv : Below w.heap.size w v := by rw [← ev]; exact blw
  have k0 : Blk v w.heap.size 62 #[.int .i64 2, .int .i64 0, .int .i64 0, .int .i64 0, .int .i64 0, .int .i64 0, .int .i64 0, .int .i64 0, .slice (some ⟨gl, 0, none⟩) 1 cl, .slice none 0 0] := by rw [← ev]; exact bkw
  have k1 : Blk v (w.heap.size + 1) 62 #[.int .i64 0, .int .i64 0, .int .i64 0, .int .i64 0, .int .i64 0, .int .i64 0, .int .i64 0, .int .i64 0, .slice none 0 0, .slice none 0 0] := by rw [← ev]; exact bkw
  have kT : Blk v w1.heap.size 252 #[.pointer (some ⟨w.heap.size, 0, none⟩)] := by rw [← ev]; exact bkw
  have sv := HS.out.below hBv (Nat.le_refl _)
  have c0 := k0.cell
  have f0 := k0.frozen
  have l0 := k0.lt
  have cT := kT.cell
  have lT := kT.lt
  have lw1 := hB1.size
  have lv1 := k1.lt
  have K0 := Lib.hid k0
  have K1 := Lib.hid k1
  have SV := Lib.hid sv
  have HBV := Lib.hid hBv
  clear c1_0 c1_1 f1_0 f1_1 k1_0 k1_1 k0 k1 kT sv hBv hB1
  go_wp2_with fail
  clear ev
  refine wp_loop_rounds 2 ?_
  rw [rounds_succ]
  go_wp2_with fail
  refine (pcontours_sq gl cl gp cp v SV.out).mono ?_
  rintro e w2 ⟨gl2, gp2, cp2, rfl, s2, hb⟩
  have k2 := K0.out.below hb l0
  have k3 := K1.out.below hb lv1
  have hB2 : Below w.heap.size w w2 := HBV.out.trans (hb.mono HBV.out.size)
  have c2 := k2.cell
  have f2 := k2.frozen
  have l2 := k2.lt
  have c3 := k3.cell
  have f3 := k3.frozen
  have l3 := k3.lt
  have n0 := s2.ne_blk (b := w.heap.size) (k2.cell 0) (by intro p n c h; cases h) (by intro h; injection h with h1 h2; exact absurd h2 (by decide))
  have n1 := s2.ne_blk (b := w.heap.size + 1) (k3.cell 0) (by intro p n c h; cases h) (by intro h; injection h with h1 h2; exact absurd h2 (by decide))
  have K2 := Lib.hid k2
  have K3 := Lib.hid k3
  have S2 := Lib.hid s2
  have HB2 := Lib.hid hB2
  have N0 := Lib.hid n0
  have N1 := Lib.hid n1
  clear hb k2 k3 s2 n0 n1 hB2 c0 f0 l0 cT lT
  go_wp2_with fail
  rw [rounds_succ]
  go_wp2_with fail
  refine bodyPost_ret (results_cell_row (t := 62) Tryz.results89 _ _ (w.heap.size + 1) #[.int .i64 2, .int .i64 0, .int .i64 0, .int .i64 0, .int .i64 0, .int .i64 0, .int .i64 0, .int .i64 0, .slice (some ⟨gl2, 0, none⟩) 1 1, .slice none 0 0] (0, 0) _ (by rfl) ?_ Tryz.underlying62 rfl (by kernel_rfl)) rfl ⟨gl2, gp2, cp2, rfl, ?_, ?_⟩
  · exact ((((((((((((K3.out.far (by simp) _).far (by simp) _).set_ 0 _ rfl).set_ 1 _ rfl).set_ 2 _ rfl).set_ 3 _ rfl).set_ 4 _ rfl).set_ 5 _ rfl).set_ 6 _ rfl).set_ 7 _ rfl).set_ 8 _ rfl).set_ 9 _ rfl)
  · exact ((((((((((((S2.out).far (by simpa using N0.out.1) (by simpa using N0.out.2) _).far (by simpa using N0.out.1) (by simpa using N0.out.2) _).far (by simpa using N1.out.1) (by simpa using N1.out.2) _).far (by simpa using N1.out.1) (by simpa using N1.out.2) _).far (by simpa using N1.out.1) (by simpa using N1.out.2) _).far (by simpa using N1.out.1) (by simpa using N1.out.2) _).far (by simpa using N1.out.1) (by simpa using N1.out.2) _).far (by simpa using N1.out.1) (by simpa using N1.out.2) _).far (by simpa using N1.out.1) (by simpa using N1.out.2) _).far (by simpa using N1.out.1) (by simpa using N1.out.2) _).far (by simpa using N1.out.1) (by simpa using N1.out.2) _).far (by simpa using N1.out.1) (by simpa using N1.out.2) _
  · have := HB2.out
    exact blw
theorem Added.from {P gL off B n : Nat} {pc lcs : Array Value} {ov : Value} {ys : List Value} {g cap : Nat} {w u w' : World} (h : Added P gL off B n pc lcs ov ys g cap u w') (hu : Only [] w u) : Added P gL off B n pc lcs ov ys g cap w w' :=
  ⟨h.1, h.2.1, h.2.2.1, (hu.mono (by simp)).trans h.2.2.2.1, h.2.2.2.2.imp id (fun h => Nat.le_trans hu.size h)⟩
theorem addT_sq (P M gL B gl gp cp : Nat) (w : World) (hP : Blk w P 159 #[.int .i64 1, .int .i64 1, .int .i64 2, .int .i64 4, .bool false, .bool true, .map (some M), .int .i64 10, .slice none 0 0, .int .i64 0, .int .i64 0, .int .i64 1, .bool false, .bool true, .bool false, .bool false, .int .i64 0, .int .i64 0, .int .i64 0, .bool false, .slice none 0 0, .slice (some ⟨gL, 0, none⟩) 1 1, .int .i64 0, .int .i64 10, .bool false]) (hL : Blk w gL 162 #[.bool false, .int .i64 0, .int .i64 0, .int .i64 0, .int .i64 0, .int .i64 0, .slice none 0 0]) (hS : SqAt w gl gp cp) (hB : B ≤ w.heap.size) (hPM : P ≠ M) :
    Calls Tryz.prog 168 #[.pointer (some ⟨P, 0, none⟩), .bool true, .agg #[.int .i64 2, .int .i64 0, .int .i64 0, .int .i64 0, .int .i64 0, .int .i64 0, .int .i64 0, .int .i64 0, .slice (some ⟨gl, 0, none⟩) 1 1, .slice none 0 0], .agg #[.bool false, .bool false, .int .i64 0, .int .i64 0, .int .i64 0]] w fun e w' => ∃ gl2 gp2 cp2 g cap, e = .returned (.int .i64 0) ∧ Added P gL 6 B 0 #[.int .i64 1, .int .i64 1, .int .i64 2, .int .i64 4, .bool false, .bool true, .map (some M), .int .i64 10, .slice none 0 0, .int .i64 0, .int .i64 0, .int .i64 1, .bool false, .bool true, .bool false, .bool false, .int .i64 0, .int .i64 0, .int .i64 0, .bool false, .slice none 0 0, .slice (some ⟨gL, 0, none⟩) 1 1, .int .i64 1, .int .i64 10, .bool false] #[.bool false, .int .i64 0, .int .i64 0, .int .i64 0, .int .i64 0, .int .i64 0, .slice none 0 0] (.slice none 0 0) [.bool true, .int .i64 2, .int .i64 0, .int .i64 0, .int .i64 0, .int .i64 0, .int .i64 0, .int .i64 0, .int .i64 0, .slice (some ⟨gl2, 0, none⟩) 1 1, .slice none 0 0] g cap w w' ∧ SqAt w' gl2 gp2 cp2 := by
  have l := hP.lt
  have lL := hL.lt
  have HP := Lib.hid hP
  have HL := Lib.hid hL
  have HS := Lib.hid hS
  have HB := Lib.hid hB
  clear hP hL hS hB
  go_enter Tryz.func168, Tryz.ntmps168
  go_wp2_with fail
  refine (Apply_sq gl 1 gp cp _ ((HS.out.alloc _).alloc _)).mono ?_
  rintro e w1 ⟨gl2, gp2, cp2, rfl, hs2, hb⟩
  have hu : Only [] w w1 := (((Only.refl _ _).alloc _).alloc _).below hb (by first | (simp; done) | (simp; omega))
  have HU := Lib.hid hu
  have l1 := hb.size
  have k1 := ((HP.out.alloc _).alloc _).below hb (by first | (simp; done) | (simp; omega))
  have k2 := ((HL.out.alloc _).alloc _).below hb (by first | (simp; done) | (simp; omega))
  have n1 := hs2.ne_int (k1.cell 0) (by decide)
  have n2 := hs2.ne_blk (k2.cell 0) (by intro p n c h; cases h) (by intro h; cases h)
  have K1 := Lib.hid k1
  have K2 := Lib.hid k2
  have S2 := Lib.hid hs2
  have N12 := Lib.hid (And.intro n1 n2)
  clear hu hb k1 k2 hs2 n1 n2
  go_wp2_with fail
  refine (add_1 P gL 1 B 0 0 10 2 0 0 0 true (some ⟨gl2, 0, none⟩) 1 1 (.slice none 0 0) #[.bool false, .int .i64 0, .int .i64 0, .int .i64 0, .int .i64 0, .int .i64 0, .slice none 0 0] [] _ (K1.out.alloc _) (K2.out.alloc _) rfl (World.ownsRow_nil _ _ _ _) (by omega) (by omega) (by omega) (by omega) (by have := HB.out; have := HU.out.size; simp; omega) ((ok_sq gl2 1 gp2 cp2 _ ((S2.out.alloc _).alloc _)).mono fun e w' h => ⟨h.1, by simpa using h.2⟩)).mono ?_
  rintro e w2 ⟨g, cap, rfl, hA⟩
  have hs3 : SqAt w2 gl2 gp2 cp2 := (S2.out.alloc _).only hA.2.2.2.1 (by have := N12.out; simp [Value.ownBlock]; exact ⟨this.1.1, this.2.1⟩) (by have := N12.out; simp [Value.ownBlock]; exact ⟨this.1.2, this.2.2⟩)
  have HA := Lib.hid (hA.from ((HU.out).alloc _))
  have HS3 := Lib.hid hs3
  clear hA hs3
  go_wp2_with fail
  go_ret
  exact ⟨gl2, gp2, cp2, g, cap, rfl, HA.out, HS3.out⟩
theorem flash_sq (P M gL B gl gp cp : Nat) (w : World) (hP : Blk w P 159 #[.int .i64 1, .int .i64 1, .int .i64 2, .int .i64 4, .bool false, .bool true, .map (some M), .int .i64 10, .slice none 0 0, .int .i64 0, .int .i64 0, .int .i64 1, .bool false, .bool true, .bool false, .bool false, .int .i64 0, .int .i64 0, .int .i64 0, .bool false, .slice none 0 0, .slice (some ⟨gL, 0, none⟩) 1 1, .int .i64 0, .int .i64 10, .bool false]) (hL : Blk w gL 162 #[.bool false, .int .i64 0, .int .i64 0, .int .i64 0, .int .i64 0, .int .i64 0, .slice none 0 0]) (hS : SqAt w gl gp cp) (hB : B ≤ w.heap.size) (hPM : P ≠ M) (hM : IsMap w M #[{ key := .int .i64 10, val := .agg #[.int .i64 2, .int .i64 0, .int .i64 0, .int .i64 0, .int .i64 0, .int .i64 0, .int .i64 0, .int .i64 0, .slice (some ⟨gl, 0, none⟩) 1 1, .slice none 0 0, .int .i64 0, .bool false, .bool false, .slice none 0 0], born := 0 }] 1) :
    Calls Tryz.prog 165 #[.pointer (some ⟨P, 0, none⟩), .agg #[.int .i64 0, .int .i64 0]] w fun e w' => ∃ gl2 gp2 cp2 g cap, e = .returned (.int .i64 0) ∧ Added P gL 6 B 0 #[.int .i64 1, .int .i64 1, .int .i64 2, .int .i64 4, .bool false, .bool true, .map (some M), .int .i64 10, .slice none 0 0, .int .i64 0, .int .i64 0, .int .i64 1, .bool false, .bool true, .bool false, .bool false, .int .i64 0, .int .i64 0, .int .i64 0, .bool false, .slice none 0 0, .slice (some ⟨gL, 0, none⟩) 1 1, .int .i64 1, .int .i64 10, .bool false] #[.bool false, .int .i64 0, .int .i64 0, .int .i64 0, .int .i64 0, .int .i64 0, .slice none 0 0] (.slice none 0 0) [.bool true, .int .i64 2, .int .i64 0, .int .i64 0, .int .i64 0, .int .i64 0, .int .i64 0, .int .i64 0, .int .i64 0, .slice (some ⟨gl2, 0, none⟩) 1 1, .slice none 0 0] g cap w w' ∧ SqAt w' gl2 gp2 cp2 := by
  have l := hP.lt
  have lM := hM.lt
  have lL := hL.lt
  have c := hP.cell
  have f := hP.frozen
  have hl : ∀ w', w'.heap[M]? = some (.map #[{ key := .int .i64 10, val := .agg #[.int .i64 2, .int .i64 0, .int .i64 0, .int .i64 0, .int .i64 0, .int .i64 0, .int .i64 0, .int .i64 0, .slice (some ⟨gl, 0, none⟩) 1 1, .slice none 0 0, .int .i64 0, .bool false, .bool false, .slice none 0 0], born := 0 }] 1) → (Instr.lookup 151 (.map (some M)) (.int .i64 10) true).run Tryz.prog w' = .ok (.tuple #[.agg #[.int .i64 2, .int .i64 0, .int .i64 0, .int .i64 0, .int .i64 0, .int .i64 0, .int .i64 0, .int .i64 0, .slice (some ⟨gl, 0, none⟩) 1 1, .slice none 0 0, .int .i64 0, .bool false, .bool false, .slice none 0 0], .bool true]) w' := fun w' hm => look_run w' hm 10 (.agg #[.int .i64 2, .int .i64 0, .int .i64 0, .int .i64 0, .int .i64 0, .int .i64 0, .int .i64 0, .int .i64 0, .slice (some ⟨gl, 0, none⟩) 1 1, .slice none 0 0, .int .i64 0, .bool false, .bool false, .slice none 0 0], true) rfl (fun h => by cases h)
  have HP := Lib.hid hP
  have HL := Lib.hid hL
  have HS := Lib.hid hS
  have HB := Lib.hid hB
  clear hP hL hS hB
  go_enter Tryz.func165, Tryz.ntmps165
  go_wp2_with fail
  have hl1 := hl _ ((hM.alloc (.cells #[.int .i64 0, .int .i64 0] 58)).drew)
  have hl2 := hl _ (((hM.alloc (.cells #[.int .i64 0, .int .i64 0] 58)).alloc (.cells #[.int .i64 0, .int .i64 0, .int .i64 0, .int .i64 0, .int .i64 0, .int .i64 0, .int .i64 0, .int .i64 0, .slice none 0 0, .slice none 0 0, .int .i64 0, .bool false, .bool false, .slice none 0 0] 280)).drew)
  clear hl
  go_region
  all_goals
    go_wp2_with fail
    obtain ⟨u, eu⟩ : ∃ u, (((w.alloc (.cells #[.int .i64 0, .int .i64 0] 58)).alloc (.cells #[.int .i64 2, .int .i64 0, .int .i64 0, .int .i64 0, .int .i64 0, .int .i64 0, .int .i64 0, .int .i64 0, .slice (some ⟨gl, 0, none⟩) 1 1, .slice none 0 0, .int .i64 0, .bool false, .bool false, .slice none 0 0] 280)).alloc (.cells #[.bool false, .bool false, .int .i64 0, .int .i64 0, .int .i64 0] 157)).drew = u := ⟨_, rfl⟩
    have u1 : Blk u P 159 #[.int .i64 1, .int .i64 1, .int .i64 2, .int .i64 4, .bool false, .bool true, .map (some M), .int .i64 10, .slice none 0 0, .int .i64 0, .int .i64 0, .int .i64 1, .bool false, .bool true, .bool false, .bool false, .int .i64 0, .int .i64 0, .int .i64 0, .bool false, .slice none 0 0, .slice (some ⟨gL, 0, none⟩) 1 1, .int .i64 0, .int .i64 10, .bool false] := by rw [← eu]; exact (((HP.out.alloc _).alloc _).alloc _).drew
    have u2 : Blk u gL 162 #[.bool false, .int .i64 0, .int .i64 0, .int .i64 0, .int .i64 0, .int .i64 0, .slice none 0 0] := by rw [← eu]; exact (((HL.out.alloc _).alloc _).alloc _).drew
    have u3 : SqAt u gl gp cp := by rw [← eu]; exact (((HS.out.alloc _).alloc _).alloc _).drew
    have u4 : Blk u (w.heap.size + 1) 280 #[.int .i64 2, .int .i64 0, .int .i64 0, .int .i64 0, .int .i64 0, .int .i64 0, .int .i64 0, .int .i64 0, .slice (some ⟨gl, 0, none⟩) 1 1, .slice none 0 0, .int .i64 0, .bool false, .bool false, .slice none 0 0] := by rw [← eu]; exact ((Blk.newAt (by simp)).alloc _).drew
    have u5 : Blk u (w.heap.size + 1 + 1) 157 #[.bool false, .bool false, .int .i64 0, .int .i64 0, .int .i64 0] := by rw [← eu]; exact (Blk.newAt (by simp)).drew
    have u6 : Only [] w u := by rw [← eu]; exact ((((Only.refl _ _).alloc _).alloc _).alloc _).drew
    rw [eu]
    have c := u1.cell
    have f := u1.frozen
    have l := u1.lt
    have c4 := u4.cell
    have l4 := u4.lt
    have c5 := u5.cell
    have l5 := u5.lt
    have hT := addT_sq P M gL B gl gp cp u.drew u1.drew u2.drew u3.drew (by have := HB.out; have := u6.size; simp; omega) hPM
    have HT := Lib.hid hT
    have HU := Lib.hid u6
    clear hl1 hl2 eu u1 u2 u3 u4 u5 u6 hT
    go_still_tail 8, (by kernel_rfl)
    change wpList _ _ _ _ _ u.drew
    go_wp2_with (go_at_call 168; refine (HT.out).mono ?_; rintro e w3 ⟨gl2, gp2, cp2, g, cap, rfl, hA, hs3⟩)
    have HA := Lib.hid (hA.from HU.out.drew)
    have HS3 := Lib.hid hs3
    clear hA hs3
    go_wp2_with fail
    go_ret
    exact ⟨gl2, gp2, cp2, g, cap, rfl, HA.out, HS3.out⟩
def Adds (P gL off B n : Nat) (pc : Int → Array Value) (lcs : Array Value) (ov : Value) (xs : List Value) (mk : Int) (w : World) (k : Nat) (zs : List Value) (wr : World) : Prop :=
  ∃ ov' lcs', Blk wr P 159 (pc (mk + (k : Int))) ∧ Blk wr gL 162 lcs' ∧ lcs'[off]? = some ov' ∧ (k = 0 ∧ lcs' = lcs ∧ ov' = ov ∨ lcs' = lcs.setIfInBounds off ov' ∧ 0 < k) ∧ wr.ownsRow B 65 11 ov' (n + k) (xs ++ zs) ∧ Only (P :: gL :: ov.ownBlock.toList) w wr ∧
    (ov'.ownBlock = ov.ownBlock ∨ ∃ g, ov'.ownBlock = some g ∧ w.heap.size ≤ g)
section
variable {P gL off B n : Nat} {pc : Int → Array Value} {lcs : Array Value} {ov : Value} {xs : List Value} {mk : Int} {w : World}
theorem Adds.start (hP : Blk w P 159 (pc mk)) (hL : Blk w gL 162 lcs) (ho : lcs[off]? = some ov) (hov : w.ownsRow B 65 11 ov n xs) : Adds P gL off B n pc lcs ov xs mk w 0 [] w :=
  ⟨ov, lcs, by simpa using hP, hL, ho, .inl ⟨rfl, rfl, rfl⟩, by simpa using hov, Only.refl _ _, .inl rfl⟩
theorem Adds.only {wr wr' : World} {k : Nat} {zs : List Value} (h : Adds P gL off B n pc lcs ov xs mk w k zs wr) (hw : Only [] wr wr') : Adds P gL off B n pc lcs ov xs mk w k zs wr' := by
  obtain ⟨ov', lcs', h1, h2, h3, h4, h5, h6, h7⟩ := h
  exact ⟨ov', lcs', hw.blk h1 (by simp), hw.blk h2 (by simp), h3, h4, hw.own h5 (by simp), h6.trans (hw.mono (by simp)), h7⟩
theorem Adds.step {wr w' : World} {k : Nat} {zs ys : List Value} {ov' : Value} {lcs' : Array Value} {g cap : Nat} (hpc : pc (mk + (k : Int) + 1) = pc (mk + ((k + 1 : Nat) : Int))) (h3 : lcs'[off]? = some ov') (h4 : k = 0 ∧ lcs' = lcs ∧ ov' = ov ∨ lcs' = lcs.setIfInBounds off ov' ∧ 0 < k) (h6 : Only (P :: gL :: ov.ownBlock.toList) w wr)
    (h7 : ov'.ownBlock = ov.ownBlock ∨ ∃ g, ov'.ownBlock = some g ∧ w.heap.size ≤ g) (hA : Added P gL off B (n + k) (pc (mk + (k : Int) + 1)) lcs' ov' ((xs ++ zs) ++ ys) g cap wr w') :
    Adds P gL off B n pc lcs ov xs mk w (k + 1) (zs ++ ys) w' := by
  obtain ⟨a1, a2, a3, a4, a5⟩ := hA
  refine ⟨.slice (some ⟨g, 0, none⟩) (n + k + 1) cap, lcs'.setIfInBounds off (.slice (some ⟨g, 0, none⟩) (n + k + 1) cap), by rw [← hpc]; exact a1, a2, ?_, ?_, ?_, ?_, ?_⟩
  · obtain ⟨h, _⟩ := Array.getElem?_eq_some_iff.1 h3
    simp [h]
  · right
    refine ⟨?_, by omega⟩
    rcases h4 with ⟨_, rfl, _⟩ | ⟨h4, _⟩
    · rfl
    · rw [h4]; simp
  · rw [← List.append_assoc, ← Nat.add_assoc]; exact a3
  · refine h6.then_ a4 ?_
    intro b hb
    simp only [List.mem_cons, Option.mem_toList] at hb ⊢
    rcases hb with rfl | rfl | hb
    · simp
    · simp
    · rcases h7 with h7 | ⟨g', h7, h8⟩
      · left; right; right; rw [← h7]; exact hb
      · right; rw [h7] at hb; cases hb; exact h8
  · rcases a5 with a5 | a5
    · rcases h7 with h7 | ⟨g', h7, h8⟩
      · left; rw [← h7, a5]; rfl
      · right; exact ⟨g', by rw [← h7, a5]; rfl, h8⟩
    · right; exact ⟨g, rfl, Nat.le_trans h6.size a5⟩
theorem Adds.turnP {wr w' : World} {k : Nat} {zs : List Value} {pc' : Int → Array Value} (h : Adds P gL off B n pc lcs ov xs mk w k zs wr) (hP' : Blk w' P 159 (pc' (mk + (k : Int)))) (hw : Only [P] wr w') : Adds P gL off B n pc' lcs ov xs mk w k zs w' := by
  obtain ⟨ov', lcs', h1, h2, h3, h4, h5, h6, h7⟩ := h
  have hne := h1.ne_ h2 (by decide)
  have hno := own_blk_ne h5 h1 (by decide)
  exact ⟨ov', lcs', hP', hw.blk h2 (by simpa using Ne.symm hne), h3, h4, hw.own h5 (fun b hb hm => by simp at hm; subst hm; exact hno hb), h6.trans (hw.mono (by simp)), h7⟩
theorem Adds.one {w' : World} {ys : List Value} {g cap : Nat} (hP : Blk w P 159 (pc mk)) (hL : Blk w gL 162 lcs) (ho : lcs[off]? = some ov) (hov : w.ownsRow B 65 11 ov n xs) (hA : Added P gL off B n (pc (mk + 1)) lcs ov (xs ++ ys) g cap w w') : Adds P gL off B n pc lcs ov xs mk w 1 ys w' := by
  have := Adds.step (k := 0) (zs := []) (pc := pc) (mk := mk) (w := w) (wr := w) (w' := w') (ys := ys) (g := g) (cap := cap) (n := n) (lcs := lcs) (ov := ov) (xs := xs) (lcs' := lcs) (ov' := ov) (by simp) ho (.inl ⟨rfl, rfl, rfl⟩) (Only.refl _ _) (.inl rfl) (by simpa using hA)
  simpa using this
theorem Adds.apart {wr : World} {k : Nat} {zs : List Value} (h : Adds P gL off B n pc lcs ov xs mk w k zs wr) {sv : Value} {ns : Nat} {ys : List Value} (hP : Blk w P 159 (pc mk)) (hL : Blk w gL 162 lcs) (hs : w.ownsRow B 65 11 sv ns ys) (hd : ∀ b, sv.ownBlock = some b → ov.ownBlock ≠ some b) : wr.ownsRow B 65 11 sv ns ys := by
  obtain ⟨ov', lcs', h1, h2, h3, h4, h5, h6, h7⟩ := h
  refine h6.own hs fun b hb hm => ?_
  simp only [List.mem_cons, Option.mem_toList] at hm
  rcases hm with rfl | rfl | hm
  · exact own_blk_ne hs hP (by decide) hb
  · exact own_blk_ne hs hL (by decide) hb
  · exact hd b hb hm
end
theorem operate_sq (P M gL B gl gp cp : Nat) (A : Int) (w : World) (hP : Blk w P 159 #[.int .i64 1, .int .i64 1, .int .i64 2, .int .i64 4, .bool false, .bool true, .map (some M), .int .i64 10, .slice none 0 0, .int .i64 0, .int .i64 0, .int .i64 1, .bool false, .bool true, .bool false, .bool false, .int .i64 0, .int .i64 0, .int .i64 0, .bool false, .slice none 0 0, .slice (some ⟨gL, 0, none⟩) 1 1, .int .i64 0, .int .i64 10, .bool false]) (hL : Blk w gL 162 #[.bool false, .int .i64 0, .int .i64 0, .int .i64 0, .int .i64 0, .int .i64 0, .slice none 0 0]) (hS : SqAt w gl gp cp) (hB : B ≤ w.heap.size) (hPM : P ≠ M) (hM : IsMap w M #[{ key := .int .i64 10, val := .agg #[.int .i64 2, .int .i64 0, .int .i64 0, .int .i64 0, .int .i64 0, .int .i64 0, .int .i64 0, .int .i64 0, .slice (some ⟨gl, 0, none⟩) 1 1, .slice none 0 0, .int .i64 0, .bool false, .bool false, .slice none 0 0], born := 0 }] 1) :
    Calls Tryz.prog 103 #[.pointer (some ⟨P, 0, none⟩), .agg #[.int .i64 A, .int .i64 7, .int .i64 3, .int .i64 0, .bool false, .string { data := #[] }, .string (bs [48]), .string (bs [48]), .string { data := #[] }, .string { data := #[] }, .slice none 0 0, .slice none 0 0]] w fun e w' => ∃ gl2 gp2 cp2 g cap, e = .returned (.int .i64 0) ∧ Blk w' P 159 #[.int .i64 1, .int .i64 1, .int .i64 2, .int .i64 4, .bool false, .bool true, .map (some M), .int .i64 10, .slice none 0 0, .int .i64 0, .int .i64 0, .int .i64 1, .bool false, .bool true, .bool false, .bool false, .int .i64 0, .int .i64 0, .int .i64 0, .bool false, .slice none 0 0, .slice (some ⟨gL, 0, none⟩) 1 1, .int .i64 1, .int .i64 10, .bool false] ∧ Blk w' gL 162 #[.bool false, .int .i64 0, .int .i64 0, .int .i64 0, .int .i64 0, .int .i64 0, .slice (some ⟨g, 0, none⟩) 1 cap] ∧ w'.ownsRow B 65 11 (.slice (some ⟨g, 0, none⟩) 1 cap) 1 [.bool true, .int .i64 2, .int .i64 0, .int .i64 0, .int .i64 0, .int .i64 0, .int .i64 0, .int .i64 0, .int .i64 0, .slice (some ⟨gl2, 0, none⟩) 1 1, .slice none 0 0] ∧ SqAt w' gl2 gp2 cp2 ∧ Only [P, gL] w w' := by
  have hd : Digits [48] := by intro c hc; simp at hc; subst hc; decide
  have h1 := fun w => coord_c [48] w hd (by decide) (by decide) (by decide)
  have ez : coordOf [48] = 0 := by decide
  obtain ⟨X, eX⟩ : ∃ x, bs [48] = x := ⟨_, rfl⟩
  have z1 : X.toList.isEmpty = false := by rw [← eX, bs_toList]; rfl
  have h1 : ∀ w, Calls Tryz.prog 162 #[.string X, .agg #[.int .i64 1, .int .i64 2, .int .i64 4, .bool false]] w fun e w' => e = .returned (.tuple #[.int .i64 0, .bool true]) ∧ Below w.heap.size w w' := by rw [← eX, ← ez]; exact h1
  rw [eX]
  have i0 : ∀ w, (Instr.index 285 (.agg #[.string X, .string X, .string { data := #[] }, .string { data := #[] }]) (.int .i64 0)).run Tryz.prog w = .ok (.string X) w := fun _ => by kernel_rfl
  have i1 : ∀ w, (Instr.index 285 (.agg #[.string X, .string X, .string { data := #[] }, .string { data := #[] }]) (.int .i64 1)).run Tryz.prog w = .ok (.string X) w := fun _ => by kernel_rfl
  have i2 : ∀ w, (Instr.index 285 (.agg #[.string X, .string X, .string { data := #[] }, .string { data := #[] }]) (.int .i64 2)).run Tryz.prog w = .ok (.string { data := #[] }) w := fun _ => by kernel_rfl
  have i3 : ∀ w, (Instr.index 285 (.agg #[.string X, .string X, .string { data := #[] }, .string { data := #[] }]) (.int .i64 3)).run Tryz.prog w = .ok (.string { data := #[] }) w := fun _ => by kernel_rfl
  have H1 := Lib.hid h1
  have c := hP.cell
  have f := hP.frozen
  have l := hP.lt
  have lM := hM.lt
  have lL := hL.lt
  have HM := Lib.hid hM
  have HL := Lib.hid hL
  have HS := Lib.hid hS
  have HB := Lib.hid hB
  have HPM := Lib.hid hPM
  clear eX h1 hM hL hS hB hd ez hPM
  go_enter Tryz.func103, Tryz.ntmps103
  go_wp2_with fail
  have c9 : w.cell? ⟨P, 9, none⟩ = some (.int .i64 0) := c 9
  have c10 : w.cell? ⟨P, 10, none⟩ = some (.int .i64 0) := c 10
  have l3 : P < w.heap.size + 1 + 1 := by omega
  go_region
  go_wp2_with fail
  refine wp_loop_rounds 5 ?_
  rw [rounds_succ]
  go_wp2_with fail
  refine (H1.out _).mono ?_
  rintro e w1 ⟨rfl, hb⟩
  have hB1 : Below w.heap.size w w1 := Below.trans (by exact blw) (hb.mono (by first | omega | (simp; done) | (simp; omega)))
  have k1_0 : Blk w1 (P) 159 #[.int .i64 1, .int .i64 1, .int .i64 2, .int .i64 4, .bool false, .bool true, .map (some M), .int .i64 10, .slice none 0 0, .int .i64 0, .int .i64 0, .int .i64 1, .bool false, .bool true, .bool false, .bool false, .int .i64 0, .int .i64 0, .int .i64 0, .bool false, .slice none 0 0, .slice (some ⟨gL, 0, none⟩) 1 1, .int .i64 0, .int .i64 10, .bool false] := Blk.below (by exact bkw) hb (by first | omega | (simp; done) | (simp; omega))
  have k1_1 : Blk w1 (w.heap.size) 103 #[.int .i64 A, .int .i64 7, .int .i64 3, .int .i64 0, .bool false, .string { data := #[] }, .string X, .string X, .string { data := #[] }, .string { data := #[] }, .slice none 0 0, .slice none 0 0] := Blk.below (by exact bkw) hb (by first | omega | (simp; done) | (simp; omega))
  have k1_2 : Blk w1 (w.heap.size + 1) 154 #[.int .i64 1, .int .i64 2, .int .i64 4, .bool false] := Blk.below (by exact bkw) hb (by first | omega | (simp; done) | (simp; omega))
  have k1_3 : Blk w1 (w.heap.size + 1 + 1) 284 #[.int .i64 0, .int .i64 0, .int .i64 0, .int .i64 0] := Blk.below (by exact bkw) hb (by first | omega | (simp; done) | (simp; omega))
  have c1_0 := k1_0.cell
  have f1_0 := k1_0.frozen
  have l1_0 := k1_0.lt
  have c1_1 := k1_1.cell
  have f1_1 := k1_1.frozen
  have l1_1 := k1_1.lt
  have c1_2 := k1_2.cell
  have f1_2 := k1_2.frozen
  have l1_2 := k1_2.lt
  have c1_3 := k1_3.cell
  have f1_3 := k1_3.frozen
  have l1_3 := k1_3.lt
  have l1 := hB1.size
  clear hb hP c f c9 c10 l3
  go_wp2_with fail
  rw [rounds_succ]
  go_wp2_with fail
  refine (H1.out _).mono ?_
  rintro e w2 ⟨rfl, hb⟩
  have hB2 : Below w.heap.size w w2 := Below.trans (by exact blw) (hb.mono (by first | omega | (simp; done) | (simp; omega)))
  have k2_0 : Blk w2 (P) 159 #[.int .i64 1, .int .i64 1, .int .i64 2, .int .i64 4, .bool false, .bool true, .map (some M), .int .i64 10, .slice none 0 0, .int .i64 0, .int .i64 0, .int .i64 1, .bool false, .bool true, .bool false, .bool false, .int .i64 0, .int .i64 0, .int .i64 0, .bool false, .slice none 0 0, .slice (some ⟨gL, 0, none⟩) 1 1, .int .i64 0, .int .i64 10, .bool false] := Blk.below (by exact bkw) hb (by first | omega | (simp; done) | (simp; omega))
  have k2_1 : Blk w2 (w.heap.size) 103 #[.int .i64 A, .int .i64 7, .int .i64 3, .int .i64 0, .bool false, .string { data := #[] }, .string X, .string X, .string { data := #[] }, .string { data := #[] }, .slice none 0 0, .slice none 0 0] := Blk.below (by exact bkw) hb (by first | omega | (simp; done) | (simp; omega))
  have k2_2 : Blk w2 (w.heap.size + 1) 154 #[.int .i64 1, .int .i64 2, .int .i64 4, .bool false] := Blk.below (by exact bkw) hb (by first | omega | (simp; done) | (simp; omega))
  have k2_3 : Blk w2 (w.heap.size + 1 + 1) 284 #[.int .i64 0, .int .i64 0, .int .i64 0, .int .i64 0] := Blk.below (by exact bkw) hb (by first | omega | (simp; done) | (simp; omega))
  have c2_0 := k2_0.cell
  have f2_0 := k2_0.frozen
  have l2_0 := k2_0.lt
  have c2_1 := k2_1.cell
  have f2_1 := k2_1.frozen
  have l2_1 := k2_1.lt
  have c2_2 := k2_2.cell
  have f2_2 := k2_2.frozen
  have l2_2 := k2_2.lt
  have c2_3 := k2_3.cell
  have f2_3 := k2_3.frozen
  have l2_3 := k2_3.lt
  have l2 := hB2.size
  clear hb k1_0 c1_0 f1_0 l1_0 k1_1 c1_1 f1_1 l1_1 k1_2 c1_2 f1_2 l1_2 k1_3 c1_3 f1_3 l1_3
  go_wp2_with fail
  rw [rounds_succ]
  go_wp2_with fail
  rw [rounds_succ]
  go_wp2_with fail
  rw [rounds_succ]
  go_wp2_with fail
  obtain ⟨u, eu⟩ : ∃ u, (w2.setCell ⟨w.heap.size + 1 + 1, 1, none⟩ (.int .i64 0)).alloc (.cells #[.int .i64 0, .int .i64 0] 58) = u := ⟨_, rfl⟩
  have q1 : Blk u P 159 #[.int .i64 1, .int .i64 1, .int .i64 2, .int .i64 4, .bool false, .bool true, .map (some M), .int .i64 10, .slice none 0 0, .int .i64 0, .int .i64 0, .int .i64 1, .bool false, .bool true, .bool false, .bool false, .int .i64 0, .int .i64 0, .int .i64 0, .bool false, .slice none 0 0, .slice (some ⟨gL, 0, none⟩) 1 1, .int .i64 0, .int .i64 10, .bool false] := by rw [← eu]; exact (k2_0.far (by simp; omega) _).alloc _
  have q2 : Blk u w2.heap.size 58 #[.int .i64 0, .int .i64 0] := by rw [← eu]; exact Blk.newAt (by simp)
  have q3 : Only [] w u := by
    rw [← eu]
    have h0 : Only [] w w2 := Only.of_below hB2 (Nat.le_refl _) _
    exact (h0.setCell (.inr (by simp; omega)) _).alloc _
  have qM := q3.map HM.out (by simp)
  have qL := q3.blk HL.out (by simp)
  have qS := HS.out.only q3 (by simp) (by simp)
  have hF := flash_sq P M gL B gl gp cp u q1 qL qS (by have := HB.out; have := q3.size; omega) HPM.out qM
  have Q1 := Lib.hid q1
  have Q2 := Lib.hid q2
  have Q3 := Lib.hid q3
  have QL := Lib.hid qL
  have HFL := Lib.hid hF
  rw [eu]
  have lu := q3.size
  have lq2 := q2.lt
  clear eu q1 q2 q3 qM qL qS hF k2_0 c2_0 f2_0 l2_0 k2_1 c2_1 f2_1 l2_1 k2_2 c2_2 f2_2 l2_2 k2_3 c2_3 f2_3 l2_3
  refine (HFL.out).mono ?_
  rintro e w3 ⟨gl2, gp2, cp2, g, cap, rfl, ⟨a1, a2, a3, a4, a5⟩, hs3⟩
  have k4 := a4.blk Q2.out (by
    intro hm
    simp only [List.mem_cons, Option.mem_toList, Value.ownBlock] at hm
    rcases hm with h | h | h
    · exact Q1.out.ne_ Q2.out (by decide) h.symm
    · exact QL.out.ne_ Q2.out (by decide) h.symm
    · cases h)
  have c3 := a1.cell
  have f3 := a1.frozen
  have l3 := a1.lt
  have c4 := k4.cell
  have l4 := k4.lt
  have n9 := hs3.ne_int (a1.cell 0) (by decide)
  have A1 := Lib.hid a1
  have A2 := Lib.hid a2
  have A3 := Lib.hid a3
  have A4 := Lib.hid a4
  have S3 := Lib.hid hs3
  have N9 := Lib.hid n9
  have npl := a1.ne_ a2 (by decide)
  have NPL := Lib.hid npl
  clear a1 a2 a3 a4 a5 hs3 k4 n9 npl
  go_wp2_with fail
  go_ret
  refine ⟨gl2, gp2, cp2, g, cap, rfl, ?_, ?_, ?_, ?_, ?_⟩
  · exact (A1.out.set_ 9 (.int .i64 0) rfl).set_ 10 (.int .i64 0) rfl
  · exact (A2.out.far (by simpa using Ne.symm NPL.out) _).far (by simpa using Ne.symm NPL.out) _
  · exact own_far (own_far A3.out (fun e => own_blk_ne A3.out A1.out (by decide) e) _) (fun e => own_blk_ne (own_far A3.out (fun e => own_blk_ne A3.out A1.out (by decide) e) (.int .i64 0)) (A1.out.set_ 9 (.int .i64 0) rfl) (by decide) e) _
  · exact (S3.out.far (by simpa using N9.out.1) (by simpa using N9.out.2) _).far (by simpa using N9.out.1) (by simpa using N9.out.2) _
  · have h9 : Only [P, gL] w w3 := (Q3.out.mono (by simp)).trans (A4.out.mono (by intro b hb; simpa [Value.ownBlock] using hb))
    exact (h9.setCell (by simp) _).setCell (by simp) _
end Go.Proofs.YtfajckkbinbpiaaGreatDoor
