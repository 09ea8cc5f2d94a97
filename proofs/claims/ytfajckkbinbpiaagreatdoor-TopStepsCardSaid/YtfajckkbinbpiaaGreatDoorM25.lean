/- Walks: a square is copied. Walks: the one shape, the one pile are copied. Walks: package plot: an object is added to what is open. -/
import Derived.Test.YtfajckkbinbpiaaGreatDoorM24
import Derived.Deep.RegionLaw
import Derived.Deep.AppendLies
import Derived.Test.YtfajckkbinbpiaaGreatDoorM23
namespace Go.Proofs.YtfajckkbinbpiaaGreatDoor
open Go.RowKit
set_option linter.unusedVariables false
set_option linter.unusedSimpArgs false

theorem sq1 : ∀ v ∈ sqv, v.oneCell' = true := by
  intro v hv
  simp only [sqv, List.mem_cons, List.not_mem_nil, or_false] at hv
  rcases hv with rfl | rfl | rfl | rfl | rfl | rfl | rfl | rfl <;> rfl
theorem info42 : (Tryz.prog.info? 58).map (fun i => (i.zero, i.size, i.bytes)) = some (some (.agg #[.int .i64 0, .int .i64 0]), 2, 16) := by kernel_rfl
set_option maxRecDepth 100000 in
set_option maxHeartbeats 4000000 in
theorem count_sq (p : Option Addr) (m c : Nat) (w : World) : Calls Tryz.prog 141 #[.agg #[.int .i64 2, .int .i64 0, .int .i64 0, .int .i64 0, .int .i64 0, .int .i64 0, .int .i64 0, .int .i64 0, .slice p m c, .slice none 0 0]] w fun e w' => e = .returned (.int .i64 1) ∧ Below w.heap.size w w' := by
  go_enter Tryz.func141, Tryz.ntmps141
  go_wp2
  go_ret
  exact ⟨rfl, by (repeat' (first | (with_reducible exact Below.refl _ _) | (with_reducible assumption) | (with_reducible refine below_drewN ?_ _) | (with_reducible refine Below.drew ?_) | (with_reducible refine Below.alloc ?_ ?_ _) | (with_reducible refine Below.setCell ?_ ?_ _) | omega | (simp; done) | (simp; omega)))⟩
set_option maxRecDepth 100000 in
set_option maxHeartbeats 4000000 in
theorem pcontours_sq (gl cl gp cp : Nat) (w : World) (hS : SqAt w gl gp cp) :
    Calls Tryz.prog 142 #[.slice (some ⟨gl, 0, none⟩) 1 cl] w fun e w' => ∃ gl2 gp2 cp2, e = .returned (.slice (some ⟨gl2, 0, none⟩) 1 1) ∧ SqAt w' gl2 gp2 cp2 ∧ Below w.heap.size w w' := by
  have HS := Lib.hid hS
  have lgl := hS.lt1
  have lgp := hS.lt2
  obtain ⟨qa0, qb0_0, qb0_1, qb0_2, qb0_3, qb0_4, qb0_5, qb0_6, qb0_7⟩ := hS.cells
  clear hS
  obtain ⟨i42, hi42, hz0, hz1, hz2⟩ := info_parts info42
  have HI := Lib.hid (And.intro hi42 (And.intro hz0 (And.intro hz1 hz2)))
  have hZ : Hid ((Value.agg #[.int .i64 0, .int .i64 0]).cells.size = 2) := Lib.hid (by kernel_rfl)
  have hmk : ∀ w, (Instr.makeSlice 59 (.int .i64 1) (.int .i64 1)).run Tryz.prog w = .ok (.slice (some ⟨w.heap.size, 0, none⟩) 1 1) (w.alloc (.cells #[.slice none 0 0] 166)) := fun _ => by kernel_rfl
  clear hi42 hz0 hz1 hz2
  go_enter Tryz.func142, Tryz.ntmps142
  go_wp2_with fail
  obtain ⟨u, eu⟩ : ∃ u, w.alloc (.cells #[.slice none 0 0] 166) = u := ⟨_, rfl⟩
  have B0 : Below w.heap.size w u := by rw [← eu]; (repeat' (first | (with_reducible exact Below.refl _ _) | (with_reducible assumption) | (with_reducible refine below_drewN ?_ _) | (with_reducible refine Below.drew ?_) | (with_reducible refine Below.alloc ?_ ?_ _) | (with_reducible refine Below.setCell ?_ ?_ _) | omega | (simp; done) | (simp; omega)))
  have k0 : Blk u w.heap.size 166 #[.slice none 0 0] := by rw [← eu]; (repeat' (first | (with_reducible assumption) | (with_reducible exact Blk.new _ _ _) | (exact Blk.newAt (by first | rfl | (simp; done) | omega)) | (with_reducible refine Blk.drewN ?_ _) | (with_reducible refine Blk.drew ?_) | (with_reducible refine Blk.alloc ?_ _) | (with_reducible apply Blk.set_) | (with_reducible refine Blk.far ?_ ?_ _) | rfl | omega | (simp; done) | (simp; omega)))
  have s0 := HS.out.below B0 (Nat.le_refl _)
  have hN : ∀ j v, sqv[j]? = some v → u.cell? ((⟨gp, 0, none⟩ : Addr).add j) = some v := fun j v hj => by have h9 := s0.2 j v hj; cases j <;> simpa [Addr.add] using h9
  have lgl0 := s0.lt1
  have qc0 := s0.1
  have HN := Lib.hid hN
  have K0 := Lib.hid k0
  have b0s := B0.size
  rw [eu]
  clear eu hN qb0_0 qb0_1 qb0_2 qb0_3 qb0_4 qb0_5 qb0_6 qb0_7 qa0 s0
  refine wp_loop_rounds 2 ?_
  rw [rounds_succ]
  go_wp2_with (at_builtin; refine wpList_append_lies _ rfl (.const (.slice none 0 0)) (.tmp 21) 166 rfl 0 58 i42 _ 2 16 Tryz.underlying166 HI.out.1 HI.out.2.1 HI.out.2.2.1 HI.out.2.2.2 hZ.out (by decide) (.slice none 0 0) 0 [] (by simp [Act.eval]) (World.ownsRow_nil _ _ _ _) ⟨gp, 0, none⟩ 4 cp sqv (by simp [Act.eval]) rfl HN.out sq1 (by decide) (by decide) (by decide) (Nat.zero_le _) _ rfl ?_)
  intro q cq w3 hown hgrow hat hlt
  have k3 := K0.out.grown hgrow (by simp [Value.ownBlock])
  have hB3 : Below w.heap.size w w3 := Below.grown B0 hgrow b0s (by simp [Value.ownBlock])
  have c3 := k3.cell
  have f3 := k3.frozen
  have l3 := k3.lt
  have nq : w.heap.size ≠ q := by
    rcases hat with h | h
    · simp [Value.ownBlock] at h
    · have := K0.out.lt; omega
  have HOW := Lib.hid hown
  have hq : ∀ j v, sqv[j]? = some v → w3.cell? ⟨q, j, none⟩ = some v := fun j v hj => by
    have hj8 : j < 8 := by
      rcases Nat.lt_or_ge j 8 with h | h
      · exact h
      · rw [List.getElem?_eq_none (by simpa [sqv] using h)] at hj; cases hj
    have h9 := hown.cellAt j (by omega)
    rw [h9]
    simpa using hj
  have HQ := Lib.hid hq
  clear hown hgrow hat hlt hq
  go_wp2_with fail
  rw [rounds_succ]
  go_wp2_with fail
  go_ret
  refine ⟨w.heap.size, q, cq, rfl, ⟨?_, ?_⟩, by (repeat' (first | (with_reducible exact Below.refl _ _) | (with_reducible assumption) | (with_reducible refine below_drewN ?_ _) | (with_reducible refine Below.drew ?_) | (with_reducible refine Below.alloc ?_ ?_ _) | (with_reducible refine Below.setCell ?_ ?_ _) | omega | (simp; done) | (simp; omega)))⟩
  · exact (k3.set_ 0 (.slice (some ⟨q, 0, none⟩) 4 cq) rfl).cell 0
  · intro j v hj
    exact (World.cell?_setCell_other _ _ _ _ (by intro h; injection h with h1 h2; exact nq (by first | exact h1 | exact h1.symm))).trans (HQ.out j v hj)
end Go.Proofs.YtfajckkbinbpiaaGreatDoor
namespace Go.Proofs.YtfajckkbinbpiaaGreatDoor
open Go.RowKit
set_option linter.unusedVariables false
set_option linter.unusedSimpArgs false

theorem SqAt.ne_blk {w : World} {gl gp cp b : Nat} {x : Value} (h : SqAt w gl gp cp) (hc : w.cell? ⟨b, 0, none⟩ = some x) (h1 : ∀ p n c, x ≠ .slice p n c) (h2 : x ≠ .int .i64 (-20000000)) : gl ≠ b ∧ gp ≠ b := by
  constructor
  · rintro rfl
    have h3 := h.1
    rw [hc] at h3
    injection h3 with h3
    exact h1 _ _ _ h3
  · rintro rfl
    have h3 := h.2 0 _ rfl
    rw [hc] at h3
    injection h3 with h3
    exact h2 h3
set_option maxRecDepth 100000 in
set_option maxHeartbeats 4000000 in
theorem copy_sq (gl cl gp cp : Nat) (w : World) (hS : SqAt w gl gp cp) :
    Calls Tryz.prog 89 #[.agg #[.int .i64 2, .int .i64 0, .int .i64 0, .int .i64 0, .int .i64 0, .int .i64 0, .int .i64 0, .int .i64 0, .slice (some ⟨gl, 0, none⟩) 1 cl, .slice none 0 0]] w fun e w' => ∃ gl2 gp2 cp2, e = .returned (.agg #[.int .i64 2, .int .i64 0, .int .i64 0, .int .i64 0, .int .i64 0, .int .i64 0, .int .i64 0, .int .i64 0, .slice (some ⟨gl2, 0, none⟩) 1 1, .slice none 0 0]) ∧ SqAt w' gl2 gp2 cp2 ∧ Below w.heap.size w w' := by
  have HS := Lib.hid hS
  clear hS
  go_enter Tryz.func89, Tryz.ntmps89
  go_wp2_with fail
  refine (count_sq _ _ _ _).mono ?_
  rintro e w1 ⟨rfl, hb⟩
  have hB1 : Below w.heap.size w w1 := Below.trans (by (repeat' (first | (with_reducible exact Below.refl _ _) | (with_reducible assumption) | (with_reducible refine below_drewN ?_ _) | (with_reducible refine Below.drew ?_) | (with_reducible refine Below.alloc ?_ ?_ _) | (with_reducible refine Below.setCell ?_ ?_ _) | omega | (simp; done) | (simp; omega)))) (hb.mono (by first | omega | (simp; done) | (simp; omega)))
  have k1_0 : Blk w1 (w.heap.size) 62 #[.int .i64 2, .int .i64 0, .int .i64 0, .int .i64 0, .int .i64 0, .int .i64 0, .int .i64 0, .int .i64 0, .slice (some ⟨gl, 0, none⟩) 1 cl, .slice none 0 0] := Blk.below (by (repeat' (first | (with_reducible assumption) | (with_reducible exact Blk.new _ _ _) | (exact Blk.newAt (by first | rfl | (simp; done) | omega)) | (with_reducible refine Blk.drewN ?_ _) | (with_reducible refine Blk.drew ?_) | (with_reducible refine Blk.alloc ?_ _) | (with_reducible apply Blk.set_) | (with_reducible refine Blk.far ?_ ?_ _) | rfl | omega | (simp; done) | (simp; omega)))) hb (by first | omega | (simp; done) | (simp; omega))
  have k1_1 : Blk w1 (w.heap.size + 1) 62 #[.int .i64 0, .int .i64 0, .int .i64 0, .int .i64 0, .int .i64 0, .int .i64 0, .int .i64 0, .int .i64 0, .slice none 0 0, .slice none 0 0] := Blk.below (by (repeat' (first | (with_reducible assumption) | (with_reducible exact Blk.new _ _ _) | (exact Blk.newAt (by first | rfl | (simp; done) | omega)) | (with_reducible refine Blk.drewN ?_ _) | (with_reducible refine Blk.drew ?_) | (with_reducible refine Blk.alloc ?_ _) | (with_reducible apply Blk.set_) | (with_reducible refine Blk.far ?_ ?_ _) | rfl | omega | (simp; done) | (simp; omega)))) hb (by first | omega | (simp; done) | (simp; omega))
  have c1_0 := k1_0.cell
  have f1_0 := k1_0.frozen
  have l1_0 := k1_0.lt
  have c1_1 := k1_1.cell
  have f1_1 := k1_1.frozen
  have l1_1 := k1_1.lt
  have l1 := hB1.size
  clear hb
  obtain ⟨v, ev⟩ : ∃ v, w1.alloc (.cells #[.pointer (some ⟨w.heap.size, 0, none⟩)] 252) = v := ⟨_, rfl⟩
  have hBv : Below w.heap.size w v := by rw [← ev]; (repeat' (first | (with_reducible exact Below.refl _ _) | (with_reducible assumption) | (with_reducible refine below_drewN ?_ _) | (with_reducible refine Below.drew ?_) | (with_reducible refine Below.alloc ?_ ?_ _) | (with_reducible refine Below.setCell ?_ ?_ _) | omega | (simp; done) | (simp; omega)))
  have k0 : Blk v w.heap.size 62 #[.int .i64 2, .int .i64 0, .int .i64 0, .int .i64 0, .int .i64 0, .int .i64 0, .int .i64 0, .int .i64 0, .slice (some ⟨gl, 0, none⟩) 1 cl, .slice none 0 0] := by rw [← ev]; (repeat' (first | (with_reducible assumption) | (with_reducible exact Blk.new _ _ _) | (exact Blk.newAt (by first | rfl | (simp; done) | omega)) | (with_reducible refine Blk.drewN ?_ _) | (with_reducible refine Blk.drew ?_) | (with_reducible refine Blk.alloc ?_ _) | (with_reducible apply Blk.set_) | (with_reducible refine Blk.far ?_ ?_ _) | rfl | omega | (simp; done) | (simp; omega)))
  have k1 : Blk v (w.heap.size + 1) 62 #[.int .i64 0, .int .i64 0, .int .i64 0, .int .i64 0, .int .i64 0, .int .i64 0, .int .i64 0, .int .i64 0, .slice none 0 0, .slice none 0 0] := by rw [← ev]; (repeat' (first | (with_reducible assumption) | (with_reducible exact Blk.new _ _ _) | (exact Blk.newAt (by first | rfl | (simp; done) | omega)) | (with_reducible refine Blk.drewN ?_ _) | (with_reducible refine Blk.drew ?_) | (with_reducible refine Blk.alloc ?_ _) | (with_reducible apply Blk.set_) | (with_reducible refine Blk.far ?_ ?_ _) | rfl | omega | (simp; done) | (simp; omega)))
  have kT : Blk v w1.heap.size 252 #[.pointer (some ⟨w.heap.size, 0, none⟩)] := by rw [← ev]; (repeat' (first | (with_reducible assumption) | (with_reducible exact Blk.new _ _ _) | (exact Blk.newAt (by first | rfl | (simp; done) | omega)) | (with_reducible refine Blk.drewN ?_ _) | (with_reducible refine Blk.drew ?_) | (with_reducible refine Blk.alloc ?_ _) | (with_reducible apply Blk.set_) | (with_reducible refine Blk.far ?_ ?_ _) | rfl | omega | (simp; done) | (simp; omega)))
  have sv := HS.out.below hBv (Nat.le_refl _)
  have c0 := k0.cell
  have f0 := k0.frozen
  have l0 := k0.lt
  have cT := kT.cell
  have lT := kT.lt
  have lw1 := hB1.size
  have lv1 := k1.lt
  have K0 := Lib.hid k0
  have K1 := Lib.hid k1
  have SV := Lib.hid sv
  have HBV := Lib.hid hBv
  clear c1_0 c1_1 f1_0 f1_1 k1_0 k1_1 k0 k1 kT sv hBv hB1
  go_wp2_with fail
  clear ev
  refine wp_loop_rounds 2 ?_
  rw [rounds_succ]
  go_wp2_with fail
  refine (pcontours_sq gl cl gp cp v SV.out).mono ?_
  rintro e w2 ⟨gl2, gp2, cp2, rfl, s2, hb⟩
  have k2 := K0.out.below hb l0
  have k3 := K1.out.below hb lv1
  have hB2 : Below w.heap.size w w2 := HBV.out.trans (hb.mono HBV.out.size)
  have c2 := k2.cell
  have f2 := k2.frozen
  have l2 := k2.lt
  have c3 := k3.cell
  have f3 := k3.frozen
  have l3 := k3.lt
  have n0 := s2.ne_blk (b := w.heap.size) (k2.cell 0) (by intro p n c h; cases h) (by intro h; injection h with h1 h2; exact absurd h2 (by decide))
  have n1 := s2.ne_blk (b := w.heap.size + 1) (k3.cell 0) (by intro p n c h; cases h) (by intro h; injection h with h1 h2; exact absurd h2 (by decide))
  have K2 := Lib.hid k2
  have K3 := Lib.hid k3
  have S2 := Lib.hid s2
  have HB2 := Lib.hid hB2
  have N0 := Lib.hid n0
  have N1 := Lib.hid n1
  clear hb k2 k3 s2 n0 n1 hB2 c0 f0 l0 cT lT
  go_wp2_with fail
  rw [rounds_succ]
  go_wp2_with fail
  refine bodyPost_ret (results_cell_row (t := 62) Tryz.results89 _ _ (w.heap.size + 1) #[.int .i64 2, .int .i64 0, .int .i64 0, .int .i64 0, .int .i64 0, .int .i64 0, .int .i64 0, .int .i64 0, .slice (some ⟨gl2, 0, none⟩) 1 1, .slice none 0 0] (0, 0) _ (by rfl) ?_ Tryz.underlying62 rfl (by kernel_rfl)) rfl ⟨gl2, gp2, cp2, rfl, ?_, ?_⟩
  · exact ((((((((((((K3.out.far (by simp) _).far (by simp) _).set_ 0 _ rfl).set_ 1 _ rfl).set_ 2 _ rfl).set_ 3 _ rfl).set_ 4 _ rfl).set_ 5 _ rfl).set_ 6 _ rfl).set_ 7 _ rfl).set_ 8 _ rfl).set_ 9 _ rfl)
  · exact ((((((((((((S2.out).far (by simpa using N0.out.1) (by simpa using N0.out.2) _).far (by simpa using N0.out.1) (by simpa using N0.out.2) _).far (by simpa using N1.out.1) (by simpa using N1.out.2) _).far (by simpa using N1.out.1) (by simpa using N1.out.2) _).far (by simpa using N1.out.1) (by simpa using N1.out.2) _).far (by simpa using N1.out.1) (by simpa using N1.out.2) _).far (by simpa using N1.out.1) (by simpa using N1.out.2) _).far (by simpa using N1.out.1) (by simpa using N1.out.2) _).far (by simpa using N1.out.1) (by simpa using N1.out.2) _).far (by simpa using N1.out.1) (by simpa using N1.out.2) _).far (by simpa using N1.out.1) (by simpa using N1.out.2) _).far (by simpa using N1.out.1) (by simpa using N1.out.2) _
  · have := HB2.out
    (repeat' (first | (with_reducible exact Below.refl _ _) | (with_reducible assumption) | (with_reducible refine below_drewN ?_ _) | (with_reducible refine Below.drew ?_) | (with_reducible refine Below.alloc ?_ ?_ _) | (with_reducible refine Below.setCell ?_ ?_ _) | omega | (simp; done) | (simp; omega)))
end Go.Proofs.YtfajckkbinbpiaaGreatDoor
namespace Go.Proofs.YtfajckkbinbpiaaGreatDoor
open Go.RowKit
set_option linter.unusedVariables false
set_option linter.unusedSimpArgs false

set_option maxRecDepth 100000 in
set_option maxHeartbeats 4000000 in
theorem add_2 (P gL capL B n : Nat) (mk bud k x y r : Int) (dk : Bool) (lp : Option Addr) (ln lc : Nat) {v0 v1 v2 v3 v4 v5 v6 v7 v8 v9 v10 v11 v12 v13 v14 v15 v16 v17 v18 v19 v20 v24 : Value} (ov : Value) (lcs : Array Value) (xs : List Value) (w : World)
    (hP : Blk w P 159 #[v0, v1, v2, v3, v4, v5, v6, v7, v8, v9, v10, v11, v12, v13, v14, v15, v16, v17, v18, v19, v20, .slice (some ⟨gL, 0, none⟩) 2 capL, .int .i64 mk, .int .i64 bud, v24]) (hL : Blk w gL 162 lcs) (ho : lcs[13]? = some ov) (hov : w.ownsRow B 65 11 ov n xs) (hm0 : 0 ≤ mk) (hm1 : mk < bud) (hm2 : bud ≤ 100000) (hn : n ≤ 100000) (hB : B ≤ w.heap.size)
    (hok : Calls Tryz.prog 171 #[.agg #[.int .i64 k, .int .i64 x, .int .i64 y, .int .i64 0, .int .i64 0, .int .i64 0, .int .i64 0, .int .i64 r, .slice lp ln lc, .slice none 0 0]] (w.alloc (.cells #[.int .i64 k, .int .i64 x, .int .i64 y, .int .i64 0, .int .i64 0, .int .i64 0, .int .i64 0, .int .i64 r, .slice lp ln lc, .slice none 0 0] 62)) fun e w' => e = .returned (.bool true) ∧ Below (w.heap.size + 1) (w.alloc (.cells #[.int .i64 k, .int .i64 x, .int .i64 y, .int .i64 0, .int .i64 0, .int .i64 0, .int .i64 0, .int .i64 r, .slice lp ln lc, .slice none 0 0] 62)) w') :
    Calls Tryz.prog 161 #[.pointer (some ⟨P, 0, none⟩), .bool dk, .agg #[.int .i64 k, .int .i64 x, .int .i64 y, .int .i64 0, .int .i64 0, .int .i64 0, .int .i64 0, .int .i64 r, .slice lp ln lc, .slice none 0 0]] w fun e w' => ∃ g cap, e = .returned (.int .i64 0) ∧ Added P gL 13 B n #[v0, v1, v2, v3, v4, v5, v6, v7, v8, v9, v10, v11, v12, v13, v14, v15, v16, v17, v18, v19, v20, .slice (some ⟨gL, 0, none⟩) 2 capL, .int .i64 (mk + 1), .int .i64 bud, v24] lcs ov (xs ++ [.bool dk, .int .i64 k, .int .i64 x, .int .i64 y, .int .i64 0, .int .i64 0, .int .i64 0, .int .i64 0, .int .i64 r, .slice lp ln lc, .slice none 0 0]) g cap w w' := by
  obtain ⟨op, oc, rfl⟩ := own_form hov
  have hne := hP.ne_ hL (by decide)
  have lL := hL.lt
  have l := hP.lt
  have c := hP.cell
  have f := hP.frozen
  have HOK := Lib.hid hok
  have HP := Lib.hid hP
  have HL := Lib.hid hL
  have HO := Lib.hid ho
  have HOV := Lib.hid hov
  have HB := Lib.hid hB
  clear hok hP hL ho hov hB
  go_enter Tryz.func161, Tryz.ntmps161
  go_wp2_with fail
  refine (HOK.out).mono ?_
  rintro e w1 ⟨rfl, hb⟩
  have k1 := (HP.out.alloc (.cells #[.int .i64 k, .int .i64 x, .int .i64 y, .int .i64 0, .int .i64 0, .int .i64 0, .int .i64 0, .int .i64 r, .slice lp ln lc, .slice none 0 0] 62)).below hb (by omega)
  have k2 := (HL.out.alloc (.cells #[.int .i64 k, .int .i64 x, .int .i64 y, .int .i64 0, .int .i64 0, .int .i64 0, .int .i64 0, .int .i64 r, .slice lp ln lc, .slice none 0 0] 62)).below hb (by omega)
  have k3 : Blk w1 w.heap.size 62 #[.int .i64 k, .int .i64 x, .int .i64 y, .int .i64 0, .int .i64 0, .int .i64 0, .int .i64 0, .int .i64 r, .slice lp ln lc, .slice none 0 0] := (Blk.new w 62 #[.int .i64 k, .int .i64 x, .int .i64 y, .int .i64 0, .int .i64 0, .int .i64 0, .int .i64 0, .int .i64 r, .slice lp ln lc, .slice none 0 0]).below hb (by omega)
  have hov1 : w1.ownsRow B 65 11 (.slice op n oc) n xs := own_below (HOV.out.alloc (.cells #[.int .i64 k, .int .i64 x, .int .i64 y, .int .i64 0, .int .i64 0, .int .i64 0, .int .i64 0, .int .i64 r, .slice lp ln lc, .slice none 0 0] 62)) hb (by simp)
  have hO1 : Only [P, gL] w w1 := ((Only.refl _ _).alloc _).below hb (by omega)
  have c1 := k1.cell
  have f1 := k1.frozen
  have l1 := k1.lt
  have cO : w1.cell? ⟨gL, 13, none⟩ = some (.slice op n oc) := (k2.cell 13).trans HO.out
  have fO : w1.frozen? ⟨gL, 13, none⟩ = false := k2.frozen 13
  have lO := k2.lt
  have c3 := k3.cell
  have f3 := k3.frozen
  have l3 := k3.lt
  have HK1 := Lib.hid k1
  have HK2 := Lib.hid k2
  have HK3 := Lib.hid k3
  have HOV1 := Lib.hid hov1
  have HO1 := Lib.hid hO1
  have d1 : decide (bud ≤ mk) = false := by simp; omega
  clear k1 k2 k3 hb c f hov1 hO1
  go_wp2_with fail
  go_region
  go_wp2_with fail
  go_region
  go_wp2_with fail
  obtain ⟨u, eu⟩ : ∃ u, (w1.setCell ⟨P, 22, none⟩ (.int .i64 (mk + 1))).drew.drew = u := ⟨_, rfl⟩
  have u1 : Blk u P 159 #[v0, v1, v2, v3, v4, v5, v6, v7, v8, v9, v10, v11, v12, v13, v14, v15, v16, v17, v18, v19, v20, .slice (some ⟨gL, 0, none⟩) 2 capL, .int .i64 (mk + 1), .int .i64 bud, v24] := by rw [← eu]; exact (HK1.out.set_ 22 _ rfl).drew.drew
  have u2 : Blk u gL 162 lcs := by rw [← eu]; exact (HK2.out.far (by simpa using Ne.symm hne) _).drew.drew
  have u3 : Blk u w.heap.size 62 #[.int .i64 k, .int .i64 x, .int .i64 y, .int .i64 0, .int .i64 0, .int .i64 0, .int .i64 0, .int .i64 r, .slice lp ln lc, .slice none 0 0] := by rw [← eu]; exact (HK3.out.far (by simp; omega) _).drew.drew
  have u4 : u.ownsRow B 65 11 (.slice op n oc) n xs := by
    rw [← eu]
    exact (own_far HOV1.out (by have := own_blk_ne HOV1.out HK1.out (by decide); simpa using this) _).drew.drew
  have u5 : Only [P, gL] w u := by rw [← eu]; exact ((HO1.out.setCell (by simp) _).drew).drew
  have us : w1.heap.size ≤ u.heap.size := by rw [← eu]; simp
  rw [eu]
  clear eu
  have cO : u.cell? ⟨gL, 13, none⟩ = some (.slice op n oc) := (u2.cell 13).trans HO.out
  have fO : u.frozen? ⟨gL, 13, none⟩ = false := u2.frozen 13
  have lO := u2.lt
  have c3 := u3.cell
  have f3 := u3.frozen
  have l3 := u3.lt
  have hown0 : ((u.alloc (.cells #[.bool false, .int .i64 0, .int .i64 0, .int .i64 0, .int .i64 0, .int .i64 0, .int .i64 0, .int .i64 0, .int .i64 0, .slice none 0 0, .slice none 0 0] 65)).drew).ownsRow B 65 11 (.slice op n oc) n xs := (u4.alloc _).drew
  have hN : ∀ j v, ([.bool false, .int .i64 0, .int .i64 0, .int .i64 0, .int .i64 0, .int .i64 0, .int .i64 0, .int .i64 0, .int .i64 0, .slice none 0 0, .slice none 0 0] : List Value)[j]? = some v → ((u.alloc (.cells #[.bool false, .int .i64 0, .int .i64 0, .int .i64 0, .int .i64 0, .int .i64 0, .int .i64 0, .int .i64 0, .int .i64 0, .slice none 0 0, .slice none 0 0] 65)).drew).cell? ((⟨u.heap.size, 0, none⟩ : Addr).add j) = some v :=
    World.news_of_block (cs := #[.bool false, .int .i64 0, .int .i64 0, .int .i64 0, .int .i64 0, .int .i64 0, .int .i64 0, .int .i64 0, .int .i64 0, .slice none 0 0, .slice none 0 0]) (Blk.newAt (w := u) rfl)
  have hO : ∀ v ∈ ([.bool false, .int .i64 0, .int .i64 0, .int .i64 0, .int .i64 0, .int .i64 0, .int .i64 0, .int .i64 0, .int .i64 0, .slice none 0 0, .slice none 0 0] : List Value), v.oneCell' = true := by
    intro v hv
    simp only [List.mem_cons, List.not_mem_nil, or_false] at hv
    rcases hv with rfl | rfl | rfl | rfl | rfl | rfl | rfl | rfl | rfl | rfl | rfl <;> rfl
  have hO2 : ∀ v ∈ ([.bool dk, .int .i64 k, .int .i64 x, .int .i64 y, .int .i64 0, .int .i64 0, .int .i64 0, .int .i64 0, .int .i64 r, .slice lp ln lc, .slice none 0 0] : List Value), v.oneCell' = true := by
    intro v hv
    simp only [List.mem_cons, List.not_mem_nil, or_false] at hv
    rcases hv with rfl | rfl | rfl | rfl | rfl | rfl | rfl | rfl | rfl | rfl | rfl <;> rfl
  have hcl : n + 1 ≤ maxLen ∧ (n + 1) * 120 ≤ 140737488355328 := by unfold maxLen; omega
  have hsz : B ≤ ((u.alloc (.cells #[.bool false, .int .i64 0, .int .i64 0, .int .i64 0, .int .i64 0, .int .i64 0, .int .i64 0, .int .i64 0, .int .i64 0, .slice none 0 0, .slice none 0 0] 65)).drew).heap.size := by have := HB.out; simp; omega
  obtain ⟨i48, hi48, hz0, hz1, hz2⟩ := info_parts info48
  have HI := Lib.hid (And.intro hi48 (And.intro hz0 (And.intro hz1 hz2)))
  have hZ : Hid ((Value.agg #[.bool false, .int .i64 0, .int .i64 0, .int .i64 0, .int .i64 0, .int .i64 0, .int .i64 0, .int .i64 0, .int .i64 0, .slice none 0 0, .slice none 0 0]).cells.size = 11) := Lib.hid (by kernel_rfl)
  have HU1 := Lib.hid u1
  have HU2 := Lib.hid u2
  have HU4 := Lib.hid u4
  have HU5 := Lib.hid u5
  have HOWN := Lib.hid hown0
  have HN := Lib.hid hN
  have HOO := Lib.hid hO
  have HOO2 := Lib.hid hO2
  have HCL := Lib.hid hcl
  have HSZ := Lib.hid hsz
  clear u1 u2 u3 u4 u5 hown0 hN hO hO2 hcl hsz hi48 hz0 hz1 hz2 c1 f1 l1
  have hnn : (n : Int) < (n : Int) + 1 := by omega
  go_region_law (refine step_append_lies _ rfl (.tmp 41) (.tmp 46) 47 rfl B 65 i48 _ 11 120 Tryz.underlying47 HI.out.1 HI.out.2.1 HI.out.2.2.1 HI.out.2.2.2 hZ.out (by decide) (.slice op n oc) n xs (by simp [Act.eval, Act.put]) HOWN.out ⟨u.heap.size, 0, none⟩ 1 1 [.bool false, .int .i64 0, .int .i64 0, .int .i64 0, .int .i64 0, .int .i64 0, .int .i64 0, .int .i64 0, .int .i64 0, .slice none 0 0, .slice none 0 0] (by simp [Act.eval, Act.put]) rfl HN.out HOO.out (by decide) HCL.out.1 HCL.out.2 HSZ.out _ rfl ?_; intro g cap w3 hown hgrow hat hlt; obtain ⟨⟨cO3, fO3, ngL⟩, q, fq, hA4, hA5⟩ := add_arm (OB := [.bool dk, .int .i64 k, .int .i64 x, .int .i64 y, .int .i64 0, .int .i64 0, .int .i64 0, .int .i64 0, .int .i64 r, .slice lp ln lc, .slice none 0 0]) rfl HU1.out HU2.out HU4.out HU5.out HO.out hown hgrow hat rfl HOO2.out; simp only [World.setCells, Nat.add_assoc, Nat.reduceAdd] at hA4 hA5; have HA4 := Lib.hid hA4; have HA5 := Lib.hid hA5; have q0 := q 0 (by decide); have q1 := q 1 (by decide); have q2 := q 2 (by decide); have q3 := q 3 (by decide); have q4 := q 4 (by decide); have q5 := q 5 (by decide); have q6 := q 6 (by decide); have q7 := q 7 (by decide); have q8 := q 8 (by decide); have q9 := q 9 (by decide); have q10 := q 10 (by decide); simp only [List.getElem?_cons_zero, List.getElem?_cons_succ, Nat.add_zero] at q0 q1 q2 q3 q4 q5 q6 q7 q8 q9 q10; have f0 : w3.frozen? ⟨g, n * 11, none⟩ = false := fq 0; clear q hown hgrow hat hA4 hA5)
  all_goals
    go_wp2_with fail
    go_ret
    refine ⟨g, cap, rfl, ?_⟩
    first | (with_reducible exact HA4.out) | (with_reducible exact HA5.out)
end Go.Proofs.YtfajckkbinbpiaaGreatDoor
