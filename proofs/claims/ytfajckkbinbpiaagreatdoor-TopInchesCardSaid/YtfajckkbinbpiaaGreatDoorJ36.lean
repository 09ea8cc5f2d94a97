/- Walks: package aper: the one square. Walks: the one square is moved by nothing. -/
import Derived.Test.YtfajckkbinbpiaaGreatDoorJ01
import Derived.Test.YtfajckkbinbpiaaGreatDoorJ02
import Derived.Test.YtfajckkbinbpiaaGreatDoorJ07
import Derived.Test.YtfajckkbinbpiaaGreatDoorJ09
import Derived.Test.YtfajckkbinbpiaaGreatDoorJ16
import Derived.Test.YtfajckkbinbpiaaGreatDoorJ25
namespace Go.Proofs.YtfajckkbinbpiaaGreatDoor
set_option maxRecDepth 100000
set_option maxHeartbeats 32000000
set_option linter.unusedVariables false
set_option linter.unusedSimpArgs false
open Go.RowKit
theorem SqAt.ne_int {w : World} {gl gp cp b : Nat} {i : Int} (h : SqAt w gl gp cp) (hc : w.cell? ⟨b, 0, none⟩ = some (.int .i64 i)) (hi : i ≠ -20000000) : gl ≠ b ∧ gp ≠ b := by
  constructor
  · rintro rfl
    have h3 := h.1
    rw [hc] at h3
    cases h3
  · rintro rfl
    have h3 := h.2 0 _ rfl
    rw [hc] at h3
    injection h3 with h3
    injection h3 with h3 h4
    exact hi h4
theorem SqAt.ne_map {w : World} {gl gp cp M : Nat} {es : Array MapEntry} {clk : Nat} (h : SqAt w gl gp cp) (hM : IsMap w M es clk) : gl ≠ M ∧ gp ≠ M := by
  unfold IsMap at hM
  constructor
  · rintro rfl
    have h3 := h.1
    simp [World.cell?, hM] at h3
  · rintro rfl
    have h3 := h.2 0 _ rfl
    simp [World.cell?, hM] at h3
theorem SqAt.grown' {w w' : World} {gl gp cp : Nat} {row : Option Nat} (h : SqAt w gl gp cp) (hg : w.grownBy w' row) (h1 : some gl ≠ row) (h2 : some gp ≠ row) : SqAt w' gl gp cp := h.same (hg.block _ h.lt1 h1) (hg.block _ h.lt2 h2)
theorem rectangle_c (w : World) : Calls Tryz.prog 203 #[.int .i64 20000000, .int .i64 20000000] w fun e w' => ∃ gl gp cp, e = .returned (.agg #[.int .i64 2, .int .i64 0, .int .i64 0, .int .i64 0, .int .i64 0, .int .i64 0, .int .i64 0, .int .i64 0, .slice (some ⟨gl, 0, none⟩) 1 1, .slice none 0 0]) ∧ SqAt w' gl gp cp ∧ Below w.heap.size w w' := by
  obtain ⟨u, eu⟩ : ∃ u, ((w.alloc (.cells #[.int .i64 0, .int .i64 0, .int .i64 0, .int .i64 0, .int .i64 0, .int .i64 0, .int .i64 0, .int .i64 0, .slice none 0 0, .slice none 0 0] 62)).alloc (.cells #[.int .i64 (-20000000), .int .i64 (-20000000), .int .i64 20000000, .int .i64 (-20000000), .int .i64 20000000, .int .i64 20000000, .int .i64 (-20000000), .int .i64 20000000] 58)).alloc (.cells #[.slice (some ⟨w.heap.size + 1, 0, none⟩) 4 4] 166) = u := ⟨_, rfl⟩
  have k0 : Blk u w.heap.size 62 #[.int .i64 0, .int .i64 0, .int .i64 0, .int .i64 0, .int .i64 0, .int .i64 0, .int .i64 0, .int .i64 0, .slice none 0 0, .slice none 0 0] := by rw [← eu]; exact bkw
  have k1 : Blk u (w.heap.size + 1) 58 #[.int .i64 (-20000000), .int .i64 (-20000000), .int .i64 20000000, .int .i64 (-20000000), .int .i64 20000000, .int .i64 20000000, .int .i64 (-20000000), .int .i64 20000000] := by rw [← eu]; exact bkw
  have k2 : Blk u (w.heap.size + 1 + 1) 166 #[.slice (some ⟨w.heap.size + 1, 0, none⟩) 4 4] := by rw [← eu]; exact bkw
  have B0 : Below w.heap.size w u := by rw [← eu]; exact blw
  have K0 := Lib.hid k0
  have K1 := Lib.hid k1
  have K2 := Lib.hid k2
  have B0 := Lib.hid B0
  have EU := Lib.hid eu
  clear k0 k1 k2 eu
  go_enter Tryz.func203, Tryz.ntmps203
  go_wp2_with (refine wpList_storeBlk rfl 62 (.tmp 4) (.tmp 23) rfl rfl w.heap.size #[.int .i64 2, .int .i64 0, .int .i64 0, .int .i64 0, .int .i64 0, .int .i64 0, .int .i64 0, .int .i64 0, .slice (some ⟨w.heap.size + 1 + 1, 0, none⟩) 1 1, .slice none 0 0] (by simp [Act.eval]) (by simp [Act.eval]) 62 #[.int .i64 0, .int .i64 0, .int .i64 0, .int .i64 0, .int .i64 0, .int .i64 0, .int .i64 0, .int .i64 0, .slice none 0 0, .slice none 0 0] (by rw [EU.out]; exact K0.out) (by kernel_rfl) (by kernel_rfl) (by kernel_rfl) ?_)
  intro w3 k3 hgr
  rw [EU.out] at hgr
  have j1 := Blk.grown' K1.out hgr (by intro e; injection e with e; omega)
  have j2 := Blk.grown' K2.out hgr (by intro e; injection e with e; omega)
  have hB3 : Below w.heap.size w w3 := Below.grown B0.out hgr B0.out.size (by intro q hq; injection hq with hq; omega)
  clear hgr
  go_wp2_with fail
  refine bodyPost_ret (results_cell_row (t := 62) Tryz.results203 _ _ w.heap.size #[.int .i64 2, .int .i64 0, .int .i64 0, .int .i64 0, .int .i64 0, .int .i64 0, .int .i64 0, .int .i64 0, .slice (some ⟨w.heap.size + 1 + 1, 0, none⟩) 1 1, .slice none 0 0] (0, 0) _ (by rfl) k3 Tryz.underlying62 rfl (by kernel_rfl)) rfl ⟨w.heap.size + 1 + 1, w.heap.size + 1, 4, rfl, ⟨j2.cell 0, ?_⟩, hB3⟩
  intro j v hj
  rw [j1.cell j]
  simpa [sqv] using hj
theorem make_R (g cap : Nat) (w : World) (hc : w.cell? ⟨g, 0, none⟩ = some (.int .i64 4000000)) (hd : w.cell? ⟨g, 1, none⟩ = some (.int .i64 4000000)) (hg : g < w.heap.size) : Calls Tryz.prog 158 #[.string { data := #[82] }, .slice (some ⟨g, 0, none⟩) 2 cap, .int .i64 1, .slice none 0 0] w fun e w' => ∃ gl gp cp, e = .returned (.tuple #[.agg #[.int .i64 2, .int .i64 0, .int .i64 0, .int .i64 0, .int .i64 0, .int .i64 0, .int .i64 0, .int .i64 0, .slice (some ⟨gl, 0, none⟩) 1 1, .slice none 0 0, .int .i64 0], .int .i64 0]) ∧ SqAt w' gl gp cp ∧ Below w.heap.size w w' := by
  have h1 := fun w => grain_c 4000000 w (by omega) (by omega)
  have H1 := Lib.hid h1
  clear h1
  go_enter Tryz.func158, Tryz.ntmps158
  go_wp2_with fail
  refine wp_loop_rounds 3 ?_
  rw [rounds_succ]
  go_wp2_with (go_at_call 166; ((with_reducible refine (H1.out _).mono ?_); rintro e w' ⟨rfl, rfl⟩))
  rw [rounds_succ]
  go_wp2_with (go_at_call 166; ((with_reducible refine (H1.out _).mono ?_); rintro e w' ⟨rfl, rfl⟩))
  rw [rounds_succ]
  go_wp2_with fail
  refine (rectangle_c _).mono ?_
  rintro e w1 ⟨gl, gp, cp, rfl, hs, hb⟩
  have hB1 : Below w.heap.size w w1 := Below.trans (by exact blw) (hb.mono (by first | omega | (simp; done) | (simp; omega)))
  have k1_0 : Blk w1 (w.heap.size) 276 #[.int .i64 0, .int .i64 0, .int .i64 0, .int .i64 0, .int .i64 0, .int .i64 0, .int .i64 0, .int .i64 0, .slice none 0 0, .slice none 0 0, .int .i64 0] := Blk.below (by exact bkw) hb (by first | omega | (simp; done) | (simp; omega))
  have k1_1 : Blk w1 (w.heap.size + 1) 319 #[.int .i64 20000000, .int .i64 20000000, .int .i64 0] := Blk.below (by exact bkw) hb (by first | omega | (simp; done) | (simp; omega))
  have k1_2 : Blk w1 (w.heap.size + 1 + 1) 276 #[.int .i64 0, .int .i64 0, .int .i64 0, .int .i64 0, .int .i64 0, .int .i64 0, .int .i64 0, .int .i64 0, .slice none 0 0, .slice none 0 0, .int .i64 0] := Blk.below (by exact bkw) hb (by first | omega | (simp; done) | (simp; omega))
  have c1_0 := k1_0.cell
  have f1_0 := k1_0.frozen
  have l1_0 := k1_0.lt
  have c1_1 := k1_1.cell
  have f1_1 := k1_1.frozen
  have l1_1 := k1_1.lt
  have c1_2 := k1_2.cell
  have f1_2 := k1_2.frozen
  have l1_2 := k1_2.lt
  have l1 := hB1.size
  clear hb
  have HK := Lib.hid k1_2
  have HK0 := Lib.hid k1_0
  have HS := Lib.hid hs
  have nz := hs.ne_int (k1_0.cell 0) (by decide)
  have nz2 := hs.ne_int (k1_2.cell 0) (by decide)
  have NZ := Lib.hid (And.intro nz nz2)
  clear k1_0 k1_1 k1_2 c1_0 f1_0 c1_1 f1_1 c1_2 f1_2 hs nz nz2
  go_wp2_with (refine wpList_storeMid rfl 62 (.tmp 109) (.tmp 108) rfl rfl (w.heap.size + 1 + 1) 0 #[.int .i64 2, .int .i64 0, .int .i64 0, .int .i64 0, .int .i64 0, .int .i64 0, .int .i64 0, .int .i64 0, .slice (some ⟨gl, 0, none⟩) 1 1, .slice none 0 0] (by simp [Act.eval]) (by simp [Act.eval]) 276 #[.int .i64 0, .int .i64 0, .int .i64 0, .int .i64 0, .int .i64 0, .int .i64 0, .int .i64 0, .int .i64 0, .slice none 0 0, .slice none 0 0, .int .i64 0] #[.int .i64 2, .int .i64 0, .int .i64 0, .int .i64 0, .int .i64 0, .int .i64 0, .int .i64 0, .int .i64 0, .slice (some ⟨gl, 0, none⟩) 1 1, .slice none 0 0, .int .i64 0] HK.out (by kernel_rfl) (by kernel_rfl) (by show 0 + 10 ≤ 11; omega) (by kernel_rfl) ?_)
  intro w2 k2 hgr
  have k2_0 := Blk.grown' HK0.out hgr (by intro e; injection e with e; omega)
  have hS2 := HS.out.grown' hgr (by simpa using NZ.out.2.1) (by simpa using NZ.out.2.2)
  have hB2 : Below w.heap.size w w2 := Below.grown hB1 hgr l1 (by intro q hq; injection hq with hq; omega)
  have l2 := hB2.size
  have c2 := k2.cell
  have f2 := k2.frozen
  have l2_2 := k2.lt
  have HK00 := Lib.hid k2_0
  have HS2 := Lib.hid hS2
  have nw := hS2.ne_int (k2_0.cell 0) (by decide)
  have NW := Lib.hid nw
  clear hgr k2_0 k2 hS2 nw
  go_wp2_with (refine wpList_storeBlk rfl 276 (.tmp 8) (.tmp 129) rfl rfl w.heap.size #[.int .i64 2, .int .i64 0, .int .i64 0, .int .i64 0, .int .i64 0, .int .i64 0, .int .i64 0, .int .i64 0, .slice (some ⟨gl, 0, none⟩) 1 1, .slice none 0 0, .int .i64 0] (by simp [Act.eval]) (by simp [Act.eval]) 276 #[.int .i64 0, .int .i64 0, .int .i64 0, .int .i64 0, .int .i64 0, .int .i64 0, .int .i64 0, .int .i64 0, .slice none 0 0, .slice none 0 0, .int .i64 0] HK00.out (by kernel_rfl) (by kernel_rfl) (by kernel_rfl) ?_)
  intro w3 k3 hgr
  have hB3 : Below w.heap.size w w3 := Below.grown hB2 hgr (by simpa using l2) (by intro q hq; injection hq with hq; omega)
  have hS3 := HS2.out.grown' hgr (by simpa using NW.out.1) (by simpa using NW.out.2)
  clear hgr
  go_wp2_with fail
  exact bodyPost_ret (results_row_tmp Tryz.results158 _ _ w.heap.size #[.int .i64 2, .int .i64 0, .int .i64 0, .int .i64 0, .int .i64 0, .int .i64 0, .int .i64 0, .int .i64 0, .slice (some ⟨gl, 0, none⟩) 1 1, .slice none 0 0, .int .i64 0] (by rfl) (run_loadVar_row _ _ 276 276 _ (0, 0) _ k3 Tryz.underlying276 rfl (by kernel_rfl))) rfl ⟨gl, gp, cp, rfl, hS3, hB3⟩
structure AInv (w : World) (P : Nat) (cs : Array Value) (gl cl gp cp : Nat) (W : World) : Prop where
  kS : Blk W w.heap.size 62 #[.int .i64 2, .int .i64 0, .int .i64 0, .int .i64 0, .int .i64 0, .int .i64 0, .int .i64 0, .int .i64 0, .slice (some ⟨gl, 0, none⟩) 1 cl, .slice none 0 0]
  kT : Blk W (w.heap.size + 1) 157 #[.bool false, .bool false, .int .i64 0, .int .i64 0, .int .i64 0]
  kR : Blk W (w.heap.size + 1 + 1) 62 #[.int .i64 0, .int .i64 0, .int .i64 0, .int .i64 0, .int .i64 0, .int .i64 0, .int .i64 0, .int .i64 0, .slice none 0 0, .slice none 0 0]
  kO : Blk W (w.heap.size + 1 + 1 + 1) 62 #[.int .i64 2, .int .i64 0, .int .i64 0, .int .i64 0, .int .i64 0, .int .i64 0, .int .i64 0, .int .i64 0, .slice (some ⟨w.heap.size + 1 + 1 + 1 + 1, 0, none⟩) 1 1, .slice none 0 0]
  kL : Blk W (w.heap.size + 1 + 1 + 1 + 1) 166 #[.slice none 0 0]
  kP : Blk W P 58 cs
  sq : SqAt W gl gp cp
  om : Below w.heap.size w W
  hP : w.heap.size ≤ P
  lgl : gl < w.heap.size
  lgp : gp < w.heap.size
section
variable {w W W' : World} {P gl cl gp cp : Nat} {cs : Array Value}
theorem AInv.below (h : AInv w P cs gl cl gp cp W) (hb : Below W.heap.size W W') : AInv w P cs gl cl gp cp W' :=
  ⟨h.kS.below hb h.kS.lt, h.kT.below hb h.kT.lt, h.kR.below hb h.kR.lt, h.kO.below hb h.kO.lt, h.kL.below hb h.kL.lt, h.kP.below hb h.kP.lt, h.sq.below hb (Nat.le_refl _), h.om.trans (hb.mono h.om.size), h.hP, h.lgl, h.lgp⟩
theorem AInv.alloc (h : AInv w P cs gl cl gp cp W) (o : Obj) : AInv w P cs gl cl gp cp (W.alloc o) := h.below ((Below.refl _ _).alloc (Nat.le_refl _) o)
theorem AInv.setP (h : AInv w P cs gl cl gp cp W) (i : Nat) (u : Value) : AInv w P (cs.setIfInBounds i u) gl cl gp cp (W.setCell ⟨P, i, none⟩ u) :=
  ⟨h.kS.far (by simpa using h.kS.ne_ h.kP (by decide)) _, h.kT.far (by simpa using h.kT.ne_ h.kP (by decide)) _, h.kR.far (by simpa using h.kR.ne_ h.kP (by decide)) _, h.kO.far (by simpa using h.kO.ne_ h.kP (by decide)) _, h.kL.far (by simpa using h.kL.ne_ h.kP (by decide)) _, h.kP.set_ i _ rfl,
   h.sq.far (by have := h.hP; have := h.lgl; simp; omega) (by have := h.hP; have := h.lgp; simp; omega) _, h.om.setCell (by have := h.hP; simpa using this) _, h.hP, h.lgl, h.lgp⟩
end
theorem apply_sq (gl cl gp cp : Nat) (w : World) (hS : SqAt w gl gp cp) :
    Calls Tryz.prog 241 #[.agg #[.int .i64 2, .int .i64 0, .int .i64 0, .int .i64 0, .int .i64 0, .int .i64 0, .int .i64 0, .int .i64 0, .slice (some ⟨gl, 0, none⟩) 1 cl, .slice none 0 0], .agg #[.bool false, .bool false, .int .i64 0, .int .i64 0, .int .i64 0]] w fun e w' => ∃ gl2 gp2 cp2, e = .returned (.agg #[.int .i64 2, .int .i64 0, .int .i64 0, .int .i64 0, .int .i64 0, .int .i64 0, .int .i64 0, .int .i64 0, .slice (some ⟨gl2, 0, none⟩) 1 1, .slice none 0 0]) ∧ SqAt w' gl2 gp2 cp2 ∧ Below w.heap.size w w' := by
  have HS := Lib.hid hS
  have lgl := hS.lt1
  have lgp := hS.lt2
  obtain ⟨qa0, qb0_0, qb0_1, qb0_2, qb0_3, qb0_4, qb0_5, qb0_6, qb0_7⟩ := hS.cells
  clear hS
  have hmk : ∀ w, (Instr.makeSlice 59 (.int .i64 1) (.int .i64 1)).run Tryz.prog w = .ok (.slice (some ⟨w.heap.size, 0, none⟩) 1 1) (w.alloc (.cells #[.slice none 0 0] 166)) := fun _ => by kernel_rfl
  have hmk2 : ∀ w, (Instr.makeSlice 166 (.int .i64 4) (.int .i64 4)).run Tryz.prog w = .ok (.slice (some ⟨w.heap.size, 0, none⟩) 4 4) (w.alloc (.cells #[.int .i64 0, .int .i64 0, .int .i64 0, .int .i64 0, .int .i64 0, .int .i64 0, .int .i64 0, .int .i64 0] 58)) := fun _ => by kernel_rfl
  go_enter Tryz.func241, Tryz.ntmps241
  go_wp2_with fail
  obtain ⟨u, eu⟩ : ∃ u, ((((w.alloc (.cells #[.int .i64 2, .int .i64 0, .int .i64 0, .int .i64 0, .int .i64 0, .int .i64 0, .int .i64 0, .int .i64 0, .slice (some ⟨gl, 0, none⟩) 1 cl, .slice none 0 0] 62)).alloc (.cells #[.bool false, .bool false, .int .i64 0, .int .i64 0, .int .i64 0] 157)).alloc (.cells #[.int .i64 0, .int .i64 0, .int .i64 0, .int .i64 0, .int .i64 0, .int .i64 0, .int .i64 0, .int .i64 0, .slice none 0 0, .slice none 0 0] 62)).alloc (.cells #[.int .i64 2, .int .i64 0, .int .i64 0, .int .i64 0, .int .i64 0, .int .i64 0, .int .i64 0, .int .i64 0, .slice (some ⟨w.heap.size + 1 + 1 + 1 + 1, 0, none⟩) 1 1, .slice none 0 0] 62)).alloc (.cells #[.slice none 0 0] 166) = u := ⟨_, rfl⟩
  have B0 : Below w.heap.size w u := by rw [← eu]; exact blw
  have b0s : u.heap.size = w.heap.size + 5 := by rw [← eu]; simp
  have s0 := HS.out.below B0 (Nat.le_refl _)
  have I0 : AInv w u.heap.size #[.int .i64 0, .int .i64 0, .int .i64 0, .int .i64 0, .int .i64 0, .int .i64 0, .int .i64 0, .int .i64 0] gl cl gp cp (u.alloc (.cells #[.int .i64 0, .int .i64 0, .int .i64 0, .int .i64 0, .int .i64 0, .int .i64 0, .int .i64 0, .int .i64 0] 58)) := by
    refine ⟨?_, ?_, ?_, ?_, ?_, Blk.newAt rfl, s0.alloc _, B0.alloc B0.size _, by omega, lgl, lgp⟩
    all_goals
      rw [← eu]
      exact bkw
  have c0 := s0.1
  have l0 := s0.lt1
  have l0p := s0.lt2
  have lw9 := B0.size
  rw [eu]
  clear eu qa0 qb0_0 qb0_1 qb0_2 qb0_3 qb0_4 qb0_5 qb0_6 qb0_7 b0s
  refine wp_loop_rounds 2 ?_
  rw [rounds_succ]
  go_wp2_with fail
  obtain ⟨v, ev⟩ : ∃ v, u.alloc (.cells #[.int .i64 0, .int .i64 0, .int .i64 0, .int .i64 0, .int .i64 0, .int .i64 0, .int .i64 0, .int .i64 0] 58) = v := ⟨_, rfl⟩
  rw [ev] at I0
  first | rw [ev] | skip
  obtain ⟨P, eP⟩ : ∃ P, u.heap.size = P := ⟨_, rfl⟩
  rw [eP] at I0
  simp only [eP]
  clear ev eP c0 l0 l0p s0 B0 hmk hmk2
  refine wp_loop_rounds 5 ?_
  obtain ⟨qa, qb0, qb1, qb2, qb3, qb4, qb5, qb6, qb7⟩ := I0.sq.cells
  have lq := I0.sq.lt2
  have cT := I0.kT.cell
  have lT := I0.kT.lt
  rw [rounds_succ]
  go_wp2_with fail
  refine (pt_c (-20000000) (-20000000) 0 0 _ (by omega) (by omega) (by omega) (by omega) (by omega) (by omega) (by omega) (by omega)).mono ?_
  rintro e z ⟨rfl, hb⟩
  have J := (I0.alloc (.cells #[.int .i64 (-20000000), .int .i64 (-20000000)] 58)).below hb
  have cP := J.kP.cell
  have fP := J.kP.frozen
  have lP := J.kP.lt
  have I1 : AInv w P #[.int .i64 (-20000000), .int .i64 (-20000000), .int .i64 0, .int .i64 0, .int .i64 0, .int .i64 0, .int .i64 0, .int .i64 0] gl cl gp cp _ := ((J.setP 0 (.int .i64 (-20000000))).setP 1 (.int .i64 (-20000000)))
  clear hb I0 qa qb0 qb1 qb2 qb3 qb4 qb5 qb6 qb7 lq cT lT J
  go_wp2_with fail
  obtain ⟨y0, ey⟩ : ∃ y, (z.setCell ⟨P, 0, none⟩ (.int .i64 (-20000000))).setCell ⟨P, 1, none⟩ (.int .i64 (-20000000)) = y := ⟨_, rfl⟩
  rw [ey] at I1
  rw [ey]
  clear cP fP lP ey
  obtain ⟨qa, qb0, qb1, qb2, qb3, qb4, qb5, qb6, qb7⟩ := I1.sq.cells
  have lq := I1.sq.lt2
  have cT := I1.kT.cell
  have lT := I1.kT.lt
  rw [rounds_succ]
  go_wp2_with fail
  refine (pt_c 20000000 (-20000000) 0 0 _ (by omega) (by omega) (by omega) (by omega) (by omega) (by omega) (by omega) (by omega)).mono ?_
  rintro e z ⟨rfl, hb⟩
  have J := (I1.alloc (.cells #[.int .i64 20000000, .int .i64 (-20000000)] 58)).below hb
  have cP := J.kP.cell
  have fP := J.kP.frozen
  have lP := J.kP.lt
  have I2 : AInv w P #[.int .i64 (-20000000), .int .i64 (-20000000), .int .i64 20000000, .int .i64 (-20000000), .int .i64 0, .int .i64 0, .int .i64 0, .int .i64 0] gl cl gp cp _ := ((J.setP 2 (.int .i64 20000000)).setP 3 (.int .i64 (-20000000)))
  clear hb I1 qa qb0 qb1 qb2 qb3 qb4 qb5 qb6 qb7 lq cT lT J
  go_wp2_with fail
  obtain ⟨y1, ey⟩ : ∃ y, (z.setCell ⟨P, 2, none⟩ (.int .i64 20000000)).setCell ⟨P, 3, none⟩ (.int .i64 (-20000000)) = y := ⟨_, rfl⟩
  rw [ey] at I2
  rw [ey]
  clear cP fP lP ey
  obtain ⟨qa, qb0, qb1, qb2, qb3, qb4, qb5, qb6, qb7⟩ := I2.sq.cells
  have lq := I2.sq.lt2
  have cT := I2.kT.cell
  have lT := I2.kT.lt
  rw [rounds_succ]
  go_wp2_with fail
  refine (pt_c 20000000 20000000 0 0 _ (by omega) (by omega) (by omega) (by omega) (by omega) (by omega) (by omega) (by omega)).mono ?_
  rintro e z ⟨rfl, hb⟩
  have J := (I2.alloc (.cells #[.int .i64 20000000, .int .i64 20000000] 58)).below hb
  have cP := J.kP.cell
  have fP := J.kP.frozen
  have lP := J.kP.lt
  have I3 : AInv w P #[.int .i64 (-20000000), .int .i64 (-20000000), .int .i64 20000000, .int .i64 (-20000000), .int .i64 20000000, .int .i64 20000000, .int .i64 0, .int .i64 0] gl cl gp cp _ := ((J.setP 4 (.int .i64 20000000)).setP 5 (.int .i64 20000000))
  clear hb I2 qa qb0 qb1 qb2 qb3 qb4 qb5 qb6 qb7 lq cT lT J
  go_wp2_with fail
  obtain ⟨y2, ey⟩ : ∃ y, (z.setCell ⟨P, 4, none⟩ (.int .i64 20000000)).setCell ⟨P, 5, none⟩ (.int .i64 20000000) = y := ⟨_, rfl⟩
  rw [ey] at I3
  rw [ey]
  clear cP fP lP ey
  obtain ⟨qa, qb0, qb1, qb2, qb3, qb4, qb5, qb6, qb7⟩ := I3.sq.cells
  have lq := I3.sq.lt2
  have cT := I3.kT.cell
  have lT := I3.kT.lt
  rw [rounds_succ]
  go_wp2_with fail
  refine (pt_c (-20000000) 20000000 0 0 _ (by omega) (by omega) (by omega) (by omega) (by omega) (by omega) (by omega) (by omega)).mono ?_
  rintro e z ⟨rfl, hb⟩
  have J := (I3.alloc (.cells #[.int .i64 (-20000000), .int .i64 20000000] 58)).below hb
  have cP := J.kP.cell
  have fP := J.kP.frozen
  have lP := J.kP.lt
  have I4 : AInv w P #[.int .i64 (-20000000), .int .i64 (-20000000), .int .i64 20000000, .int .i64 (-20000000), .int .i64 20000000, .int .i64 20000000, .int .i64 (-20000000), .int .i64 20000000] gl cl gp cp _ := ((J.setP 6 (.int .i64 (-20000000))).setP 7 (.int .i64 20000000))
  clear hb I3 qa qb0 qb1 qb2 qb3 qb4 qb5 qb6 qb7 lq cT lT J
  go_wp2_with fail
  obtain ⟨y3, ey⟩ : ∃ y, (z.setCell ⟨P, 6, none⟩ (.int .i64 (-20000000))).setCell ⟨P, 7, none⟩ (.int .i64 20000000) = y := ⟨_, rfl⟩
  rw [ey] at I4
  rw [ey]
  clear cP fP lP ey
  have cO := I4.kO.cell
  have lO := I4.kO.lt
  have cL := I4.kL.cell
  have fL := I4.kL.frozen
  have lL := I4.kL.lt
  rw [rounds_succ]
  go_wp2_with fail
  obtain ⟨x, ex⟩ : ∃ x, y3.setCell ⟨w.heap.size + 1 + 1 + 1 + 1, 0, none⟩ (.slice (some ⟨P, 0, none⟩) 4 4) = x := ⟨_, rfl⟩
  have KO : Blk x (w.heap.size + 1 + 1 + 1) 62 #[.int .i64 2, .int .i64 0, .int .i64 0, .int .i64 0, .int .i64 0, .int .i64 0, .int .i64 0, .int .i64 0, .slice (some ⟨w.heap.size + 1 + 1 + 1 + 1, 0, none⟩) 1 1, .slice none 0 0] := by rw [← ex]; exact I4.kO.far (by simp) _
  have KR : Blk x (w.heap.size + 1 + 1) 62 #[.int .i64 0, .int .i64 0, .int .i64 0, .int .i64 0, .int .i64 0, .int .i64 0, .int .i64 0, .int .i64 0, .slice none 0 0, .slice none 0 0] := by rw [← ex]; exact I4.kR.far (by simp) _
  have KL : Blk x (w.heap.size + 1 + 1 + 1 + 1) 166 #[.slice (some ⟨P, 0, none⟩) 4 4] := by rw [← ex]; exact I4.kL.set_ 0 _ rfl
  have KP : Blk x P 58 #[.int .i64 (-20000000), .int .i64 (-20000000), .int .i64 20000000, .int .i64 (-20000000), .int .i64 20000000, .int .i64 20000000, .int .i64 (-20000000), .int .i64 20000000] := by rw [← ex]; exact I4.kP.far (by simpa using (I4.kP.ne_ I4.kL (by decide))) _
  have BX : Below w.heap.size w x := by rw [← ex]; exact I4.om.setCell (by simp; omega) _
  have n8 := I4.kP.ne_ I4.kR (by decide)
  have SX : SqAt x (w.heap.size + 1 + 1 + 1 + 1) P 4 := ⟨KL.cell 0, fun j v hj => by rw [KP.cell j]; simpa [sqv] using hj⟩
  have cX := KO.cell
  have lX := KO.lt
  have cR := KR.cell
  have fR := KR.frozen
  have lR := KR.lt
  rw [ex]
  clear ex cO lO cL fL lL
  rw [rounds_succ]
  go_wp2_with fail
  refine bodyPost_ret (results_cell_row (t := 62) Tryz.results241 _ _ (w.heap.size + 1 + 1) #[.int .i64 2, .int .i64 0, .int .i64 0, .int .i64 0, .int .i64 0, .int .i64 0, .int .i64 0, .int .i64 0, .slice (some ⟨w.heap.size + 1 + 1 + 1 + 1, 0, none⟩) 1 1, .slice none 0 0] (0, 0) _ (by rfl) ?_ Tryz.underlying62 rfl (by kernel_rfl)) rfl ⟨w.heap.size + 1 + 1 + 1 + 1, P, 4, rfl, ?_, ?_⟩
  · exact ((((((((((KR.set_ 0 _ rfl).set_ 1 _ rfl).set_ 2 _ rfl).set_ 3 _ rfl).set_ 4 _ rfl).set_ 5 _ rfl).set_ 6 _ rfl).set_ 7 _ rfl).set_ 8 _ rfl).set_ 9 _ rfl)
  · exact ((((((((((SX).far (by simp; omega) (by simpa using n8) _).far (by simp; omega) (by simpa using n8) _).far (by simp; omega) (by simpa using n8) _).far (by simp; omega) (by simpa using n8) _).far (by simp; omega) (by simpa using n8) _).far (by simp; omega) (by simpa using n8) _).far (by simp; omega) (by simpa using n8) _).far (by simp; omega) (by simpa using n8) _).far (by simp; omega) (by simpa using n8) _).far (by simp; omega) (by simpa using n8) _
  · exact blw
theorem Apply_sq (gl cl gp cp : Nat) (w : World) (hS : SqAt w gl gp cp) :
    Calls Tryz.prog 209 #[.agg #[.int .i64 2, .int .i64 0, .int .i64 0, .int .i64 0, .int .i64 0, .int .i64 0, .int .i64 0, .int .i64 0, .slice (some ⟨gl, 0, none⟩) 1 cl, .slice none 0 0], .agg #[.bool false, .bool false, .int .i64 0, .int .i64 0, .int .i64 0]] w fun e w' => ∃ gl2 gp2 cp2, e = .returned (.tuple #[.agg #[.int .i64 2, .int .i64 0, .int .i64 0, .int .i64 0, .int .i64 0, .int .i64 0, .int .i64 0, .int .i64 0, .slice (some ⟨gl2, 0, none⟩) 1 1, .slice none 0 0], .bool true]) ∧ SqAt w' gl2 gp2 cp2 ∧ Below w.heap.size w w' := by
  have HS := Lib.hid hS
  clear hS
  go_enter Tryz.func209, Tryz.ntmps209
  go_wp2_with fail
  refine (ok_sq gl cl gp cp _ (((HS.out.alloc _).alloc _).alloc _)).mono ?_
  rintro e w1 ⟨rfl, hb⟩
  have hB1 : Below w.heap.size w w1 := Below.trans (by exact blw) (hb.mono (by first | omega | (simp; done) | (simp; omega)))
  have k1_0 : Blk w1 (w.heap.size) 62 #[.int .i64 2, .int .i64 0, .int .i64 0, .int .i64 0, .int .i64 0, .int .i64 0, .int .i64 0, .int .i64 0, .slice (some ⟨gl, 0, none⟩) 1 cl, .slice none 0 0] := Blk.below (by exact bkw) hb (by first | omega | (simp; done) | (simp; omega))
  have k1_1 : Blk w1 (w.heap.size + 1) 157 #[.bool false, .bool false, .int .i64 0, .int .i64 0, .int .i64 0] := Blk.below (by exact bkw) hb (by first | omega | (simp; done) | (simp; omega))
  have k1_2 : Blk w1 (w.heap.size + 1 + 1) 62 #[.int .i64 0, .int .i64 0, .int .i64 0, .int .i64 0, .int .i64 0, .int .i64 0, .int .i64 0, .int .i64 0, .slice none 0 0, .slice none 0 0] := Blk.below (by exact bkw) hb (by first | omega | (simp; done) | (simp; omega))
  have c1_0 := k1_0.cell
  have f1_0 := k1_0.frozen
  have l1_0 := k1_0.lt
  have c1_1 := k1_1.cell
  have f1_1 := k1_1.frozen
  have l1_1 := k1_1.lt
  have c1_2 := k1_2.cell
  have f1_2 := k1_2.frozen
  have l1_2 := k1_2.lt
  have l1 := hB1.size
  clear hb
  go_wp2_with fail
  refine (apply_sq gl cl gp cp _ (HS.out.below hB1 (Nat.le_refl _))).mono ?_
  rintro e w2 ⟨gl2, gp2, cp2, rfl, hs, hb⟩
  have hB2 : Below w.heap.size w w2 := Below.trans (by exact blw) (hb.mono (by first | omega | (simp; done) | (simp; omega)))
  have k2_0 : Blk w2 (w.heap.size + 1 + 1) 62 #[.int .i64 0, .int .i64 0, .int .i64 0, .int .i64 0, .int .i64 0, .int .i64 0, .int .i64 0, .int .i64 0, .slice none 0 0, .slice none 0 0] := Blk.below (by exact bkw) hb (by first | omega | (simp; done) | (simp; omega))
  have c2_0 := k2_0.cell
  have f2_0 := k2_0.frozen
  have l2_0 := k2_0.lt
  have l2 := hB2.size
  clear hb k1_0 k1_1 k1_2 c1_0 c1_1 c1_2 f1_0 f1_1 f1_2 l1_0 l1_1 l1_2
  have HS2 := Lib.hid hs
  clear hs
  go_wp2_with fail
  refine (ok_sq gl2 1 gp2 cp2 _ (HS2.out.alloc _)).mono ?_
  rintro e w3 ⟨rfl, hb⟩
  have hB3 : Below w.heap.size w w3 := Below.trans (by exact blw) (hb.mono (by first | omega | (simp; done) | (simp; omega)))
  have k3_0 : Blk w3 (w.heap.size + 1 + 1) 62 #[.int .i64 0, .int .i64 0, .int .i64 0, .int .i64 0, .int .i64 0, .int .i64 0, .int .i64 0, .int .i64 0, .slice none 0 0, .slice none 0 0] := Blk.below (by exact bkw) hb (by first | omega | (simp; done) | (simp; omega))
  have k3_1 : Blk w3 (w2.heap.size) 62 #[.int .i64 2, .int .i64 0, .int .i64 0, .int .i64 0, .int .i64 0, .int .i64 0, .int .i64 0, .int .i64 0, .slice (some ⟨gl2, 0, none⟩) 1 1, .slice none 0 0] := Blk.below (by exact bkw) hb (by first | omega | (simp; done) | (simp; omega))
  have c3_0 := k3_0.cell
  have f3_0 := k3_0.frozen
  have l3_0 := k3_0.lt
  have c3_1 := k3_1.cell
  have f3_1 := k3_1.frozen
  have l3_1 := k3_1.lt
  have l3 := hB3.size
  have s3 := (HS2.out.alloc (.cells #[.int .i64 2, .int .i64 0, .int .i64 0, .int .i64 0, .int .i64 0, .int .i64 0, .int .i64 0, .int .i64 0, .slice (some ⟨gl2, 0, none⟩) 1 1, .slice none 0 0] 62)).below hb (Nat.le_refl _)
  clear hb k2_0 c2_0 f2_0
  have nw := s3.ne_int (k3_0.cell 0) (by decide)
  go_wp2_with fail
  refine bodyPost_ret (results_row_tmp Tryz.results209 _ _ (w.heap.size + 1 + 1) #[.int .i64 2, .int .i64 0, .int .i64 0, .int .i64 0, .int .i64 0, .int .i64 0, .int .i64 0, .int .i64 0, .slice (some ⟨gl2, 0, none⟩) 1 1, .slice none 0 0] (by rfl) (run_loadVar_row _ _ 62 62 _ (0, 0) _ ?_ Tryz.underlying62 rfl (by kernel_rfl))) rfl ⟨gl2, gp2, cp2, rfl, ?_, ?_⟩
  · exact ((((((((((k3_0.set_ 0 _ rfl).set_ 1 _ rfl).set_ 2 _ rfl).set_ 3 _ rfl).set_ 4 _ rfl).set_ 5 _ rfl).set_ 6 _ rfl).set_ 7 _ rfl).set_ 8 _ rfl).set_ 9 _ rfl)
  · exact ((((((((((s3).far (by simpa using nw.1) (by simpa using nw.2) _).far (by simpa using nw.1) (by simpa using nw.2) _).far (by simpa using nw.1) (by simpa using nw.2) _).far (by simpa using nw.1) (by simpa using nw.2) _).far (by simpa using nw.1) (by simpa using nw.2) _).far (by simpa using nw.1) (by simpa using nw.2) _).far (by simpa using nw.1) (by simpa using nw.2) _).far (by simpa using nw.1) (by simpa using nw.2) _).far (by simpa using nw.1) (by simpa using nw.2) _).far (by simpa using nw.1) (by simpa using nw.2) _
  · exact blw
end Go.Proofs.YtfajckkbinbpiaaGreatDoor
