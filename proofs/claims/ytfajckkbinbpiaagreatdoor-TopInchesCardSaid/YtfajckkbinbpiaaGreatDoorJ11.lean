/- Walks: package plot: moves and flashes in any unit. -/
import Derived.LoopTactic
import Derived.StillTailTactics
import Derived.Test.YtfajckkbinbpiaaGreatDoorJ07
import Derived.Test.YtfajckkbinbpiaaGreatDoorJ09
import Derived.Test.YtfajckkbinbpiaaGreatDoorJ10
namespace Go.Proofs.YtfajckkbinbpiaaGreatDoor
set_option maxRecDepth 100000
set_option maxHeartbeats 32000000
set_option linter.unusedVariables false
set_option linter.unusedSimpArgs false
open Go.RowKit
theorem operate_2g (P : Nat) (A x y : Int) {v6 v7 v8 v11 v12 v13 v14 v15 v16 v17 v18 v20 v21 v22 v23 v24 : Value} (un dc U V : Int) (X Y : ByteArray) (hu0 : (un == 0) = false) (z1 : X.toList.isEmpty = false) (z2 : Y.toList.isEmpty = false) (h1 : ∀ w, Calls Tryz.prog 162 #[.string X, .agg #[.int .i64 un, .int .i64 2, .int .i64 dc, .bool false]] w fun e w' => e = .returned (.tuple #[.int .i64 U, .bool true]) ∧ Below w.heap.size w w') (h2 : ∀ w, Calls Tryz.prog 162 #[.string Y, .agg #[.int .i64 un, .int .i64 2, .int .i64 dc, .bool false]] w fun e w' => e = .returned (.tuple #[.int .i64 V, .bool true]) ∧ Below w.heap.size w w') (w : World) (hP : Blk w P 159 #[.int .i64 un, .int .i64 1, .int .i64 2, .int .i64 dc, .bool false, .bool true, v6, v7, v8, .int .i64 x, .int .i64 y, v11, v12, v13, v14, v15, v16, v17, v18, .bool false, v20, v21, v22, v23, v24]) :
    Calls Tryz.prog 103 #[.pointer (some ⟨P, 0, none⟩), .agg #[.int .i64 A, .int .i64 7, .int .i64 2, .int .i64 0, .bool false, .string { data := #[] }, .string X, .string Y, .string { data := #[] }, .string { data := #[] }, .slice none 0 0, .slice none 0 0]] w fun e w' => e = .returned (.int .i64 0) ∧ Blk w' P 159 #[.int .i64 un, .int .i64 1, .int .i64 2, .int .i64 dc, .bool false, .bool true, v6, v7, v8, .int .i64 U, .int .i64 V, v11, v12, v13, v14, v15, v16, v17, v18, .bool false, v20, v21, v22, v23, v24] ∧ Only [P] w w' := by
  have i0 : ∀ w, (Instr.index 285 (.agg #[.string X, .string Y, .string { data := #[] }, .string { data := #[] }]) (.int .i64 0)).run Tryz.prog w = .ok (.string X) w := fun _ => by kernel_rfl
  have i1 : ∀ w, (Instr.index 285 (.agg #[.string X, .string Y, .string { data := #[] }, .string { data := #[] }]) (.int .i64 1)).run Tryz.prog w = .ok (.string Y) w := fun _ => by kernel_rfl
  have i2 : ∀ w, (Instr.index 285 (.agg #[.string X, .string Y, .string { data := #[] }, .string { data := #[] }]) (.int .i64 2)).run Tryz.prog w = .ok (.string { data := #[] }) w := fun _ => by kernel_rfl
  have i3 : ∀ w, (Instr.index 285 (.agg #[.string X, .string Y, .string { data := #[] }, .string { data := #[] }]) (.int .i64 3)).run Tryz.prog w = .ok (.string { data := #[] }) w := fun _ => by kernel_rfl
  have H1 := Lib.hid h1
  have H2 := Lib.hid h2
  have c := hP.cell
  have f := hP.frozen
  have l := hP.lt
  clear h1 h2
  go_enter Tryz.func103, Tryz.ntmps103
  go_wp2_with fail
  have c9 : w.cell? ⟨P, 9, none⟩ = some (.int .i64 x) := c 9
  have c10 : w.cell? ⟨P, 10, none⟩ = some (.int .i64 y) := c 10
  have l3 : P < w.heap.size + 1 + 1 := by omega
  go_region
  go_wp2_with fail
  refine wp_loop_rounds 5 ?_
  rw [rounds_succ]
  go_wp2_with fail
  refine (H1.out _).mono ?_
  rintro e w1 ⟨rfl, hb⟩
  have hB1 : Below w.heap.size w w1 := Below.trans (by exact blw) (hb.mono (by first | omega | (simp; done) | (simp; omega)))
  have k1_0 : Blk w1 (P) 159 #[.int .i64 un, .int .i64 1, .int .i64 2, .int .i64 dc, .bool false, .bool true, v6, v7, v8, .int .i64 x, .int .i64 y, v11, v12, v13, v14, v15, v16, v17, v18, .bool false, v20, v21, v22, v23, v24] := Blk.below (by exact bkw) hb (by first | omega | (simp; done) | (simp; omega))
  have k1_1 : Blk w1 (w.heap.size) 103 #[.int .i64 A, .int .i64 7, .int .i64 2, .int .i64 0, .bool false, .string { data := #[] }, .string X, .string Y, .string { data := #[] }, .string { data := #[] }, .slice none 0 0, .slice none 0 0] := Blk.below (by exact bkw) hb (by first | omega | (simp; done) | (simp; omega))
  have k1_2 : Blk w1 (w.heap.size + 1) 154 #[.int .i64 un, .int .i64 2, .int .i64 dc, .bool false] := Blk.below (by exact bkw) hb (by first | omega | (simp; done) | (simp; omega))
  have k1_3 : Blk w1 (w.heap.size + 1 + 1) 284 #[.int .i64 x, .int .i64 y, .int .i64 0, .int .i64 0] := Blk.below (by exact bkw) hb (by first | omega | (simp; done) | (simp; omega))
  have c1_0 := k1_0.cell
  have f1_0 := k1_0.frozen
  have l1_0 := k1_0.lt
  have c1_1 := k1_1.cell
  have f1_1 := k1_1.frozen
  have l1_1 := k1_1.lt
  have c1_2 := k1_2.cell
  have f1_2 := k1_2.frozen
  have l1_2 := k1_2.lt
  have c1_3 := k1_3.cell
  have f1_3 := k1_3.frozen
  have l1_3 := k1_3.lt
  have l1 := hB1.size
  clear hb hP c f c9 c10 l3
  go_wp2_with fail
  rw [rounds_succ]
  go_wp2_with fail
  refine (H2.out _).mono ?_
  rintro e w2 ⟨rfl, hb⟩
  have hB2 : Below w.heap.size w w2 := Below.trans (by exact blw) (hb.mono (by first | omega | (simp; done) | (simp; omega)))
  have k2_0 : Blk w2 (P) 159 #[.int .i64 un, .int .i64 1, .int .i64 2, .int .i64 dc, .bool false, .bool true, v6, v7, v8, .int .i64 x, .int .i64 y, v11, v12, v13, v14, v15, v16, v17, v18, .bool false, v20, v21, v22, v23, v24] := Blk.below (by exact bkw) hb (by first | omega | (simp; done) | (simp; omega))
  have k2_1 : Blk w2 (w.heap.size) 103 #[.int .i64 A, .int .i64 7, .int .i64 2, .int .i64 0, .bool false, .string { data := #[] }, .string X, .string Y, .string { data := #[] }, .string { data := #[] }, .slice none 0 0, .slice none 0 0] := Blk.below (by exact bkw) hb (by first | omega | (simp; done) | (simp; omega))
  have k2_2 : Blk w2 (w.heap.size + 1) 154 #[.int .i64 un, .int .i64 2, .int .i64 dc, .bool false] := Blk.below (by exact bkw) hb (by first | omega | (simp; done) | (simp; omega))
  have k2_3 : Blk w2 (w.heap.size + 1 + 1) 284 #[.int .i64 U, .int .i64 y, .int .i64 0, .int .i64 0] := Blk.below (by exact bkw) hb (by first | omega | (simp; done) | (simp; omega))
  have c2_0 := k2_0.cell
  have f2_0 := k2_0.frozen
  have l2_0 := k2_0.lt
  have c2_1 := k2_1.cell
  have f2_1 := k2_1.frozen
  have l2_1 := k2_1.lt
  have c2_2 := k2_2.cell
  have f2_2 := k2_2.frozen
  have l2_2 := k2_2.lt
  have c2_3 := k2_3.cell
  have f2_3 := k2_3.frozen
  have l2_3 := k2_3.lt
  have l2 := hB2.size
  clear hb k1_0 c1_0 f1_0 l1_0 k1_1 c1_1 f1_1 l1_1 k1_2 c1_2 f1_2 l1_2 k1_3 c1_3 f1_3 l1_3
  go_wp2_with fail
  rw [rounds_succ]
  go_wp2_with fail
  rw [rounds_succ]
  go_wp2_with fail
  rw [rounds_succ]
  go_wp2_with fail
  refine (move_c P U V _ (by exact bkw)).mono ?_
  rintro e w3 ⟨rfl, hb⟩
  have k3 : Blk w3 P 159 #[.int .i64 un, .int .i64 1, .int .i64 2, .int .i64 dc, .bool false, .bool true, v6, v7, v8, .int .i64 x, .int .i64 y, v11, v12, v13, v14, v15, v16, v17, v18, .bool false, v20, v21, v22, v23, v24] := Blk.below (by exact bkw) hb (by first | omega | (simp; done) | (simp; omega))
  have k4 : Blk w3 w2.heap.size 58 #[.int .i64 U, .int .i64 V] := Blk.below (by exact bkw) hb (by first | omega | (simp; done) | (simp; omega))
  have c4 := k4.cell
  have l4 := k4.lt
  have hO : Only [P] w w3 := by
    have h0 : Only [P] w w2 := Only.of_below hB2 (Nat.le_refl _) _
    exact Only.below (by exact onw) hb (by simp; omega)
  have l3 := hO.size
  have c3 := k3.cell
  have f3 := k3.frozen
  have K3 := Lib.hid k3
  clear k3 k4 hb k2_0 c2_0 f2_0 k2_3 c2_3 f2_3
  go_wp2_with fail
  go_ret
  exact ⟨rfl, (K3.out.set_ 9 _ rfl).set_ 10 _ rfl, by exact onw⟩
theorem operate_dg (P M gL capL B n : Nat) (mk bud code A x y : Int) (dk : Bool) {v8 v11 v12 v20 v24 : Value} {ov : Value} {lcs : Array Value} {xs : List Value} (es : Array MapEntry) (clk : Nat) (un dc U V : Int) (X Y : ByteArray) (hu0 : (un == 0) = false) (z1 : X.toList.isEmpty = false) (z2 : Y.toList.isEmpty = false) (h1 : ∀ w, Calls Tryz.prog 162 #[.string X, .agg #[.int .i64 un, .int .i64 2, .int .i64 dc, .bool false]] w fun e w' => e = .returned (.tuple #[.int .i64 U, .bool true]) ∧ Below w.heap.size w w') (h2 : ∀ w, Calls Tryz.prog 162 #[.string Y, .agg #[.int .i64 un, .int .i64 2, .int .i64 dc, .bool false]] w fun e w' => e = .returned (.tuple #[.int .i64 V, .bool true]) ∧ Below w.heap.size w w') (u0 : 0 ≤ U) (u1 : U ≤ 230000000) (u2 : 0 ≤ V) (u3 : V ≤ 230000000) (w : World)
    (hP : Blk w P 159 #[.int .i64 un, .int .i64 1, .int .i64 2, .int .i64 dc, .bool false, .bool true, .map (some M), .int .i64 code, v8, .int .i64 x, .int .i64 y, v11, v12, .bool dk, .bool false, .bool false, .int .i64 0, .int .i64 0, .int .i64 0, .bool false, v20, .slice (some ⟨gL, 0, none⟩) 1 capL, .int .i64 mk, .int .i64 bud, v24]) (hM : IsMap w M es clk) (hf : (Instr.findNow (.int .i64) (.int .i64 code) es.toList 0).map (fun r => r.map (·.2)) = some (some (.agg #[.int .i64 1, .int .i64 0, .int .i64 0, .int .i64 0, .int .i64 0, .int .i64 0, .int .i64 0, .int .i64 6350000, .slice none 0 0, .slice none 0 0, .int .i64 6350000, .bool true, .bool false, .slice none 0 0]))) (hL : Blk w gL 162 lcs) (ho : lcs[6]? = some ov) (hov : w.ownsRow B 65 11 ov n xs)  (hm0 : 0 ≤ mk) (hm1 : mk + 1 ≤ bud) (hm2 : bud ≤ 100000) (hn : n + 1 ≤ 100000) (hB : B ≤ w.heap.size) :
    Calls Tryz.prog 103 #[.pointer (some ⟨P, 0, none⟩), .agg #[.int .i64 A, .int .i64 7, .int .i64 3, .int .i64 0, .bool false, .string { data := #[] }, .string X, .string Y, .string { data := #[] }, .string { data := #[] }, .slice none 0 0, .slice none 0 0]] w fun e w' => e = .returned (.int .i64 0) ∧ Adds P gL 6 B n (fun m => #[.int .i64 un, .int .i64 1, .int .i64 2, .int .i64 dc, .bool false, .bool true, .map (some M), .int .i64 code, v8, .int .i64 U, .int .i64 V, v11, v12, .bool dk, .bool false, .bool false, .int .i64 0, .int .i64 0, .int .i64 0, .bool false, v20, .slice (some ⟨gL, 0, none⟩) 1 capL, .int .i64 m, .int .i64 bud, v24]) lcs ov xs mk w 1 [.bool dk, .int .i64 1, .int .i64 U, .int .i64 V, .int .i64 0, .int .i64 0, .int .i64 0, .int .i64 0, .int .i64 6350000, .slice none 0 0, .slice none 0 0] w' := by
  have i0 : ∀ w, (Instr.index 285 (.agg #[.string X, .string Y, .string { data := #[] }, .string { data := #[] }]) (.int .i64 0)).run Tryz.prog w = .ok (.string X) w := fun _ => by kernel_rfl
  have i1 : ∀ w, (Instr.index 285 (.agg #[.string X, .string Y, .string { data := #[] }, .string { data := #[] }]) (.int .i64 1)).run Tryz.prog w = .ok (.string Y) w := fun _ => by kernel_rfl
  have i2 : ∀ w, (Instr.index 285 (.agg #[.string X, .string Y, .string { data := #[] }, .string { data := #[] }]) (.int .i64 2)).run Tryz.prog w = .ok (.string { data := #[] }) w := fun _ => by kernel_rfl
  have i3 : ∀ w, (Instr.index 285 (.agg #[.string X, .string Y, .string { data := #[] }, .string { data := #[] }]) (.int .i64 3)).run Tryz.prog w = .ok (.string { data := #[] }) w := fun _ => by kernel_rfl
  have H1 := Lib.hid h1
  have H2 := Lib.hid h2
  have c := hP.cell
  have f := hP.frozen
  have l := hP.lt
  have lM := hM.lt
  have lL := hL.lt
  have HP0 := Lib.hid hP
  have HM := Lib.hid hM
  have HF := Lib.hid hf
  have HL := Lib.hid hL
  have HO := Lib.hid ho
  have HOV := Lib.hid hov
  have HB := Lib.hid hB
  clear h1 h2 hM hf hL ho hov hB 
  go_enter Tryz.func103, Tryz.ntmps103
  go_wp2_with fail
  have c9 : w.cell? ⟨P, 9, none⟩ = some (.int .i64 x) := c 9
  have c10 : w.cell? ⟨P, 10, none⟩ = some (.int .i64 y) := c 10
  have l3 : P < w.heap.size + 1 + 1 := by omega
  go_region
  go_wp2_with fail
  refine wp_loop_rounds 5 ?_
  rw [rounds_succ]
  go_wp2_with fail
  refine (H1.out _).mono ?_
  rintro e w1 ⟨rfl, hb⟩
  have hB1 : Below w.heap.size w w1 := Below.trans (by exact blw) (hb.mono (by first | omega | (simp; done) | (simp; omega)))
  have k1_0 : Blk w1 (P) 159 #[.int .i64 un, .int .i64 1, .int .i64 2, .int .i64 dc, .bool false, .bool true, .map (some M), .int .i64 code, v8, .int .i64 x, .int .i64 y, v11, v12, .bool dk, .bool false, .bool false, .int .i64 0, .int .i64 0, .int .i64 0, .bool false, v20, .slice (some ⟨gL, 0, none⟩) 1 capL, .int .i64 mk, .int .i64 bud, v24] := Blk.below (by exact bkw) hb (by first | omega | (simp; done) | (simp; omega))
  have k1_1 : Blk w1 (w.heap.size) 103 #[.int .i64 A, .int .i64 7, .int .i64 3, .int .i64 0, .bool false, .string { data := #[] }, .string X, .string Y, .string { data := #[] }, .string { data := #[] }, .slice none 0 0, .slice none 0 0] := Blk.below (by exact bkw) hb (by first | omega | (simp; done) | (simp; omega))
  have k1_2 : Blk w1 (w.heap.size + 1) 154 #[.int .i64 un, .int .i64 2, .int .i64 dc, .bool false] := Blk.below (by exact bkw) hb (by first | omega | (simp; done) | (simp; omega))
  have k1_3 : Blk w1 (w.heap.size + 1 + 1) 284 #[.int .i64 x, .int .i64 y, .int .i64 0, .int .i64 0] := Blk.below (by exact bkw) hb (by first | omega | (simp; done) | (simp; omega))
  have c1_0 := k1_0.cell
  have f1_0 := k1_0.frozen
  have l1_0 := k1_0.lt
  have c1_1 := k1_1.cell
  have f1_1 := k1_1.frozen
  have l1_1 := k1_1.lt
  have c1_2 := k1_2.cell
  have f1_2 := k1_2.frozen
  have l1_2 := k1_2.lt
  have c1_3 := k1_3.cell
  have f1_3 := k1_3.frozen
  have l1_3 := k1_3.lt
  have l1 := hB1.size
  clear hb hP c f c9 c10 l3
  go_wp2_with fail
  rw [rounds_succ]
  go_wp2_with fail
  refine (H2.out _).mono ?_
  rintro e w2 ⟨rfl, hb⟩
  have hB2 : Below w.heap.size w w2 := Below.trans (by exact blw) (hb.mono (by first | omega | (simp; done) | (simp; omega)))
  have k2_0 : Blk w2 (P) 159 #[.int .i64 un, .int .i64 1, .int .i64 2, .int .i64 dc, .bool false, .bool true, .map (some M), .int .i64 code, v8, .int .i64 x, .int .i64 y, v11, v12, .bool dk, .bool false, .bool false, .int .i64 0, .int .i64 0, .int .i64 0, .bool false, v20, .slice (some ⟨gL, 0, none⟩) 1 capL, .int .i64 mk, .int .i64 bud, v24] := Blk.below (by exact bkw) hb (by first | omega | (simp; done) | (simp; omega))
  have k2_1 : Blk w2 (w.heap.size) 103 #[.int .i64 A, .int .i64 7, .int .i64 3, .int .i64 0, .bool false, .string { data := #[] }, .string X, .string Y, .string { data := #[] }, .string { data := #[] }, .slice none 0 0, .slice none 0 0] := Blk.below (by exact bkw) hb (by first | omega | (simp; done) | (simp; omega))
  have k2_2 : Blk w2 (w.heap.size + 1) 154 #[.int .i64 un, .int .i64 2, .int .i64 dc, .bool false] := Blk.below (by exact bkw) hb (by first | omega | (simp; done) | (simp; omega))
  have k2_3 : Blk w2 (w.heap.size + 1 + 1) 284 #[.int .i64 U, .int .i64 y, .int .i64 0, .int .i64 0] := Blk.below (by exact bkw) hb (by first | omega | (simp; done) | (simp; omega))
  have c2_0 := k2_0.cell
  have f2_0 := k2_0.frozen
  have l2_0 := k2_0.lt
  have c2_1 := k2_1.cell
  have f2_1 := k2_1.frozen
  have l2_1 := k2_1.lt
  have c2_2 := k2_2.cell
  have f2_2 := k2_2.frozen
  have l2_2 := k2_2.lt
  have c2_3 := k2_3.cell
  have f2_3 := k2_3.frozen
  have l2_3 := k2_3.lt
  have l2 := hB2.size
  clear hb k1_0 c1_0 f1_0 l1_0 k1_1 c1_1 f1_1 l1_1 k1_2 c1_2 f1_2 l1_2 k1_3 c1_3 f1_3 l1_3
  go_wp2_with fail
  rw [rounds_succ]
  go_wp2_with fail
  rw [rounds_succ]
  go_wp2_with fail
  rw [rounds_succ]
  go_wp2_with fail
  obtain ⟨u, eu⟩ : ∃ u, (w2.setCell ⟨w.heap.size + 1 + 1, 1, none⟩ (.int .i64 V)).alloc (.cells #[.int .i64 U, .int .i64 V] 58) = u := ⟨_, rfl⟩
  have q1 : Blk u P 159 #[.int .i64 un, .int .i64 1, .int .i64 2, .int .i64 dc, .bool false, .bool true, .map (some M), .int .i64 code, v8, .int .i64 x, .int .i64 y, v11, v12, .bool dk, .bool false, .bool false, .int .i64 0, .int .i64 0, .int .i64 0, .bool false, v20, .slice (some ⟨gL, 0, none⟩) 1 capL, .int .i64 mk, .int .i64 bud, v24] := by rw [← eu]; exact (k2_0.far (by simp; omega) _).alloc _
  have q2 : Blk u w2.heap.size 58 #[.int .i64 U, .int .i64 V] := by rw [← eu]; exact Blk.newAt (by simp)
  have q3 : Only [] w u := by
    rw [← eu]
    have h0 : Only [] w w2 := Only.of_below hB2 (Nat.le_refl _) _
    exact (h0.setCell (.inr (by simp; omega)) _).alloc _
  have qM := q3.map HM.out (by simp)
  have qL := q3.blk HL.out (by simp)
  have qO := q3.own HOV.out (by simp)
  have hF := flash_r P M gL capL B n mk bud U V code dk es clk u q1 qM HF.out qL HO.out qO hm0 (by omega) hm2 (by omega) (by have := HB.out; have := q3.size; omega) u0 (by omega) u2 (by omega)
  have Q1 := Lib.hid q1
  have Q2 := Lib.hid q2
  have Q3 := Lib.hid q3
  have QL := Lib.hid qL
  have QO := Lib.hid qO
  have HFL := Lib.hid hF
  rw [eu]
  have lu := q3.size
  have lq2 := q2.lt
  clear eu q1 q2 q3 qM qL qO hF k2_0 c2_0 f2_0 l2_0 k2_1 c2_1 f2_1 l2_1 k2_2 c2_2 f2_2 l2_2 k2_3 c2_3 f2_3 l2_3
  refine (HFL.out).mono ?_
  rintro e w3 ⟨g, cap, rfl, hA⟩
  have hAA := Adds.one (pc := (fun m => #[.int .i64 un, .int .i64 1, .int .i64 2, .int .i64 dc, .bool false, .bool true, .map (some M), .int .i64 code, v8, .int .i64 x, .int .i64 y, v11, v12, .bool dk, .bool false, .bool false, .int .i64 0, .int .i64 0, .int .i64 0, .bool false, v20, .slice (some ⟨gL, 0, none⟩) 1 capL, .int .i64 m, .int .i64 bud, v24])) Q1.out QL.out HO.out QO.out hA
  have k3 : Blk w3 P 159 #[.int .i64 un, .int .i64 1, .int .i64 2, .int .i64 dc, .bool false, .bool true, .map (some M), .int .i64 code, v8, .int .i64 x, .int .i64 y, v11, v12, .bool dk, .bool false, .bool false, .int .i64 0, .int .i64 0, .int .i64 0, .bool false, v20, .slice (some ⟨gL, 0, none⟩) 1 capL, .int .i64 (mk + 1), .int .i64 bud, v24] := hA.1
  have hO : Only (P :: gL :: ov.ownBlock.toList) u w3 := hA.2.2.2.1
  have k4 := hO.blk Q2.out (by
    intro hm
    simp only [List.mem_cons, Option.mem_toList] at hm
    rcases hm with h | h | h
    · exact Q1.out.ne_ Q2.out (by decide) h.symm
    · exact QL.out.ne_ Q2.out (by decide) h.symm
    · exact own_blk_ne QO.out Q2.out (by decide) h)
  have c3 := k3.cell
  have f3 := k3.frozen
  have l3 := k3.lt
  have c4 := k4.cell
  have l4 := k4.lt
  have K3 := Lib.hid k3
  have HA := Lib.hid hAA
  clear hAA hA hO k3 k4
  go_wp2_with fail
  go_ret
  have k9 := (K3.out.set_ 9 (.int .i64 U) rfl).set_ 10 (.int .i64 V) rfl
  refine ⟨rfl, (HA.out.turnP (pc' := (fun m => #[.int .i64 un, .int .i64 1, .int .i64 2, .int .i64 dc, .bool false, .bool true, .map (some M), .int .i64 code, v8, .int .i64 U, .int .i64 V, v11, v12, .bool dk, .bool false, .bool false, .int .i64 0, .int .i64 0, .int .i64 0, .bool false, v20, .slice (some ⟨gL, 0, none⟩) 1 capL, .int .i64 m, .int .i64 bud, v24])) k9 ?_).from_ Q3.out⟩
  exact ((Only.refl _ _).setCell (by simp) _).setCell (by simp) _
end Go.Proofs.YtfajckkbinbpiaaGreatDoor
