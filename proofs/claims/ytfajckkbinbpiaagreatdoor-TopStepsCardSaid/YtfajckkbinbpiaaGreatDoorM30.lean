/- Walks: package plot: the operation that flashes the one square. Walks: package plot: a block or a step is closed. -/
import Derived.Test.YtfajckkbinbpiaaGreatDoorM27
import Derived.Test.YtfajckkbinbpiaaGreatDoorM29
import Derived.Test.YtfajckkbinbpiaaGreatDoorM16
import Derived.Test.YtfajckkbinbpiaaGreatDoorM10
import Derived.Test.YtfajckkbinbpiaaGreatDoorM28
import Derived.StillTailTactics
namespace Go.Proofs.YtfajckkbinbpiaaGreatDoor
open Go.RowKit
set_option linter.unusedVariables false
set_option linter.unusedSimpArgs false

set_option maxRecDepth 100000 in
set_option maxHeartbeats 4000000 in
theorem operate_sq (P M gL B gl gp cp : Nat) (A : Int) (w : World) (hP : Blk w P 159 #[.int .i64 1, .int .i64 1, .int .i64 2, .int .i64 4, .bool false, .bool true, .map (some M), .int .i64 10, .slice none 0 0, .int .i64 0, .int .i64 0, .int .i64 1, .bool false, .bool true, .bool false, .bool false, .int .i64 0, .int .i64 0, .int .i64 0, .bool false, .slice none 0 0, .slice (some ⟨gL, 0, none⟩) 1 1, .int .i64 0, .int .i64 10, .bool false]) (hL : Blk w gL 162 #[.bool false, .int .i64 0, .int .i64 0, .int .i64 0, .int .i64 0, .int .i64 0, .slice none 0 0]) (hS : SqAt w gl gp cp) (hB : B ≤ w.heap.size) (hPM : P ≠ M) (hM : IsMap w M #[{ key := .int .i64 10, val := .agg #[.int .i64 2, .int .i64 0, .int .i64 0, .int .i64 0, .int .i64 0, .int .i64 0, .int .i64 0, .int .i64 0, .slice (some ⟨gl, 0, none⟩) 1 1, .slice none 0 0, .int .i64 0, .bool false, .bool false, .slice none 0 0], born := 0 }] 1) :
    Calls Tryz.prog 103 #[.pointer (some ⟨P, 0, none⟩), .agg #[.int .i64 A, .int .i64 7, .int .i64 3, .int .i64 0, .bool false, .string { data := #[] }, .string (bs [48]), .string (bs [48]), .string { data := #[] }, .string { data := #[] }, .slice none 0 0, .slice none 0 0]] w fun e w' => ∃ gl2 gp2 cp2 g cap, e = .returned (.int .i64 0) ∧ Blk w' P 159 #[.int .i64 1, .int .i64 1, .int .i64 2, .int .i64 4, .bool false, .bool true, .map (some M), .int .i64 10, .slice none 0 0, .int .i64 0, .int .i64 0, .int .i64 1, .bool false, .bool true, .bool false, .bool false, .int .i64 0, .int .i64 0, .int .i64 0, .bool false, .slice none 0 0, .slice (some ⟨gL, 0, none⟩) 1 1, .int .i64 1, .int .i64 10, .bool false] ∧ Blk w' gL 162 #[.bool false, .int .i64 0, .int .i64 0, .int .i64 0, .int .i64 0, .int .i64 0, .slice (some ⟨g, 0, none⟩) 1 cap] ∧ w'.ownsRow B 65 11 (.slice (some ⟨g, 0, none⟩) 1 cap) 1 [.bool true, .int .i64 2, .int .i64 0, .int .i64 0, .int .i64 0, .int .i64 0, .int .i64 0, .int .i64 0, .int .i64 0, .slice (some ⟨gl2, 0, none⟩) 1 1, .slice none 0 0] ∧ SqAt w' gl2 gp2 cp2 ∧ Only [P, gL] w w' := by
  have hd : Digits [48] := by intro c hc; simp at hc; subst hc; decide
  have h1 := fun w => coord_c [48] w hd (by decide) (by decide) (by decide)
  have ez : coordOf [48] = 0 := by decide
  obtain ⟨X, eX⟩ : ∃ x, bs [48] = x := ⟨_, rfl⟩
  have z1 : X.toList.isEmpty = false := by rw [← eX, bs_toList]; rfl
  have h1 : ∀ w, Calls Tryz.prog 162 #[.string X, .agg #[.int .i64 1, .int .i64 2, .int .i64 4, .bool false]] w fun e w' => e = .returned (.tuple #[.int .i64 0, .bool true]) ∧ Below w.heap.size w w' := by rw [← eX, ← ez]; exact h1
  rw [eX]
  have i0 : ∀ w, (Instr.index 285 (.agg #[.string X, .string X, .string { data := #[] }, .string { data := #[] }]) (.int .i64 0)).run Tryz.prog w = .ok (.string X) w := fun _ => by kernel_rfl
  have i1 : ∀ w, (Instr.index 285 (.agg #[.string X, .string X, .string { data := #[] }, .string { data := #[] }]) (.int .i64 1)).run Tryz.prog w = .ok (.string X) w := fun _ => by kernel_rfl
  have i2 : ∀ w, (Instr.index 285 (.agg #[.string X, .string X, .string { data := #[] }, .string { data := #[] }]) (.int .i64 2)).run Tryz.prog w = .ok (.string { data := #[] }) w := fun _ => by kernel_rfl
  have i3 : ∀ w, (Instr.index 285 (.agg #[.string X, .string X, .string { data := #[] }, .string { data := #[] }]) (.int .i64 3)).run Tryz.prog w = .ok (.string { data := #[] }) w := fun _ => by kernel_rfl
  have H1 := Lib.hid h1
  have c := hP.cell
  have f := hP.frozen
  have l := hP.lt
  have lM := hM.lt
  have lL := hL.lt
  have HM := Lib.hid hM
  have HL := Lib.hid hL
  have HS := Lib.hid hS
  have HB := Lib.hid hB
  have HPM := Lib.hid hPM
  clear eX h1 hM hL hS hB hd ez hPM
  go_enter Tryz.func103, Tryz.ntmps103
  go_wp2_with fail
  have c9 : w.cell? ⟨P, 9, none⟩ = some (.int .i64 0) := c 9
  have c10 : w.cell? ⟨P, 10, none⟩ = some (.int .i64 0) := c 10
  have l3 : P < w.heap.size + 1 + 1 := by omega
  go_region
  go_wp2_with fail
  refine wp_loop_rounds 5 ?_
  rw [rounds_succ]
  go_wp2_with fail
  refine (H1.out _).mono ?_
  rintro e w1 ⟨rfl, hb⟩
  have hB1 : Below w.heap.size w w1 := Below.trans (by (repeat' (first | (with_reducible exact Below.refl _ _) | (with_reducible assumption) | (with_reducible refine below_drewN ?_ _) | (with_reducible refine Below.drew ?_) | (with_reducible refine Below.alloc ?_ ?_ _) | (with_reducible refine Below.setCell ?_ ?_ _) | omega | (simp; done) | (simp; omega)))) (hb.mono (by first | omega | (simp; done) | (simp; omega)))
  have k1_0 : Blk w1 (P) 159 #[.int .i64 1, .int .i64 1, .int .i64 2, .int .i64 4, .bool false, .bool true, .map (some M), .int .i64 10, .slice none 0 0, .int .i64 0, .int .i64 0, .int .i64 1, .bool false, .bool true, .bool false, .bool false, .int .i64 0, .int .i64 0, .int .i64 0, .bool false, .slice none 0 0, .slice (some ⟨gL, 0, none⟩) 1 1, .int .i64 0, .int .i64 10, .bool false] := Blk.below (by (repeat' (first | (with_reducible assumption) | (with_reducible exact Blk.new _ _ _) | (exact Blk.newAt (by first | rfl | (simp; done) | omega)) | (with_reducible refine Blk.drewN ?_ _) | (with_reducible refine Blk.drew ?_) | (with_reducible refine Blk.alloc ?_ _) | (with_reducible apply Blk.set_) | (with_reducible refine Blk.far ?_ ?_ _) | rfl | omega | (simp; done) | (simp; omega)))) hb (by first | omega | (simp; done) | (simp; omega))
  have k1_1 : Blk w1 (w.heap.size) 103 #[.int .i64 A, .int .i64 7, .int .i64 3, .int .i64 0, .bool false, .string { data := #[] }, .string X, .string X, .string { data := #[] }, .string { data := #[] }, .slice none 0 0, .slice none 0 0] := Blk.below (by (repeat' (first | (with_reducible assumption) | (with_reducible exact Blk.new _ _ _) | (exact Blk.newAt (by first | rfl | (simp; done) | omega)) | (with_reducible refine Blk.drewN ?_ _) | (with_reducible refine Blk.drew ?_) | (with_reducible refine Blk.alloc ?_ _) | (with_reducible apply Blk.set_) | (with_reducible refine Blk.far ?_ ?_ _) | rfl | omega | (simp; done) | (simp; omega)))) hb (by first | omega | (simp; done) | (simp; omega))
  have k1_2 : Blk w1 (w.heap.size + 1) 154 #[.int .i64 1, .int .i64 2, .int .i64 4, .bool false] := Blk.below (by (repeat' (first | (with_reducible assumption) | (with_reducible exact Blk.new _ _ _) | (exact Blk.newAt (by first | rfl | (simp; done) | omega)) | (with_reducible refine Blk.drewN ?_ _) | (with_reducible refine Blk.drew ?_) | (with_reducible refine Blk.alloc ?_ _) | (with_reducible apply Blk.set_) | (with_reducible refine Blk.far ?_ ?_ _) | rfl | omega | (simp; done) | (simp; omega)))) hb (by first | omega | (simp; done) | (simp; omega))
  have k1_3 : Blk w1 (w.heap.size + 1 + 1) 284 #[.int .i64 0, .int .i64 0, .int .i64 0, .int .i64 0] := Blk.below (by (repeat' (first | (with_reducible assumption) | (with_reducible exact Blk.new _ _ _) | (exact Blk.newAt (by first | rfl | (simp; done) | omega)) | (with_reducible refine Blk.drewN ?_ _) | (with_reducible refine Blk.drew ?_) | (with_reducible refine Blk.alloc ?_ _) | (with_reducible apply Blk.set_) | (with_reducible refine Blk.far ?_ ?_ _) | rfl | omega | (simp; done) | (simp; omega)))) hb (by first | omega | (simp; done) | (simp; omega))
  have c1_0 := k1_0.cell
  have f1_0 := k1_0.frozen
  have l1_0 := k1_0.lt
  have c1_1 := k1_1.cell
  have f1_1 := k1_1.frozen
  have l1_1 := k1_1.lt
  have c1_2 := k1_2.cell
  have f1_2 := k1_2.frozen
  have l1_2 := k1_2.lt
  have c1_3 := k1_3.cell
  have f1_3 := k1_3.frozen
  have l1_3 := k1_3.lt
  have l1 := hB1.size
  clear hb hP c f c9 c10 l3
  go_wp2_with fail
  rw [rounds_succ]
  go_wp2_with fail
  refine (H1.out _).mono ?_
  rintro e w2 ⟨rfl, hb⟩
  have hB2 : Below w.heap.size w w2 := Below.trans (by (repeat' (first | (with_reducible exact Below.refl _ _) | (with_reducible assumption) | (with_reducible refine below_drewN ?_ _) | (with_reducible refine Below.drew ?_) | (with_reducible refine Below.alloc ?_ ?_ _) | (with_reducible refine Below.setCell ?_ ?_ _) | omega | (simp; done) | (simp; omega)))) (hb.mono (by first | omega | (simp; done) | (simp; omega)))
  have k2_0 : Blk w2 (P) 159 #[.int .i64 1, .int .i64 1, .int .i64 2, .int .i64 4, .bool false, .bool true, .map (some M), .int .i64 10, .slice none 0 0, .int .i64 0, .int .i64 0, .int .i64 1, .bool false, .bool true, .bool false, .bool false, .int .i64 0, .int .i64 0, .int .i64 0, .bool false, .slice none 0 0, .slice (some ⟨gL, 0, none⟩) 1 1, .int .i64 0, .int .i64 10, .bool false] := Blk.below (by (repeat' (first | (with_reducible assumption) | (with_reducible exact Blk.new _ _ _) | (exact Blk.newAt (by first | rfl | (simp; done) | omega)) | (with_reducible refine Blk.drewN ?_ _) | (with_reducible refine Blk.drew ?_) | (with_reducible refine Blk.alloc ?_ _) | (with_reducible apply Blk.set_) | (with_reducible refine Blk.far ?_ ?_ _) | rfl | omega | (simp; done) | (simp; omega)))) hb (by first | omega | (simp; done) | (simp; omega))
  have k2_1 : Blk w2 (w.heap.size) 103 #[.int .i64 A, .int .i64 7, .int .i64 3, .int .i64 0, .bool false, .string { data := #[] }, .string X, .string X, .string { data := #[] }, .string { data := #[] }, .slice none 0 0, .slice none 0 0] := Blk.below (by (repeat' (first | (with_reducible assumption) | (with_reducible exact Blk.new _ _ _) | (exact Blk.newAt (by first | rfl | (simp; done) | omega)) | (with_reducible refine Blk.drewN ?_ _) | (with_reducible refine Blk.drew ?_) | (with_reducible refine Blk.alloc ?_ _) | (with_reducible apply Blk.set_) | (with_reducible refine Blk.far ?_ ?_ _) | rfl | omega | (simp; done) | (simp; omega)))) hb (by first | omega | (simp; done) | (simp; omega))
  have k2_2 : Blk w2 (w.heap.size + 1) 154 #[.int .i64 1, .int .i64 2, .int .i64 4, .bool false] := Blk.below (by (repeat' (first | (with_reducible assumption) | (with_reducible exact Blk.new _ _ _) | (exact Blk.newAt (by first | rfl | (simp; done) | omega)) | (with_reducible refine Blk.drewN ?_ _) | (with_reducible refine Blk.drew ?_) | (with_reducible refine Blk.alloc ?_ _) | (with_reducible apply Blk.set_) | (with_reducible refine Blk.far ?_ ?_ _) | rfl | omega | (simp; done) | (simp; omega)))) hb (by first | omega | (simp; done) | (simp; omega))
  have k2_3 : Blk w2 (w.heap.size + 1 + 1) 284 #[.int .i64 0, .int .i64 0, .int .i64 0, .int .i64 0] := Blk.below (by (repeat' (first | (with_reducible assumption) | (with_reducible exact Blk.new _ _ _) | (exact Blk.newAt (by first | rfl | (simp; done) | omega)) | (with_reducible refine Blk.drewN ?_ _) | (with_reducible refine Blk.drew ?_) | (with_reducible refine Blk.alloc ?_ _) | (with_reducible apply Blk.set_) | (with_reducible refine Blk.far ?_ ?_ _) | rfl | omega | (simp; done) | (simp; omega)))) hb (by first | omega | (simp; done) | (simp; omega))
  have c2_0 := k2_0.cell
  have f2_0 := k2_0.frozen
  have l2_0 := k2_0.lt
  have c2_1 := k2_1.cell
  have f2_1 := k2_1.frozen
  have l2_1 := k2_1.lt
  have c2_2 := k2_2.cell
  have f2_2 := k2_2.frozen
  have l2_2 := k2_2.lt
  have c2_3 := k2_3.cell
  have f2_3 := k2_3.frozen
  have l2_3 := k2_3.lt
  have l2 := hB2.size
  clear hb k1_0 c1_0 f1_0 l1_0 k1_1 c1_1 f1_1 l1_1 k1_2 c1_2 f1_2 l1_2 k1_3 c1_3 f1_3 l1_3
  go_wp2_with fail
  rw [rounds_succ]
  go_wp2_with fail
  rw [rounds_succ]
  go_wp2_with fail
  rw [rounds_succ]
  go_wp2_with fail
  obtain ⟨u, eu⟩ : ∃ u, (w2.setCell ⟨w.heap.size + 1 + 1, 1, none⟩ (.int .i64 0)).alloc (.cells #[.int .i64 0, .int .i64 0] 58) = u := ⟨_, rfl⟩
  have q1 : Blk u P 159 #[.int .i64 1, .int .i64 1, .int .i64 2, .int .i64 4, .bool false, .bool true, .map (some M), .int .i64 10, .slice none 0 0, .int .i64 0, .int .i64 0, .int .i64 1, .bool false, .bool true, .bool false, .bool false, .int .i64 0, .int .i64 0, .int .i64 0, .bool false, .slice none 0 0, .slice (some ⟨gL, 0, none⟩) 1 1, .int .i64 0, .int .i64 10, .bool false] := by rw [← eu]; exact (k2_0.far (by simp; omega) _).alloc _
  have q2 : Blk u w2.heap.size 58 #[.int .i64 0, .int .i64 0] := by rw [← eu]; exact Blk.newAt (by simp)
  have q3 : Only [] w u := by
    rw [← eu]
    have h0 : Only [] w w2 := Only.of_below hB2 (Nat.le_refl _) _
    exact (h0.setCell (.inr (by simp; omega)) _).alloc _
  have qM := q3.map HM.out (by simp)
  have qL := q3.blk HL.out (by simp)
  have qS := HS.out.only q3 (by simp) (by simp)
  have hF := flash_sq P M gL B gl gp cp u q1 qL qS (by have := HB.out; have := q3.size; omega) HPM.out qM
  have Q1 := Lib.hid q1
  have Q2 := Lib.hid q2
  have Q3 := Lib.hid q3
  have QL := Lib.hid qL
  have HFL := Lib.hid hF
  rw [eu]
  have lu := q3.size
  have lq2 := q2.lt
  clear eu q1 q2 q3 qM qL qS hF k2_0 c2_0 f2_0 l2_0 k2_1 c2_1 f2_1 l2_1 k2_2 c2_2 f2_2 l2_2 k2_3 c2_3 f2_3 l2_3
  refine (HFL.out).mono ?_
  rintro e w3 ⟨gl2, gp2, cp2, g, cap, rfl, ⟨a1, a2, a3, a4, a5⟩, hs3⟩
  have k4 := a4.blk Q2.out (by
    intro hm
    simp only [List.mem_cons, Option.mem_toList, Value.ownBlock] at hm
    rcases hm with h | h | h
    · exact Q1.out.ne_ Q2.out (by decide) h.symm
    · exact QL.out.ne_ Q2.out (by decide) h.symm
    · cases h)
  have c3 := a1.cell
  have f3 := a1.frozen
  have l3 := a1.lt
  have c4 := k4.cell
  have l4 := k4.lt
  have n9 := hs3.ne_int (a1.cell 0) (by decide)
  have A1 := Lib.hid a1
  have A2 := Lib.hid a2
  have A3 := Lib.hid a3
  have A4 := Lib.hid a4
  have S3 := Lib.hid hs3
  have N9 := Lib.hid n9
  have npl := a1.ne_ a2 (by decide)
  have NPL := Lib.hid npl
  clear a1 a2 a3 a4 a5 hs3 k4 n9 npl
  go_wp2_with fail
  go_ret
  refine ⟨gl2, gp2, cp2, g, cap, rfl, ?_, ?_, ?_, ?_, ?_⟩
  · exact (A1.out.set_ 9 (.int .i64 0) rfl).set_ 10 (.int .i64 0) rfl
  · exact (A2.out.far (by simpa using Ne.symm NPL.out) _).far (by simpa using Ne.symm NPL.out) _
  · exact own_far (own_far A3.out (fun e => own_blk_ne A3.out A1.out (by decide) e) _) (fun e => own_blk_ne (own_far A3.out (fun e => own_blk_ne A3.out A1.out (by decide) e) (.int .i64 0)) (A1.out.set_ 9 (.int .i64 0) rfl) (by decide) e) _
  · exact (S3.out.far (by simpa using N9.out.1) (by simpa using N9.out.2) _).far (by simpa using N9.out.1) (by simpa using N9.out.2) _
  · have h9 : Only [P, gL] w w3 := (Q3.out.mono (by simp)).trans (A4.out.mono (by intro b hb; simpa [Value.ownBlock] using hb))
    exact (h9.setCell (by simp) _).setCell (by simp) _
end Go.Proofs.YtfajckkbinbpiaaGreatDoor
namespace Go.Proofs.YtfajckkbinbpiaaGreatDoor
open Go.RowKit
set_option linter.unusedVariables false
set_option linter.unusedSimpArgs false

set_option maxRecDepth 100000 in
set_option maxHeartbeats 4000000 in
theorem end_c (P gL capL : Nat) (st : Bool) (cd ln lm lx ly : Int) (op : Option Addr) (on oc : Nat) {v0 v1 v2 v3 v4 v5 v6 v7 v8 v9 v10 v11 v12 v13 v14 v15 v16 v17 v18 v19 v20 v22 v23 v24 : Value} {lcs : Array Value} (w : World) (hP : Blk w P 159 #[v0, v1, v2, v3, v4, v5, v6, v7, v8, v9, v10, v11, v12, v13, v14, v15, v16, v17, v18, v19, v20, .slice (some ⟨gL, 0, none⟩) 2 capL, v22, v23, v24]) (hL : Blk w gL 162 lcs) (h7 : ∀ j u, ([.bool st, .int .i64 cd, .int .i64 ln, .int .i64 lm, .int .i64 lx, .int .i64 ly, .slice op on oc] : List Value)[j]? = some u → lcs[7 + j]? = some u) (hcap : 2 ≤ capL) :
    Calls Tryz.prog 167 #[.pointer (some ⟨P, 0, none⟩), .bool st] w fun e w' => e = .returned (.tuple #[.agg #[.bool st, .int .i64 cd, .int .i64 ln, .int .i64 lm, .int .i64 lx, .int .i64 ly, .slice op on oc], .bool true]) ∧ Blk w' P 159 #[v0, v1, v2, v3, v4, v5, v6, v7, v8, v9, v10, v11, v12, v13, v14, v15, v16, v17, v18, v19, v20, .slice (some ⟨gL, 0, none⟩) 1 capL, v22, v23, v24] ∧ Only [P] w w' := by
  have l := hP.lt
  have lL := hL.lt
  have hne := hP.ne_ hL (by decide)
  have c := hP.cell
  have f := hP.frozen
  have r0 : w.cell? ⟨gL, 7, none⟩ = some (.bool st) := (hL.cell 7).trans (h7 0 _ rfl)
  have r1 : w.cell? ⟨gL, 8, none⟩ = some (.int .i64 cd) := (hL.cell 8).trans (h7 1 _ rfl)
  have r2 : w.cell? ⟨gL, 9, none⟩ = some (.int .i64 ln) := (hL.cell 9).trans (h7 2 _ rfl)
  have r3 : w.cell? ⟨gL, 10, none⟩ = some (.int .i64 lm) := (hL.cell 10).trans (h7 3 _ rfl)
  have r4 : w.cell? ⟨gL, 11, none⟩ = some (.int .i64 lx) := (hL.cell 11).trans (h7 4 _ rfl)
  have r5 : w.cell? ⟨gL, 12, none⟩ = some (.int .i64 ly) := (hL.cell 12).trans (h7 5 _ rfl)
  have r6 : w.cell? ⟨gL, 13, none⟩ = some (.slice op on oc) := (hL.cell 13).trans (h7 6 _ rfl)
  have HP := Lib.hid hP
  have hst : (st != st) = false := by simp
  clear hP hL h7
  go_enter Tryz.func167, Tryz.ntmps167
  go_wp2_with fail
  refine bodyPost_ret (results_row_tmp Tryz.results167 _ _ w.heap.size #[.bool st, .int .i64 cd, .int .i64 ln, .int .i64 lm, .int .i64 lx, .int .i64 ly, .slice op on oc] (by rfl) (run_loadVar_row _ _ 162 162 _ (0, 0) _ ?_ Tryz.underlying162 rfl (by kernel_rfl))) rfl ⟨rfl, ?_, ?_⟩
  · exact (Blk.newAt (by simp)).alloc _
  · exact ((HP.out.set_ 21 _ rfl).alloc _).alloc _
  · (repeat' (first | (with_reducible exact Only.refl _ _) | (with_reducible assumption) | (with_reducible refine Only.drewN ?_ _) | (with_reducible refine Only.drew ?_) | (with_reducible refine Only.alloc ?_ _) | (with_reducible refine Only.setCell ?_ ?_ _) | (left; simp; done) | (right; omega) | (right; simp; done) | (right; simp; omega)))
set_option maxRecDepth 100000 in
set_option maxHeartbeats 4000000 in
theorem endBlock_c (P M gL capL : Nat) (cd ln lm lx ly : Int) (op : Option Addr) (on oc : Nat) {v0 v1 v2 v3 v4 v5 v7 v8 v9 v10 v11 v12 v13 v14 v15 v16 v17 v18 v19 v20 v22 v23 v24 : Value} {lcs : Array Value} (es : Array MapEntry) (clk : Nat) (w : World) (hP : Blk w P 159 #[v0, v1, v2, v3, v4, v5, .map (some M), v7, v8, v9, v10, v11, v12, v13, v14, v15, v16, v17, v18, v19, v20, .slice (some ⟨gL, 0, none⟩) 2 capL, v22, v23, v24]) (hM : IsMap w M es clk) (hf : Instr.findNow (.int .i64) (.int .i64 cd) es.toList 0 = some none) (hL : Blk w gL 162 lcs) (h7 : ∀ j u, ([.bool false, .int .i64 cd, .int .i64 ln, .int .i64 lm, .int .i64 lx, .int .i64 ly, .slice op on oc] : List Value)[j]? = some u → lcs[7 + j]? = some u) (hcap : 2 ≤ capL) :
    Calls Tryz.prog 106 #[.pointer (some ⟨P, 0, none⟩)] w fun e w' => e = .returned (.int .i64 0) ∧ Blk w' P 159 #[v0, v1, v2, v3, v4, v5, .map (some M), v7, v8, v9, v10, v11, v12, v13, v14, v15, v16, v17, v18, v19, v20, .slice (some ⟨gL, 0, none⟩) 1 capL, v22, v23, v24] ∧ IsMap w' M (es.push { key := .int .i64 cd, val := .agg #[.int .i64 0, .int .i64 0, .int .i64 0, .int .i64 0, .int .i64 0, .int .i64 0, .int .i64 0, .int .i64 0, .slice none 0 0, .slice none 0 0, .int .i64 0, .bool false, .bool true, .slice op on oc], born := clk }) (clk + 1) ∧ Only [P, M] w w' := by
  have hne := hM.blk_ne hP
  have h1 := end_c P gL capL false cd ln lm lx ly op on oc w hP hL h7 hcap
  have l := hP.lt
  have H1 := Lib.hid h1
  have HM := Lib.hid hM
  have HF := Lib.hid hf
  clear hP hL h7 h1 hM hf
  go_enter Tryz.func106, Tryz.ntmps106
  go_wp2_with fail
  refine (H1.out).mono ?_
  rintro e w1 ⟨rfl, k1, o1⟩
  have m1 := o1.map HM.out (by simpa using hne)
  obtain ⟨u, eu⟩ : ∃ u, w1.alloc (.cells #[.bool false, .int .i64 cd, .int .i64 ln, .int .i64 lm, .int .i64 lx, .int .i64 ly, .slice op on oc] 162) = u := ⟨_, rfl⟩
  have u1 : Blk u P 159 #[v0, v1, v2, v3, v4, v5, .map (some M), v7, v8, v9, v10, v11, v12, v13, v14, v15, v16, v17, v18, v19, v20, .slice (some ⟨gL, 0, none⟩) 1 capL, v22, v23, v24] := by rw [← eu]; exact k1.alloc _
  have u2 : Blk u w1.heap.size 162 #[.bool false, .int .i64 cd, .int .i64 ln, .int .i64 lm, .int .i64 lx, .int .i64 ly, .slice op on oc] := by rw [← eu]; exact Blk.new _ _ _
  have u3 : IsMap u M es clk := by rw [← eu]; exact m1.alloc _
  have u4 : Only [P, M] w u := by rw [← eu]; exact (o1.mono (by simp)).alloc _
  have EU := Lib.hid eu
  have c := u1.cell
  have l1 := u1.lt
  have c2 := u2.cell
  have l2 := u2.lt
  have HU1 := Lib.hid u1
  have HU3 := Lib.hid u3
  have HU4 := Lib.hid u4
  clear u1 u2 u3 u4 eu k1 o1 m1
  go_wp2_with fail
  rw [EU.out]
  go_still_tail 9, (by kernel_rfl)
  change wpList _ _ _ _ _ u.drew
  go_wp2_with (at_mapUpdate; refine wpList_put _ rfl (.tmp 15) (.tmp 17) (.tmp 20) rfl (by simp [Act.eval]) (HU3.out.drew) cd (by simp [Act.eval]) (.agg #[.int .i64 0, .int .i64 0, .int .i64 0, .int .i64 0, .int .i64 0, .int .i64 0, .int .i64 0, .int .i64 0, .slice none 0 0, .slice none 0 0, .int .i64 0, .bool false, .bool true, .slice op on oc]) (by simp [Act.eval]) HF.out ?_; intro w7 m7 g7)
  have M7 := Lib.hid m7
  have K7 := Lib.hid ((HU1.out.drew).grown g7 (by simpa using Ne.symm hne))
  have O7 : Only [P, M] w w7 := (HU4.out.drew).grown g7 (by intro b hb; injection hb with hb; simp [hb])
  clear m7 g7
  go_wp2_with fail
  go_ret
  exact ⟨rfl, K7.out, M7.out, O7⟩
end Go.Proofs.YtfajckkbinbpiaaGreatDoor
