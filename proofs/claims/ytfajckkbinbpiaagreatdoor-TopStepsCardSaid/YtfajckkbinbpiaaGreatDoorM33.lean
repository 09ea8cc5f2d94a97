/- Walks: package plot: a step is opened. What of the memory a plotter's state says. The numbers of a command; none: the slice is nil. Contracts: the words of the statement, each by its kind. -/
import Derived.Test.YtfajckkbinbpiaaGreatDoorM32
import Derived.Test.YtfajckkbinbpiaaGreatDoorM01
import Derived.Lib.QuietBelow
import Derived.Test.YtfajckkbinbpiaaGreatDoorM31
import Derived.Test.YtfajckkbinbpiaaGreatDoorM17
import Derived.Test.YtfajckkbinbpiaaGreatDoorM29
import Derived.Test.YtfajckkbinbpiaaGreatDoorM10
import Derived.Test.YtfajckkbinbpiaaGreatDoorM22
import Derived.Test.YtfajckkbinbpiaaGreatDoorM12
namespace Go.Proofs.YtfajckkbinbpiaaGreatDoor
open Go.RowKit
set_option linter.unusedVariables false
set_option linter.unusedSimpArgs false

theorem lev_cells {lcs : Array Value} {l : List Value} (h : lcs.toList.take 7 = l) (j : Nat) (hj : j < 7) : lcs[j]? = l[j]? := by
  rw [← h, List.getElem?_take_of_lt hj, Array.getElem?_toList]
set_option maxRecDepth 100000 in
set_option maxHeartbeats 4000000 in
theorem number_0 (gn cn : Nat) (A N K v : Int) (w : World) (hc : w.cell? ⟨gn, 0, none⟩ = some (.int .i64 v)) (hl : gn < w.heap.size) : Calls Tryz.prog 159 #[.agg #[.int .i64 A, .int .i64 13, .int .i64 N, .int .i64 K, .bool false, .string { data := #[] }, .string { data := #[] }, .string { data := #[] }, .string { data := #[] }, .string { data := #[] }, .slice (some ⟨gn, 0, none⟩) 2 cn, .slice none 0 0], .int .i64 0] w fun e w' => e = .returned (.int .i64 v) ∧ Below w.heap.size w w' := by
  go_enter Tryz.func159, Tryz.ntmps159
  go_wp2_with fail
  go_ret
  exact ⟨rfl, by (repeat' (first | (with_reducible exact Below.refl _ _) | (with_reducible assumption) | (with_reducible refine below_drewN ?_ _) | (with_reducible refine Below.drew ?_) | (with_reducible refine Below.alloc ?_ ?_ _) | (with_reducible refine Below.setCell ?_ ?_ _) | omega | (simp; done) | (simp; omega)))⟩
set_option maxRecDepth 100000 in
set_option maxHeartbeats 4000000 in
theorem number_1 (gn cn : Nat) (A N K v : Int) (w : World) (hc : w.cell? ⟨gn, 1, none⟩ = some (.int .i64 v)) (hl : gn < w.heap.size) : Calls Tryz.prog 159 #[.agg #[.int .i64 A, .int .i64 13, .int .i64 N, .int .i64 K, .bool false, .string { data := #[] }, .string { data := #[] }, .string { data := #[] }, .string { data := #[] }, .string { data := #[] }, .slice (some ⟨gn, 0, none⟩) 2 cn, .slice none 0 0], .int .i64 1] w fun e w' => e = .returned (.int .i64 v) ∧ Below w.heap.size w w' := by
  go_enter Tryz.func159, Tryz.ntmps159
  go_wp2_with fail
  go_ret
  exact ⟨rfl, by (repeat' (first | (with_reducible exact Below.refl _ _) | (with_reducible assumption) | (with_reducible refine below_drewN ?_ _) | (with_reducible refine Below.drew ?_) | (with_reducible refine Below.alloc ?_ ?_ _) | (with_reducible refine Below.setCell ?_ ?_ _) | omega | (simp; done) | (simp; omega)))⟩
set_option maxRecDepth 100000 in
set_option maxHeartbeats 4000000 in
theorem beginStep_c (P gL capL B gn cn : Nat) (A N K dx dy : Int) {v1 v2 v3 v4 v5 v6 v7 v8 v9 v10 v11 v12 v13 v14 v15 v16 v17 v18 v19 v20 v22 v23 v24 : Value} {lcs : Array Value} (op : Option Addr) (on oc : Nat) (w : World) (hP : Blk w P 159 #[.int .i64 1, v1, v2, v3, v4, v5, v6, v7, v8, v9, v10, v11, v12, v13, v14, v15, v16, v17, v18, v19, v20, .slice (some ⟨gL, 0, none⟩) 1 capL, v22, v23, v24]) (hL : Blk w gL 162 lcs) (h7 : lcs.toList.take 7 = [.bool false, .int .i64 0, .int .i64 0, .int .i64 0, .int .i64 0, .int .i64 0, .slice op on oc]) (hsz : lcs.size = capL * 7) (hcap : 1 ≤ capL) (hmx : capL ≤ maxLen) (hB : B ≤ gL)
    (hx : w.cell? ⟨gn, 0, none⟩ = some (.int .i64 dx)) (hy : w.cell? ⟨gn, 1, none⟩ = some (.int .i64 dy)) (hgn : gn < w.heap.size) (N1 : 1 ≤ N) (N4 : N ≤ 4) (K1 : 1 ≤ K) (K4 : K ≤ 4) (x0 : 0 ≤ dx) (x1 : dx ≤ 7000000) (y0 : 0 ≤ dy) (y1 : dy ≤ 7000000) :
    Calls Tryz.prog 105 #[.pointer (some ⟨P, 0, none⟩), .agg #[.int .i64 A, .int .i64 13, .int .i64 N, .int .i64 K, .bool false, .string { data := #[] }, .string { data := #[] }, .string { data := #[] }, .string { data := #[] }, .string { data := #[] }, .slice (some ⟨gn, 0, none⟩) 2 cn, .slice none 0 0]] w fun e w' => e = .returned (.int .i64 0) ∧ Opened P B gL (fun lv => #[.int .i64 1, v1, v2, v3, v4, v5, v6, v7, v8, v9, v10, v11, v12, v13, v14, v15, v16, v17, v18, v19, v20, lv, v22, v23, v24]) lcs [.bool true, .int .i64 0, .int .i64 N, .int .i64 K, .int .i64 (dx * 10), .int .i64 (dy * 10), .slice none 0 0] w w' := by
  have l := hP.lt
  have lL := hL.lt
  have c := hP.cell
  have f := hP.frozen
  have r0 : w.cell? ⟨gL, 0, none⟩ = some (.bool false) := (hL.cell 0).trans (lev_cells h7 0 (by omega))
  have r1 : w.cell? ⟨gL, 1, none⟩ = some (.int .i64 0) := (hL.cell 1).trans (lev_cells h7 1 (by omega))
  have r2 : w.cell? ⟨gL, 2, none⟩ = some (.int .i64 0) := (hL.cell 2).trans (lev_cells h7 2 (by omega))
  have r3 : w.cell? ⟨gL, 3, none⟩ = some (.int .i64 0) := (hL.cell 3).trans (lev_cells h7 3 (by omega))
  have r4 : w.cell? ⟨gL, 4, none⟩ = some (.int .i64 0) := (hL.cell 4).trans (lev_cells h7 4 (by omega))
  have r5 : w.cell? ⟨gL, 5, none⟩ = some (.int .i64 0) := (hL.cell 5).trans (lev_cells h7 5 (by omega))
  have r6 : w.cell? ⟨gL, 6, none⟩ = some (.slice op on oc) := (hL.cell 6).trans (lev_cells h7 6 (by omega))
  have HP := Lib.hid hP
  have HL := Lib.hid hL
  have m1 : ∀ w' d os, w'.cell? ⟨gn, 0, none⟩ = some (.int .i64 dx) → gn < w'.heap.size → Calls Tryz.prog 159 #[.agg #[.int .i64 A, .int .i64 13, .int .i64 N, .int .i64 K, .bool false, .string { data := #[] }, .string { data := #[] }, .string { data := #[] }, .string { data := #[] }, .string { data := #[] }, .slice (some ⟨gn, 0, none⟩) 2 cn, .slice none 0 0], .int .i64 0] (Go.Sort.grow (redrawn w' d) os) fun e w'' => e = .returned (.int .i64 dx) ∧ ∃ p : Regrown, w'' = Go.Sort.grow (redrawn w' p.d) p.os := fun w' d os h hl =>
    Calls.regrown_of (number_0 gn cn A N K dx _ (cell_regrown h d os) (Nat.lt_of_lt_of_le hl (below_regrown w' d os).size))
  have m2 : ∀ w' d os, w'.cell? ⟨gn, 1, none⟩ = some (.int .i64 dy) → gn < w'.heap.size → Calls Tryz.prog 159 #[.agg #[.int .i64 A, .int .i64 13, .int .i64 N, .int .i64 K, .bool false, .string { data := #[] }, .string { data := #[] }, .string { data := #[] }, .string { data := #[] }, .string { data := #[] }, .slice (some ⟨gn, 0, none⟩) 2 cn, .slice none 0 0], .int .i64 1] (Go.Sort.grow (redrawn w' d) os) fun e w'' => e = .returned (.int .i64 dy) ∧ ∃ p : Regrown, w'' = Go.Sort.grow (redrawn w' p.d) p.os := fun w' d os h hl =>
    Calls.regrown_of (number_1 gn cn A N K dy _ (cell_regrown h d os) (Nat.lt_of_lt_of_le hl (below_regrown w' d os).size))
  obtain ⟨W, eW⟩ : ∃ W, (w.alloc (.cells #[.int .i64 A, .int .i64 13, .int .i64 N, .int .i64 K, .bool false, .string { data := #[] }, .string { data := #[] }, .string { data := #[] }, .string { data := #[] }, .string { data := #[] }, .slice (some ⟨gn, 0, none⟩) 2 cn, .slice none 0 0] 103)).alloc (.cells #[.bool false, .int .i64 0, .int .i64 0, .int .i64 0, .int .i64 0, .int .i64 0, .slice op on oc] 162) = W := ⟨_, rfl⟩
  have o1 : Only [] w W := by rw [← eW]; exact ((Only.refl _ _).alloc _).alloc _
  have n1 : Blk W w.heap.size 103 #[.int .i64 A, .int .i64 13, .int .i64 N, .int .i64 K, .bool false, .string { data := #[] }, .string { data := #[] }, .string { data := #[] }, .string { data := #[] }, .string { data := #[] }, .slice (some ⟨gn, 0, none⟩) 2 cn, .slice none 0 0] := by rw [← eW]; exact (Blk.new _ _ _).alloc _
  have hgW : gn < W.heap.size := by have := o1.size; omega
  have M1 := Lib.hid (fun d os => m1 W d os ((World.cell?_of_block (w := w) (o1.block gn hgn (by simp))).trans hx) hgW)
  have M2 := Lib.hid (fun d os => m2 W d os ((World.cell?_of_block (w := w) (o1.block gn hgn (by simp))).trans hy) hgW)
  have HO1 := Lib.hid o1
  have HN1 := Lib.hid n1
  have EW := Lib.hid eW
  have cells : ∀ i v, #[.int .i64 A, .int .i64 13, .int .i64 N, .int .i64 K, .bool false, .string { data := #[] }, .string { data := #[] }, .string { data := #[] }, .string { data := #[] }, .string { data := #[] }, .slice (some ⟨gn, 0, none⟩) 2 cn, .slice none 0 0][i]? = some v → W.cell? ⟨w.heap.size, i, none⟩ = some v := fun i v h => (n1.cell i).trans h
  have q0 := cells 0 (.int .i64 A) rfl
  have q1 := cells 1 (.int .i64 13) rfl
  have q2 := cells 2 (.int .i64 N) rfl
  have q3 := cells 3 (.int .i64 K) rfl
  have q4 := cells 4 (.bool false) rfl
  have q5 := cells 5 (.string { data := #[] }) rfl
  have q6 := cells 6 (.string { data := #[] }) rfl
  have q7 := cells 7 (.string { data := #[] }) rfl
  have q8 := cells 8 (.string { data := #[] }) rfl
  have q9 := cells 9 (.string { data := #[] }) rfl
  have q10 := cells 10 (.slice (some ⟨gn, 0, none⟩) 2 cn) rfl
  have q11 := cells 11 (.slice none 0 0) rfl
  have Hsz := Lib.hid hsz
  have Hmx := Lib.hid hmx
  clear hP hL h7 m1 m2 o1 n1 eW hx hy hsz hmx cells
  go_enter Tryz.func105, Tryz.ntmps105
  go_wp2_with fail
  refine wp_loop_rounds 2 ?_
  rw [rounds_succ]
  go_wp2_with fail
  rw [rounds_succ]
  go_wp2_with fail
  rw [EW.out]
  have g0 := cell_regrown q0
  have g1 := cell_regrown q1
  have g2 := cell_regrown q2
  have g3 := cell_regrown q3
  have g4 := cell_regrown q4
  have g5 := cell_regrown q5
  have g6 := cell_regrown q6
  have g7 := cell_regrown q7
  have g8 := cell_regrown q8
  have g9 := cell_regrown q9
  have g10 := cell_regrown q10
  have g11 := cell_regrown q11
  refine wp_region_quiet_below (by kernel_rfl) (by kernel_rfl) ?_
  repeat (first | go_big_quiet_step (first | (with_reducible exact M1.out _ _) | (with_reducible exact M2.out _ _)) | quiet_step (first | (with_reducible exact M1.out _ _) | (with_reducible exact M2.out _ _)))
  refine wpQuiet_nil ?_
  intro u hw'
  have hb : Below W.heap.size W u := by obtain ⟨p, rfl⟩ := hw'; exact below_regrown _ _ _
  have u5 : Only [] w u := HO1.out.below hb HO1.out.size
  have u1 : Blk u P 159 #[.int .i64 1, v1, v2, v3, v4, v5, v6, v7, v8, v9, v10, v11, v12, v13, v14, v15, v16, v17, v18, v19, v20, .slice (some ⟨gL, 0, none⟩) 1 capL, v22, v23, v24] := u5.blk HP.out (by simp)
  have u2 : Blk u gL 162 lcs := u5.blk HL.out (by simp)
  have uC : Blk u w.heap.size 103 #[.int .i64 A, .int .i64 13, .int .i64 N, .int .i64 K, .bool false, .string { data := #[] }, .string { data := #[] }, .string { data := #[] }, .string { data := #[] }, .string { data := #[] }, .slice (some ⟨gn, 0, none⟩) 2 cn, .slice none 0 0] := HN1.out.below hb HN1.out.lt
  have c := u1.cell
  have f := u1.frozen
  have l := u1.lt
  have cC := uC.cell
  have lC := uC.lt
  obtain ⟨Q, eQ⟩ : ∃ Q, N * K = Q := ⟨_, rfl⟩
  have Q0 : 0 ≤ Q := by rw [← eQ]; exact Int.mul_nonneg (by omega) (by omega)
  have Q1 : Q ≤ 16 := by
    rw [← eQ]
    have := Int.mul_le_mul N4 K4 (by omega) (by omega)
    omega
  clear hw' M1 M2 r0 r1 r2 r3 r4 r5 r6 q0 q1 q2 q3 q4 q5 q6 q7 q8 q9 q10 q11 hb g0 g1 g2 g3 g4 g5 g6 g7 g8 g9 g10 g11
  go_wp2_with (first | (go_at_call 166; (with_reducible refine (grain_c dx _ (by omega) (by omega)).mono ?_); rintro e w' ⟨rfl, rfl⟩) | (go_at_call 166; (with_reducible refine (grain_c dy _ (by omega) (by omega)).mono ?_); rintro e w' ⟨rfl, rfl⟩))
  have hsz := Hsz.out
  have hmx := Hmx.out
  have hown0 : ((u.alloc (.cells #[.bool true, .int .i64 0, .int .i64 N, .int .i64 K, .int .i64 (dx * 10), .int .i64 (dy * 10), .slice none 0 0] 162)).drew).ownsRow B 162 7 (.slice (some ⟨gL, 0, none⟩) 1 capL) 1 (lcs.toList.take 7) := ((own_of_levels u2 hsz hcap hmx hB).alloc _).drew
  have hN : ∀ j v, ([.bool true, .int .i64 0, .int .i64 N, .int .i64 K, .int .i64 (dx * 10), .int .i64 (dy * 10), .slice none 0 0] : List Value)[j]? = some v → ((u.alloc (.cells #[.bool true, .int .i64 0, .int .i64 N, .int .i64 K, .int .i64 (dx * 10), .int .i64 (dy * 10), .slice none 0 0] 162)).drew).cell? ((⟨u.heap.size, 0, none⟩ : Addr).add j) = some v :=
    World.news_of_block (cs := #[.bool true, .int .i64 0, .int .i64 N, .int .i64 K, .int .i64 (dx * 10), .int .i64 (dy * 10), .slice none 0 0]) (Blk.newAt (w := u) rfl)
  have hO : ∀ v ∈ ([.bool true, .int .i64 0, .int .i64 N, .int .i64 K, .int .i64 (dx * 10), .int .i64 (dy * 10), .slice none 0 0] : List Value), v.oneCell' = true := by
    intro v hv
    simp only [List.mem_cons, List.not_mem_nil, or_false] at hv
    rcases hv with rfl | rfl | rfl | rfl | rfl | rfl | rfl <;> rfl
  have hsz2 : B ≤ ((u.alloc (.cells #[.bool true, .int .i64 0, .int .i64 N, .int .i64 K, .int .i64 (dx * 10), .int .i64 (dy * 10), .slice none 0 0] 162)).drew).heap.size := by have := u2.lt; simp; omega
  obtain ⟨i85, hi85, hz0, hz1, hz2⟩ := info_parts info85
  have HI := Lib.hid (And.intro hi85 (And.intro hz0 (And.intro hz1 hz2)))
  have hZ : Hid ((Value.agg #[.bool false, .int .i64 0, .int .i64 0, .int .i64 0, .int .i64 0, .int .i64 0, .slice none 0 0]).cells.size = 7) := Lib.hid (by kernel_rfl)
  have c := u1.cell
  have f := u1.frozen
  have l := u1.lt
  have cC := uC.cell
  have lC := uC.lt
  have HU1 := Lib.hid u1
  have HU2 := Lib.hid u2
  have HU5 := Lib.hid u5
  have HOWN := Lib.hid hown0
  have HN := Lib.hid hN
  have HOO := Lib.hid hO
  have HSZ := Lib.hid hsz2
  have p21 : u.cell? ⟨P, 21, none⟩ = some (.slice (some ⟨gL, 0, none⟩) 1 capL) := c 21
  clear u1 u2 u5 uC hown0 hN hO hsz2 hi85 hz0 hz1 hz2 hsz hcap hmx
  go_region_law (refine step_append_lies _ rfl (.tmp 104) (.tmp 113) 152 rfl B 162 i85 _ 7 72 Tryz.underlying152 HI.out.1 HI.out.2.1 HI.out.2.2.1 HI.out.2.2.2 hZ.out (by decide) (.slice (some ⟨gL, 0, none⟩) 1 capL) 1 (lcs.toList.take 7) (by simp [Act.eval, Act.put]) HOWN.out ⟨u.heap.size, 0, none⟩ 1 1 [.bool true, .int .i64 0, .int .i64 N, .int .i64 K, .int .i64 (dx * 10), .int .i64 (dy * 10), .slice none 0 0] (by simp [Act.eval, Act.put]) rfl HN.out HOO.out (by decide) (by decide) (by decide) HSZ.out _ rfl ?_; intro g cap w3 hown hgrow hat hlt; obtain ⟨cP, fP, hA⟩ := opened_of (w := w) (pc := (fun lv => #[.int .i64 1, v1, v2, v3, v4, v5, v6, v7, v8, v9, v10, v11, v12, v13, v14, v15, v16, v17, v18, v19, v20, lv, v22, v23, v24])) (fun _ _ => rfl) ((HU1.out.alloc _).drew) ((HU2.out.alloc _).drew) HOWN.out ((HU5.out.alloc _).drew) hown hgrow hat; have HA := Lib.hid hA; simp only [List.getElem?_toArray, List.getElem?_cons_succ, List.getElem?_cons_zero] at cP; clear hown hgrow hat hA)
  all_goals
    go_wp2_with fail
    go_ret
    exact ⟨rfl, HA.out⟩
end Go.Proofs.YtfajckkbinbpiaaGreatDoor
namespace Go.Proofs.YtfajckkbinbpiaaGreatDoor
open Go.RowKit
set_option linter.unusedVariables false
set_option linter.unusedSimpArgs false

def fmtI (b : Bool) (v : Int) : Int := if b then v else 0
/-- A plotter's cells. -/
def pcellsOf (s : St) (M : Nat) (lv : Value) (bud : Int) : Array Value := #[.int .i64 s.unit, .int .i64 (fmtI s.fmt 1), .int .i64 (fmtI s.fmt 2), .int .i64 (fmtI s.fmt 4), .bool false, .bool s.fmt, .map (some M), .int .i64 s.pick, .slice none 0 0, .int .i64 s.x, .int .i64 s.y, .int .i64 1, .bool false, .bool s.dark, .bool false, .bool false, .int .i64 0, .int .i64 0, .int .i64 0, .bool false, .slice none 0 0, lv, .int .i64 (s.made : Int), .int .i64 bud, .bool s.ended]
def entry10 : MapEntry := { key := .int .i64 10, val := .agg #[.int .i64 1, .int .i64 0, .int .i64 0, .int .i64 0, .int .i64 0, .int .i64 0, .int .i64 0, .int .i64 2500000, .slice none 0 0, .slice none 0 0, .int .i64 2500000, .bool true, .bool false, .slice none 0 0], born := 0 }
def entry20 (v : Value) : MapEntry := { key := .int .i64 20, val := .agg #[.int .i64 0, .int .i64 0, .int .i64 0, .int .i64 0, .int .i64 0, .int .i64 0, .int .i64 0, .int .i64 0, .slice none 0 0, .slice none 0 0, .int .i64 0, .bool false, .bool true, v], born := 1 }
def LevIs (w : World) (B : Nat) (lcs : Array Value) : Option Lev → Prop
  | none => True
  | some v => ∃ v1, (∀ j u, ([.bool v.step, .int .i64 v.code, .int .i64 v.n, .int .i64 v.m, .int .i64 v.bx, .int .i64 v.by_, v1] : List Value)[j]? = some u → lcs[7 + j]? = some u) ∧ w.ownsRow B 65 11 v1 v.objs.length (ocells v.objs)
def MapIs (w : World) (B M : Nat) (v0 : Value) (a10 : Bool) : Option (List Ob) → Prop
  | none => if a10 then IsMap w M #[entry10] 1 else IsMap w M #[] 0
  | some l => a10 = true ∧ ∃ v, IsMap w M #[entry10, entry20 v] 2 ∧ w.ownsRow B 65 11 v l.length (ocells l) ∧ ∀ q, v.ownBlock = some q → v0.ownBlock ≠ some q
def nLev (l : Option Lev) : Nat := if l.isSome then 2 else 1
/-- What of the memory a plotter's state says. -/
structure InvAt (B P M : Nat) (bud : Int) (s : St) (w : World) (gL capL : Nat) (lcs : Array Value) (v0 : Value) : Prop where
  blk : Blk w P 159 (pcellsOf s M (.slice (some ⟨gL, 0, none⟩) (nLev s.lev) capL) bud)
  lv : Blk w gL 162 lcs
  sz : lcs.size = capL * 7
  cap : nLev s.lev ≤ capL
  mx : capL ≤ maxLen
  gB : B ≤ gL
  h7 : lcs.toList.take 7 = [.bool false, .int .i64 0, .int .i64 0, .int .i64 0, .int .i64 0, .int .i64 0, v0]
  own : w.ownsRow B 65 11 v0 s.base.length (ocells s.base)
  nil : s.made = 0 ∨ s.lev.isSome = true → v0 = .slice none 0 0
  lev : LevIs w B lcs s.lev
  map : MapIs w B M v0 s.a10 s.blk
  PB : B ≤ P
  MB : B ≤ M
  BW : B ≤ w.heap.size
def Inv (B P M : Nat) (bud : Int) (s : St) (w : World) : Prop := ∃ gL capL lcs v0, InvAt B P M bud s w gL capL lcs v0
theorem LevIs.only {w w' : World} {B : Nat} {lcs : Array Value} {l : Option Lev} (h : LevIs w B lcs l) (hk : ∀ v n xs, w.ownsRow B 65 11 v n xs → w'.ownsRow B 65 11 v n xs) : LevIs w' B lcs l := by
  cases l with
  | none => trivial
  | some v => obtain ⟨v1, h1, h2⟩ := h; exact ⟨v1, h1, hk _ _ _ h2⟩
theorem MapIs.only {w w' : World} {B M : Nat} {v0 : Value} {a : Bool} {l : Option (List Ob)} (h : MapIs w B M v0 a l) (hm : ∀ es clk, IsMap w M es clk → IsMap w' M es clk) (hk : ∀ v n xs, w.ownsRow B 65 11 v n xs → w'.ownsRow B 65 11 v n xs) : MapIs w' B M v0 a l := by
  cases l with
  | none => cases a <;> exact hm _ _ h
  | some l => obtain ⟨h0, v, h1, h2, h3⟩ := h; exact ⟨h0, v, hm _ _ h1, hk _ _ _ h2, h3⟩
theorem InvAt.isMap {B P M : Nat} {bud : Int} {s : St} {w : World} {gL capL : Nat} {lcs : Array Value} {v0 : Value} (h : InvAt B P M bud s w gL capL lcs v0) : ∃ es clk, IsMap w M es clk := by
  have hm := h.map
  cases hb : s.blk with
  | none => rw [hb] at hm; cases ha : s.a10 <;> rw [ha] at hm <;> exact ⟨_, _, hm⟩
  | some l => rw [hb] at hm; obtain ⟨_, v, h1, _⟩ := hm; exact ⟨_, _, h1⟩
/-- Only the plotter's own cells turn. -/
theorem InvAt.turnP {B P M : Nat} {bud : Int} {s s' : St} {w w' : World} {gL capL : Nat} {lcs : Array Value} {v0 : Value} (h : InvAt B P M bud s w gL capL lcs v0) (hP' : Blk w' P 159 (pcellsOf s' M (.slice (some ⟨gL, 0, none⟩) (nLev s.lev) capL) bud)) (ho : Only [P] w w')
    (e1 : s'.lev = s.lev) (e2 : s'.base = s.base) (e3 : s'.a10 = s.a10) (e4 : s'.blk = s.blk) (e5 : s'.made = s.made) : InvAt B P M bud s' w' gL capL lcs v0 := by
  have hne := h.blk.ne_ h.lv (by decide)
  obtain ⟨es, clk, hm⟩ := h.isMap
  have hMP := hm.blk_ne h.blk
  have hk : ∀ v n xs, w.ownsRow B 65 11 v n xs → w'.ownsRow B 65 11 v n xs := fun v n xs hv => ho.own hv (fun b hb hq => by simp at hq; subst hq; exact own_blk_ne hv h.blk (by decide) hb)
  exact ⟨by rw [e1]; exact hP', ho.blk h.lv (by simpa using Ne.symm hne), h.sz, by rw [e1]; exact h.cap, h.mx, h.gB, h.h7, by rw [e2]; exact hk _ _ _ h.own, by rw [e5, e1]; exact h.nil, by rw [e1]; exact h.lev.only hk, by rw [e3, e4]; exact h.map.only (fun es clk hm => ho.map hm (by simpa using hMP)) hk, h.PB, h.MB, Nat.le_trans h.BW ho.size⟩
theorem InvAt.alloc {B P M : Nat} {bud : Int} {s : St} {w : World} {gL capL : Nat} {lcs : Array Value} {v0 : Value} (h : InvAt B P M bud s w gL capL lcs v0) (o : Obj) : InvAt B P M bud s (w.alloc o) gL capL lcs v0 :=
  h.turnP (h.blk.alloc o) ((Only.refl _ _).alloc o) rfl rfl rfl rfl rfl
end Go.Proofs.YtfajckkbinbpiaaGreatDoor
namespace Go.Proofs.YtfajckkbinbpiaaGreatDoor
open Go.RowKit
set_option linter.unusedVariables false
set_option linter.unusedSimpArgs false

def Numz (w : World) (B : Nat) (v : Value) (l : List Int) : Prop := Nums w B v l ∧ (l = [] → v = .slice none 0 0)
theorem numz_form {w : World} {B : Nat} {v : Value} {l : List Int} (h : Numz w B v l) : ∃ p n c, v = .slice p n c := nums_form h.1
theorem numz_mono {w : World} {B B' : Nat} {v : Value} {l : List Int} (h : Numz w B v l) (hb : B' ≤ B) : Numz w B' v l := ⟨nums_mono h.1 hb, h.2⟩
theorem numz_alloc {w : World} {B : Nat} {v : Value} {l : List Int} (h : Numz w B v l) (o : Obj) : Numz (w.alloc o) B v l := ⟨nums_alloc h.1 o, h.2⟩
theorem numz_below {w w' : World} {B B' : Nat} {v : Value} {l : List Int} (h : Numz w B v l) (hb : Below B' w w') (hB : w.heap.size ≤ B') : Numz w' B v l := ⟨nums_below h.1 hb hB, h.2⟩
theorem numz_nil (w : World) (B : Nat) : Numz w B (.slice none 0 0) [] := ⟨World.ownsRow_nil _ _ _ _, fun _ => rfl⟩
end Go.Proofs.YtfajckkbinbpiaaGreatDoor
namespace Go.Proofs.YtfajckkbinbpiaaGreatDoor
open Go.RowKit
set_option linter.unusedVariables false
set_option linter.unusedSimpArgs false

/-- The command of a group of ours. -/
theorem extended_c (g : Gr) (he : g.ext = true) (ho : g.Ok) (w : World) : Calls Tryz.prog 94 #[.string (bs g.word)] w fun e w' => ∃ nv, e = .returned (.tuple #[.agg (g.cells 0 nv).toArray, .int .i64 0]) ∧ Numz w' w.heap.size nv g.nums ∧ Below w.heap.size w w' := by
  cases g
  case fs => exact (extended_FSLAX24Y24 w).mono fun e w' ⟨h, hb⟩ => ⟨_, h, numz_nil _ _, hb⟩
  case mo => exact (extended_MOMM w).mono fun e w' ⟨h, hb⟩ => ⟨_, h, numz_nil _ _, hb⟩
  case adc => exact (extended_ADD10C_0_5 w).mono fun e w' ⟨v, h, hn, hb⟩ => ⟨v, h, ⟨hn, fun h => by cases h⟩, hb⟩
  case adr => exact (extended_ADD10R_4X4 w).mono fun e w' ⟨v, h, hn, hb⟩ => ⟨v, h, ⟨hn, fun h => by cases h⟩, hb⟩
  case lpc => exact (extended_LPC w).mono fun e w' ⟨h, hb⟩ => ⟨_, h, numz_nil _ _, hb⟩
  case lpd => exact (extended_LPD w).mono fun e w' ⟨h, hb⟩ => ⟨_, h, numz_nil _ _, hb⟩
  case sre => exact (extended_SR w).mono fun e w' ⟨h, hb⟩ => ⟨_, h, numz_nil _ _, hb⟩
  case ab => exact (extended_ABD20 w).mono fun e w' ⟨h, hb⟩ => ⟨_, h, numz_nil _ _, hb⟩
  case abe => exact (extended_AB w).mono fun e w' ⟨h, hb⟩ => ⟨_, h, numz_nil _ _, hb⟩
  case sr n m x y => exact (extended_step n m x y w ho.1 ho.2.1 ho.2.2.1 ho.2.2.2).mono fun e w' ⟨v, h, hn, hb⟩ => ⟨v, h, ⟨hn, fun h => by cases h⟩, hb⟩
  all_goals cases he
/-- The command of a word of ours outside of groups. -/
theorem plain_c (g : Gr) (he : g.ext = false) (ho : g.Ok) (w : World) : Calls Tryz.prog 62 #[.string (bs g.word)] w fun e w' => ∃ v nv, e = .returned (.tuple #[v, .int .i64 0]) ∧ Numz w' w.heap.size nv g.nums ∧ Cmds w' w.heap.size v [g.cells 0 nv] ∧ Below w.heap.size w w' := by
  cases g
  case m02 => exact (plain_M02 w).mono fun e w' ⟨v, h, hn, hb⟩ => ⟨v, _, h, numz_nil _ _, hn, hb⟩
  case d10 => exact (plain_D10 w).mono fun e w' ⟨v, h, hn, hb⟩ => ⟨v, _, h, numz_nil _ _, hn, hb⟩
  case d20 => exact (plain_D20 w).mono fun e w' ⟨v, h, hn, hb⟩ => ⟨v, _, h, numz_nil _ _, hn, hb⟩
  case op2 a b => exact (plain_op2 a b w ho.1.1 ho.2.1 ho.1.2.1 (by have := ho.1.2.2.1; omega) ho.2.2.1 (by have := ho.2.2.2.1; omega)).mono fun e w' ⟨v, h, hn, hb⟩ => ⟨v, _, h, numz_nil _ _, hn, hb⟩
  case op3 a b => exact (plain_op3 a b w ho.1.1 ho.2.1 ho.1.2.1 (by have := ho.1.2.2.1; omega) ho.2.2.1 (by have := ho.2.2.2.1; omega)).mono fun e w' ⟨v, h, hn, hb⟩ => ⟨v, _, h, numz_nil _ _, hn, hb⟩
  all_goals cases he
end Go.Proofs.YtfajckkbinbpiaaGreatDoor
