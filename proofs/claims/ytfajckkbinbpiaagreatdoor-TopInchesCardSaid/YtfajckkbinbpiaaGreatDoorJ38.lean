/- Walks: package plot: the operation that flashes the one square. Walks: package plot: commands are plotted. -/
import Derived.Carry
import Derived.Deep.AppendLies
import Derived.Deep.RegionLaw
import Derived.Lib.QuietBelow
import Derived.LoopTactic
import Derived.StillTailTactics
import Derived.Test.YtfajckkbinbpiaaGreatDoorJ01
import Derived.Test.YtfajckkbinbpiaaGreatDoorJ05
import Derived.Test.YtfajckkbinbpiaaGreatDoorJ07
import Derived.Test.YtfajckkbinbpiaaGreatDoorJ08
import Derived.Test.YtfajckkbinbpiaaGreatDoorJ09
import Derived.Test.YtfajckkbinbpiaaGreatDoorJ13
import Derived.Test.YtfajckkbinbpiaaGreatDoorJ24
import Derived.Test.YtfajckkbinbpiaaGreatDoorJ37
namespace Go.Proofs.YtfajckkbinbpiaaGreatDoor
set_option maxRecDepth 100000
set_option maxHeartbeats 32000000
set_option linter.unusedVariables false
set_option linter.unusedSimpArgs false
open Go.RowKit
theorem operate_sq (P M gL B gl gp cp : Nat) (A : Int) (w : World) (hP : Blk w P 159 #[.int .i64 1, .int .i64 1, .int .i64 2, .int .i64 4, .bool false, .bool true, .map (some M), .int .i64 10, .slice none 0 0, .int .i64 0, .int .i64 0, .int .i64 1, .bool false, .bool true, .bool false, .bool false, .int .i64 0, .int .i64 0, .int .i64 0, .bool false, .slice none 0 0, .slice (some ⟨gL, 0, none⟩) 1 1, .int .i64 0, .int .i64 10, .bool false]) (hL : Blk w gL 162 #[.bool false, .int .i64 0, .int .i64 0, .int .i64 0, .int .i64 0, .int .i64 0, .slice none 0 0]) (hS : SqAt w gl gp cp) (hB : B ≤ w.heap.size) (hPM : P ≠ M) (hM : IsMap w M #[{ key := .int .i64 10, val := .agg #[.int .i64 2, .int .i64 0, .int .i64 0, .int .i64 0, .int .i64 0, .int .i64 0, .int .i64 0, .int .i64 0, .slice (some ⟨gl, 0, none⟩) 1 1, .slice none 0 0, .int .i64 0, .bool false, .bool false, .slice none 0 0], born := 0 }] 1) :
    Calls Tryz.prog 103 #[.pointer (some ⟨P, 0, none⟩), .agg #[.int .i64 A, .int .i64 7, .int .i64 3, .int .i64 0, .bool false, .string { data := #[] }, .string (bs [48]), .string (bs [48]), .string { data := #[] }, .string { data := #[] }, .slice none 0 0, .slice none 0 0]] w fun e w' => ∃ gl2 gp2 cp2 g cap, e = .returned (.int .i64 0) ∧ Blk w' P 159 #[.int .i64 1, .int .i64 1, .int .i64 2, .int .i64 4, .bool false, .bool true, .map (some M), .int .i64 10, .slice none 0 0, .int .i64 0, .int .i64 0, .int .i64 1, .bool false, .bool true, .bool false, .bool false, .int .i64 0, .int .i64 0, .int .i64 0, .bool false, .slice none 0 0, .slice (some ⟨gL, 0, none⟩) 1 1, .int .i64 1, .int .i64 10, .bool false] ∧ Blk w' gL 162 #[.bool false, .int .i64 0, .int .i64 0, .int .i64 0, .int .i64 0, .int .i64 0, .slice (some ⟨g, 0, none⟩) 1 cap] ∧ w'.ownsRow B 65 11 (.slice (some ⟨g, 0, none⟩) 1 cap) 1 [.bool true, .int .i64 2, .int .i64 0, .int .i64 0, .int .i64 0, .int .i64 0, .int .i64 0, .int .i64 0, .int .i64 0, .slice (some ⟨gl2, 0, none⟩) 1 1, .slice none 0 0] ∧ SqAt w' gl2 gp2 cp2 ∧ Only [P, gL] w w' := by
  have hd : Digits [48] := by intro c hc; simp at hc; subst hc; decide
  have h1 := fun w => coord_c [48] w hd (by decide) (by decide) (by decide)
  have ez : coordOf [48] = 0 := by decide
  obtain ⟨X, eX⟩ : ∃ x, bs [48] = x := ⟨_, rfl⟩
  have z1 : X.toList.isEmpty = false := by rw [← eX, bs_toList]; rfl
  have h1 : ∀ w, Calls Tryz.prog 162 #[.string X, .agg #[.int .i64 1, .int .i64 2, .int .i64 4, .bool false]] w fun e w' => e = .returned (.tuple #[.int .i64 0, .bool true]) ∧ Below w.heap.size w w' := by rw [← eX, ← ez]; exact h1
  rw [eX]
  have i0 : ∀ w, (Instr.index 285 (.agg #[.string X, .string X, .string { data := #[] }, .string { data := #[] }]) (.int .i64 0)).run Tryz.prog w = .ok (.string X) w := fun _ => by kernel_rfl
  have i1 : ∀ w, (Instr.index 285 (.agg #[.string X, .string X, .string { data := #[] }, .string { data := #[] }]) (.int .i64 1)).run Tryz.prog w = .ok (.string X) w := fun _ => by kernel_rfl
  have i2 : ∀ w, (Instr.index 285 (.agg #[.string X, .string X, .string { data := #[] }, .string { data := #[] }]) (.int .i64 2)).run Tryz.prog w = .ok (.string { data := #[] }) w := fun _ => by kernel_rfl
  have i3 : ∀ w, (Instr.index 285 (.agg #[.string X, .string X, .string { data := #[] }, .string { data := #[] }]) (.int .i64 3)).run Tryz.prog w = .ok (.string { data := #[] }) w := fun _ => by kernel_rfl
  have H1 := Lib.hid h1
  have c := hP.cell
  have f := hP.frozen
  have l := hP.lt
  have lM := hM.lt
  have lL := hL.lt
  have HM := Lib.hid hM
  have HL := Lib.hid hL
  have HS := Lib.hid hS
  have HB := Lib.hid hB
  have HPM := Lib.hid hPM
  clear eX h1 hM hL hS hB hd ez hPM
  go_enter Tryz.func103, Tryz.ntmps103
  go_wp2_with fail
  have c9 : w.cell? ⟨P, 9, none⟩ = some (.int .i64 0) := c 9
  have c10 : w.cell? ⟨P, 10, none⟩ = some (.int .i64 0) := c 10
  have l3 : P < w.heap.size + 1 + 1 := by omega
  go_region
  go_wp2_with fail
  refine wp_loop_rounds 5 ?_
  rw [rounds_succ]
  go_wp2_with fail
  refine (H1.out _).mono ?_
  rintro e w1 ⟨rfl, hb⟩
  have hB1 : Below w.heap.size w w1 := Below.trans (by exact blw) (hb.mono (by first | omega | (simp; done) | (simp; omega)))
  have k1_0 : Blk w1 (P) 159 #[.int .i64 1, .int .i64 1, .int .i64 2, .int .i64 4, .bool false, .bool true, .map (some M), .int .i64 10, .slice none 0 0, .int .i64 0, .int .i64 0, .int .i64 1, .bool false, .bool true, .bool false, .bool false, .int .i64 0, .int .i64 0, .int .i64 0, .bool false, .slice none 0 0, .slice (some ⟨gL, 0, none⟩) 1 1, .int .i64 0, .int .i64 10, .bool false] := Blk.below (by exact bkw) hb (by first | omega | (simp; done) | (simp; omega))
  have k1_1 : Blk w1 (w.heap.size) 103 #[.int .i64 A, .int .i64 7, .int .i64 3, .int .i64 0, .bool false, .string { data := #[] }, .string X, .string X, .string { data := #[] }, .string { data := #[] }, .slice none 0 0, .slice none 0 0] := Blk.below (by exact bkw) hb (by first | omega | (simp; done) | (simp; omega))
  have k1_2 : Blk w1 (w.heap.size + 1) 154 #[.int .i64 1, .int .i64 2, .int .i64 4, .bool false] := Blk.below (by exact bkw) hb (by first | omega | (simp; done) | (simp; omega))
  have k1_3 : Blk w1 (w.heap.size + 1 + 1) 284 #[.int .i64 0, .int .i64 0, .int .i64 0, .int .i64 0] := Blk.below (by exact bkw) hb (by first | omega | (simp; done) | (simp; omega))
  have c1_0 := k1_0.cell
  have f1_0 := k1_0.frozen
  have l1_0 := k1_0.lt
  have c1_1 := k1_1.cell
  have f1_1 := k1_1.frozen
  have l1_1 := k1_1.lt
  have c1_2 := k1_2.cell
  have f1_2 := k1_2.frozen
  have l1_2 := k1_2.lt
  have c1_3 := k1_3.cell
  have f1_3 := k1_3.frozen
  have l1_3 := k1_3.lt
  have l1 := hB1.size
  clear hb hP c f c9 c10 l3
  go_wp2_with fail
  rw [rounds_succ]
  go_wp2_with fail
  refine (H1.out _).mono ?_
  rintro e w2 ⟨rfl, hb⟩
  have hB2 : Below w.heap.size w w2 := Below.trans (by exact blw) (hb.mono (by first | omega | (simp; done) | (simp; omega)))
  have k2_0 : Blk w2 (P) 159 #[.int .i64 1, .int .i64 1, .int .i64 2, .int .i64 4, .bool false, .bool true, .map (some M), .int .i64 10, .slice none 0 0, .int .i64 0, .int .i64 0, .int .i64 1, .bool false, .bool true, .bool false, .bool false, .int .i64 0, .int .i64 0, .int .i64 0, .bool false, .slice none 0 0, .slice (some ⟨gL, 0, none⟩) 1 1, .int .i64 0, .int .i64 10, .bool false] := Blk.below (by exact bkw) hb (by first | omega | (simp; done) | (simp; omega))
  have k2_1 : Blk w2 (w.heap.size) 103 #[.int .i64 A, .int .i64 7, .int .i64 3, .int .i64 0, .bool false, .string { data := #[] }, .string X, .string X, .string { data := #[] }, .string { data := #[] }, .slice none 0 0, .slice none 0 0] := Blk.below (by exact bkw) hb (by first | omega | (simp; done) | (simp; omega))
  have k2_2 : Blk w2 (w.heap.size + 1) 154 #[.int .i64 1, .int .i64 2, .int .i64 4, .bool false] := Blk.below (by exact bkw) hb (by first | omega | (simp; done) | (simp; omega))
  have k2_3 : Blk w2 (w.heap.size + 1 + 1) 284 #[.int .i64 0, .int .i64 0, .int .i64 0, .int .i64 0] := Blk.below (by exact bkw) hb (by first | omega | (simp; done) | (simp; omega))
  have c2_0 := k2_0.cell
  have f2_0 := k2_0.frozen
  have l2_0 := k2_0.lt
  have c2_1 := k2_1.cell
  have f2_1 := k2_1.frozen
  have l2_1 := k2_1.lt
  have c2_2 := k2_2.cell
  have f2_2 := k2_2.frozen
  have l2_2 := k2_2.lt
  have c2_3 := k2_3.cell
  have f2_3 := k2_3.frozen
  have l2_3 := k2_3.lt
  have l2 := hB2.size
  clear hb k1_0 c1_0 f1_0 l1_0 k1_1 c1_1 f1_1 l1_1 k1_2 c1_2 f1_2 l1_2 k1_3 c1_3 f1_3 l1_3
  go_wp2_with fail
  rw [rounds_succ]
  go_wp2_with fail
  rw [rounds_succ]
  go_wp2_with fail
  rw [rounds_succ]
  go_wp2_with fail
  obtain ⟨u, eu⟩ : ∃ u, (w2.setCell ⟨w.heap.size + 1 + 1, 1, none⟩ (.int .i64 0)).alloc (.cells #[.int .i64 0, .int .i64 0] 58) = u := ⟨_, rfl⟩
  have q1 : Blk u P 159 #[.int .i64 1, .int .i64 1, .int .i64 2, .int .i64 4, .bool false, .bool true, .map (some M), .int .i64 10, .slice none 0 0, .int .i64 0, .int .i64 0, .int .i64 1, .bool false, .bool true, .bool false, .bool false, .int .i64 0, .int .i64 0, .int .i64 0, .bool false, .slice none 0 0, .slice (some ⟨gL, 0, none⟩) 1 1, .int .i64 0, .int .i64 10, .bool false] := by rw [← eu]; exact (k2_0.far (by simp; omega) _).alloc _
  have q2 : Blk u w2.heap.size 58 #[.int .i64 0, .int .i64 0] := by rw [← eu]; exact Blk.newAt (by simp)
  have q3 : Only [] w u := by
    rw [← eu]
    have h0 : Only [] w w2 := Only.of_below hB2 (Nat.le_refl _) _
    exact (h0.setCell (.inr (by simp; omega)) _).alloc _
  have qM := q3.map HM.out (by simp)
  have qL := q3.blk HL.out (by simp)
  have qS := HS.out.only q3 (by simp) (by simp)
  have hF := flash_sq P M gL B gl gp cp u q1 qL qS (by have := HB.out; have := q3.size; omega) HPM.out qM
  have Q1 := Lib.hid q1
  have Q2 := Lib.hid q2
  have Q3 := Lib.hid q3
  have QL := Lib.hid qL
  have HFL := Lib.hid hF
  rw [eu]
  have lu := q3.size
  have lq2 := q2.lt
  clear eu q1 q2 q3 qM qL qS hF k2_0 c2_0 f2_0 l2_0 k2_1 c2_1 f2_1 l2_1 k2_2 c2_2 f2_2 l2_2 k2_3 c2_3 f2_3 l2_3
  refine (HFL.out).mono ?_
  rintro e w3 ⟨gl2, gp2, cp2, g, cap, rfl, ⟨a1, a2, a3, a4, a5⟩, hs3⟩
  have k4 := a4.blk Q2.out (by
    intro hm
    simp only [List.mem_cons, Option.mem_toList, Value.ownBlock] at hm
    rcases hm with h | h | h
    · exact Q1.out.ne_ Q2.out (by decide) h.symm
    · exact QL.out.ne_ Q2.out (by decide) h.symm
    · cases h)
  have c3 := a1.cell
  have f3 := a1.frozen
  have l3 := a1.lt
  have c4 := k4.cell
  have l4 := k4.lt
  have n9 := hs3.ne_int (a1.cell 0) (by decide)
  have A1 := Lib.hid a1
  have A2 := Lib.hid a2
  have A3 := Lib.hid a3
  have A4 := Lib.hid a4
  have S3 := Lib.hid hs3
  have N9 := Lib.hid n9
  have npl := a1.ne_ a2 (by decide)
  have NPL := Lib.hid npl
  clear a1 a2 a3 a4 a5 hs3 k4 n9 npl
  go_wp2_with fail
  go_ret
  refine ⟨gl2, gp2, cp2, g, cap, rfl, ?_, ?_, ?_, ?_, ?_⟩
  · exact (A1.out.set_ 9 (.int .i64 0) rfl).set_ 10 (.int .i64 0) rfl
  · exact (A2.out.far (by simpa using Ne.symm NPL.out) _).far (by simpa using Ne.symm NPL.out) _
  · exact own_far (own_far A3.out (fun e => own_blk_ne A3.out A1.out (by decide) e) _) (fun e => own_blk_ne (own_far A3.out (fun e => own_blk_ne A3.out A1.out (by decide) e) (.int .i64 0)) (A1.out.set_ 9 (.int .i64 0) rfl) (by decide) e) _
  · exact (S3.out.far (by simpa using N9.out.1) (by simpa using N9.out.2) _).far (by simpa using N9.out.1) (by simpa using N9.out.2) _
  · have h9 : Only [P, gL] w w3 := (Q3.out.mono (by simp)).trans (A4.out.mono (by intro b hb; simpa [Value.ownBlock] using hb))
    exact (h9.setCell (by simp) _).setCell (by simp) _
theorem flat_at : ∀ (l : List (List Value)) (k : Nat) (hk : k < l.length) (j : Nat), (∀ c ∈ l, c.length = 12) → j < 12 → l.flatten[k * 12 + j]? = (l[k])[j]?
  | [], k, hk, _, _, _ => by simp at hk
  | c :: l, 0, _, j, h, hj => by
    have h1 := h c (by simp)
    rw [List.flatten_cons, List.getElem?_append_left (by omega)]
    simp
  | c :: l, k + 1, hk, j, h, hj => by
    have h1 := h c (by simp)
    have := flat_at l k (by simpa using hk) j (fun d hd => h d (by simp [hd])) hj
    rw [List.flatten_cons, List.getElem?_append_right (by omega), h1, show (k + 1) * 12 + j - 12 = k * 12 + j by omega, this]
    simp
theorem CmdsOf.mem {w : World} {B : Nat} {gs : List Gr} {cs : List (List Value)} (h : CmdsOf w B gs cs) (k : Nat) (hk : k < gs.length) : ∃ hc : k < cs.length, ∃ at_ nv, cs[k] = (gs[k]).cells at_ nv ∧ Numz w B nv (gs[k]).nums := by
  have hc : k < cs.length := by rw [h.length]; exact hk
  exact ⟨hc, h.at k hk hc⟩
end Go.Proofs.YtfajckkbinbpiaaGreatDoor
