/- Walks: a job without layers, as it is made; images compared. -/
import Derived.Test.YtfajckkbinbpiaaGreatDoorJ26
import Derived.Test.YtfajckkbinbpiaaGreatDoorIAux
namespace Go.Proofs.YtfajckkbinbpiaaGreatDoor
open Go.RowKit
set_option linter.unusedVariables false
set_option linter.unusedSimpArgs false

theorem mask255 (n : Int) : bits .and .i64 n 255 = n % 256 := mask 8 (by decide) 255 (by decide) n
theorem imask3 (n : Int) : bits .and .i64 n 3 = n % 4 := mask 2 (by decide) 3 (by decide) n
def atL (l : List Int) (k : Nat) : Int := l.getD k 0
set_option maxRecDepth 100000 in
set_option maxHeartbeats 4000000 in
theorem made_at (l : List Int) (p : Option Addr) (b off c : Nat) (bl k : Nat) (w : World) (hk : k ≤ 100) (hl : w.cell? ⟨bl, 0, none⟩ = some (.slice p l.length c)) (hp : 0 < l.length → p = some ⟨b, off, none⟩) (hc : ∀ k (h : k < l.length), w.cell? ⟨b, off + k, none⟩ = some (.int .i64 l[k])) (hlen : l.length ≤ 9223372036854775807) :
    Calls Tryz.prog 25 #[.int .i64 (k : Int), .pointer (some ⟨bl, 0, none⟩)] w fun e w' => e = .returned (.int .i64 (atL l k)) ∧ w' = w := by
  have lb := blk_of_cell hl
  by_cases h : k < l.length
  · have hq := hc k h
    have lq := blk_of_cell hq
    simp only at lq
    have hpe := hp (by omega)
    subst hpe
    have ea : atL l k = l[k] := by unfold atL; simp [List.getD, List.getElem?_eq_getElem h]
    obtain ⟨x, ex⟩ : ∃ x, l[k] = x := ⟨_, rfl⟩
    rw [ea, ex]
    rw [ex] at hq
    obtain ⟨N, eN⟩ : ∃ N, l.length = N := ⟨_, rfl⟩
    rw [eN] at hl h hlen
    have hi : (k : Int) < (N : Int) := by omega
    clear hc hp ea ex eN
    go_enter Tryz.func25, Tryz.ntmps25
    go_wp2_with fail
    go_ret
    exact ⟨rfl, rfl⟩
  · have ea : atL l k = 0 := by unfold atL; simp [List.getD, List.getElem?_eq_none (Nat.le_of_not_lt h)]
    rw [ea]
    obtain ⟨N, eN⟩ : ∃ N, l.length = N := ⟨_, rfl⟩
    rw [eN] at hl h hlen
    have hi : ¬ (k : Int) < (N : Int) := by omega
    clear hc hp ea eN
    go_enter Tryz.func25, Tryz.ntmps25
    go_wp2_with fail
    go_ret
    exact ⟨rfl, rfl⟩
/-- A job without layers and drills, of a view that may be. -/
structure MadeOk (X Y P k : Int) (W H n : Nat) (k0 k1 k2 : Int) : Prop where
  v : VOk X Y P W H n k
  w4 : W ≤ 4
  h4 : H ≤ 4
  b0 : IsB k0
  b1 : IsB k1
  b2 : IsB k2
set_option maxRecDepth 100000 in
set_option maxHeartbeats 64000000 in
theorem made_c (l : List Int) (p : Option Addr) (b off c : Nat) (w : World) (hp : 0 < l.length → p = some ⟨b, off, none⟩) (hc : ∀ k (h : k < l.length), w.cell? ⟨b, off + k, none⟩ = some (.int .i64 l[k])) (hlen : l.length ≤ 9223372036854775807) :
    Calls Tryz.prog 8 #[.slice none 0 0, .slice none 0 0, .slice p l.length c] w fun e w' => ∃ (X Y P k : Int) (W H n : Nat) (k0 k1 k2 : Int), MadeOk X Y P k W H n k0 k1 k2 ∧ e = .returned (.agg #[.int .i64 X, .int .i64 Y, .int .i64 P, .int .i64 (W : Int), .int .i64 (H : Int), .int .i64 (n : Int), .slice none 0 0, .slice none 0 0, .int .i64 k0, .int .i64 k1, .int .i64 k2, .int .i64 300, .int .i64 4000]) ∧ Below w.heap.size w w' := by
  obtain ⟨d, ed⟩ : ∃ d : Nat, atL l 0 % 4 = (d : Int) := ⟨(atL l 0 % 4).toNat, by omega⟩
  obtain ⟨q, eq⟩ : ∃ d : Nat, atL l 1 % 256 = (d : Int) := ⟨(atL l 1 % 256).toNat, by omega⟩
  obtain ⟨wn, ew⟩ : ∃ d : Nat, atL l 2 % 4 = (d : Int) := ⟨(atL l 2 % 4).toNat, by omega⟩
  obtain ⟨hn, eh⟩ : ∃ d : Nat, atL l 3 % 4 = (d : Int) := ⟨(atL l 3 % 4).toNat, by omega⟩
  obtain ⟨xn, exn⟩ : ∃ d : Nat, atL l 4 % 256 = (d : Int) := ⟨(atL l 4 % 256).toNat, by omega⟩
  obtain ⟨yn, eyn⟩ : ∃ d : Nat, atL l 5 % 256 = (d : Int) := ⟨(atL l 5 % 256).toNat, by omega⟩
  obtain ⟨a9, e9⟩ : ∃ x, atL l 9 = x := ⟨_, rfl⟩
  obtain ⟨c0, ec0⟩ : ∃ d : Int, a9 % 256 = d := ⟨_, rfl⟩
  obtain ⟨c1, ec1⟩ : ∃ d : Int, (a9 / 256) % 256 = d := ⟨_, rfl⟩
  obtain ⟨c2, ec2⟩ : ∃ d : Int, (a9 / 65536) % 256 = d := ⟨_, rfl⟩
  have g0 : bits .and .i64 (atL l 0) 3 = (d : Int) := by rw [imask3, ed]
  have g1 : bits .and .i64 (atL l 1) 255 = (q : Int) := by rw [mask255, eq]
  have g2 : bits .and .i64 (atL l 2) 3 = (wn : Int) := by rw [imask3, ew]
  have g3 : bits .and .i64 (atL l 3) 3 = (hn : Int) := by rw [imask3, eh]
  have g4 : bits .and .i64 (atL l 4) 255 = (xn : Int) := by rw [mask255, exn]
  have g5 : bits .and .i64 (atL l 5) 255 = (yn : Int) := by rw [mask255, eyn]
  have g6 : bits .and .i64 a9 255 = c0 := by rw [mask255, ec0]
  have g7 : bits .and .i64 (a9 / 256) 255 = c1 := by rw [mask255, ec1]
  have g8 : bits .and .i64 (a9 / 65536) 255 = c2 := by rw [mask255, ec2]
  obtain ⟨a0, e0⟩ : ∃ x, atL l 0 = x := ⟨_, rfl⟩
  obtain ⟨a1, e1⟩ : ∃ x, atL l 1 = x := ⟨_, rfl⟩
  obtain ⟨a2, e2⟩ : ∃ x, atL l 2 = x := ⟨_, rfl⟩
  obtain ⟨a3, e3⟩ : ∃ x, atL l 3 = x := ⟨_, rfl⟩
  obtain ⟨a4, e4⟩ : ∃ x, atL l 4 = x := ⟨_, rfl⟩
  obtain ⟨a5, e5⟩ : ∃ x, atL l 5 = x := ⟨_, rfl⟩
  have HAT : Hid (∀ (u : World) (k : Nat) (x : Int), k ≤ 100 → atL l k = x → Below w.heap.size w u → u.cell? ⟨w.heap.size, 0, none⟩ = some (.slice p l.length c) → Calls Tryz.prog 25 #[.int .i64 (k : Int), .pointer (some ⟨w.heap.size, 0, none⟩)] u fun e w' => e = .returned (.int .i64 x) ∧ w' = u) :=
    Lib.hid fun u k x hk hx hb hcl => by
      rw [← hx]
      exact made_at l p b off c w.heap.size k u hk hcl hp (fun j h => (hb.cell (p := ⟨b, off + j, none⟩) (blk_of_cell (hc j h))).trans (hc j h)) hlen
  rw [e0] at g0
  rw [e1] at g1
  rw [e2] at g2
  rw [e3] at g3
  rw [e4] at g4
  rw [e5] at g5
  have HE := Lib.hid (And.intro e0 (And.intro e1 (And.intro e2 (And.intro e3 (And.intro e4 (And.intro e5 e9))))))
  obtain ⟨N, eN⟩ : ∃ N, l.length = N := ⟨_, rfl⟩
  rw [eN] at HAT hlen ⊢
  have d3 : d ≤ 3 := by omega
  have q255 : q ≤ 255 := by omega
  have w3 : wn ≤ 3 := by omega
  have h3 : hn ≤ 3 := by omega
  have x255 : xn ≤ 255 := by omega
  have y255 : yn ≤ 255 := by omega
  have b0 : IsB c0 := by unfold IsB; omega
  have b1 : IsB c1 := by unfold IsB; omega
  have b2 : IsB c2 := by unfold IsB; omega
  have BB := Lib.hid (And.intro b0 (And.intro b1 b2))
  clear hp hc ed eq ew eh exn eyn e9 ec0 ec1 ec2 e0 e1 e2 e3 e4 e5 eN b0 b1 b2
  have A0 := Lib.hid (fun u => HAT.out u 0 a0 (by omega) HE.out.1)
  have A1 := Lib.hid (fun u => HAT.out u 1 a1 (by omega) HE.out.2.1)
  have A2 := Lib.hid (fun u => HAT.out u 2 a2 (by omega) HE.out.2.2.1)
  have A3 := Lib.hid (fun u => HAT.out u 3 a3 (by omega) HE.out.2.2.2.1)
  have A4 := Lib.hid (fun u => HAT.out u 4 a4 (by omega) HE.out.2.2.2.2.1)
  have A5 := Lib.hid (fun u => HAT.out u 5 a5 (by omega) HE.out.2.2.2.2.2.1)
  have A9 := Lib.hid (fun u => HAT.out u 9 a9 (by omega) HE.out.2.2.2.2.2.2)
  clear HAT HE
  rcases (show d = 0 ∨ d = 1 ∨ d = 2 ∨ d = 3 by omega) with rfl | rfl | rfl | rfl
  · obtain ⟨PP, ePP⟩ : ∃ x : Int, ((q : Int) + 1) * 40000 * 1 = x := ⟨_, rfl⟩
    obtain ⟨XX, eXX⟩ : ∃ x : Int, ((xn : Int) - 128) * 50000 = x := ⟨_, rfl⟩
    obtain ⟨YY, eYY⟩ : ∃ x : Int, ((yn : Int) - 128) * 50000 = x := ⟨_, rfl⟩
    have hP : 1 ≤ PP ∧ PP ≤ 81920000 ∧ PP % 1 = 0 := by omega
    have HPP := Lib.hid hP
    have HXX := Lib.hid (And.intro eXX eYY)
    have t1 : IntKind.i64.wrap ((q : Int) + 1) = (q : Int) + 1 := IntWalk.i64_in _ (by omega)
    have t2 : IntKind.i64.wrap (((q : Int) + 1) * 40000) = ((q : Int) + 1) * 40000 := IntWalk.i64_in _ (by omega)
    clear hP
    go_enter Tryz.func8, Tryz.ntmps8
    go_wp2_with fail
    obtain ⟨u, eu⟩ : ∃ u, (w.alloc (.cells #[.slice p N c] 22)).alloc (.cells #[.int .i64 0, .int .i64 0, .int .i64 0, .int .i64 0, .int .i64 0, .int .i64 0, .slice none 0 0, .slice none 0 0, .int .i64 0, .int .i64 0, .int .i64 0, .int .i64 0, .int .i64 0] 31) = u := ⟨_, rfl⟩
    have uB : Below w.heap.size w u := by rw [← eu]; (repeat' (first | (with_reducible exact Below.refl _ _) | (with_reducible assumption) | (with_reducible refine below_drewN ?_ _) | (with_reducible refine Below.drew ?_) | (with_reducible refine Below.alloc ?_ ?_ _) | (with_reducible refine Below.setCell ?_ ?_ _) | omega | (simp; done) | (simp; omega)))
    have kB : Blk u w.heap.size 22 #[.slice p N c] := by rw [← eu]; (repeat' (first | (with_reducible assumption) | (with_reducible exact Blk.new _ _ _) | (exact Blk.newAt (by first | rfl | (simp; done) | omega)) | (with_reducible refine Blk.drewN ?_ _) | (with_reducible refine Blk.drew ?_) | (with_reducible refine Blk.alloc ?_ _) | (with_reducible apply Blk.set_) | (with_reducible refine Blk.far ?_ ?_ _) | rfl | omega | (simp; done) | (simp; omega)))
    have kR : Blk u (w.heap.size + 1) 31 #[.int .i64 0, .int .i64 0, .int .i64 0, .int .i64 0, .int .i64 0, .int .i64 0, .slice none 0 0, .slice none 0 0, .int .i64 0, .int .i64 0, .int .i64 0, .int .i64 0, .int .i64 0] := by rw [← eu]; (repeat' (first | (with_reducible assumption) | (with_reducible exact Blk.new _ _ _) | (exact Blk.newAt (by first | rfl | (simp; done) | omega)) | (with_reducible refine Blk.drewN ?_ _) | (with_reducible refine Blk.drew ?_) | (with_reducible refine Blk.alloc ?_ _) | (with_reducible apply Blk.set_) | (with_reducible refine Blk.far ?_ ?_ _) | rfl | omega | (simp; done) | (simp; omega)))
    have us : u.heap.size = w.heap.size + 1 + 1 := by rw [← eu]; simp
    have HA0 : Hid (Calls Tryz.prog 25 #[.int .i64 0, .pointer (some ⟨w.heap.size, 0, none⟩)] u fun e w' => e = .returned (.int .i64 a0) ∧ w' = u) := Lib.hid (A0.out u uB (kB.cell 0))
    have HA1 : Hid (Calls Tryz.prog 25 #[.int .i64 1, .pointer (some ⟨w.heap.size, 0, none⟩)] u fun e w' => e = .returned (.int .i64 a1) ∧ w' = u) := Lib.hid (A1.out u uB (kB.cell 0))
    have HA2 : Hid (Calls Tryz.prog 25 #[.int .i64 2, .pointer (some ⟨w.heap.size, 0, none⟩)] u fun e w' => e = .returned (.int .i64 a2) ∧ w' = u) := Lib.hid (A2.out u uB (kB.cell 0))
    have HA3 : Hid (Calls Tryz.prog 25 #[.int .i64 3, .pointer (some ⟨w.heap.size, 0, none⟩)] u fun e w' => e = .returned (.int .i64 a3) ∧ w' = u) := Lib.hid (A3.out u uB (kB.cell 0))
    have UB := Lib.hid uB
    have KB := Lib.hid kB
    have KR := Lib.hid kR
    have US := Lib.hid us
    rw [eu]
    clear eu uB kB kR us
    go_wp2_with fail
    refine (HA0.out).mono ?_
    rintro e w' ⟨rfl, hw0⟩
    subst hw0
    go_wp2_with fail
    refine (HA1.out).mono ?_
    rintro e w' ⟨rfl, hw1⟩
    subst hw1
    go_wp2_with fail
    refine (HA2.out).mono ?_
    rintro e w' ⟨rfl, hw2⟩
    subst hw2
    go_wp2_with fail
    refine (HA3.out).mono ?_
    rintro e w' ⟨rfl, hw3⟩
    subst hw3
    go_wp2_with fail
    obtain ⟨v, ev⟩ : ∃ v, w'.alloc (.cells #[.int .i64 0, .int .i64 0, .int .i64 PP, .int .i64 ((wn : Int) + 1), .int .i64 ((hn : Int) + 1), .int .i64 0, .slice none 0 0, .slice none 0 0, .int .i64 0, .int .i64 0, .int .i64 0, .int .i64 300, .int .i64 4000] 31) = v := ⟨_, rfl⟩
    have vB : Below w.heap.size w v := by rw [← ev]; exact UB.out.alloc UB.out.size _
    have kB : Blk v w.heap.size 22 #[.slice p N c] := by rw [← ev]; exact KB.out.alloc _
    have kR : Blk v (w.heap.size + 1) 31 #[.int .i64 0, .int .i64 0, .int .i64 0, .int .i64 0, .int .i64 0, .int .i64 0, .slice none 0 0, .slice none 0 0, .int .i64 0, .int .i64 0, .int .i64 0, .int .i64 0, .int .i64 0] := by rw [← ev]; exact KR.out.alloc _
    have kJ : Blk v (w.heap.size + 1 + 1) 31 #[.int .i64 0, .int .i64 0, .int .i64 PP, .int .i64 ((wn : Int) + 1), .int .i64 ((hn : Int) + 1), .int .i64 0, .slice none 0 0, .slice none 0 0, .int .i64 0, .int .i64 0, .int .i64 0, .int .i64 300, .int .i64 4000] := by rw [← ev]; exact Blk.newAt US.out.symm
    have HA4 : Hid (Calls Tryz.prog 25 #[.int .i64 4, .pointer (some ⟨w.heap.size, 0, none⟩)] v fun e w' => e = .returned (.int .i64 a4) ∧ w' = v) := Lib.hid (A4.out v vB (kB.cell 0))
    have HA5 : Hid (Calls Tryz.prog 25 #[.int .i64 5, .pointer (some ⟨w.heap.size, 0, none⟩)] v fun e w' => e = .returned (.int .i64 a5) ∧ w' = v) := Lib.hid (A5.out v vB (kB.cell 0))
    have VB := Lib.hid vB
    have KB2 := Lib.hid kB
    have KR2 := Lib.hid kR
    have KJ := Lib.hid kJ
    have us := US.out
    first | rw [us] | (simp only [us]) | skip
    rw [ev]
    have cJ := kJ.cell
    have fJ := kJ.frozen
    have lJ := kJ.lt
    have m1 : IntKind.i64.wrap ((xn : Int) - 128) = (xn : Int) - 128 := IntWalk.i64_in _ (by omega)
    have m2 : IntKind.i64.wrap (((xn : Int) - 128) * 50000) = ((xn : Int) - 128) * 50000 := IntWalk.i64_in _ (by omega)
    have m3 : IntKind.i64.wrap ((yn : Int) - 128) = (yn : Int) - 128 := IntWalk.i64_in _ (by omega)
    have m4 : IntKind.i64.wrap (((yn : Int) - 128) * 50000) = ((yn : Int) - 128) * 50000 := IntWalk.i64_in _ (by omega)
    clear ev vB kB kR kJ
    refine (HA4.out).mono ?_
    rintro e w' ⟨rfl, hw4⟩
    subst hw4
    go_wp2_with fail
    refine (HA5.out).mono ?_
    rintro e w' ⟨rfl, hw5⟩
    subst hw5
    go_wp2_with fail
    obtain ⟨x, ex⟩ : ∃ x, (w'.setCell ⟨w.heap.size + 1 + 1, 0, none⟩ (.int .i64 XX)).setCell ⟨w.heap.size + 1 + 1, 1, none⟩ (.int .i64 YY) = x := ⟨_, rfl⟩
    have xB : Below w.heap.size w x := by rw [← ex]; exact (VB.out.setCell (by first | (simp; done) | (simp; omega) | omega) _).setCell (by first | (simp; done) | (simp; omega) | omega) _
    have kB : Blk x w.heap.size 22 #[.slice p N c] := by rw [← ex]; exact (KB2.out.far (by simp; omega) _).far (by simp; omega) _
    have kR : Blk x (w.heap.size + 1) 31 #[.int .i64 0, .int .i64 0, .int .i64 0, .int .i64 0, .int .i64 0, .int .i64 0, .slice none 0 0, .slice none 0 0, .int .i64 0, .int .i64 0, .int .i64 0, .int .i64 0, .int .i64 0] := by rw [← ex]; exact (KR2.out.far (by simp) _).far (by simp) _
    have kJ : Blk x (w.heap.size + 1 + 1) 31 #[.int .i64 XX, .int .i64 YY, .int .i64 PP, .int .i64 ((wn : Int) + 1), .int .i64 ((hn : Int) + 1), .int .i64 0, .slice none 0 0, .slice none 0 0, .int .i64 0, .int .i64 0, .int .i64 0, .int .i64 300, .int .i64 4000] := by
      rw [← ex]
      have e0 := KJ.out.set_ 0 (.int .i64 XX) (cs' := #[.int .i64 XX, .int .i64 0, .int .i64 PP, .int .i64 ((wn : Int) + 1), .int .i64 ((hn : Int) + 1), .int .i64 0, .slice none 0 0, .slice none 0 0, .int .i64 0, .int .i64 0, .int .i64 0, .int .i64 300, .int .i64 4000]) rfl
      exact e0.set_ 1 (.int .i64 YY) (cs' := #[.int .i64 XX, .int .i64 YY, .int .i64 PP, .int .i64 ((wn : Int) + 1), .int .i64 ((hn : Int) + 1), .int .i64 0, .slice none 0 0, .slice none 0 0, .int .i64 0, .int .i64 0, .int .i64 0, .int .i64 300, .int .i64 4000]) rfl
    have HA9 : Hid (Calls Tryz.prog 25 #[.int .i64 9, .pointer (some ⟨w.heap.size, 0, none⟩)] x fun e w' => e = .returned (.int .i64 a9) ∧ w' = x) := Lib.hid (A9.out x xB (kB.cell 0))
    have XB := Lib.hid xB
    have KR3 := Lib.hid kR
    have KJ3 := Lib.hid kJ
    rw [ex]
    clear ex xB kB kR kJ cJ fJ lJ
    refine wp_loop_rounds 1 ?_
    rw [rounds_succ]
    go_wp2_with fail
    refine wp_loop_rounds 1 ?_
    rw [rounds_succ]
    go_wp2_with fail
    refine (HA9.out).mono ?_
    rintro e w9 ⟨rfl, hw9⟩
    subst hw9
    have cJ := KJ3.out.cell
    have fJ := KJ3.out.frozen
    have lJ := KJ3.out.lt
    go_upto_region 16 with (fail)
    obtain ⟨y, ey⟩ : ∃ y, ((w9.setCell ⟨w.heap.size + 1 + 1, 8, none⟩ (.int .i64 c0)).setCell ⟨w.heap.size + 1 + 1, 9, none⟩ (.int .i64 c1)).setCell ⟨w.heap.size + 1 + 1, 10, none⟩ (.int .i64 c2) = y := ⟨_, rfl⟩
    have yB : Below w.heap.size w y := by rw [← ey]; exact ((XB.out.setCell (by first | (simp; done) | (simp; omega) | omega) _).setCell (by first | (simp; done) | (simp; omega) | omega) _).setCell (by first | (simp; done) | (simp; omega) | omega) _
    have kR : Blk y (w.heap.size + 1) 31 #[.int .i64 0, .int .i64 0, .int .i64 0, .int .i64 0, .int .i64 0, .int .i64 0, .slice none 0 0, .slice none 0 0, .int .i64 0, .int .i64 0, .int .i64 0, .int .i64 0, .int .i64 0] := by rw [← ey]; exact ((KR3.out.far (by simp) _).far (by simp) _).far (by simp) _
    have kJ : Blk y (w.heap.size + 1 + 1) 31 #[.int .i64 XX, .int .i64 YY, .int .i64 PP, .int .i64 ((wn : Int) + 1), .int .i64 ((hn : Int) + 1), .int .i64 0, .slice none 0 0, .slice none 0 0, .int .i64 c0, .int .i64 c1, .int .i64 c2, .int .i64 300, .int .i64 4000] := by
      rw [← ey]
      have e0 := KJ3.out.set_ 8 (.int .i64 c0) (cs' := #[.int .i64 XX, .int .i64 YY, .int .i64 PP, .int .i64 ((wn : Int) + 1), .int .i64 ((hn : Int) + 1), .int .i64 0, .slice none 0 0, .slice none 0 0, .int .i64 c0, .int .i64 0, .int .i64 0, .int .i64 300, .int .i64 4000]) rfl
      have e1 := e0.set_ 9 (.int .i64 c1) (cs' := #[.int .i64 XX, .int .i64 YY, .int .i64 PP, .int .i64 ((wn : Int) + 1), .int .i64 ((hn : Int) + 1), .int .i64 0, .slice none 0 0, .slice none 0 0, .int .i64 c0, .int .i64 c1, .int .i64 0, .int .i64 300, .int .i64 4000]) rfl
      exact e1.set_ 10 (.int .i64 c2) (cs' := #[.int .i64 XX, .int .i64 YY, .int .i64 PP, .int .i64 ((wn : Int) + 1), .int .i64 ((hn : Int) + 1), .int .i64 0, .slice none 0 0, .slice none 0 0, .int .i64 c0, .int .i64 c1, .int .i64 c2, .int .i64 300, .int .i64 4000]) rfl
    have YB := Lib.hid yB
    have KR4 := Lib.hid kR
    have cR := kR.cell
    have fR := kR.frozen
    have lR := kR.lt
    rw [ey]
    clear cJ fJ lJ
    have cJ := kJ.cell
    have lJ := kJ.lt
    clear ey yB kR kJ
    go_wp2_with fail
    refine bodyPost_ret (results_cell_row (t := 31) Tryz.results8 _ _ (w.heap.size + 1) #[.int .i64 XX, .int .i64 YY, .int .i64 PP, .int .i64 ((wn : Int) + 1), .int .i64 ((hn : Int) + 1), .int .i64 0, .slice none 0 0, .slice none 0 0, .int .i64 c0, .int .i64 c1, .int .i64 c2, .int .i64 300, .int .i64 4000] (0, 0) _ (by rfl) ?_ Tryz.underlying31 rfl (by kernel_rfl)) rfl ⟨XX, YY, PP, 1, wn + 1, hn + 1, 0, c0, c1, c2, ?_, rfl, ?_⟩
    · have r0 := KR4.out.set_ 0 (.int .i64 XX) (cs' := #[.int .i64 XX, .int .i64 0, .int .i64 0, .int .i64 0, .int .i64 0, .int .i64 0, .slice none 0 0, .slice none 0 0, .int .i64 0, .int .i64 0, .int .i64 0, .int .i64 0, .int .i64 0]) rfl
      have r1 := r0.set_ 1 (.int .i64 YY) (cs' := #[.int .i64 XX, .int .i64 YY, .int .i64 0, .int .i64 0, .int .i64 0, .int .i64 0, .slice none 0 0, .slice none 0 0, .int .i64 0, .int .i64 0, .int .i64 0, .int .i64 0, .int .i64 0]) rfl
      have r2 := r1.set_ 2 (.int .i64 PP) (cs' := #[.int .i64 XX, .int .i64 YY, .int .i64 PP, .int .i64 0, .int .i64 0, .int .i64 0, .slice none 0 0, .slice none 0 0, .int .i64 0, .int .i64 0, .int .i64 0, .int .i64 0, .int .i64 0]) rfl
      have r3 := r2.set_ 3 (.int .i64 ((wn : Int) + 1)) (cs' := #[.int .i64 XX, .int .i64 YY, .int .i64 PP, .int .i64 ((wn : Int) + 1), .int .i64 0, .int .i64 0, .slice none 0 0, .slice none 0 0, .int .i64 0, .int .i64 0, .int .i64 0, .int .i64 0, .int .i64 0]) rfl
      have r4 := r3.set_ 4 (.int .i64 ((hn : Int) + 1)) (cs' := #[.int .i64 XX, .int .i64 YY, .int .i64 PP, .int .i64 ((wn : Int) + 1), .int .i64 ((hn : Int) + 1), .int .i64 0, .slice none 0 0, .slice none 0 0, .int .i64 0, .int .i64 0, .int .i64 0, .int .i64 0, .int .i64 0]) rfl
      have r5 := r4.set_ 5 (.int .i64 0) (cs' := #[.int .i64 XX, .int .i64 YY, .int .i64 PP, .int .i64 ((wn : Int) + 1), .int .i64 ((hn : Int) + 1), .int .i64 0, .slice none 0 0, .slice none 0 0, .int .i64 0, .int .i64 0, .int .i64 0, .int .i64 0, .int .i64 0]) rfl
      have r6 := r5.set_ 6 (.slice none 0 0) (cs' := #[.int .i64 XX, .int .i64 YY, .int .i64 PP, .int .i64 ((wn : Int) + 1), .int .i64 ((hn : Int) + 1), .int .i64 0, .slice none 0 0, .slice none 0 0, .int .i64 0, .int .i64 0, .int .i64 0, .int .i64 0, .int .i64 0]) rfl
      have r7 := r6.set_ 7 (.slice none 0 0) (cs' := #[.int .i64 XX, .int .i64 YY, .int .i64 PP, .int .i64 ((wn : Int) + 1), .int .i64 ((hn : Int) + 1), .int .i64 0, .slice none 0 0, .slice none 0 0, .int .i64 0, .int .i64 0, .int .i64 0, .int .i64 0, .int .i64 0]) rfl
      have r8 := r7.set_ 8 (.int .i64 c0) (cs' := #[.int .i64 XX, .int .i64 YY, .int .i64 PP, .int .i64 ((wn : Int) + 1), .int .i64 ((hn : Int) + 1), .int .i64 0, .slice none 0 0, .slice none 0 0, .int .i64 c0, .int .i64 0, .int .i64 0, .int .i64 0, .int .i64 0]) rfl
      have r9 := r8.set_ 9 (.int .i64 c1) (cs' := #[.int .i64 XX, .int .i64 YY, .int .i64 PP, .int .i64 ((wn : Int) + 1), .int .i64 ((hn : Int) + 1), .int .i64 0, .slice none 0 0, .slice none 0 0, .int .i64 c0, .int .i64 c1, .int .i64 0, .int .i64 0, .int .i64 0]) rfl
      have r10 := r9.set_ 10 (.int .i64 c2) (cs' := #[.int .i64 XX, .int .i64 YY, .int .i64 PP, .int .i64 ((wn : Int) + 1), .int .i64 ((hn : Int) + 1), .int .i64 0, .slice none 0 0, .slice none 0 0, .int .i64 c0, .int .i64 c1, .int .i64 c2, .int .i64 0, .int .i64 0]) rfl
      have r11 := r10.set_ 11 (.int .i64 300) (cs' := #[.int .i64 XX, .int .i64 YY, .int .i64 PP, .int .i64 ((wn : Int) + 1), .int .i64 ((hn : Int) + 1), .int .i64 0, .slice none 0 0, .slice none 0 0, .int .i64 c0, .int .i64 c1, .int .i64 c2, .int .i64 300, .int .i64 0]) rfl
      have r12 := r11.set_ 12 (.int .i64 4000) (cs' := #[.int .i64 XX, .int .i64 YY, .int .i64 PP, .int .i64 ((wn : Int) + 1), .int .i64 ((hn : Int) + 1), .int .i64 0, .slice none 0 0, .slice none 0 0, .int .i64 c0, .int .i64 c1, .int .i64 c2, .int .i64 300, .int .i64 4000]) rfl
      exact r12
    · obtain ⟨p0, p1, p2⟩ := HPP.out
      obtain ⟨e1, e2⟩ := HXX.out
      have gW := mul_bounds (a := ((wn + 1 : Nat) : Int)) (b := PP) (A := 4) (B := 81920000) (by omega) (by omega) (by omega) (by omega)
      have gH := mul_bounds (a := ((hn + 1 : Nat) : Int)) (b := PP) (A := 4) (B := 81920000) (by omega) (by omega) (by omega) (by omega)
      refine ⟨⟨by omega, by omega, by omega, by omega, p0, by omega, by omega, by omega, by omega, by omega, by omega, p2⟩, by omega, by omega, BB.out.1, BB.out.2.1, BB.out.2.2⟩
    · have := YB.out
      (repeat' (first | (with_reducible exact Below.refl _ _) | (with_reducible assumption) | (with_reducible refine below_drewN ?_ _) | (with_reducible refine Below.drew ?_) | (with_reducible refine Below.alloc ?_ ?_ _) | (with_reducible refine Below.setCell ?_ ?_ _) | omega | (simp; done) | (simp; omega)))
  · obtain ⟨PP, ePP⟩ : ∃ x : Int, ((q : Int) + 1) * 40000 * 2 = x := ⟨_, rfl⟩
    obtain ⟨XX, eXX⟩ : ∃ x : Int, ((xn : Int) - 128) * 50000 = x := ⟨_, rfl⟩
    obtain ⟨YY, eYY⟩ : ∃ x : Int, ((yn : Int) - 128) * 50000 = x := ⟨_, rfl⟩
    have hP : 1 ≤ PP ∧ PP ≤ 81920000 ∧ PP % 2 = 0 := by omega
    have HPP := Lib.hid hP
    have HXX := Lib.hid (And.intro eXX eYY)
    have t1 : IntKind.i64.wrap ((q : Int) + 1) = (q : Int) + 1 := IntWalk.i64_in _ (by omega)
    have t2 : IntKind.i64.wrap (((q : Int) + 1) * 40000) = ((q : Int) + 1) * 40000 := IntWalk.i64_in _ (by omega)
    clear hP
    go_enter Tryz.func8, Tryz.ntmps8
    go_wp2_with fail
    obtain ⟨u, eu⟩ : ∃ u, (w.alloc (.cells #[.slice p N c] 22)).alloc (.cells #[.int .i64 0, .int .i64 0, .int .i64 0, .int .i64 0, .int .i64 0, .int .i64 0, .slice none 0 0, .slice none 0 0, .int .i64 0, .int .i64 0, .int .i64 0, .int .i64 0, .int .i64 0] 31) = u := ⟨_, rfl⟩
    have uB : Below w.heap.size w u := by rw [← eu]; (repeat' (first | (with_reducible exact Below.refl _ _) | (with_reducible assumption) | (with_reducible refine below_drewN ?_ _) | (with_reducible refine Below.drew ?_) | (with_reducible refine Below.alloc ?_ ?_ _) | (with_reducible refine Below.setCell ?_ ?_ _) | omega | (simp; done) | (simp; omega)))
    have kB : Blk u w.heap.size 22 #[.slice p N c] := by rw [← eu]; (repeat' (first | (with_reducible assumption) | (with_reducible exact Blk.new _ _ _) | (exact Blk.newAt (by first | rfl | (simp; done) | omega)) | (with_reducible refine Blk.drewN ?_ _) | (with_reducible refine Blk.drew ?_) | (with_reducible refine Blk.alloc ?_ _) | (with_reducible apply Blk.set_) | (with_reducible refine Blk.far ?_ ?_ _) | rfl | omega | (simp; done) | (simp; omega)))
    have kR : Blk u (w.heap.size + 1) 31 #[.int .i64 0, .int .i64 0, .int .i64 0, .int .i64 0, .int .i64 0, .int .i64 0, .slice none 0 0, .slice none 0 0, .int .i64 0, .int .i64 0, .int .i64 0, .int .i64 0, .int .i64 0] := by rw [← eu]; (repeat' (first | (with_reducible assumption) | (with_reducible exact Blk.new _ _ _) | (exact Blk.newAt (by first | rfl | (simp; done) | omega)) | (with_reducible refine Blk.drewN ?_ _) | (with_reducible refine Blk.drew ?_) | (with_reducible refine Blk.alloc ?_ _) | (with_reducible apply Blk.set_) | (with_reducible refine Blk.far ?_ ?_ _) | rfl | omega | (simp; done) | (simp; omega)))
    have us : u.heap.size = w.heap.size + 1 + 1 := by rw [← eu]; simp
    have HA0 : Hid (Calls Tryz.prog 25 #[.int .i64 0, .pointer (some ⟨w.heap.size, 0, none⟩)] u fun e w' => e = .returned (.int .i64 a0) ∧ w' = u) := Lib.hid (A0.out u uB (kB.cell 0))
    have HA1 : Hid (Calls Tryz.prog 25 #[.int .i64 1, .pointer (some ⟨w.heap.size, 0, none⟩)] u fun e w' => e = .returned (.int .i64 a1) ∧ w' = u) := Lib.hid (A1.out u uB (kB.cell 0))
    have HA2 : Hid (Calls Tryz.prog 25 #[.int .i64 2, .pointer (some ⟨w.heap.size, 0, none⟩)] u fun e w' => e = .returned (.int .i64 a2) ∧ w' = u) := Lib.hid (A2.out u uB (kB.cell 0))
    have HA3 : Hid (Calls Tryz.prog 25 #[.int .i64 3, .pointer (some ⟨w.heap.size, 0, none⟩)] u fun e w' => e = .returned (.int .i64 a3) ∧ w' = u) := Lib.hid (A3.out u uB (kB.cell 0))
    have UB := Lib.hid uB
    have KB := Lib.hid kB
    have KR := Lib.hid kR
    have US := Lib.hid us
    rw [eu]
    clear eu uB kB kR us
    go_wp2_with fail
    refine (HA0.out).mono ?_
    rintro e w' ⟨rfl, hw0⟩
    subst hw0
    go_wp2_with fail
    refine (HA1.out).mono ?_
    rintro e w' ⟨rfl, hw1⟩
    subst hw1
    go_wp2_with fail
    refine (HA2.out).mono ?_
    rintro e w' ⟨rfl, hw2⟩
    subst hw2
    go_wp2_with fail
    refine (HA3.out).mono ?_
    rintro e w' ⟨rfl, hw3⟩
    subst hw3
    go_wp2_with fail
    obtain ⟨v, ev⟩ : ∃ v, w'.alloc (.cells #[.int .i64 0, .int .i64 0, .int .i64 PP, .int .i64 ((wn : Int) + 1), .int .i64 ((hn : Int) + 1), .int .i64 1, .slice none 0 0, .slice none 0 0, .int .i64 0, .int .i64 0, .int .i64 0, .int .i64 300, .int .i64 4000] 31) = v := ⟨_, rfl⟩
    have vB : Below w.heap.size w v := by rw [← ev]; exact UB.out.alloc UB.out.size _
    have kB : Blk v w.heap.size 22 #[.slice p N c] := by rw [← ev]; exact KB.out.alloc _
    have kR : Blk v (w.heap.size + 1) 31 #[.int .i64 0, .int .i64 0, .int .i64 0, .int .i64 0, .int .i64 0, .int .i64 0, .slice none 0 0, .slice none 0 0, .int .i64 0, .int .i64 0, .int .i64 0, .int .i64 0, .int .i64 0] := by rw [← ev]; exact KR.out.alloc _
    have kJ : Blk v (w.heap.size + 1 + 1) 31 #[.int .i64 0, .int .i64 0, .int .i64 PP, .int .i64 ((wn : Int) + 1), .int .i64 ((hn : Int) + 1), .int .i64 1, .slice none 0 0, .slice none 0 0, .int .i64 0, .int .i64 0, .int .i64 0, .int .i64 300, .int .i64 4000] := by rw [← ev]; exact Blk.newAt US.out.symm
    have HA4 : Hid (Calls Tryz.prog 25 #[.int .i64 4, .pointer (some ⟨w.heap.size, 0, none⟩)] v fun e w' => e = .returned (.int .i64 a4) ∧ w' = v) := Lib.hid (A4.out v vB (kB.cell 0))
    have HA5 : Hid (Calls Tryz.prog 25 #[.int .i64 5, .pointer (some ⟨w.heap.size, 0, none⟩)] v fun e w' => e = .returned (.int .i64 a5) ∧ w' = v) := Lib.hid (A5.out v vB (kB.cell 0))
    have VB := Lib.hid vB
    have KB2 := Lib.hid kB
    have KR2 := Lib.hid kR
    have KJ := Lib.hid kJ
    have us := US.out
    first | rw [us] | (simp only [us]) | skip
    rw [ev]
    have cJ := kJ.cell
    have fJ := kJ.frozen
    have lJ := kJ.lt
    have m1 : IntKind.i64.wrap ((xn : Int) - 128) = (xn : Int) - 128 := IntWalk.i64_in _ (by omega)
    have m2 : IntKind.i64.wrap (((xn : Int) - 128) * 50000) = ((xn : Int) - 128) * 50000 := IntWalk.i64_in _ (by omega)
    have m3 : IntKind.i64.wrap ((yn : Int) - 128) = (yn : Int) - 128 := IntWalk.i64_in _ (by omega)
    have m4 : IntKind.i64.wrap (((yn : Int) - 128) * 50000) = ((yn : Int) - 128) * 50000 := IntWalk.i64_in _ (by omega)
    clear ev vB kB kR kJ
    refine (HA4.out).mono ?_
    rintro e w' ⟨rfl, hw4⟩
    subst hw4
    go_wp2_with fail
    refine (HA5.out).mono ?_
    rintro e w' ⟨rfl, hw5⟩
    subst hw5
    go_wp2_with fail
    obtain ⟨x, ex⟩ : ∃ x, (w'.setCell ⟨w.heap.size + 1 + 1, 0, none⟩ (.int .i64 XX)).setCell ⟨w.heap.size + 1 + 1, 1, none⟩ (.int .i64 YY) = x := ⟨_, rfl⟩
    have xB : Below w.heap.size w x := by rw [← ex]; exact (VB.out.setCell (by first | (simp; done) | (simp; omega) | omega) _).setCell (by first | (simp; done) | (simp; omega) | omega) _
    have kB : Blk x w.heap.size 22 #[.slice p N c] := by rw [← ex]; exact (KB2.out.far (by simp; omega) _).far (by simp; omega) _
    have kR : Blk x (w.heap.size + 1) 31 #[.int .i64 0, .int .i64 0, .int .i64 0, .int .i64 0, .int .i64 0, .int .i64 0, .slice none 0 0, .slice none 0 0, .int .i64 0, .int .i64 0, .int .i64 0, .int .i64 0, .int .i64 0] := by rw [← ex]; exact (KR2.out.far (by simp) _).far (by simp) _
    have kJ : Blk x (w.heap.size + 1 + 1) 31 #[.int .i64 XX, .int .i64 YY, .int .i64 PP, .int .i64 ((wn : Int) + 1), .int .i64 ((hn : Int) + 1), .int .i64 1, .slice none 0 0, .slice none 0 0, .int .i64 0, .int .i64 0, .int .i64 0, .int .i64 300, .int .i64 4000] := by
      rw [← ex]
      have e0 := KJ.out.set_ 0 (.int .i64 XX) (cs' := #[.int .i64 XX, .int .i64 0, .int .i64 PP, .int .i64 ((wn : Int) + 1), .int .i64 ((hn : Int) + 1), .int .i64 1, .slice none 0 0, .slice none 0 0, .int .i64 0, .int .i64 0, .int .i64 0, .int .i64 300, .int .i64 4000]) rfl
      exact e0.set_ 1 (.int .i64 YY) (cs' := #[.int .i64 XX, .int .i64 YY, .int .i64 PP, .int .i64 ((wn : Int) + 1), .int .i64 ((hn : Int) + 1), .int .i64 1, .slice none 0 0, .slice none 0 0, .int .i64 0, .int .i64 0, .int .i64 0, .int .i64 300, .int .i64 4000]) rfl
    have HA9 : Hid (Calls Tryz.prog 25 #[.int .i64 9, .pointer (some ⟨w.heap.size, 0, none⟩)] x fun e w' => e = .returned (.int .i64 a9) ∧ w' = x) := Lib.hid (A9.out x xB (kB.cell 0))
    have XB := Lib.hid xB
    have KR3 := Lib.hid kR
    have KJ3 := Lib.hid kJ
    rw [ex]
    clear ex xB kB kR kJ cJ fJ lJ
    refine wp_loop_rounds 1 ?_
    rw [rounds_succ]
    go_wp2_with fail
    refine wp_loop_rounds 1 ?_
    rw [rounds_succ]
    go_wp2_with fail
    refine (HA9.out).mono ?_
    rintro e w9 ⟨rfl, hw9⟩
    subst hw9
    have cJ := KJ3.out.cell
    have fJ := KJ3.out.frozen
    have lJ := KJ3.out.lt
    go_upto_region 16 with (fail)
    obtain ⟨y, ey⟩ : ∃ y, ((w9.setCell ⟨w.heap.size + 1 + 1, 8, none⟩ (.int .i64 c0)).setCell ⟨w.heap.size + 1 + 1, 9, none⟩ (.int .i64 c1)).setCell ⟨w.heap.size + 1 + 1, 10, none⟩ (.int .i64 c2) = y := ⟨_, rfl⟩
    have yB : Below w.heap.size w y := by rw [← ey]; exact ((XB.out.setCell (by first | (simp; done) | (simp; omega) | omega) _).setCell (by first | (simp; done) | (simp; omega) | omega) _).setCell (by first | (simp; done) | (simp; omega) | omega) _
    have kR : Blk y (w.heap.size + 1) 31 #[.int .i64 0, .int .i64 0, .int .i64 0, .int .i64 0, .int .i64 0, .int .i64 0, .slice none 0 0, .slice none 0 0, .int .i64 0, .int .i64 0, .int .i64 0, .int .i64 0, .int .i64 0] := by rw [← ey]; exact ((KR3.out.far (by simp) _).far (by simp) _).far (by simp) _
    have kJ : Blk y (w.heap.size + 1 + 1) 31 #[.int .i64 XX, .int .i64 YY, .int .i64 PP, .int .i64 ((wn : Int) + 1), .int .i64 ((hn : Int) + 1), .int .i64 1, .slice none 0 0, .slice none 0 0, .int .i64 c0, .int .i64 c1, .int .i64 c2, .int .i64 300, .int .i64 4000] := by
      rw [← ey]
      have e0 := KJ3.out.set_ 8 (.int .i64 c0) (cs' := #[.int .i64 XX, .int .i64 YY, .int .i64 PP, .int .i64 ((wn : Int) + 1), .int .i64 ((hn : Int) + 1), .int .i64 1, .slice none 0 0, .slice none 0 0, .int .i64 c0, .int .i64 0, .int .i64 0, .int .i64 300, .int .i64 4000]) rfl
      have e1 := e0.set_ 9 (.int .i64 c1) (cs' := #[.int .i64 XX, .int .i64 YY, .int .i64 PP, .int .i64 ((wn : Int) + 1), .int .i64 ((hn : Int) + 1), .int .i64 1, .slice none 0 0, .slice none 0 0, .int .i64 c0, .int .i64 c1, .int .i64 0, .int .i64 300, .int .i64 4000]) rfl
      exact e1.set_ 10 (.int .i64 c2) (cs' := #[.int .i64 XX, .int .i64 YY, .int .i64 PP, .int .i64 ((wn : Int) + 1), .int .i64 ((hn : Int) + 1), .int .i64 1, .slice none 0 0, .slice none 0 0, .int .i64 c0, .int .i64 c1, .int .i64 c2, .int .i64 300, .int .i64 4000]) rfl
    have YB := Lib.hid yB
    have KR4 := Lib.hid kR
    have cR := kR.cell
    have fR := kR.frozen
    have lR := kR.lt
    rw [ey]
    clear cJ fJ lJ
    have cJ := kJ.cell
    have lJ := kJ.lt
    clear ey yB kR kJ
    go_wp2_with fail
    refine bodyPost_ret (results_cell_row (t := 31) Tryz.results8 _ _ (w.heap.size + 1) #[.int .i64 XX, .int .i64 YY, .int .i64 PP, .int .i64 ((wn : Int) + 1), .int .i64 ((hn : Int) + 1), .int .i64 1, .slice none 0 0, .slice none 0 0, .int .i64 c0, .int .i64 c1, .int .i64 c2, .int .i64 300, .int .i64 4000] (0, 0) _ (by rfl) ?_ Tryz.underlying31 rfl (by kernel_rfl)) rfl ⟨XX, YY, PP, 2, wn + 1, hn + 1, 1, c0, c1, c2, ?_, rfl, ?_⟩
    · have r0 := KR4.out.set_ 0 (.int .i64 XX) (cs' := #[.int .i64 XX, .int .i64 0, .int .i64 0, .int .i64 0, .int .i64 0, .int .i64 0, .slice none 0 0, .slice none 0 0, .int .i64 0, .int .i64 0, .int .i64 0, .int .i64 0, .int .i64 0]) rfl
      have r1 := r0.set_ 1 (.int .i64 YY) (cs' := #[.int .i64 XX, .int .i64 YY, .int .i64 0, .int .i64 0, .int .i64 0, .int .i64 0, .slice none 0 0, .slice none 0 0, .int .i64 0, .int .i64 0, .int .i64 0, .int .i64 0, .int .i64 0]) rfl
      have r2 := r1.set_ 2 (.int .i64 PP) (cs' := #[.int .i64 XX, .int .i64 YY, .int .i64 PP, .int .i64 0, .int .i64 0, .int .i64 0, .slice none 0 0, .slice none 0 0, .int .i64 0, .int .i64 0, .int .i64 0, .int .i64 0, .int .i64 0]) rfl
      have r3 := r2.set_ 3 (.int .i64 ((wn : Int) + 1)) (cs' := #[.int .i64 XX, .int .i64 YY, .int .i64 PP, .int .i64 ((wn : Int) + 1), .int .i64 0, .int .i64 0, .slice none 0 0, .slice none 0 0, .int .i64 0, .int .i64 0, .int .i64 0, .int .i64 0, .int .i64 0]) rfl
      have r4 := r3.set_ 4 (.int .i64 ((hn : Int) + 1)) (cs' := #[.int .i64 XX, .int .i64 YY, .int .i64 PP, .int .i64 ((wn : Int) + 1), .int .i64 ((hn : Int) + 1), .int .i64 0, .slice none 0 0, .slice none 0 0, .int .i64 0, .int .i64 0, .int .i64 0, .int .i64 0, .int .i64 0]) rfl
      have r5 := r4.set_ 5 (.int .i64 1) (cs' := #[.int .i64 XX, .int .i64 YY, .int .i64 PP, .int .i64 ((wn : Int) + 1), .int .i64 ((hn : Int) + 1), .int .i64 1, .slice none 0 0, .slice none 0 0, .int .i64 0, .int .i64 0, .int .i64 0, .int .i64 0, .int .i64 0]) rfl
      have r6 := r5.set_ 6 (.slice none 0 0) (cs' := #[.int .i64 XX, .int .i64 YY, .int .i64 PP, .int .i64 ((wn : Int) + 1), .int .i64 ((hn : Int) + 1), .int .i64 1, .slice none 0 0, .slice none 0 0, .int .i64 0, .int .i64 0, .int .i64 0, .int .i64 0, .int .i64 0]) rfl
      have r7 := r6.set_ 7 (.slice none 0 0) (cs' := #[.int .i64 XX, .int .i64 YY, .int .i64 PP, .int .i64 ((wn : Int) + 1), .int .i64 ((hn : Int) + 1), .int .i64 1, .slice none 0 0, .slice none 0 0, .int .i64 0, .int .i64 0, .int .i64 0, .int .i64 0, .int .i64 0]) rfl
      have r8 := r7.set_ 8 (.int .i64 c0) (cs' := #[.int .i64 XX, .int .i64 YY, .int .i64 PP, .int .i64 ((wn : Int) + 1), .int .i64 ((hn : Int) + 1), .int .i64 1, .slice none 0 0, .slice none 0 0, .int .i64 c0, .int .i64 0, .int .i64 0, .int .i64 0, .int .i64 0]) rfl
      have r9 := r8.set_ 9 (.int .i64 c1) (cs' := #[.int .i64 XX, .int .i64 YY, .int .i64 PP, .int .i64 ((wn : Int) + 1), .int .i64 ((hn : Int) + 1), .int .i64 1, .slice none 0 0, .slice none 0 0, .int .i64 c0, .int .i64 c1, .int .i64 0, .int .i64 0, .int .i64 0]) rfl
      have r10 := r9.set_ 10 (.int .i64 c2) (cs' := #[.int .i64 XX, .int .i64 YY, .int .i64 PP, .int .i64 ((wn : Int) + 1), .int .i64 ((hn : Int) + 1), .int .i64 1, .slice none 0 0, .slice none 0 0, .int .i64 c0, .int .i64 c1, .int .i64 c2, .int .i64 0, .int .i64 0]) rfl
      have r11 := r10.set_ 11 (.int .i64 300) (cs' := #[.int .i64 XX, .int .i64 YY, .int .i64 PP, .int .i64 ((wn : Int) + 1), .int .i64 ((hn : Int) + 1), .int .i64 1, .slice none 0 0, .slice none 0 0, .int .i64 c0, .int .i64 c1, .int .i64 c2, .int .i64 300, .int .i64 0]) rfl
      have r12 := r11.set_ 12 (.int .i64 4000) (cs' := #[.int .i64 XX, .int .i64 YY, .int .i64 PP, .int .i64 ((wn : Int) + 1), .int .i64 ((hn : Int) + 1), .int .i64 1, .slice none 0 0, .slice none 0 0, .int .i64 c0, .int .i64 c1, .int .i64 c2, .int .i64 300, .int .i64 4000]) rfl
      exact r12
    · obtain ⟨p0, p1, p2⟩ := HPP.out
      obtain ⟨e1, e2⟩ := HXX.out
      have gW := mul_bounds (a := ((wn + 1 : Nat) : Int)) (b := PP) (A := 4) (B := 81920000) (by omega) (by omega) (by omega) (by omega)
      have gH := mul_bounds (a := ((hn + 1 : Nat) : Int)) (b := PP) (A := 4) (B := 81920000) (by omega) (by omega) (by omega) (by omega)
      refine ⟨⟨by omega, by omega, by omega, by omega, p0, by omega, by omega, by omega, by omega, by omega, by omega, p2⟩, by omega, by omega, BB.out.1, BB.out.2.1, BB.out.2.2⟩
    · have := YB.out
      (repeat' (first | (with_reducible exact Below.refl _ _) | (with_reducible assumption) | (with_reducible refine below_drewN ?_ _) | (with_reducible refine Below.drew ?_) | (with_reducible refine Below.alloc ?_ ?_ _) | (with_reducible refine Below.setCell ?_ ?_ _) | omega | (simp; done) | (simp; omega)))
  · obtain ⟨PP, ePP⟩ : ∃ x : Int, ((q : Int) + 1) * 40000 * 4 = x := ⟨_, rfl⟩
    obtain ⟨XX, eXX⟩ : ∃ x : Int, ((xn : Int) - 128) * 50000 = x := ⟨_, rfl⟩
    obtain ⟨YY, eYY⟩ : ∃ x : Int, ((yn : Int) - 128) * 50000 = x := ⟨_, rfl⟩
    have hP : 1 ≤ PP ∧ PP ≤ 81920000 ∧ PP % 4 = 0 := by omega
    have HPP := Lib.hid hP
    have HXX := Lib.hid (And.intro eXX eYY)
    have t1 : IntKind.i64.wrap ((q : Int) + 1) = (q : Int) + 1 := IntWalk.i64_in _ (by omega)
    have t2 : IntKind.i64.wrap (((q : Int) + 1) * 40000) = ((q : Int) + 1) * 40000 := IntWalk.i64_in _ (by omega)
    clear hP
    go_enter Tryz.func8, Tryz.ntmps8
    go_wp2_with fail
    obtain ⟨u, eu⟩ : ∃ u, (w.alloc (.cells #[.slice p N c] 22)).alloc (.cells #[.int .i64 0, .int .i64 0, .int .i64 0, .int .i64 0, .int .i64 0, .int .i64 0, .slice none 0 0, .slice none 0 0, .int .i64 0, .int .i64 0, .int .i64 0, .int .i64 0, .int .i64 0] 31) = u := ⟨_, rfl⟩
    have uB : Below w.heap.size w u := by rw [← eu]; (repeat' (first | (with_reducible exact Below.refl _ _) | (with_reducible assumption) | (with_reducible refine below_drewN ?_ _) | (with_reducible refine Below.drew ?_) | (with_reducible refine Below.alloc ?_ ?_ _) | (with_reducible refine Below.setCell ?_ ?_ _) | omega | (simp; done) | (simp; omega)))
    have kB : Blk u w.heap.size 22 #[.slice p N c] := by rw [← eu]; (repeat' (first | (with_reducible assumption) | (with_reducible exact Blk.new _ _ _) | (exact Blk.newAt (by first | rfl | (simp; done) | omega)) | (with_reducible refine Blk.drewN ?_ _) | (with_reducible refine Blk.drew ?_) | (with_reducible refine Blk.alloc ?_ _) | (with_reducible apply Blk.set_) | (with_reducible refine Blk.far ?_ ?_ _) | rfl | omega | (simp; done) | (simp; omega)))
    have kR : Blk u (w.heap.size + 1) 31 #[.int .i64 0, .int .i64 0, .int .i64 0, .int .i64 0, .int .i64 0, .int .i64 0, .slice none 0 0, .slice none 0 0, .int .i64 0, .int .i64 0, .int .i64 0, .int .i64 0, .int .i64 0] := by rw [← eu]; (repeat' (first | (with_reducible assumption) | (with_reducible exact Blk.new _ _ _) | (exact Blk.newAt (by first | rfl | (simp; done) | omega)) | (with_reducible refine Blk.drewN ?_ _) | (with_reducible refine Blk.drew ?_) | (with_reducible refine Blk.alloc ?_ _) | (with_reducible apply Blk.set_) | (with_reducible refine Blk.far ?_ ?_ _) | rfl | omega | (simp; done) | (simp; omega)))
    have us : u.heap.size = w.heap.size + 1 + 1 := by rw [← eu]; simp
    have HA0 : Hid (Calls Tryz.prog 25 #[.int .i64 0, .pointer (some ⟨w.heap.size, 0, none⟩)] u fun e w' => e = .returned (.int .i64 a0) ∧ w' = u) := Lib.hid (A0.out u uB (kB.cell 0))
    have HA1 : Hid (Calls Tryz.prog 25 #[.int .i64 1, .pointer (some ⟨w.heap.size, 0, none⟩)] u fun e w' => e = .returned (.int .i64 a1) ∧ w' = u) := Lib.hid (A1.out u uB (kB.cell 0))
    have HA2 : Hid (Calls Tryz.prog 25 #[.int .i64 2, .pointer (some ⟨w.heap.size, 0, none⟩)] u fun e w' => e = .returned (.int .i64 a2) ∧ w' = u) := Lib.hid (A2.out u uB (kB.cell 0))
    have HA3 : Hid (Calls Tryz.prog 25 #[.int .i64 3, .pointer (some ⟨w.heap.size, 0, none⟩)] u fun e w' => e = .returned (.int .i64 a3) ∧ w' = u) := Lib.hid (A3.out u uB (kB.cell 0))
    have UB := Lib.hid uB
    have KB := Lib.hid kB
    have KR := Lib.hid kR
    have US := Lib.hid us
    rw [eu]
    clear eu uB kB kR us
    go_wp2_with fail
    refine (HA0.out).mono ?_
    rintro e w' ⟨rfl, hw0⟩
    subst hw0
    go_wp2_with fail
    refine (HA1.out).mono ?_
    rintro e w' ⟨rfl, hw1⟩
    subst hw1
    go_wp2_with fail
    refine (HA2.out).mono ?_
    rintro e w' ⟨rfl, hw2⟩
    subst hw2
    go_wp2_with fail
    refine (HA3.out).mono ?_
    rintro e w' ⟨rfl, hw3⟩
    subst hw3
    go_wp2_with fail
    obtain ⟨v, ev⟩ : ∃ v, w'.alloc (.cells #[.int .i64 0, .int .i64 0, .int .i64 PP, .int .i64 ((wn : Int) + 1), .int .i64 ((hn : Int) + 1), .int .i64 2, .slice none 0 0, .slice none 0 0, .int .i64 0, .int .i64 0, .int .i64 0, .int .i64 300, .int .i64 4000] 31) = v := ⟨_, rfl⟩
    have vB : Below w.heap.size w v := by rw [← ev]; exact UB.out.alloc UB.out.size _
    have kB : Blk v w.heap.size 22 #[.slice p N c] := by rw [← ev]; exact KB.out.alloc _
    have kR : Blk v (w.heap.size + 1) 31 #[.int .i64 0, .int .i64 0, .int .i64 0, .int .i64 0, .int .i64 0, .int .i64 0, .slice none 0 0, .slice none 0 0, .int .i64 0, .int .i64 0, .int .i64 0, .int .i64 0, .int .i64 0] := by rw [← ev]; exact KR.out.alloc _
    have kJ : Blk v (w.heap.size + 1 + 1) 31 #[.int .i64 0, .int .i64 0, .int .i64 PP, .int .i64 ((wn : Int) + 1), .int .i64 ((hn : Int) + 1), .int .i64 2, .slice none 0 0, .slice none 0 0, .int .i64 0, .int .i64 0, .int .i64 0, .int .i64 300, .int .i64 4000] := by rw [← ev]; exact Blk.newAt US.out.symm
    have HA4 : Hid (Calls Tryz.prog 25 #[.int .i64 4, .pointer (some ⟨w.heap.size, 0, none⟩)] v fun e w' => e = .returned (.int .i64 a4) ∧ w' = v) := Lib.hid (A4.out v vB (kB.cell 0))
    have HA5 : Hid (Calls Tryz.prog 25 #[.int .i64 5, .pointer (some ⟨w.heap.size, 0, none⟩)] v fun e w' => e = .returned (.int .i64 a5) ∧ w' = v) := Lib.hid (A5.out v vB (kB.cell 0))
    have VB := Lib.hid vB
    have KB2 := Lib.hid kB
    have KR2 := Lib.hid kR
    have KJ := Lib.hid kJ
    have us := US.out
    first | rw [us] | (simp only [us]) | skip
    rw [ev]
    have cJ := kJ.cell
    have fJ := kJ.frozen
    have lJ := kJ.lt
    have m1 : IntKind.i64.wrap ((xn : Int) - 128) = (xn : Int) - 128 := IntWalk.i64_in _ (by omega)
    have m2 : IntKind.i64.wrap (((xn : Int) - 128) * 50000) = ((xn : Int) - 128) * 50000 := IntWalk.i64_in _ (by omega)
    have m3 : IntKind.i64.wrap ((yn : Int) - 128) = (yn : Int) - 128 := IntWalk.i64_in _ (by omega)
    have m4 : IntKind.i64.wrap (((yn : Int) - 128) * 50000) = ((yn : Int) - 128) * 50000 := IntWalk.i64_in _ (by omega)
    clear ev vB kB kR kJ
    refine (HA4.out).mono ?_
    rintro e w' ⟨rfl, hw4⟩
    subst hw4
    go_wp2_with fail
    refine (HA5.out).mono ?_
    rintro e w' ⟨rfl, hw5⟩
    subst hw5
    go_wp2_with fail
    obtain ⟨x, ex⟩ : ∃ x, (w'.setCell ⟨w.heap.size + 1 + 1, 0, none⟩ (.int .i64 XX)).setCell ⟨w.heap.size + 1 + 1, 1, none⟩ (.int .i64 YY) = x := ⟨_, rfl⟩
    have xB : Below w.heap.size w x := by rw [← ex]; exact (VB.out.setCell (by first | (simp; done) | (simp; omega) | omega) _).setCell (by first | (simp; done) | (simp; omega) | omega) _
    have kB : Blk x w.heap.size 22 #[.slice p N c] := by rw [← ex]; exact (KB2.out.far (by simp; omega) _).far (by simp; omega) _
    have kR : Blk x (w.heap.size + 1) 31 #[.int .i64 0, .int .i64 0, .int .i64 0, .int .i64 0, .int .i64 0, .int .i64 0, .slice none 0 0, .slice none 0 0, .int .i64 0, .int .i64 0, .int .i64 0, .int .i64 0, .int .i64 0] := by rw [← ex]; exact (KR2.out.far (by simp) _).far (by simp) _
    have kJ : Blk x (w.heap.size + 1 + 1) 31 #[.int .i64 XX, .int .i64 YY, .int .i64 PP, .int .i64 ((wn : Int) + 1), .int .i64 ((hn : Int) + 1), .int .i64 2, .slice none 0 0, .slice none 0 0, .int .i64 0, .int .i64 0, .int .i64 0, .int .i64 300, .int .i64 4000] := by
      rw [← ex]
      have e0 := KJ.out.set_ 0 (.int .i64 XX) (cs' := #[.int .i64 XX, .int .i64 0, .int .i64 PP, .int .i64 ((wn : Int) + 1), .int .i64 ((hn : Int) + 1), .int .i64 2, .slice none 0 0, .slice none 0 0, .int .i64 0, .int .i64 0, .int .i64 0, .int .i64 300, .int .i64 4000]) rfl
      exact e0.set_ 1 (.int .i64 YY) (cs' := #[.int .i64 XX, .int .i64 YY, .int .i64 PP, .int .i64 ((wn : Int) + 1), .int .i64 ((hn : Int) + 1), .int .i64 2, .slice none 0 0, .slice none 0 0, .int .i64 0, .int .i64 0, .int .i64 0, .int .i64 300, .int .i64 4000]) rfl
    have HA9 : Hid (Calls Tryz.prog 25 #[.int .i64 9, .pointer (some ⟨w.heap.size, 0, none⟩)] x fun e w' => e = .returned (.int .i64 a9) ∧ w' = x) := Lib.hid (A9.out x xB (kB.cell 0))
    have XB := Lib.hid xB
    have KR3 := Lib.hid kR
    have KJ3 := Lib.hid kJ
    rw [ex]
    clear ex xB kB kR kJ cJ fJ lJ
    refine wp_loop_rounds 1 ?_
    rw [rounds_succ]
    go_wp2_with fail
    refine wp_loop_rounds 1 ?_
    rw [rounds_succ]
    go_wp2_with fail
    refine (HA9.out).mono ?_
    rintro e w9 ⟨rfl, hw9⟩
    subst hw9
    have cJ := KJ3.out.cell
    have fJ := KJ3.out.frozen
    have lJ := KJ3.out.lt
    go_upto_region 16 with (fail)
    obtain ⟨y, ey⟩ : ∃ y, ((w9.setCell ⟨w.heap.size + 1 + 1, 8, none⟩ (.int .i64 c0)).setCell ⟨w.heap.size + 1 + 1, 9, none⟩ (.int .i64 c1)).setCell ⟨w.heap.size + 1 + 1, 10, none⟩ (.int .i64 c2) = y := ⟨_, rfl⟩
    have yB : Below w.heap.size w y := by rw [← ey]; exact ((XB.out.setCell (by first | (simp; done) | (simp; omega) | omega) _).setCell (by first | (simp; done) | (simp; omega) | omega) _).setCell (by first | (simp; done) | (simp; omega) | omega) _
    have kR : Blk y (w.heap.size + 1) 31 #[.int .i64 0, .int .i64 0, .int .i64 0, .int .i64 0, .int .i64 0, .int .i64 0, .slice none 0 0, .slice none 0 0, .int .i64 0, .int .i64 0, .int .i64 0, .int .i64 0, .int .i64 0] := by rw [← ey]; exact ((KR3.out.far (by simp) _).far (by simp) _).far (by simp) _
    have kJ : Blk y (w.heap.size + 1 + 1) 31 #[.int .i64 XX, .int .i64 YY, .int .i64 PP, .int .i64 ((wn : Int) + 1), .int .i64 ((hn : Int) + 1), .int .i64 2, .slice none 0 0, .slice none 0 0, .int .i64 c0, .int .i64 c1, .int .i64 c2, .int .i64 300, .int .i64 4000] := by
      rw [← ey]
      have e0 := KJ3.out.set_ 8 (.int .i64 c0) (cs' := #[.int .i64 XX, .int .i64 YY, .int .i64 PP, .int .i64 ((wn : Int) + 1), .int .i64 ((hn : Int) + 1), .int .i64 2, .slice none 0 0, .slice none 0 0, .int .i64 c0, .int .i64 0, .int .i64 0, .int .i64 300, .int .i64 4000]) rfl
      have e1 := e0.set_ 9 (.int .i64 c1) (cs' := #[.int .i64 XX, .int .i64 YY, .int .i64 PP, .int .i64 ((wn : Int) + 1), .int .i64 ((hn : Int) + 1), .int .i64 2, .slice none 0 0, .slice none 0 0, .int .i64 c0, .int .i64 c1, .int .i64 0, .int .i64 300, .int .i64 4000]) rfl
      exact e1.set_ 10 (.int .i64 c2) (cs' := #[.int .i64 XX, .int .i64 YY, .int .i64 PP, .int .i64 ((wn : Int) + 1), .int .i64 ((hn : Int) + 1), .int .i64 2, .slice none 0 0, .slice none 0 0, .int .i64 c0, .int .i64 c1, .int .i64 c2, .int .i64 300, .int .i64 4000]) rfl
    have YB := Lib.hid yB
    have KR4 := Lib.hid kR
    have cR := kR.cell
    have fR := kR.frozen
    have lR := kR.lt
    rw [ey]
    clear cJ fJ lJ
    have cJ := kJ.cell
    have lJ := kJ.lt
    clear ey yB kR kJ
    go_wp2_with fail
    refine bodyPost_ret (results_cell_row (t := 31) Tryz.results8 _ _ (w.heap.size + 1) #[.int .i64 XX, .int .i64 YY, .int .i64 PP, .int .i64 ((wn : Int) + 1), .int .i64 ((hn : Int) + 1), .int .i64 2, .slice none 0 0, .slice none 0 0, .int .i64 c0, .int .i64 c1, .int .i64 c2, .int .i64 300, .int .i64 4000] (0, 0) _ (by rfl) ?_ Tryz.underlying31 rfl (by kernel_rfl)) rfl ⟨XX, YY, PP, 4, wn + 1, hn + 1, 2, c0, c1, c2, ?_, rfl, ?_⟩
    · have r0 := KR4.out.set_ 0 (.int .i64 XX) (cs' := #[.int .i64 XX, .int .i64 0, .int .i64 0, .int .i64 0, .int .i64 0, .int .i64 0, .slice none 0 0, .slice none 0 0, .int .i64 0, .int .i64 0, .int .i64 0, .int .i64 0, .int .i64 0]) rfl
      have r1 := r0.set_ 1 (.int .i64 YY) (cs' := #[.int .i64 XX, .int .i64 YY, .int .i64 0, .int .i64 0, .int .i64 0, .int .i64 0, .slice none 0 0, .slice none 0 0, .int .i64 0, .int .i64 0, .int .i64 0, .int .i64 0, .int .i64 0]) rfl
      have r2 := r1.set_ 2 (.int .i64 PP) (cs' := #[.int .i64 XX, .int .i64 YY, .int .i64 PP, .int .i64 0, .int .i64 0, .int .i64 0, .slice none 0 0, .slice none 0 0, .int .i64 0, .int .i64 0, .int .i64 0, .int .i64 0, .int .i64 0]) rfl
      have r3 := r2.set_ 3 (.int .i64 ((wn : Int) + 1)) (cs' := #[.int .i64 XX, .int .i64 YY, .int .i64 PP, .int .i64 ((wn : Int) + 1), .int .i64 0, .int .i64 0, .slice none 0 0, .slice none 0 0, .int .i64 0, .int .i64 0, .int .i64 0, .int .i64 0, .int .i64 0]) rfl
      have r4 := r3.set_ 4 (.int .i64 ((hn : Int) + 1)) (cs' := #[.int .i64 XX, .int .i64 YY, .int .i64 PP, .int .i64 ((wn : Int) + 1), .int .i64 ((hn : Int) + 1), .int .i64 0, .slice none 0 0, .slice none 0 0, .int .i64 0, .int .i64 0, .int .i64 0, .int .i64 0, .int .i64 0]) rfl
      have r5 := r4.set_ 5 (.int .i64 2) (cs' := #[.int .i64 XX, .int .i64 YY, .int .i64 PP, .int .i64 ((wn : Int) + 1), .int .i64 ((hn : Int) + 1), .int .i64 2, .slice none 0 0, .slice none 0 0, .int .i64 0, .int .i64 0, .int .i64 0, .int .i64 0, .int .i64 0]) rfl
      have r6 := r5.set_ 6 (.slice none 0 0) (cs' := #[.int .i64 XX, .int .i64 YY, .int .i64 PP, .int .i64 ((wn : Int) + 1), .int .i64 ((hn : Int) + 1), .int .i64 2, .slice none 0 0, .slice none 0 0, .int .i64 0, .int .i64 0, .int .i64 0, .int .i64 0, .int .i64 0]) rfl
      have r7 := r6.set_ 7 (.slice none 0 0) (cs' := #[.int .i64 XX, .int .i64 YY, .int .i64 PP, .int .i64 ((wn : Int) + 1), .int .i64 ((hn : Int) + 1), .int .i64 2, .slice none 0 0, .slice none 0 0, .int .i64 0, .int .i64 0, .int .i64 0, .int .i64 0, .int .i64 0]) rfl
      have r8 := r7.set_ 8 (.int .i64 c0) (cs' := #[.int .i64 XX, .int .i64 YY, .int .i64 PP, .int .i64 ((wn : Int) + 1), .int .i64 ((hn : Int) + 1), .int .i64 2, .slice none 0 0, .slice none 0 0, .int .i64 c0, .int .i64 0, .int .i64 0, .int .i64 0, .int .i64 0]) rfl
      have r9 := r8.set_ 9 (.int .i64 c1) (cs' := #[.int .i64 XX, .int .i64 YY, .int .i64 PP, .int .i64 ((wn : Int) + 1), .int .i64 ((hn : Int) + 1), .int .i64 2, .slice none 0 0, .slice none 0 0, .int .i64 c0, .int .i64 c1, .int .i64 0, .int .i64 0, .int .i64 0]) rfl
      have r10 := r9.set_ 10 (.int .i64 c2) (cs' := #[.int .i64 XX, .int .i64 YY, .int .i64 PP, .int .i64 ((wn : Int) + 1), .int .i64 ((hn : Int) + 1), .int .i64 2, .slice none 0 0, .slice none 0 0, .int .i64 c0, .int .i64 c1, .int .i64 c2, .int .i64 0, .int .i64 0]) rfl
      have r11 := r10.set_ 11 (.int .i64 300) (cs' := #[.int .i64 XX, .int .i64 YY, .int .i64 PP, .int .i64 ((wn : Int) + 1), .int .i64 ((hn : Int) + 1), .int .i64 2, .slice none 0 0, .slice none 0 0, .int .i64 c0, .int .i64 c1, .int .i64 c2, .int .i64 300, .int .i64 0]) rfl
      have r12 := r11.set_ 12 (.int .i64 4000) (cs' := #[.int .i64 XX, .int .i64 YY, .int .i64 PP, .int .i64 ((wn : Int) + 1), .int .i64 ((hn : Int) + 1), .int .i64 2, .slice none 0 0, .slice none 0 0, .int .i64 c0, .int .i64 c1, .int .i64 c2, .int .i64 300, .int .i64 4000]) rfl
      exact r12
    · obtain ⟨p0, p1, p2⟩ := HPP.out
      obtain ⟨e1, e2⟩ := HXX.out
      have gW := mul_bounds (a := ((wn + 1 : Nat) : Int)) (b := PP) (A := 4) (B := 81920000) (by omega) (by omega) (by omega) (by omega)
      have gH := mul_bounds (a := ((hn + 1 : Nat) : Int)) (b := PP) (A := 4) (B := 81920000) (by omega) (by omega) (by omega) (by omega)
      refine ⟨⟨by omega, by omega, by omega, by omega, p0, by omega, by omega, by omega, by omega, by omega, by omega, p2⟩, by omega, by omega, BB.out.1, BB.out.2.1, BB.out.2.2⟩
    · have := YB.out
      (repeat' (first | (with_reducible exact Below.refl _ _) | (with_reducible assumption) | (with_reducible refine below_drewN ?_ _) | (with_reducible refine Below.drew ?_) | (with_reducible refine Below.alloc ?_ ?_ _) | (with_reducible refine Below.setCell ?_ ?_ _) | omega | (simp; done) | (simp; omega)))
  · obtain ⟨PP, ePP⟩ : ∃ x : Int, ((q : Int) + 1) * 40000 * 8 = x := ⟨_, rfl⟩
    obtain ⟨XX, eXX⟩ : ∃ x : Int, ((xn : Int) - 128) * 50000 = x := ⟨_, rfl⟩
    obtain ⟨YY, eYY⟩ : ∃ x : Int, ((yn : Int) - 128) * 50000 = x := ⟨_, rfl⟩
    have hP : 1 ≤ PP ∧ PP ≤ 81920000 ∧ PP % 8 = 0 := by omega
    have HPP := Lib.hid hP
    have HXX := Lib.hid (And.intro eXX eYY)
    have t1 : IntKind.i64.wrap ((q : Int) + 1) = (q : Int) + 1 := IntWalk.i64_in _ (by omega)
    have t2 : IntKind.i64.wrap (((q : Int) + 1) * 40000) = ((q : Int) + 1) * 40000 := IntWalk.i64_in _ (by omega)
    clear hP
    go_enter Tryz.func8, Tryz.ntmps8
    go_wp2_with fail
    obtain ⟨u, eu⟩ : ∃ u, (w.alloc (.cells #[.slice p N c] 22)).alloc (.cells #[.int .i64 0, .int .i64 0, .int .i64 0, .int .i64 0, .int .i64 0, .int .i64 0, .slice none 0 0, .slice none 0 0, .int .i64 0, .int .i64 0, .int .i64 0, .int .i64 0, .int .i64 0] 31) = u := ⟨_, rfl⟩
    have uB : Below w.heap.size w u := by rw [← eu]; (repeat' (first | (with_reducible exact Below.refl _ _) | (with_reducible assumption) | (with_reducible refine below_drewN ?_ _) | (with_reducible refine Below.drew ?_) | (with_reducible refine Below.alloc ?_ ?_ _) | (with_reducible refine Below.setCell ?_ ?_ _) | omega | (simp; done) | (simp; omega)))
    have kB : Blk u w.heap.size 22 #[.slice p N c] := by rw [← eu]; (repeat' (first | (with_reducible assumption) | (with_reducible exact Blk.new _ _ _) | (exact Blk.newAt (by first | rfl | (simp; done) | omega)) | (with_reducible refine Blk.drewN ?_ _) | (with_reducible refine Blk.drew ?_) | (with_reducible refine Blk.alloc ?_ _) | (with_reducible apply Blk.set_) | (with_reducible refine Blk.far ?_ ?_ _) | rfl | omega | (simp; done) | (simp; omega)))
    have kR : Blk u (w.heap.size + 1) 31 #[.int .i64 0, .int .i64 0, .int .i64 0, .int .i64 0, .int .i64 0, .int .i64 0, .slice none 0 0, .slice none 0 0, .int .i64 0, .int .i64 0, .int .i64 0, .int .i64 0, .int .i64 0] := by rw [← eu]; (repeat' (first | (with_reducible assumption) | (with_reducible exact Blk.new _ _ _) | (exact Blk.newAt (by first | rfl | (simp; done) | omega)) | (with_reducible refine Blk.drewN ?_ _) | (with_reducible refine Blk.drew ?_) | (with_reducible refine Blk.alloc ?_ _) | (with_reducible apply Blk.set_) | (with_reducible refine Blk.far ?_ ?_ _) | rfl | omega | (simp; done) | (simp; omega)))
    have us : u.heap.size = w.heap.size + 1 + 1 := by rw [← eu]; simp
    have HA0 : Hid (Calls Tryz.prog 25 #[.int .i64 0, .pointer (some ⟨w.heap.size, 0, none⟩)] u fun e w' => e = .returned (.int .i64 a0) ∧ w' = u) := Lib.hid (A0.out u uB (kB.cell 0))
    have HA1 : Hid (Calls Tryz.prog 25 #[.int .i64 1, .pointer (some ⟨w.heap.size, 0, none⟩)] u fun e w' => e = .returned (.int .i64 a1) ∧ w' = u) := Lib.hid (A1.out u uB (kB.cell 0))
    have HA2 : Hid (Calls Tryz.prog 25 #[.int .i64 2, .pointer (some ⟨w.heap.size, 0, none⟩)] u fun e w' => e = .returned (.int .i64 a2) ∧ w' = u) := Lib.hid (A2.out u uB (kB.cell 0))
    have HA3 : Hid (Calls Tryz.prog 25 #[.int .i64 3, .pointer (some ⟨w.heap.size, 0, none⟩)] u fun e w' => e = .returned (.int .i64 a3) ∧ w' = u) := Lib.hid (A3.out u uB (kB.cell 0))
    have UB := Lib.hid uB
    have KB := Lib.hid kB
    have KR := Lib.hid kR
    have US := Lib.hid us
    rw [eu]
    clear eu uB kB kR us
    go_wp2_with fail
    refine (HA0.out).mono ?_
    rintro e w' ⟨rfl, hw0⟩
    subst hw0
    go_wp2_with fail
    refine (HA1.out).mono ?_
    rintro e w' ⟨rfl, hw1⟩
    subst hw1
    go_wp2_with fail
    refine (HA2.out).mono ?_
    rintro e w' ⟨rfl, hw2⟩
    subst hw2
    go_wp2_with fail
    refine (HA3.out).mono ?_
    rintro e w' ⟨rfl, hw3⟩
    subst hw3
    go_wp2_with fail
    obtain ⟨v, ev⟩ : ∃ v, w'.alloc (.cells #[.int .i64 0, .int .i64 0, .int .i64 PP, .int .i64 ((wn : Int) + 1), .int .i64 ((hn : Int) + 1), .int .i64 3, .slice none 0 0, .slice none 0 0, .int .i64 0, .int .i64 0, .int .i64 0, .int .i64 300, .int .i64 4000] 31) = v := ⟨_, rfl⟩
    have vB : Below w.heap.size w v := by rw [← ev]; exact UB.out.alloc UB.out.size _
    have kB : Blk v w.heap.size 22 #[.slice p N c] := by rw [← ev]; exact KB.out.alloc _
    have kR : Blk v (w.heap.size + 1) 31 #[.int .i64 0, .int .i64 0, .int .i64 0, .int .i64 0, .int .i64 0, .int .i64 0, .slice none 0 0, .slice none 0 0, .int .i64 0, .int .i64 0, .int .i64 0, .int .i64 0, .int .i64 0] := by rw [← ev]; exact KR.out.alloc _
    have kJ : Blk v (w.heap.size + 1 + 1) 31 #[.int .i64 0, .int .i64 0, .int .i64 PP, .int .i64 ((wn : Int) + 1), .int .i64 ((hn : Int) + 1), .int .i64 3, .slice none 0 0, .slice none 0 0, .int .i64 0, .int .i64 0, .int .i64 0, .int .i64 300, .int .i64 4000] := by rw [← ev]; exact Blk.newAt US.out.symm
    have HA4 : Hid (Calls Tryz.prog 25 #[.int .i64 4, .pointer (some ⟨w.heap.size, 0, none⟩)] v fun e w' => e = .returned (.int .i64 a4) ∧ w' = v) := Lib.hid (A4.out v vB (kB.cell 0))
    have HA5 : Hid (Calls Tryz.prog 25 #[.int .i64 5, .pointer (some ⟨w.heap.size, 0, none⟩)] v fun e w' => e = .returned (.int .i64 a5) ∧ w' = v) := Lib.hid (A5.out v vB (kB.cell 0))
    have VB := Lib.hid vB
    have KB2 := Lib.hid kB
    have KR2 := Lib.hid kR
    have KJ := Lib.hid kJ
    have us := US.out
    first | rw [us] | (simp only [us]) | skip
    rw [ev]
    have cJ := kJ.cell
    have fJ := kJ.frozen
    have lJ := kJ.lt
    have m1 : IntKind.i64.wrap ((xn : Int) - 128) = (xn : Int) - 128 := IntWalk.i64_in _ (by omega)
    have m2 : IntKind.i64.wrap (((xn : Int) - 128) * 50000) = ((xn : Int) - 128) * 50000 := IntWalk.i64_in _ (by omega)
    have m3 : IntKind.i64.wrap ((yn : Int) - 128) = (yn : Int) - 128 := IntWalk.i64_in _ (by omega)
    have m4 : IntKind.i64.wrap (((yn : Int) - 128) * 50000) = ((yn : Int) - 128) * 50000 := IntWalk.i64_in _ (by omega)
    clear ev vB kB kR kJ
    refine (HA4.out).mono ?_
    rintro e w' ⟨rfl, hw4⟩
    subst hw4
    go_wp2_with fail
    refine (HA5.out).mono ?_
    rintro e w' ⟨rfl, hw5⟩
    subst hw5
    go_wp2_with fail
    obtain ⟨x, ex⟩ : ∃ x, (w'.setCell ⟨w.heap.size + 1 + 1, 0, none⟩ (.int .i64 XX)).setCell ⟨w.heap.size + 1 + 1, 1, none⟩ (.int .i64 YY) = x := ⟨_, rfl⟩
    have xB : Below w.heap.size w x := by rw [← ex]; exact (VB.out.setCell (by first | (simp; done) | (simp; omega) | omega) _).setCell (by first | (simp; done) | (simp; omega) | omega) _
    have kB : Blk x w.heap.size 22 #[.slice p N c] := by rw [← ex]; exact (KB2.out.far (by simp; omega) _).far (by simp; omega) _
    have kR : Blk x (w.heap.size + 1) 31 #[.int .i64 0, .int .i64 0, .int .i64 0, .int .i64 0, .int .i64 0, .int .i64 0, .slice none 0 0, .slice none 0 0, .int .i64 0, .int .i64 0, .int .i64 0, .int .i64 0, .int .i64 0] := by rw [← ex]; exact (KR2.out.far (by simp) _).far (by simp) _
    have kJ : Blk x (w.heap.size + 1 + 1) 31 #[.int .i64 XX, .int .i64 YY, .int .i64 PP, .int .i64 ((wn : Int) + 1), .int .i64 ((hn : Int) + 1), .int .i64 3, .slice none 0 0, .slice none 0 0, .int .i64 0, .int .i64 0, .int .i64 0, .int .i64 300, .int .i64 4000] := by
      rw [← ex]
      have e0 := KJ.out.set_ 0 (.int .i64 XX) (cs' := #[.int .i64 XX, .int .i64 0, .int .i64 PP, .int .i64 ((wn : Int) + 1), .int .i64 ((hn : Int) + 1), .int .i64 3, .slice none 0 0, .slice none 0 0, .int .i64 0, .int .i64 0, .int .i64 0, .int .i64 300, .int .i64 4000]) rfl
      exact e0.set_ 1 (.int .i64 YY) (cs' := #[.int .i64 XX, .int .i64 YY, .int .i64 PP, .int .i64 ((wn : Int) + 1), .int .i64 ((hn : Int) + 1), .int .i64 3, .slice none 0 0, .slice none 0 0, .int .i64 0, .int .i64 0, .int .i64 0, .int .i64 300, .int .i64 4000]) rfl
    have HA9 : Hid (Calls Tryz.prog 25 #[.int .i64 9, .pointer (some ⟨w.heap.size, 0, none⟩)] x fun e w' => e = .returned (.int .i64 a9) ∧ w' = x) := Lib.hid (A9.out x xB (kB.cell 0))
    have XB := Lib.hid xB
    have KR3 := Lib.hid kR
    have KJ3 := Lib.hid kJ
    rw [ex]
    clear ex xB kB kR kJ cJ fJ lJ
    refine wp_loop_rounds 1 ?_
    rw [rounds_succ]
    go_wp2_with fail
    refine wp_loop_rounds 1 ?_
    rw [rounds_succ]
    go_wp2_with fail
    refine (HA9.out).mono ?_
    rintro e w9 ⟨rfl, hw9⟩
    subst hw9
    have cJ := KJ3.out.cell
    have fJ := KJ3.out.frozen
    have lJ := KJ3.out.lt
    go_upto_region 16 with (fail)
    obtain ⟨y, ey⟩ : ∃ y, ((w9.setCell ⟨w.heap.size + 1 + 1, 8, none⟩ (.int .i64 c0)).setCell ⟨w.heap.size + 1 + 1, 9, none⟩ (.int .i64 c1)).setCell ⟨w.heap.size + 1 + 1, 10, none⟩ (.int .i64 c2) = y := ⟨_, rfl⟩
    have yB : Below w.heap.size w y := by rw [← ey]; exact ((XB.out.setCell (by first | (simp; done) | (simp; omega) | omega) _).setCell (by first | (simp; done) | (simp; omega) | omega) _).setCell (by first | (simp; done) | (simp; omega) | omega) _
    have kR : Blk y (w.heap.size + 1) 31 #[.int .i64 0, .int .i64 0, .int .i64 0, .int .i64 0, .int .i64 0, .int .i64 0, .slice none 0 0, .slice none 0 0, .int .i64 0, .int .i64 0, .int .i64 0, .int .i64 0, .int .i64 0] := by rw [← ey]; exact ((KR3.out.far (by simp) _).far (by simp) _).far (by simp) _
    have kJ : Blk y (w.heap.size + 1 + 1) 31 #[.int .i64 XX, .int .i64 YY, .int .i64 PP, .int .i64 ((wn : Int) + 1), .int .i64 ((hn : Int) + 1), .int .i64 3, .slice none 0 0, .slice none 0 0, .int .i64 c0, .int .i64 c1, .int .i64 c2, .int .i64 300, .int .i64 4000] := by
      rw [← ey]
      have e0 := KJ3.out.set_ 8 (.int .i64 c0) (cs' := #[.int .i64 XX, .int .i64 YY, .int .i64 PP, .int .i64 ((wn : Int) + 1), .int .i64 ((hn : Int) + 1), .int .i64 3, .slice none 0 0, .slice none 0 0, .int .i64 c0, .int .i64 0, .int .i64 0, .int .i64 300, .int .i64 4000]) rfl
      have e1 := e0.set_ 9 (.int .i64 c1) (cs' := #[.int .i64 XX, .int .i64 YY, .int .i64 PP, .int .i64 ((wn : Int) + 1), .int .i64 ((hn : Int) + 1), .int .i64 3, .slice none 0 0, .slice none 0 0, .int .i64 c0, .int .i64 c1, .int .i64 0, .int .i64 300, .int .i64 4000]) rfl
      exact e1.set_ 10 (.int .i64 c2) (cs' := #[.int .i64 XX, .int .i64 YY, .int .i64 PP, .int .i64 ((wn : Int) + 1), .int .i64 ((hn : Int) + 1), .int .i64 3, .slice none 0 0, .slice none 0 0, .int .i64 c0, .int .i64 c1, .int .i64 c2, .int .i64 300, .int .i64 4000]) rfl
    have YB := Lib.hid yB
    have KR4 := Lib.hid kR
    have cR := kR.cell
    have fR := kR.frozen
    have lR := kR.lt
    rw [ey]
    clear cJ fJ lJ
    have cJ := kJ.cell
    have lJ := kJ.lt
    clear ey yB kR kJ
    go_wp2_with fail
    refine bodyPost_ret (results_cell_row (t := 31) Tryz.results8 _ _ (w.heap.size + 1) #[.int .i64 XX, .int .i64 YY, .int .i64 PP, .int .i64 ((wn : Int) + 1), .int .i64 ((hn : Int) + 1), .int .i64 3, .slice none 0 0, .slice none 0 0, .int .i64 c0, .int .i64 c1, .int .i64 c2, .int .i64 300, .int .i64 4000] (0, 0) _ (by rfl) ?_ Tryz.underlying31 rfl (by kernel_rfl)) rfl ⟨XX, YY, PP, 8, wn + 1, hn + 1, 3, c0, c1, c2, ?_, rfl, ?_⟩
    · have r0 := KR4.out.set_ 0 (.int .i64 XX) (cs' := #[.int .i64 XX, .int .i64 0, .int .i64 0, .int .i64 0, .int .i64 0, .int .i64 0, .slice none 0 0, .slice none 0 0, .int .i64 0, .int .i64 0, .int .i64 0, .int .i64 0, .int .i64 0]) rfl
      have r1 := r0.set_ 1 (.int .i64 YY) (cs' := #[.int .i64 XX, .int .i64 YY, .int .i64 0, .int .i64 0, .int .i64 0, .int .i64 0, .slice none 0 0, .slice none 0 0, .int .i64 0, .int .i64 0, .int .i64 0, .int .i64 0, .int .i64 0]) rfl
      have r2 := r1.set_ 2 (.int .i64 PP) (cs' := #[.int .i64 XX, .int .i64 YY, .int .i64 PP, .int .i64 0, .int .i64 0, .int .i64 0, .slice none 0 0, .slice none 0 0, .int .i64 0, .int .i64 0, .int .i64 0, .int .i64 0, .int .i64 0]) rfl
      have r3 := r2.set_ 3 (.int .i64 ((wn : Int) + 1)) (cs' := #[.int .i64 XX, .int .i64 YY, .int .i64 PP, .int .i64 ((wn : Int) + 1), .int .i64 0, .int .i64 0, .slice none 0 0, .slice none 0 0, .int .i64 0, .int .i64 0, .int .i64 0, .int .i64 0, .int .i64 0]) rfl
      have r4 := r3.set_ 4 (.int .i64 ((hn : Int) + 1)) (cs' := #[.int .i64 XX, .int .i64 YY, .int .i64 PP, .int .i64 ((wn : Int) + 1), .int .i64 ((hn : Int) + 1), .int .i64 0, .slice none 0 0, .slice none 0 0, .int .i64 0, .int .i64 0, .int .i64 0, .int .i64 0, .int .i64 0]) rfl
      have r5 := r4.set_ 5 (.int .i64 3) (cs' := #[.int .i64 XX, .int .i64 YY, .int .i64 PP, .int .i64 ((wn : Int) + 1), .int .i64 ((hn : Int) + 1), .int .i64 3, .slice none 0 0, .slice none 0 0, .int .i64 0, .int .i64 0, .int .i64 0, .int .i64 0, .int .i64 0]) rfl
      have r6 := r5.set_ 6 (.slice none 0 0) (cs' := #[.int .i64 XX, .int .i64 YY, .int .i64 PP, .int .i64 ((wn : Int) + 1), .int .i64 ((hn : Int) + 1), .int .i64 3, .slice none 0 0, .slice none 0 0, .int .i64 0, .int .i64 0, .int .i64 0, .int .i64 0, .int .i64 0]) rfl
      have r7 := r6.set_ 7 (.slice none 0 0) (cs' := #[.int .i64 XX, .int .i64 YY, .int .i64 PP, .int .i64 ((wn : Int) + 1), .int .i64 ((hn : Int) + 1), .int .i64 3, .slice none 0 0, .slice none 0 0, .int .i64 0, .int .i64 0, .int .i64 0, .int .i64 0, .int .i64 0]) rfl
      have r8 := r7.set_ 8 (.int .i64 c0) (cs' := #[.int .i64 XX, .int .i64 YY, .int .i64 PP, .int .i64 ((wn : Int) + 1), .int .i64 ((hn : Int) + 1), .int .i64 3, .slice none 0 0, .slice none 0 0, .int .i64 c0, .int .i64 0, .int .i64 0, .int .i64 0, .int .i64 0]) rfl
      have r9 := r8.set_ 9 (.int .i64 c1) (cs' := #[.int .i64 XX, .int .i64 YY, .int .i64 PP, .int .i64 ((wn : Int) + 1), .int .i64 ((hn : Int) + 1), .int .i64 3, .slice none 0 0, .slice none 0 0, .int .i64 c0, .int .i64 c1, .int .i64 0, .int .i64 0, .int .i64 0]) rfl
      have r10 := r9.set_ 10 (.int .i64 c2) (cs' := #[.int .i64 XX, .int .i64 YY, .int .i64 PP, .int .i64 ((wn : Int) + 1), .int .i64 ((hn : Int) + 1), .int .i64 3, .slice none 0 0, .slice none 0 0, .int .i64 c0, .int .i64 c1, .int .i64 c2, .int .i64 0, .int .i64 0]) rfl
      have r11 := r10.set_ 11 (.int .i64 300) (cs' := #[.int .i64 XX, .int .i64 YY, .int .i64 PP, .int .i64 ((wn : Int) + 1), .int .i64 ((hn : Int) + 1), .int .i64 3, .slice none 0 0, .slice none 0 0, .int .i64 c0, .int .i64 c1, .int .i64 c2, .int .i64 300, .int .i64 0]) rfl
      have r12 := r11.set_ 12 (.int .i64 4000) (cs' := #[.int .i64 XX, .int .i64 YY, .int .i64 PP, .int .i64 ((wn : Int) + 1), .int .i64 ((hn : Int) + 1), .int .i64 3, .slice none 0 0, .slice none 0 0, .int .i64 c0, .int .i64 c1, .int .i64 c2, .int .i64 300, .int .i64 4000]) rfl
      exact r12
    · obtain ⟨p0, p1, p2⟩ := HPP.out
      obtain ⟨e1, e2⟩ := HXX.out
      have gW := mul_bounds (a := ((wn + 1 : Nat) : Int)) (b := PP) (A := 4) (B := 81920000) (by omega) (by omega) (by omega) (by omega)
      have gH := mul_bounds (a := ((hn + 1 : Nat) : Int)) (b := PP) (A := 4) (B := 81920000) (by omega) (by omega) (by omega) (by omega)
      refine ⟨⟨by omega, by omega, by omega, by omega, p0, by omega, by omega, by omega, by omega, by omega, by omega, p2⟩, by omega, by omega, BB.out.1, BB.out.2.1, BB.out.2.2⟩
    · have := YB.out
      (repeat' (first | (with_reducible exact Below.refl _ _) | (with_reducible assumption) | (with_reducible refine below_drewN ?_ _) | (with_reducible refine Below.drew ?_) | (with_reducible refine Below.alloc ?_ ?_ _) | (with_reducible refine Below.setCell ?_ ?_ _) | omega | (simp; done) | (simp; omega)))
end Go.Proofs.YtfajckkbinbpiaaGreatDoor
