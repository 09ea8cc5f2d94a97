/- Walks: a shape that is made tame. -/
import Derived.Deep.Cut
import Derived.Deep.RegionHeld3
import Derived.Deep.RegionWith
import Derived.LoopTactic
import Derived.Outline
import Derived.Test.YtfajckkbinbpiaaGreatDoorN09
import Derived.Test.YtfajckkbinbpiaaGreatDoorN15
namespace Go.Proofs.YtfajckkbinbpiaaGreatDoor
set_option maxRecDepth 100000
set_option maxHeartbeats 32000000
set_option linter.unusedVariables false
set_option linter.unusedSimpArgs false
open Go.RowKit
inductive TamedSh (T : List Nat) (W : World) : Array Value → Prop where
  | disc (x y r : Int) (hx : -20 ≤ x ∧ x ≤ 20) (hy : -20 ≤ y ∧ y ≤ 20) (hr : 1 ≤ r ∧ r ≤ 15) : TamedSh T W #[.int .i64 1, .int .i64 x, .int .i64 y, .int .i64 0, .int .i64 0, .int .i64 0, .int .i64 0, .int .i64 r, .slice none 0 0, .slice none 0 0]
  | poly (L : Value) (ls : List (List Geo.Pt)) (hl : ls.length ≤ 4) (hf : ∀ c ∈ ls, Few c) (hp : PolyAt T W L ls) : TamedSh T W #[.int .i64 2, .int .i64 0, .int .i64 0, .int .i64 0, .int .i64 0, .int .i64 0, .int .i64 0, .int .i64 0, L, .slice none 0 0]
  | line (x y c d r : Int) (hx : -20 ≤ x ∧ x ≤ 20) (hy : -20 ≤ y ∧ y ≤ 20) (hc : -21 ≤ c ∧ c ≤ 21) (hd : -20 ≤ d ∧ d ≤ 20) (hr : 1 ≤ r ∧ r ≤ 15) : TamedSh T W #[.int .i64 3, .int .i64 x, .int .i64 y, .int .i64 c, .int .i64 d, .int .i64 0, .int .i64 0, .int .i64 r, .slice none 0 0, .slice none 0 0]
  | bar (x y c d r : Int) (hx : -20 ≤ x ∧ x ≤ 20) (hy : -20 ≤ y ∧ y ≤ 20) (hr : 1 ≤ r ∧ r ≤ 15) : TamedSh T W #[.int .i64 4, .int .i64 x, .int .i64 y, .int .i64 c, .int .i64 d, .int .i64 0, .int .i64 0, .int .i64 r, .slice none 0 0, .slice none 0 0]
  | ring (x y c d e f r : Int) (hx : -40 ≤ x ∧ x ≤ 40) (hy : -40 ≤ y ∧ y ≤ 40) (hr : 1 ≤ r ∧ r ≤ 15) : TamedSh T W #[.int .i64 5, .int .i64 x, .int .i64 y, .int .i64 c, .int .i64 d, .int .i64 e, .int .i64 f, .int .i64 r, .slice none 0 0, .slice none 0 0]
def SomeShape (T : List Nat) (w : World) (e : Ending) (w' : World) : Prop := ∃ cs, e = .returned (.agg cs) ∧ TamedSh T w' cs ∧ Below w.heap.size w w'
theorem at_any (x y : Int) (S : Nat) (w : World) (hc : w.cell? ⟨S, 0, none⟩ = some (.bool true)) (hl : S < w.heap.size) :
    Calls Tryz.prog 41 #[.agg #[.int .i64 x, .int .i64 y], .pointer (some ⟨S, 0, none⟩)] w (SomePt 20 w) := by
  go_enter Tryz.func41, Tryz.ntmps41
  go_wp2_with fail
  refine (close20 _ _ _).mono ?_
  rintro e z ⟨a, b, a0, a1, b0, b1, rfl, hb⟩
  have kr : Blk z (w.heap.size + 1) 58 #[.int .i64 0, .int .i64 0] := Blk.below (by exact bkw) hb (by first | omega | (simp; done) | (simp; omega))
  have hB : Below w.heap.size w z := Below.trans (by exact blw) (hb.mono (by first | omega | (simp; done) | (simp; omega)))
  have cr := kr.cell
  have fr := kr.frozen
  have lr := kr.lt
  have KR := Lib.hid kr
  have HB := Lib.hid (And.intro a0 (And.intro a1 (And.intro b0 (And.intro b1 hB))))
  clear hb kr hB a0 a1 b0 b1
  go_wp2_with fail
  refine bodyPost_ret (results_cell_row (t := 58) Tryz.results41 _ _ (w.heap.size + 1) #[.int .i64 a, .int .i64 b] (0, 0) _ (by rfl) ?_ Tryz.underlying58 rfl (by kernel_rfl)) rfl (⟨a, b, HB.out.1, HB.out.2.1, HB.out.2.2.1, HB.out.2.2.2.1, rfl, ?_⟩)
  · exact (KR.out.set_ 0 _ rfl).set_ 1 _ rfl
  · have hB := HB.out.2.2.2.2
    exact blw
theorem tame10_disc (T : List Nat) (k0 x0 y0 c0 d0 e0 f0 r0 : Int) (L P : Value) (w : World) (hL : PolyRd w L) (hP : PartsRd 1 w P) (hk : ((k0.tmod 6 + 6) % 6) = 0) :
    Calls Tryz.prog 19 #[.agg (shV k0 x0 y0 c0 d0 e0 f0 r0 L P), .bool true, .int .i64 9] w (SomeShape T w) := by
  obtain ⟨pp, np, cp, rfl, _⟩ := hP.len
  obtain ⟨pl, nl, cl, eL, _⟩ := id hL
  subst eL
  unfold shV
  obtain ⟨a, ea⟩ : ∃ a, k0.tmod 6 = a := ⟨_, rfl⟩
  have ha := tmod_rng k0 6 (by decide)
  rw [ea] at ha hk
  have hk2 : (a + 6).tmod 6 = 0 := by rw [Int.tmod_eq_emod_of_nonneg (by omega)]; exact hk
  have HP := Lib.hid hL
  have C1 := Lib.hid r_any
  have C2 := Lib.hid at_any
  clear hL hP
  go_enter Tryz.func19, Tryz.ntmps19
  go_wp2_with fail
  refine (C1.out _ _).mono ?_
  rintro e w' ⟨r1, hr0, hr1, rfl, rfl⟩
  clear hk hk2 ha ea
  have hr2 : 0 ≤ r1 % 15 ∧ r1 % 15 ≤ 14 := by omega
  obtain ⟨r, er⟩ : ∃ r, r1 % 15 + 1 = r := ⟨_, rfl⟩
  have hr3 : 1 ≤ r ∧ r ≤ 15 := by omega
  have HR := Lib.hid hr3
  go_wp2_with fail
  refine (C2.out _ _ _ _ (Blk.cell (cs := #[.bool true]) (t := 4) (by exact bkw) 0) (by simp)).mono ?_
  rintro e z1 ⟨x, y, a0, a1, b0, b1, rfl, hb⟩
  have kO : Blk z1 (w.heap.size + 1 + 1 + 1) 62 #[.int .i64 1, .int .i64 0, .int .i64 0, .int .i64 0, .int .i64 0, .int .i64 0, .int .i64 0, .int .i64 r, .slice none 0 0, .slice none 0 0] := Blk.below (by exact bkw) hb (by first | omega | (simp; done) | (simp; omega))
  have kZ : Blk z1 (w.heap.size + 1 + 1) 62 #[.int .i64 0, .int .i64 0, .int .i64 0, .int .i64 0, .int .i64 0, .int .i64 0, .int .i64 0, .int .i64 0, .slice none 0 0, .slice none 0 0] := Blk.below (by exact bkw) hb (by first | omega | (simp; done) | (simp; omega))
  have hB : Below w.heap.size w z1 := Below.trans (by exact blw) (hb.mono (by first | omega | (simp; done) | (simp; omega)))
  have cO := kO.cell
  have fO := kO.frozen
  have lO := kO.lt
  have fZ := kZ.frozen
  have lZ := kZ.lt
  have KO := Lib.hid kO
  have KZ := Lib.hid kZ
  have HB := Lib.hid hB
  have sB := hB.size
  have HX := Lib.hid (And.intro (And.intro a0 a1) (And.intro b0 b1))
  clear a0 a1 b0 b1
  clear hb kO kZ hB
  go_wp2_with (refine wpList_storeBlk rfl 62 (.tmp 6) (.tmp 153) rfl rfl (w.heap.size + 1 + 1) #[.int .i64 1, .int .i64 x, .int .i64 y, .int .i64 0, .int .i64 0, .int .i64 0, .int .i64 0, .int .i64 r, .slice none 0 0, .slice none 0 0] (by simp [Act.eval]) (by simp [Act.eval]) 62 #[.int .i64 0, .int .i64 0, .int .i64 0, .int .i64 0, .int .i64 0, .int .i64 0, .int .i64 0, .int .i64 0, .slice none 0 0, .slice none 0 0] ((KZ.out.far (by simp) _).far (by simp) _) (by kernel_rfl) (by kernel_rfl) (by kernel_rfl) ?_)
  intro w1 hk hg
  have hB2 : Below w.heap.size w w1 := Below.grown ((HB.out.setCell (by simp; omega) _).setCell (by simp; omega) _) hg (by first | exact HB.out.size | (simp; exact HB.out.size)) (by intro b e; cases e; omega)
  have HB2 := Lib.hid hB2
  have HK := Lib.hid hk
  clear hk hg hB2
  go_wp2_with fail
  refine bodyPost_ret (results_cell_row (t := 62) Tryz.results19 _ _ (w.heap.size + 1 + 1) #[.int .i64 1, .int .i64 x, .int .i64 y, .int .i64 0, .int .i64 0, .int .i64 0, .int .i64 0, .int .i64 r, .slice none 0 0, .slice none 0 0] (0, 0) _ (by rfl) ?_ Tryz.underlying62 rfl (by kernel_rfl)) rfl (⟨_, rfl, TamedSh.disc x y r HX.out.1 HX.out.2 HR.out, HB2.out⟩)
  exact HK.out
theorem tame10_form (T : List Nat) (k0 x0 y0 c0 d0 e0 f0 r0 : Int) (L P : Value) (w : World) (hL : PolyRd w L) (hP : PartsRd 1 w P) (hk : ((k0.tmod 6 + 6) % 6) = 5) :
    Calls Tryz.prog 19 #[.agg (shV k0 x0 y0 c0 d0 e0 f0 r0 L P), .bool true, .int .i64 9] w (SomeShape T w) := by
  obtain ⟨pp, np, cp, rfl, _⟩ := hP.len
  obtain ⟨pl, nl, cl, eL, _⟩ := id hL
  subst eL
  unfold shV
  obtain ⟨a, ea⟩ : ∃ a, k0.tmod 6 = a := ⟨_, rfl⟩
  have ha := tmod_rng k0 6 (by decide)
  rw [ea] at ha hk
  have hk2 : (a + 6).tmod 6 = 5 := by rw [Int.tmod_eq_emod_of_nonneg (by omega)]; exact hk
  have HP := Lib.hid hL
  have C1 := Lib.hid r_any
  have C2 := Lib.hid at_any
  clear hL hP
  go_enter Tryz.func19, Tryz.ntmps19
  go_wp2_with fail
  refine (C1.out _ _).mono ?_
  rintro e w' ⟨r1, hr0, hr1, rfl, rfl⟩
  clear hk hk2 ha ea
  have hr2 : 0 ≤ r1 % 15 ∧ r1 % 15 ≤ 14 := by omega
  obtain ⟨r, er⟩ : ∃ r, r1 % 15 + 1 = r := ⟨_, rfl⟩
  have hr3 : 1 ≤ r ∧ r ≤ 15 := by omega
  have HR := Lib.hid hr3
  go_wp2_with fail
  refine (C2.out _ _ _ _ (Blk.cell (cs := #[.bool true]) (t := 4) (by exact bkw) 0) (by simp)).mono ?_
  rintro e z1 ⟨x, y, a0, a1, b0, b1, rfl, hb⟩
  have kO : Blk z1 (w.heap.size + 1 + 1 + 1) 62 #[.int .i64 1, .int .i64 0, .int .i64 0, .int .i64 0, .int .i64 0, .int .i64 0, .int .i64 0, .int .i64 r, .slice none 0 0, .slice none 0 0] := Blk.below (by exact bkw) hb (by first | omega | (simp; done) | (simp; omega))
  have kZ : Blk z1 (w.heap.size + 1 + 1) 62 #[.int .i64 0, .int .i64 0, .int .i64 0, .int .i64 0, .int .i64 0, .int .i64 0, .int .i64 0, .int .i64 0, .slice none 0 0, .slice none 0 0] := Blk.below (by exact bkw) hb (by first | omega | (simp; done) | (simp; omega))
  have hB : Below w.heap.size w z1 := Below.trans (by exact blw) (hb.mono (by first | omega | (simp; done) | (simp; omega)))
  have cO := kO.cell
  have fO := kO.frozen
  have lO := kO.lt
  have fZ := kZ.frozen
  have lZ := kZ.lt
  have KO := Lib.hid kO
  have KZ := Lib.hid kZ
  have HB := Lib.hid hB
  have sB := hB.size
  have HX := Lib.hid (And.intro (And.intro a0 a1) (And.intro b0 b1))
  clear a0 a1 b0 b1
  clear hb kO kZ hB
  go_wp2_with (refine wpList_storeBlk rfl 62 (.tmp 6) (.tmp 153) rfl rfl (w.heap.size + 1 + 1) #[.int .i64 1, .int .i64 x, .int .i64 y, .int .i64 0, .int .i64 0, .int .i64 0, .int .i64 0, .int .i64 r, .slice none 0 0, .slice none 0 0] (by simp [Act.eval]) (by simp [Act.eval]) 62 #[.int .i64 0, .int .i64 0, .int .i64 0, .int .i64 0, .int .i64 0, .int .i64 0, .int .i64 0, .int .i64 0, .slice none 0 0, .slice none 0 0] ((KZ.out.far (by simp) _).far (by simp) _) (by kernel_rfl) (by kernel_rfl) (by kernel_rfl) ?_)
  intro w1 hk hg
  have hB2 : Below w.heap.size w w1 := Below.grown ((HB.out.setCell (by simp; omega) _).setCell (by simp; omega) _) hg (by first | exact HB.out.size | (simp; exact HB.out.size)) (by intro b e; cases e; omega)
  have HB2 := Lib.hid hB2
  have HK := Lib.hid hk
  clear hk hg hB2
  go_wp2_with fail
  refine bodyPost_ret (results_cell_row (t := 62) Tryz.results19 _ _ (w.heap.size + 1 + 1) #[.int .i64 1, .int .i64 x, .int .i64 y, .int .i64 0, .int .i64 0, .int .i64 0, .int .i64 0, .int .i64 r, .slice none 0 0, .slice none 0 0] (0, 0) _ (by rfl) ?_ Tryz.underlying62 rfl (by kernel_rfl)) rfl (⟨_, rfl, TamedSh.disc x y r HX.out.1 HX.out.2 HR.out, HB2.out⟩)
  exact HK.out
theorem tame10_line (T : List Nat) (k0 x0 y0 c0 d0 e0 f0 r0 : Int) (L P : Value) (w : World) (hL : PolyRd w L) (hP : PartsRd 1 w P) (hk : ((k0.tmod 6 + 6) % 6) = 2) :
    Calls Tryz.prog 19 #[.agg (shV k0 x0 y0 c0 d0 e0 f0 r0 L P), .bool true, .int .i64 9] w (SomeShape T w) := by
  obtain ⟨pp, np, cp, rfl, _⟩ := hP.len
  obtain ⟨pl, nl, cl, eL, _⟩ := id hL
  subst eL
  unfold shV
  obtain ⟨a, ea⟩ : ∃ a, k0.tmod 6 = a := ⟨_, rfl⟩
  have ha := tmod_rng k0 6 (by decide)
  rw [ea] at ha hk
  have hk2 : (a + 6).tmod 6 = 2 := by rw [Int.tmod_eq_emod_of_nonneg (by omega)]; exact hk
  have HP := Lib.hid hL
  have C1 := Lib.hid r_any
  have C2 := Lib.hid at_any
  clear hL hP
  go_enter Tryz.func19, Tryz.ntmps19
  go_wp2_with fail
  refine (C1.out _ _).mono ?_
  rintro e w' ⟨r1, hr0, hr1, rfl, rfl⟩
  clear hk hk2 ha ea
  have hr2 : 0 ≤ r1 % 15 ∧ r1 % 15 ≤ 14 := by omega
  obtain ⟨r, er⟩ : ∃ r, r1 % 15 + 1 = r := ⟨_, rfl⟩
  have hr3 : 1 ≤ r ∧ r ≤ 15 := by omega
  have HR := Lib.hid hr3
  go_wp2_with fail
  obtain ⟨u, eu⟩ : ∃ u, (((w.alloc (.cells #[.int .i64 k0, .int .i64 x0, .int .i64 y0, .int .i64 c0, .int .i64 d0, .int .i64 e0, .int .i64 f0, .int .i64 r0, .slice pl nl cl, .slice pp np cp] 62)).alloc (.cells #[.bool true] 4)).alloc (.cells #[.int .i64 0, .int .i64 0, .int .i64 0, .int .i64 0, .int .i64 0, .int .i64 0, .int .i64 0, .int .i64 0, .slice none 0 0, .slice none 0 0] 62)).alloc (.cells #[.int .i64 3, .int .i64 0, .int .i64 0, .int .i64 0, .int .i64 0, .int .i64 0, .int .i64 0, .int .i64 r, .slice none 0 0, .slice none 0 0] 62) = u := ⟨_, rfl⟩
  have hB0 : Below w.heap.size w u := by rw [← eu]; exact blw
  have kS : Blk u w.heap.size 62 #[.int .i64 k0, .int .i64 x0, .int .i64 y0, .int .i64 c0, .int .i64 d0, .int .i64 e0, .int .i64 f0, .int .i64 r0, .slice pl nl cl, .slice pp np cp] := by rw [← eu]; exact bkw
  have kb : Blk u (w.heap.size + 1) 4 #[.bool true] := by rw [← eu]; exact bkw
  have kZ : Blk u (w.heap.size + 1 + 1) 62 #[.int .i64 0, .int .i64 0, .int .i64 0, .int .i64 0, .int .i64 0, .int .i64 0, .int .i64 0, .int .i64 0, .slice none 0 0, .slice none 0 0] := by rw [← eu]; exact bkw
  have kO : Blk u (w.heap.size + 1 + 1 + 1) 62 #[.int .i64 3, .int .i64 0, .int .i64 0, .int .i64 0, .int .i64 0, .int .i64 0, .int .i64 0, .int .i64 r, .slice none 0 0, .slice none 0 0] := by rw [← eu]; exact bkw
  have su := hB0.size
  have ou := kO.lt
  have q1 := kS.cell 1
  have q2 := kS.cell 2
  have q3 := kS.cell 3
  have q4 := kS.cell 4
  have qb := kb.cell 0
  have hKS : ∀ w', Below u.heap.size u w' → w'.cell? ⟨w.heap.size, 1, none⟩ = some (.int .i64 x0) ∧ w'.cell? ⟨w.heap.size, 2, none⟩ = some (.int .i64 y0) ∧ w'.cell? ⟨w.heap.size, 3, none⟩ = some (.int .i64 c0) ∧ w'.cell? ⟨w.heap.size, 4, none⟩ = some (.int .i64 d0) ∧ w'.cell? ⟨w.heap.size + 1, 0, none⟩ = some (.bool true) := fun w' hb => ⟨(World.cell?_of_block (hb.block _ kS.lt)).trans q1, (World.cell?_of_block (hb.block _ kS.lt)).trans q2, (World.cell?_of_block (hb.block _ kS.lt)).trans q3, (World.cell?_of_block (hb.block _ kS.lt)).trans q4, (World.cell?_of_block (hb.block _ kb.lt)).trans qb⟩
  have KZ := Lib.hid kZ
  have KO := Lib.hid kO
  have HB0 := Lib.hid hB0
  have hCA : ∀ w', Below u.heap.size u w' → Calls Tryz.prog 41 #[.agg #[.int .i64 x0, .int .i64 y0], .pointer (some ⟨w.heap.size + 1, 0, none⟩)] w' (SomePt 20 w') := fun w' hb => C2.out x0 y0 _ w' (hKS w' hb).2.2.2.2 (by have := hb.size; omega)
  have hCB : ∀ w', Below u.heap.size u w' → Calls Tryz.prog 41 #[.agg #[.int .i64 c0, .int .i64 d0], .pointer (some ⟨w.heap.size + 1, 0, none⟩)] w' (SomePt 20 w') := fun w' hb => C2.out c0 d0 _ w' (hKS w' hb).2.2.2.2 (by have := hb.size; omega)
  have CA := Lib.hid hCA
  have HKS := Lib.hid hKS
  have CB := Lib.hid hCB
  rw [eu]
  clear eu hB0 kS kb kZ kO hCA hCB C1 C2 hKS
  go_cut [7] (fun _ wx => ∃ xa ya xb yb : Int, (-20 ≤ xa ∧ xa ≤ 20) ∧ (-20 ≤ ya ∧ ya ≤ 20) ∧ (-20 ≤ xb ∧ xb ≤ 20) ∧ (-20 ≤ yb ∧ yb ≤ 20) ∧ Blk wx (w.heap.size + 1 + 1 + 1) 62 #[.int .i64 3, .int .i64 xa, .int .i64 ya, .int .i64 xb, .int .i64 yb, .int .i64 0, .int .i64 0, .int .i64 r, .slice none 0 0, .slice none 0 0] ∧ Blk wx (w.heap.size + 1 + 1) 62 #[.int .i64 0, .int .i64 0, .int .i64 0, .int .i64 0, .int .i64 0, .int .i64 0, .int .i64 0, .int .i64 0, .slice none 0 0, .slice none 0 0] ∧ Below w.heap.size w wx)
  case first =>
    go_region_with (first | (go_at_call 41; (with_reducible refine (CA.out _ (by exact blw)).mono ?_); rintro e5 w5 ⟨xa, ya, ga0, ga1, ga2, ga3, rfl, hb⟩; have hbu : Below u.heap.size u w5 := Below.trans (by exact blw) (hb.mono (by first | (simp; done) | omega)); obtain ⟨gaq1, gaq2, gaq3, gaq4, gaq5⟩ := HKS.out _ hbu; have gak := KO.out.below hbu ou; have gac := gak.cell; have gaf := gak.frozen; have gal := gak.lt; have gas := hbu.size; clear hb gak) | (go_at_call 41; (with_reducible refine (CB.out _ (by exact blw)).mono ?_); rintro e6 w6 ⟨xb, yb, gb0, gb1, gb2, gb3, rfl, hb⟩; have hbv : Below u.heap.size u w6 := Below.trans (by exact blw) (hb.mono (by first | (simp; done) | omega)); obtain ⟨gbq1, gbq2, gbq3, gbq4, gbq5⟩ := HKS.out _ hbv; have gbk := KO.out.below hbv ou; have gbc := gbk.cell; have gbf := gbk.frozen; have gbl := gbk.lt; have gbs := hbv.size; clear hb gbk))
    all_goals
      go_wp2_with fail
      go_meet
      first
      | exact ⟨xa, ya, xb, yb, ⟨ga0, ga1⟩, ⟨ga2, ga3⟩, ⟨gb0, gb1⟩, ⟨gb2, gb3⟩, ((((KO.out.below hbv ou).set_ 1 _ rfl).set_ 2 _ rfl).set_ 3 _ rfl).set_ 4 _ rfl, ((((KZ.out.below hbv KZ.out.lt).far (by simp) _).far (by simp) _).far (by simp) _).far (by simp) _, ((((HB0.out.trans (hbv.mono su)).setCell (by simp; omega) _).setCell (by simp; omega) _).setCell (by simp; omega) _).setCell (by simp; omega) _⟩
      | exact ⟨xa, ya, xb, yb, ⟨ga0, ga1⟩, ⟨ga2, ga3⟩, ⟨gb0, gb1⟩, ⟨gb2, gb3⟩, ((((KO.out.below hbu ou).set_ 1 _ rfl).set_ 2 _ rfl).set_ 3 _ rfl).set_ 4 _ rfl, ((((KZ.out.below hbu KZ.out.lt).far (by simp) _).far (by simp) _).far (by simp) _).far (by simp) _, ((((HB0.out.trans (hbu.mono su)).setCell (by simp; omega) _).setCell (by simp; omega) _).setCell (by simp; omega) _).setCell (by simp; omega) _⟩
  case rest =>
  obtain ⟨xa, ya, xb, yb, ra, rb, rc, rd, kO, kZ, hB⟩ := hcut
  have cO := kO.cell
  have fO := kO.frozen
  have lO := kO.lt
  have fZ := kZ.frozen
  have lZ := kZ.lt
  have KO2 := Lib.hid kO
  have KZ2 := Lib.hid kZ
  have HB := Lib.hid hB
  clear kO kZ hB KO KZ HB0 CA CB HKS
  by_cases h1 : xa = xb
  · subst h1
    by_cases h9 : ya = yb
    rotate_left
    · go_wp2_with (refine wpList_storeBlk rfl 62 (.tmp 6) (.tmp 153) rfl rfl (w.heap.size + 1 + 1) #[.int .i64 3, .int .i64 xa, .int .i64 ya, .int .i64 xa, .int .i64 yb, .int .i64 0, .int .i64 0, .int .i64 r, .slice none 0 0, .slice none 0 0] (by simp [Act.eval]) (by simp [Act.eval]) 62 #[.int .i64 0, .int .i64 0, .int .i64 0, .int .i64 0, .int .i64 0, .int .i64 0, .int .i64 0, .int .i64 0, .slice none 0 0, .slice none 0 0] (KZ2.out) (by kernel_rfl) (by kernel_rfl) (by kernel_rfl) ?_)
      intro w1 hk hg
      have hB2 : Below w.heap.size w w1 := Below.grown (HB.out) hg (by first | exact HB.out.size | (simp; exact HB.out.size)) (by intro b e; cases e; omega)
      have HB2 := Lib.hid hB2
      have HK := Lib.hid hk
      clear hk hg hB2
      go_wp2_with fail
      refine bodyPost_ret (results_cell_row (t := 62) Tryz.results19 _ _ (w.heap.size + 1 + 1) #[.int .i64 3, .int .i64 xa, .int .i64 ya, .int .i64 xa, .int .i64 yb, .int .i64 0, .int .i64 0, .int .i64 r, .slice none 0 0, .slice none 0 0] (0, 0) _ (by rfl) ?_ Tryz.underlying62 rfl (by kernel_rfl)) rfl (⟨_, rfl, TamedSh.line xa ya xa yb r ra rb (by omega) rd HR.out, HB2.out⟩)
      exact HK.out
    subst h9
    rcases Int.lt_or_le 0 xa with h2 | h2
    · have h3 : decide (xa > 0) = true := by simp; omega
      have h4 : IntKind.i64.wrap (xa - 1) = xa - 1 := IntWalk.i64_in _ (by omega)
      go_wp2_with (refine wpList_storeBlk rfl 62 (.tmp 6) (.tmp 153) rfl rfl (w.heap.size + 1 + 1) #[.int .i64 3, .int .i64 xa, .int .i64 ya, .int .i64 (xa - 1), .int .i64 ya, .int .i64 0, .int .i64 0, .int .i64 r, .slice none 0 0, .slice none 0 0] (by simp [Act.eval]) (by simp [Act.eval]) 62 #[.int .i64 0, .int .i64 0, .int .i64 0, .int .i64 0, .int .i64 0, .int .i64 0, .int .i64 0, .int .i64 0, .slice none 0 0, .slice none 0 0] (KZ2.out.far (by simp) _) (by kernel_rfl) (by kernel_rfl) (by kernel_rfl) ?_)
      intro w1 hk hg
      have hB2 : Below w.heap.size w w1 := Below.grown (HB.out.setCell (by simp; omega) _) hg (by first | exact HB.out.size | (simp; exact HB.out.size)) (by intro b e; cases e; omega)
      have HB2 := Lib.hid hB2
      have HK := Lib.hid hk
      clear hk hg hB2
      go_wp2_with fail
      refine bodyPost_ret (results_cell_row (t := 62) Tryz.results19 _ _ (w.heap.size + 1 + 1) #[.int .i64 3, .int .i64 xa, .int .i64 ya, .int .i64 (xa - 1), .int .i64 ya, .int .i64 0, .int .i64 0, .int .i64 r, .slice none 0 0, .slice none 0 0] (0, 0) _ (by rfl) ?_ Tryz.underlying62 rfl (by kernel_rfl)) rfl (⟨_, rfl, TamedSh.line xa ya (xa - 1) ya r ra rb (by omega) rb HR.out, HB2.out⟩)
      exact HK.out
    · have h3 : decide (xa > 0) = false := by simp; omega
      have h4 : IntKind.i64.wrap (xa + 1) = xa + 1 := IntWalk.i64_in _ (by omega)
      go_wp2_with (refine wpList_storeBlk rfl 62 (.tmp 6) (.tmp 153) rfl rfl (w.heap.size + 1 + 1) #[.int .i64 3, .int .i64 xa, .int .i64 ya, .int .i64 (xa + 1), .int .i64 ya, .int .i64 0, .int .i64 0, .int .i64 r, .slice none 0 0, .slice none 0 0] (by simp [Act.eval]) (by simp [Act.eval]) 62 #[.int .i64 0, .int .i64 0, .int .i64 0, .int .i64 0, .int .i64 0, .int .i64 0, .int .i64 0, .int .i64 0, .slice none 0 0, .slice none 0 0] (KZ2.out.far (by simp) _) (by kernel_rfl) (by kernel_rfl) (by kernel_rfl) ?_)
      intro w1 hk hg
      have hB2 : Below w.heap.size w w1 := Below.grown (HB.out.setCell (by simp; omega) _) hg (by first | exact HB.out.size | (simp; exact HB.out.size)) (by intro b e; cases e; omega)
      have HB2 := Lib.hid hB2
      have HK := Lib.hid hk
      clear hk hg hB2
      go_wp2_with fail
      refine bodyPost_ret (results_cell_row (t := 62) Tryz.results19 _ _ (w.heap.size + 1 + 1) #[.int .i64 3, .int .i64 xa, .int .i64 ya, .int .i64 (xa + 1), .int .i64 ya, .int .i64 0, .int .i64 0, .int .i64 r, .slice none 0 0, .slice none 0 0] (0, 0) _ (by rfl) ?_ Tryz.underlying62 rfl (by kernel_rfl)) rfl (⟨_, rfl, TamedSh.line xa ya (xa + 1) ya r ra rb (by omega) rb HR.out, HB2.out⟩)
      exact HK.out
  · have h5 := h1
    go_wp2_with (refine wpList_storeBlk rfl 62 (.tmp 6) (.tmp 153) rfl rfl (w.heap.size + 1 + 1) #[.int .i64 3, .int .i64 xa, .int .i64 ya, .int .i64 xb, .int .i64 yb, .int .i64 0, .int .i64 0, .int .i64 r, .slice none 0 0, .slice none 0 0] (by simp [Act.eval]) (by simp [Act.eval]) 62 #[.int .i64 0, .int .i64 0, .int .i64 0, .int .i64 0, .int .i64 0, .int .i64 0, .int .i64 0, .int .i64 0, .slice none 0 0, .slice none 0 0] (KZ2.out) (by kernel_rfl) (by kernel_rfl) (by kernel_rfl) ?_)
    intro w1 hk hg
    have hB2 : Below w.heap.size w w1 := Below.grown (HB.out) hg (by first | exact HB.out.size | (simp; exact HB.out.size)) (by intro b e; cases e; omega)
    have HB2 := Lib.hid hB2
    have HK := Lib.hid hk
    clear hk hg hB2
    go_wp2_with fail
    refine bodyPost_ret (results_cell_row (t := 62) Tryz.results19 _ _ (w.heap.size + 1 + 1) #[.int .i64 3, .int .i64 xa, .int .i64 ya, .int .i64 xb, .int .i64 yb, .int .i64 0, .int .i64 0, .int .i64 r, .slice none 0 0, .slice none 0 0] (0, 0) _ (by rfl) ?_ Tryz.underlying62 rfl (by kernel_rfl)) rfl (⟨_, rfl, TamedSh.line xa ya xb yb r ra rb (by omega) rd HR.out, HB2.out⟩)
    exact HK.out
theorem tame10_bar (T : List Nat) (k0 x0 y0 c0 d0 e0 f0 r0 : Int) (L P : Value) (w : World) (hL : PolyRd w L) (hP : PartsRd 1 w P) (hk : ((k0.tmod 6 + 6) % 6) = 3) :
    Calls Tryz.prog 19 #[.agg (shV k0 x0 y0 c0 d0 e0 f0 r0 L P), .bool true, .int .i64 9] w (SomeShape T w) := by
  obtain ⟨pp, np, cp, rfl, _⟩ := hP.len
  obtain ⟨pl, nl, cl, eL, _⟩ := id hL
  subst eL
  unfold shV
  obtain ⟨a, ea⟩ : ∃ a, k0.tmod 6 = a := ⟨_, rfl⟩
  have ha := tmod_rng k0 6 (by decide)
  rw [ea] at ha hk
  have hk2 : (a + 6).tmod 6 = 3 := by rw [Int.tmod_eq_emod_of_nonneg (by omega)]; exact hk
  have HP := Lib.hid hL
  have C1 := Lib.hid r_any
  have C2 := Lib.hid at_any
  clear hL hP
  go_enter Tryz.func19, Tryz.ntmps19
  go_wp2_with fail
  refine (C1.out _ _).mono ?_
  rintro e w' ⟨r1, hr0, hr1, rfl, rfl⟩
  clear hk hk2 ha ea
  have hr2 : 0 ≤ r1 % 15 ∧ r1 % 15 ≤ 14 := by omega
  obtain ⟨r, er⟩ : ∃ r, r1 % 15 + 1 = r := ⟨_, rfl⟩
  have hr3 : 1 ≤ r ∧ r ≤ 15 := by omega
  have HR := Lib.hid hr3
  go_wp2_with fail
  obtain ⟨u, eu⟩ : ∃ u, (((w.alloc (.cells #[.int .i64 k0, .int .i64 x0, .int .i64 y0, .int .i64 c0, .int .i64 d0, .int .i64 e0, .int .i64 f0, .int .i64 r0, .slice pl nl cl, .slice pp np cp] 62)).alloc (.cells #[.bool true] 4)).alloc (.cells #[.int .i64 0, .int .i64 0, .int .i64 0, .int .i64 0, .int .i64 0, .int .i64 0, .int .i64 0, .int .i64 0, .slice none 0 0, .slice none 0 0] 62)).alloc (.cells #[.int .i64 4, .int .i64 0, .int .i64 0, .int .i64 0, .int .i64 0, .int .i64 0, .int .i64 0, .int .i64 r, .slice none 0 0, .slice none 0 0] 62) = u := ⟨_, rfl⟩
  have hB0 : Below w.heap.size w u := by rw [← eu]; exact blw
  have kS : Blk u w.heap.size 62 #[.int .i64 k0, .int .i64 x0, .int .i64 y0, .int .i64 c0, .int .i64 d0, .int .i64 e0, .int .i64 f0, .int .i64 r0, .slice pl nl cl, .slice pp np cp] := by rw [← eu]; exact bkw
  have kb : Blk u (w.heap.size + 1) 4 #[.bool true] := by rw [← eu]; exact bkw
  have kZ : Blk u (w.heap.size + 1 + 1) 62 #[.int .i64 0, .int .i64 0, .int .i64 0, .int .i64 0, .int .i64 0, .int .i64 0, .int .i64 0, .int .i64 0, .slice none 0 0, .slice none 0 0] := by rw [← eu]; exact bkw
  have kO : Blk u (w.heap.size + 1 + 1 + 1) 62 #[.int .i64 4, .int .i64 0, .int .i64 0, .int .i64 0, .int .i64 0, .int .i64 0, .int .i64 0, .int .i64 r, .slice none 0 0, .slice none 0 0] := by rw [← eu]; exact bkw
  have su := hB0.size
  have ou := kO.lt
  have q1 := kS.cell 1
  have q2 := kS.cell 2
  have q3 := kS.cell 3
  have q4 := kS.cell 4
  have qb := kb.cell 0
  have hKS : ∀ w', Below u.heap.size u w' → w'.cell? ⟨w.heap.size, 1, none⟩ = some (.int .i64 x0) ∧ w'.cell? ⟨w.heap.size, 2, none⟩ = some (.int .i64 y0) ∧ w'.cell? ⟨w.heap.size, 3, none⟩ = some (.int .i64 c0) ∧ w'.cell? ⟨w.heap.size, 4, none⟩ = some (.int .i64 d0) ∧ w'.cell? ⟨w.heap.size + 1, 0, none⟩ = some (.bool true) := fun w' hb => ⟨(World.cell?_of_block (hb.block _ kS.lt)).trans q1, (World.cell?_of_block (hb.block _ kS.lt)).trans q2, (World.cell?_of_block (hb.block _ kS.lt)).trans q3, (World.cell?_of_block (hb.block _ kS.lt)).trans q4, (World.cell?_of_block (hb.block _ kb.lt)).trans qb⟩
  have KZ := Lib.hid kZ
  have KO := Lib.hid kO
  have HB0 := Lib.hid hB0
  have hCA : ∀ w', Below u.heap.size u w' → Calls Tryz.prog 41 #[.agg #[.int .i64 x0, .int .i64 y0], .pointer (some ⟨w.heap.size + 1, 0, none⟩)] w' (SomePt 20 w') := fun w' hb => C2.out x0 y0 _ w' (hKS w' hb).2.2.2.2 (by have := hb.size; omega)
  have hCB : ∀ w', Below u.heap.size u w' → Calls Tryz.prog 41 #[.agg #[.int .i64 c0, .int .i64 d0], .pointer (some ⟨w.heap.size + 1, 0, none⟩)] w' (SomePt 20 w') := fun w' hb => C2.out c0 d0 _ w' (hKS w' hb).2.2.2.2 (by have := hb.size; omega)
  have CA := Lib.hid hCA
  have HKS := Lib.hid hKS
  have CB := Lib.hid hCB
  rw [eu]
  clear eu hB0 kS kb kZ kO hCA hCB C1 C2 hKS
  go_cut [7] (fun _ wx => ∃ xa ya xb yb : Int, (-20 ≤ xa ∧ xa ≤ 20) ∧ (-20 ≤ ya ∧ ya ≤ 20) ∧ (-20 ≤ xb ∧ xb ≤ 20) ∧ (-20 ≤ yb ∧ yb ≤ 20) ∧ Blk wx (w.heap.size + 1 + 1 + 1) 62 #[.int .i64 4, .int .i64 xa, .int .i64 ya, .int .i64 xb, .int .i64 yb, .int .i64 0, .int .i64 0, .int .i64 r, .slice none 0 0, .slice none 0 0] ∧ Blk wx (w.heap.size + 1 + 1) 62 #[.int .i64 0, .int .i64 0, .int .i64 0, .int .i64 0, .int .i64 0, .int .i64 0, .int .i64 0, .int .i64 0, .slice none 0 0, .slice none 0 0] ∧ Below w.heap.size w wx)
  case first =>
    go_region_with (first | (go_at_call 41; (with_reducible refine (CA.out _ (by exact blw)).mono ?_); rintro e5 w5 ⟨xa, ya, ga0, ga1, ga2, ga3, rfl, hb⟩; have hbu : Below u.heap.size u w5 := Below.trans (by exact blw) (hb.mono (by first | (simp; done) | omega)); obtain ⟨gaq1, gaq2, gaq3, gaq4, gaq5⟩ := HKS.out _ hbu; have gak := KO.out.below hbu ou; have gac := gak.cell; have gaf := gak.frozen; have gal := gak.lt; have gas := hbu.size; clear hb gak) | (go_at_call 41; (with_reducible refine (CB.out _ (by exact blw)).mono ?_); rintro e6 w6 ⟨xb, yb, gb0, gb1, gb2, gb3, rfl, hb⟩; have hbv : Below u.heap.size u w6 := Below.trans (by exact blw) (hb.mono (by first | (simp; done) | omega)); obtain ⟨gbq1, gbq2, gbq3, gbq4, gbq5⟩ := HKS.out _ hbv; have gbk := KO.out.below hbv ou; have gbc := gbk.cell; have gbf := gbk.frozen; have gbl := gbk.lt; have gbs := hbv.size; clear hb gbk))
    all_goals
      go_wp2_with fail
      go_meet
      first
      | exact ⟨xa, ya, xb, yb, ⟨ga0, ga1⟩, ⟨ga2, ga3⟩, ⟨gb0, gb1⟩, ⟨gb2, gb3⟩, ((((KO.out.below hbv ou).set_ 1 _ rfl).set_ 2 _ rfl).set_ 3 _ rfl).set_ 4 _ rfl, ((((KZ.out.below hbv KZ.out.lt).far (by simp) _).far (by simp) _).far (by simp) _).far (by simp) _, ((((HB0.out.trans (hbv.mono su)).setCell (by simp; omega) _).setCell (by simp; omega) _).setCell (by simp; omega) _).setCell (by simp; omega) _⟩
      | exact ⟨xa, ya, xb, yb, ⟨ga0, ga1⟩, ⟨ga2, ga3⟩, ⟨gb0, gb1⟩, ⟨gb2, gb3⟩, ((((KO.out.below hbu ou).set_ 1 _ rfl).set_ 2 _ rfl).set_ 3 _ rfl).set_ 4 _ rfl, ((((KZ.out.below hbu KZ.out.lt).far (by simp) _).far (by simp) _).far (by simp) _).far (by simp) _, ((((HB0.out.trans (hbu.mono su)).setCell (by simp; omega) _).setCell (by simp; omega) _).setCell (by simp; omega) _).setCell (by simp; omega) _⟩
  case rest =>
  obtain ⟨xa, ya, xb, yb, ra, rb, rc, rd, kO, kZ, hB⟩ := hcut
  have cO := kO.cell
  have fO := kO.frozen
  have lO := kO.lt
  have fZ := kZ.frozen
  have lZ := kZ.lt
  have KO2 := Lib.hid kO
  have KZ2 := Lib.hid kZ
  have HB := Lib.hid hB
  clear kO kZ hB KO KZ HB0 CA CB HKS
  by_cases h1 : xa = xb
  · subst h1
    by_cases h9 : ya = yb
    rotate_left
    · go_wp2_with (refine wpList_storeBlk rfl 62 (.tmp 6) (.tmp 153) rfl rfl (w.heap.size + 1 + 1) #[.int .i64 4, .int .i64 xa, .int .i64 ya, .int .i64 xa, .int .i64 yb, .int .i64 0, .int .i64 0, .int .i64 r, .slice none 0 0, .slice none 0 0] (by simp [Act.eval]) (by simp [Act.eval]) 62 #[.int .i64 0, .int .i64 0, .int .i64 0, .int .i64 0, .int .i64 0, .int .i64 0, .int .i64 0, .int .i64 0, .slice none 0 0, .slice none 0 0] (KZ2.out) (by kernel_rfl) (by kernel_rfl) (by kernel_rfl) ?_)
      intro w1 hk hg
      have hB2 : Below w.heap.size w w1 := Below.grown (HB.out) hg (by first | exact HB.out.size | (simp; exact HB.out.size)) (by intro b e; cases e; omega)
      have HB2 := Lib.hid hB2
      have HK := Lib.hid hk
      clear hk hg hB2
      go_wp2_with fail
      refine bodyPost_ret (results_cell_row (t := 62) Tryz.results19 _ _ (w.heap.size + 1 + 1) #[.int .i64 4, .int .i64 xa, .int .i64 ya, .int .i64 xa, .int .i64 yb, .int .i64 0, .int .i64 0, .int .i64 r, .slice none 0 0, .slice none 0 0] (0, 0) _ (by rfl) ?_ Tryz.underlying62 rfl (by kernel_rfl)) rfl (⟨_, rfl, TamedSh.bar xa ya xa yb r ra rb HR.out, HB2.out⟩)
      exact HK.out
    subst h9
    rcases Int.lt_or_le 0 xa with h2 | h2
    · have h3 : decide (xa > 0) = true := by simp; omega
      have h4 : IntKind.i64.wrap (xa - 1) = xa - 1 := IntWalk.i64_in _ (by omega)
      go_wp2_with (refine wpList_storeBlk rfl 62 (.tmp 6) (.tmp 153) rfl rfl (w.heap.size + 1 + 1) #[.int .i64 4, .int .i64 xa, .int .i64 ya, .int .i64 (xa - 1), .int .i64 ya, .int .i64 0, .int .i64 0, .int .i64 r, .slice none 0 0, .slice none 0 0] (by simp [Act.eval]) (by simp [Act.eval]) 62 #[.int .i64 0, .int .i64 0, .int .i64 0, .int .i64 0, .int .i64 0, .int .i64 0, .int .i64 0, .int .i64 0, .slice none 0 0, .slice none 0 0] (KZ2.out.far (by simp) _) (by kernel_rfl) (by kernel_rfl) (by kernel_rfl) ?_)
      intro w1 hk hg
      have hB2 : Below w.heap.size w w1 := Below.grown (HB.out.setCell (by simp; omega) _) hg (by first | exact HB.out.size | (simp; exact HB.out.size)) (by intro b e; cases e; omega)
      have HB2 := Lib.hid hB2
      have HK := Lib.hid hk
      clear hk hg hB2
      go_wp2_with fail
      refine bodyPost_ret (results_cell_row (t := 62) Tryz.results19 _ _ (w.heap.size + 1 + 1) #[.int .i64 4, .int .i64 xa, .int .i64 ya, .int .i64 (xa - 1), .int .i64 ya, .int .i64 0, .int .i64 0, .int .i64 r, .slice none 0 0, .slice none 0 0] (0, 0) _ (by rfl) ?_ Tryz.underlying62 rfl (by kernel_rfl)) rfl (⟨_, rfl, TamedSh.bar xa ya (xa - 1) ya r ra rb HR.out, HB2.out⟩)
      exact HK.out
    · have h3 : decide (xa > 0) = false := by simp; omega
      have h4 : IntKind.i64.wrap (xa + 1) = xa + 1 := IntWalk.i64_in _ (by omega)
      go_wp2_with (refine wpList_storeBlk rfl 62 (.tmp 6) (.tmp 153) rfl rfl (w.heap.size + 1 + 1) #[.int .i64 4, .int .i64 xa, .int .i64 ya, .int .i64 (xa + 1), .int .i64 ya, .int .i64 0, .int .i64 0, .int .i64 r, .slice none 0 0, .slice none 0 0] (by simp [Act.eval]) (by simp [Act.eval]) 62 #[.int .i64 0, .int .i64 0, .int .i64 0, .int .i64 0, .int .i64 0, .int .i64 0, .int .i64 0, .int .i64 0, .slice none 0 0, .slice none 0 0] (KZ2.out.far (by simp) _) (by kernel_rfl) (by kernel_rfl) (by kernel_rfl) ?_)
      intro w1 hk hg
      have hB2 : Below w.heap.size w w1 := Below.grown (HB.out.setCell (by simp; omega) _) hg (by first | exact HB.out.size | (simp; exact HB.out.size)) (by intro b e; cases e; omega)
      have HB2 := Lib.hid hB2
      have HK := Lib.hid hk
      clear hk hg hB2
      go_wp2_with fail
      refine bodyPost_ret (results_cell_row (t := 62) Tryz.results19 _ _ (w.heap.size + 1 + 1) #[.int .i64 4, .int .i64 xa, .int .i64 ya, .int .i64 (xa + 1), .int .i64 ya, .int .i64 0, .int .i64 0, .int .i64 r, .slice none 0 0, .slice none 0 0] (0, 0) _ (by rfl) ?_ Tryz.underlying62 rfl (by kernel_rfl)) rfl (⟨_, rfl, TamedSh.bar xa ya (xa + 1) ya r ra rb HR.out, HB2.out⟩)
      exact HK.out
  · have h5 := h1
    go_wp2_with (refine wpList_storeBlk rfl 62 (.tmp 6) (.tmp 153) rfl rfl (w.heap.size + 1 + 1) #[.int .i64 4, .int .i64 xa, .int .i64 ya, .int .i64 xb, .int .i64 yb, .int .i64 0, .int .i64 0, .int .i64 r, .slice none 0 0, .slice none 0 0] (by simp [Act.eval]) (by simp [Act.eval]) 62 #[.int .i64 0, .int .i64 0, .int .i64 0, .int .i64 0, .int .i64 0, .int .i64 0, .int .i64 0, .int .i64 0, .slice none 0 0, .slice none 0 0] (KZ2.out) (by kernel_rfl) (by kernel_rfl) (by kernel_rfl) ?_)
    intro w1 hk hg
    have hB2 : Below w.heap.size w w1 := Below.grown (HB.out) hg (by first | exact HB.out.size | (simp; exact HB.out.size)) (by intro b e; cases e; omega)
    have HB2 := Lib.hid hB2
    have HK := Lib.hid hk
    clear hk hg hB2
    go_wp2_with fail
    refine bodyPost_ret (results_cell_row (t := 62) Tryz.results19 _ _ (w.heap.size + 1 + 1) #[.int .i64 4, .int .i64 xa, .int .i64 ya, .int .i64 xb, .int .i64 yb, .int .i64 0, .int .i64 0, .int .i64 r, .slice none 0 0, .slice none 0 0] (0, 0) _ (by rfl) ?_ Tryz.underlying62 rfl (by kernel_rfl)) rfl (⟨_, rfl, TamedSh.bar xa ya xb yb r ra rb HR.out, HB2.out⟩)
    exact HK.out
end Go.Proofs.YtfajckkbinbpiaaGreatDoor
