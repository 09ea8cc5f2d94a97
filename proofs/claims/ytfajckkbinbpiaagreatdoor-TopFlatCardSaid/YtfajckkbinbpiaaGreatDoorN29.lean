/- Walks: contours that are made tame. Walk: an arc near (0, 0). Walks: rings that are made tame; any shape that is. -/
import Derived.BigRegion
import Derived.Deep.DeepCutAuto
import Derived.Deep.RegionHeld3
import Derived.IntWalk
import Derived.Outline
import Derived.Test.YtfajckkbinbpiaaGreatDoorN05
import Derived.Test.YtfajckkbinbpiaaGreatDoorN14
import Derived.Test.YtfajckkbinbpiaaGreatDoorN28
namespace Go.Proofs.YtfajckkbinbpiaaGreatDoor
set_option maxRecDepth 100000
set_option maxHeartbeats 32000000
set_option linter.unusedVariables false
set_option linter.unusedSimpArgs false
open Go.RowKit
theorem tame10_poly (T : List Nat) (k0 x0 y0 c0 d0 e0 f0 r0 : Int) (L P : Value) (w : World) (hL : PolyRd w L) (hP : PartsRd 1 w P) (hT : ∀ b ∈ T, b < w.heap.size) (hk : ((k0.tmod 6 + 6) % 6) = 1) :
    Calls Tryz.prog 19 #[.agg (shV k0 x0 y0 c0 d0 e0 f0 r0 L P), .bool true, .int .i64 9] w (SomeShape T w) := by
  obtain ⟨pp, np, cp, rfl, _⟩ := hP.len
  obtain ⟨pl, nl, cl, eL, _⟩ := id hL
  subst eL
  unfold shV
  obtain ⟨a, ea⟩ : ∃ a, k0.tmod 6 = a := ⟨_, rfl⟩
  have ha := tmod_rng k0 6 (by decide)
  rw [ea] at ha hk
  have hk2 : (a + 6).tmod 6 = 1 := by rw [Int.tmod_eq_emod_of_nonneg (by omega)]; exact hk
  have HP := Lib.hid hL
  have C1 := Lib.hid r_any
  have C2 := Lib.hid at_any
  have HT := Lib.hid hT
  clear hL hP hT
  go_enter Tryz.func19, Tryz.ntmps19
  go_wp2_with fail
  refine (C1.out _ _).mono ?_
  rintro e w' ⟨r1, hr0, hr1, rfl, rfl⟩
  clear hk hk2 ha ea
  have hr2 : 0 ≤ r1 % 15 ∧ r1 % 15 ≤ 14 := by omega
  obtain ⟨r, er⟩ : ∃ r, r1 % 15 + 1 = r := ⟨_, rfl⟩
  have hr3 : 1 ≤ r ∧ r ≤ 15 := by omega
  have HR := Lib.hid hr3
  go_wp2_with fail
  have hT2 : ∀ b ∈ (w.heap.size + 1 + 1 + 1) :: (w.heap.size + 1 + 1) :: T, b < w.heap.size + 1 + 1 + 1 + 1 := by
    intro b hb
    simp only [List.mem_cons] at hb
    rcases hb with rfl | rfl | hb
    · omega
    · omega
    · have := HT.out b hb
      omega
  refine (tame6 ((w.heap.size + 1 + 1 + 1) :: (w.heap.size + 1 + 1) :: T) _ _ (HP.out.below (by exact blw) (Nat.le_refl _)) (by intro b hb; have := hT2 b hb; simpa using this)).mono ?_
  rintro e z1 ⟨v, ls, hl4, hfew, hpoly, rfl, hb⟩
  obtain ⟨vp, vc, ev, _⟩ := id hpoly
  subst ev
  have kO : Blk z1 (w.heap.size + 1 + 1 + 1) 62 #[.int .i64 2, .int .i64 0, .int .i64 0, .int .i64 0, .int .i64 0, .int .i64 0, .int .i64 0, .int .i64 r, .slice none 0 0, .slice none 0 0] := Blk.below (by exact bkw) hb (by first | omega | (simp; done) | (simp; omega))
  have kZ : Blk z1 (w.heap.size + 1 + 1) 62 #[.int .i64 0, .int .i64 0, .int .i64 0, .int .i64 0, .int .i64 0, .int .i64 0, .int .i64 0, .int .i64 0, .slice none 0 0, .slice none 0 0] := Blk.below (by exact bkw) hb (by first | omega | (simp; done) | (simp; omega))
  have hB : Below w.heap.size w z1 := Below.trans (by exact blw) (hb.mono (by first | omega | (simp; done) | (simp; omega)))
  have cO := kO.cell
  have fO := kO.frozen
  have lO := kO.lt
  have fZ := kZ.frozen
  have lZ := kZ.lt
  have KO := Lib.hid kO
  have KZ := Lib.hid kZ
  have HB := Lib.hid hB
  have sB := hB.size
  have HX := Lib.hid (And.intro hl4 (And.intro hfew hpoly))
  clear hl4 hfew hpoly hT2
  clear hb kO kZ hB
  go_wp2_with (refine wpList_storeBlk rfl 62 (.tmp 6) (.tmp 153) rfl rfl (w.heap.size + 1 + 1) #[.int .i64 2, .int .i64 0, .int .i64 0, .int .i64 0, .int .i64 0, .int .i64 0, .int .i64 0, .int .i64 0, .slice vp ls.length vc, .slice none 0 0] (by simp [Act.eval]) (by simp [Act.eval]) 62 #[.int .i64 0, .int .i64 0, .int .i64 0, .int .i64 0, .int .i64 0, .int .i64 0, .int .i64 0, .int .i64 0, .slice none 0 0, .slice none 0 0] ((KZ.out.far (by simp) _).far (by simp) _) (by kernel_rfl) (by kernel_rfl) (by kernel_rfl) ?_)
  intro w1 hk hg
  have hB2 : Below w.heap.size w w1 := Below.grown ((HB.out.setCell (by simp; omega) _).setCell (by simp; omega) _) hg (by first | exact HB.out.size | (simp; exact HB.out.size)) (by intro b e; cases e; omega)
  have HB2 := Lib.hid hB2
  have hpl : PolyAt T w1 (.slice vp ls.length vc) ls := (((HX.out.2.2.only (((Only.refl _ _).setCell (by left; simp) _).setCell (by left; simp) _)).grown hg (by intro b e; cases e; left; simp)).to (Nat.le_refl _) (fun _ _ _ => rfl) (fun b hb _ hm => hb (by simp [hm])))
  have HPL := Lib.hid hpl
  clear hpl
  have HK := Lib.hid hk
  clear hk hg hB2
  go_wp2_with fail
  refine bodyPost_ret (results_cell_row (t := 62) Tryz.results19 _ _ (w.heap.size + 1 + 1) #[.int .i64 2, .int .i64 0, .int .i64 0, .int .i64 0, .int .i64 0, .int .i64 0, .int .i64 0, .int .i64 0, .slice vp ls.length vc, .slice none 0 0] (0, 0) _ (by rfl) ?_ Tryz.underlying62 rfl (by kernel_rfl)) rfl (⟨_, rfl, TamedSh.poly _ ls HX.out.1 HX.out.2.1 HPL.out, HB2.out⟩)
  exact HK.out
def arcPts : Array Value := #[.int .i64 5, .int .i64 0, .int .i64 4, .int .i64 3, .int .i64 3, .int .i64 4, .int .i64 0, .int .i64 5, .int .i64 (-3), .int .i64 4, .int .i64 (-4), .int .i64 3, .int .i64 (-5), .int .i64 0, .int .i64 (-4), .int .i64 (-3), .int .i64 (-3), .int .i64 (-4), .int .i64 0, .int .i64 (-5), .int .i64 3, .int .i64 (-4), .int .i64 4, .int .i64 (-3)]
theorem arcPts_at (i : Nat) (hi : i < 12) : ∃ a b : Int, arcPts[i * 2]? = some (.int .i64 a) ∧ arcPts[i * 2 + 1]? = some (.int .i64 b) ∧ -5 ≤ a ∧ a ≤ 5 ∧ -5 ≤ b ∧ b ≤ 5 := by
  rcases (show i = 0 ∨ i = 1 ∨ i = 2 ∨ i = 3 ∨ i = 4 ∨ i = 5 ∨ i = 6 ∨ i = 7 ∨ i = 8 ∨ i = 9 ∨ i = 10 ∨ i = 11 by omega) with rfl | rfl | rfl | rfl | rfl | rfl | rfl | rfl | rfl | rfl | rfl | rfl <;>
    exact ⟨_, _, rfl, rfl, by decide, by decide, by decide, by decide⟩
theorem results_cell3 {fn : Func} {p q s : Tmp} {ty : TypeId} (h : fn.results = #[.cell p ty, .cell q ty, .cell s ty]) (tmps : Array Value) (w : World) (g1 g2 g3 : Nat) (c1 c2 c3 : Array Value)
    (h1 : tmps.getD p undef = .pointer (some ⟨g1, 0, none⟩)) (h2 : tmps.getD q undef = .pointer (some ⟨g2, 0, none⟩)) (h3 : tmps.getD s undef = .pointer (some ⟨g3, 0, none⟩))
    (l1 : (loadVar ty ⟨g1, 0, none⟩).run Tryz.prog w = .ok (.agg c1) w) (l2 : (loadVar ty ⟨g2, 0, none⟩).run Tryz.prog w = .ok (.agg c2) w) (l3 : (loadVar ty ⟨g3, 0, none⟩).run Tryz.prog w = .ok (.agg c3) w) :
    (results fn tmps).run Tryz.prog w = .ok (.tuple #[.agg c1, .agg c2, .agg c3]) w := by
  simp at h1 h2 h3
  simp [results, h, Sem.run_bind, Result.andThen, h1, h2, h3, asAddr, l1, l2, l3]
def SomeArc (w : World) (e : Ending) (w' : World) : Prop := ∃ a b c d f g : Int, (-40 ≤ a ∧ a ≤ 40) ∧ (-40 ≤ b ∧ b ≤ 40) ∧ (-40 ≤ c ∧ c ≤ 40) ∧ (-40 ≤ d ∧ d ≤ 40) ∧ (-40 ≤ f ∧ f ≤ 40) ∧ (-40 ≤ g ∧ g ≤ 40) ∧ e = .returned (.tuple #[.agg #[.int .i64 a, .int .i64 b], .agg #[.int .i64 c, .int .i64 d], .agg #[.int .i64 f, .int .i64 g]]) ∧ Below w.heap.size w w'
theorem closeL (x y : Int) (w : World) :
    Calls Tryz.prog 42 #[.agg #[.int .i64 x, .int .i64 y], .int .i64 400000000] w (SomePt 400000000 w) := by
  obtain ⟨a, ea⟩ : ∃ a, x.tmod 400000001 = a := ⟨_, rfl⟩
  obtain ⟨b, eb⟩ : ∃ b, y.tmod 400000001 = b := ⟨_, rfl⟩
  have ha := tmod_rng x 400000001 (by decide)
  have hb := tmod_rng y 400000001 (by decide)
  rw [ea] at ha
  rw [eb] at hb
  have HA := Lib.hid ha
  have HB := Lib.hid hb
  clear ha hb
  go_enter Tryz.func42, Tryz.ntmps42
  go_wp2
  go_region
  all_goals go_wp2
  all_goals
    refine bodyPost_ret (v := .agg #[.int .i64 a, .int .i64 b]) (by simp [results, Tryz.results42, go_sem]) rfl (SomePt.mk HA.out HB.out ?_)
    go_grown
theorem arc_any (x y f t s : Int) (w : World) :
    Calls Tryz.prog 44 #[.agg #[.int .i64 x, .int .i64 y], .int .i64 f, .int .i64 t, .int .i64 s, .bool true] w (SomeArc w) := by
  obtain ⟨i, ei, hi⟩ : ∃ i : Nat, bits .and .i64 f 255 % 12 = (i : Int) ∧ i < 12 := ⟨(bits .and .i64 f 255 % 12).toNat, by rw [mask255]; omega, by rw [mask255]; omega⟩
  obtain ⟨j, ej, hj⟩ : ∃ i : Nat, bits .and .i64 t 255 % 12 = (i : Int) ∧ i < 12 := ⟨(bits .and .i64 t 255 % 12).toNat, by rw [mask255]; omega, by rw [mask255]; omega⟩
  obtain ⟨F, eF⟩ : ∃ F, bits .and .i64 f 255 = F := ⟨_, rfl⟩
  obtain ⟨T, eT⟩ : ∃ F, bits .and .i64 t 255 = F := ⟨_, rfl⟩
  have f0 : 0 ≤ F ∧ F ≤ 255 := by rw [← eF, mask255]; omega
  have t0 : 0 ≤ T ∧ T ≤ 255 := by rw [← eT, mask255]; omega
  rw [eF] at ei
  rw [eT] at ej
  have hi2 : (i : Int) < 12 := by omega
  have hj2 : (j : Int) < 12 := by omega
  have ei2 : F.tmod 12 = (i : Int) := by rw [Int.tmod_eq_emod_of_nonneg (by omega)]; exact ei
  have ej2 : T.tmod 12 = (j : Int) := by rw [Int.tmod_eq_emod_of_nonneg (by omega)]; exact ej
  obtain ⟨u, eu⟩ : ∃ u, IntKind.u64.wrap s = u := ⟨_, rfl⟩
  have u0 : 0 ≤ u := by rw [← eu, IntKind.wrap_u64]; omega
  obtain ⟨pa, pb, ha, hb, a0, a1, b0, b1⟩ := arcPts_at i hi
  obtain ⟨qa, qb, hc, hd, c0, c1, d0, d1⟩ := arcPts_at j hj
  have HP := Lib.hid (And.intro ha (And.intro hb (And.intro hc hd)))
  have C1 := Lib.hid close15
  clear ha hb hc hd
  go_enter Tryz.func44, Tryz.ntmps44
  go_wp2_with fail
  obtain ⟨v, ev⟩ : ∃ v, ((((w.alloc (.cells #[.int .i64 x, .int .i64 y] 58)).alloc (.cells #[.int .i64 0, .int .i64 0] 58)).alloc (.cells #[.int .i64 0, .int .i64 0] 58)).alloc (.cells #[.int .i64 0, .int .i64 0] 58)).alloc (.cells #[.int .i64 5, .int .i64 0, .int .i64 4, .int .i64 3, .int .i64 3, .int .i64 4, .int .i64 0, .int .i64 5, .int .i64 (-3), .int .i64 4, .int .i64 (-4), .int .i64 3, .int .i64 (-5), .int .i64 0, .int .i64 (-4), .int .i64 (-3), .int .i64 (-3), .int .i64 (-4), .int .i64 0, .int .i64 (-5), .int .i64 3, .int .i64 (-4), .int .i64 4, .int .i64 (-3)] 58) = v := ⟨_, rfl⟩
  have hB0 : Below w.heap.size w v := by rw [← ev]; exact blw
  have kX : Blk v w.heap.size 58 #[.int .i64 x, .int .i64 y] := by rw [← ev]; exact bkw
  have kR : Blk v (w.heap.size + 1) 58 #[.int .i64 0, .int .i64 0] := by rw [← ev]; exact bkw
  have kS : Blk v (w.heap.size + 1 + 1) 58 #[.int .i64 0, .int .i64 0] := by rw [← ev]; exact bkw
  have kT : Blk v (w.heap.size + 1 + 1 + 1) 58 #[.int .i64 0, .int .i64 0] := by rw [← ev]; exact bkw
  have kA : Blk v (w.heap.size + 1 + 1 + 1 + 1) 58 arcPts := by rw [← ev]; unfold arcPts; exact bkw
  have r1 : v.cell? ⟨w.heap.size + 1 + 1 + 1 + 1, i * 2, none⟩ = some (.int .i64 pa) := (kA.cell _).trans HP.out.1
  have r2 : v.cell? ⟨w.heap.size + 1 + 1 + 1 + 1, i * 2 + 1, none⟩ = some (.int .i64 pb) := (kA.cell _).trans HP.out.2.1
  have r3 : v.cell? ⟨w.heap.size + 1 + 1 + 1 + 1, j * 2, none⟩ = some (.int .i64 qa) := (kA.cell _).trans HP.out.2.2.1
  have r4 : v.cell? ⟨w.heap.size + 1 + 1 + 1 + 1, j * 2 + 1, none⟩ = some (.int .i64 qb) := (kA.cell _).trans HP.out.2.2.2
  have sv := hB0.size
  have lA := kA.lt
  rw [ev]
  clear ev
  have y1 : ∀ o o', ((v.alloc o).alloc o').cell? ⟨w.heap.size + 1 + 1 + 1 + 1, i * 2, none⟩ = some (.int .i64 pa) := fun o o' => (((kA.alloc o).alloc o').cell _).trans HP.out.1
  have y2 : ∀ o o', ((v.alloc o).alloc o').cell? ⟨w.heap.size + 1 + 1 + 1 + 1, i * 2 + 1, none⟩ = some (.int .i64 pb) := fun o o' => (((kA.alloc o).alloc o').cell _).trans HP.out.2.1
  have y3 : ∀ o o', ((v.alloc o).alloc o').cell? ⟨w.heap.size + 1 + 1 + 1 + 1, j * 2, none⟩ = some (.int .i64 qa) := fun o o' => (((kA.alloc o).alloc o').cell _).trans HP.out.2.2.1
  have y4 : ∀ o o', ((v.alloc o).alloc o').cell? ⟨w.heap.size + 1 + 1 + 1 + 1, j * 2 + 1, none⟩ = some (.int .i64 qb) := fun o o' => (((kA.alloc o).alloc o').cell _).trans HP.out.2.2.2
  go_cut [14, 15] (fun v14 v15 wx => ∃ ga gb, v14 = .pointer (some ⟨ga, 0, none⟩) ∧ v15 = .pointer (some ⟨gb, 0, none⟩) ∧ Blk wx ga 58 #[.int .i64 pa, .int .i64 pb] ∧ Blk wx gb 58 #[.int .i64 qa, .int .i64 qb] ∧ v.heap.size ≤ ga ∧ v.heap.size ≤ gb ∧ Below v.heap.size v wx)
  case first =>
    go_region
    all_goals
      go_wp2
      go_meet
      first
      | exact ⟨v.heap.size, v.heap.size + 1, rfl, rfl, by exact bkw, by exact bkw, by omega, by omega, by exact blw⟩
      | exact ⟨v.heap.size + 1, v.heap.size, rfl, rfl, by exact bkw, by exact bkw, by omega, by omega, by exact blw⟩
  case rest =>
  obtain ⟨ga, gb, rfl, rfl, kG, kH, lg, lh, hB1⟩ := hcut
  have nG : w.heap.size + 1 + 1 + 1 < ga := by have := kT.lt; omega
  have nH : w.heap.size + 1 + 1 + 1 < gb := by have := kT.lt; omega
  have jX := kX.below hB1 kX.lt
  have jR := kR.below hB1 kR.lt
  have jS := kS.below hB1 kS.lt
  have jT := kT.below hB1 kT.lt
  have hBa : Below w.heap.size w wc := hB0.trans (hB1.mono sv)
  have JX := Lib.hid jX
  have JR := Lib.hid jR
  have JS := Lib.hid jS
  have JT := Lib.hid jT
  have JG := Lib.hid kG
  have JH := Lib.hid kH
  have HBA := Lib.hid hBa
  have sa := hBa.size
  have cX := jX.cell
  have lX := jX.lt
  clear kX kR kS kT kA kG kH jX jR jS jT hB0 hB1 hBa r1 r2 r3 r4 y1 y2 y3 y4 lA
  go_wp2_with fail
  refine (closeL _ _ _).mono ?_
  rintro e z1 ⟨ca, cb, ca0, ca1, cb0, cb1, rfl, hb⟩
  have jX := JX.out.below hb JX.out.lt
  have jR := JR.out.below hb JR.out.lt
  have jS := JS.out.below hb JS.out.lt
  have jT := JT.out.below hb JT.out.lt
  have jG := JG.out.below hb JG.out.lt
  have jH := JH.out.below hb JH.out.lt
  have hBb : Below w.heap.size w z1 := HBA.out.trans (hb.mono sa)
  obtain ⟨v1, ev1⟩ : ∃ v1, (z1.setCell ⟨w.heap.size, 0, none⟩ (.int .i64 ca)).setCell ⟨w.heap.size, 1, none⟩ (.int .i64 cb) = v1 := ⟨_, rfl⟩
  have iX : Blk v1 w.heap.size 58 #[.int .i64 ca, .int .i64 cb] := by rw [← ev1]; exact (jX.set_ 0 _ rfl).set_ 1 _ rfl
  have iR : Blk v1 (w.heap.size + 1) 58 #[.int .i64 0, .int .i64 0] := by rw [← ev1]; exact (jR.far (by first | (simp; done) | (simp; omega)) _).far (by first | (simp; done) | (simp; omega)) _
  have iS : Blk v1 (w.heap.size + 1 + 1) 58 #[.int .i64 0, .int .i64 0] := by rw [← ev1]; exact (jS.far (by first | (simp; done) | (simp; omega)) _).far (by first | (simp; done) | (simp; omega)) _
  have iT : Blk v1 (w.heap.size + 1 + 1 + 1) 58 #[.int .i64 0, .int .i64 0] := by rw [← ev1]; exact (jT.far (by first | (simp; done) | (simp; omega)) _).far (by first | (simp; done) | (simp; omega)) _
  have iG : Blk v1 (ga) 58 #[.int .i64 pa, .int .i64 pb] := by rw [← ev1]; exact (jG.far (by first | (simp; done) | (simp; omega)) _).far (by first | (simp; done) | (simp; omega)) _
  have iH : Blk v1 (gb) 58 #[.int .i64 qa, .int .i64 qb] := by rw [← ev1]; exact (jH.far (by first | (simp; done) | (simp; omega)) _).far (by first | (simp; done) | (simp; omega)) _
  have hBc : Below w.heap.size w v1 := by rw [← ev1]; exact (hBb.setCell (Nat.le_refl _) _).setCell (Nat.le_refl _) _
  have KX := Lib.hid iX
  have KR := Lib.hid iR
  have KS := Lib.hid iS
  have KT := Lib.hid iT
  have KG := Lib.hid iG
  have KH := Lib.hid iH
  have HBC := Lib.hid hBc
  have sc := hBc.size
  have EV1 := Lib.hid ev1
  have cX1 := jX.cell
  have fX1 := jX.frozen
  have lX1 := jX.lt
  clear jX jR jS jT jG jH iX iR iS iT iG iH hb hBb hBc ev1 cX lX HBA JX JR JS JT JG JH
  obtain ⟨M, eM⟩ : ∃ M, bits .and .i64 (u % 20000000 + 1) 3 = M := ⟨_, rfl⟩
  have hM : 0 ≤ M ∧ M ≤ 3 := by rw [← eM, mask3]; omega
  go_wp2_with fail
  rw [EV1.out]
  refine (C1.out _ _ _).mono ?_
  rintro e z2 ⟨da, db, da0, da1, db0, db1, rfl, hb⟩
  have jX := KX.out.below hb KX.out.lt
  have jR := KR.out.below hb KR.out.lt
  have jS := KS.out.below hb KS.out.lt
  have jT := KT.out.below hb KT.out.lt
  have jG := KG.out.below hb KG.out.lt
  have jH := KH.out.below hb KH.out.lt
  have hBd : Below w.heap.size w z2 := HBC.out.trans (hb.mono sc)
  have cX2 := jX.cell
  have fX2 := jX.frozen
  have lX2 := jX.lt
  obtain ⟨v2, ev2⟩ : ∃ v2, (z2.setCell ⟨w.heap.size, 0, none⟩ (.int .i64 da)).setCell ⟨w.heap.size, 1, none⟩ (.int .i64 db) = v2 := ⟨_, rfl⟩
  have iX : Blk v2 w.heap.size 58 #[.int .i64 da, .int .i64 db] := by rw [← ev2]; exact (jX.set_ 0 _ rfl).set_ 1 _ rfl
  have iR : Blk v2 (w.heap.size + 1) 58 #[.int .i64 0, .int .i64 0] := by rw [← ev2]; exact (jR.far (by first | (simp; done) | (simp; omega)) _).far (by first | (simp; done) | (simp; omega)) _
  have iS : Blk v2 (w.heap.size + 1 + 1) 58 #[.int .i64 0, .int .i64 0] := by rw [← ev2]; exact (jS.far (by first | (simp; done) | (simp; omega)) _).far (by first | (simp; done) | (simp; omega)) _
  have iT : Blk v2 (w.heap.size + 1 + 1 + 1) 58 #[.int .i64 0, .int .i64 0] := by rw [← ev2]; exact (jT.far (by first | (simp; done) | (simp; omega)) _).far (by first | (simp; done) | (simp; omega)) _
  have iG : Blk v2 (ga) 58 #[.int .i64 pa, .int .i64 pb] := by rw [← ev2]; exact (jG.far (by first | (simp; done) | (simp; omega)) _).far (by first | (simp; done) | (simp; omega)) _
  have iH : Blk v2 (gb) 58 #[.int .i64 qa, .int .i64 qb] := by rw [← ev2]; exact (jH.far (by first | (simp; done) | (simp; omega)) _).far (by first | (simp; done) | (simp; omega)) _
  have hBe : Below w.heap.size w v2 := by rw [← ev2]; exact (hBd.setCell (Nat.le_refl _) _).setCell (Nat.le_refl _) _
  have LX := Lib.hid iX
  have LR := Lib.hid iR
  have LS := Lib.hid iS
  have LT := Lib.hid iT
  have LG := Lib.hid iG
  have LH := Lib.hid iH
  have HBE := Lib.hid hBe
  have se := hBe.size
  have EV2 := Lib.hid ev2
  clear jX jR jS jT jG jH iX iR iS iT iG iH hb hBd hBe ev2 cX1 fX1 lX1 HBC EV1 KX KR KS KT KG KH
  go_wp2_with fail
  rw [EV2.out]
  clear cX2 fX2 lX2
  have cX := LX.out.cell
  have fX := LX.out.frozen
  have lX := LX.out.lt
  have cR := LR.out.cell
  have fR := LR.out.frozen
  have lR := LR.out.lt
  have cS := LS.out.cell
  have fS := LS.out.frozen
  have lS := LS.out.lt
  have cT := LT.out.cell
  have fT := LT.out.frozen
  have lT := LT.out.lt
  have cG := LG.out.cell
  have fG := LG.out.frozen
  have lG := LG.out.lt
  have cH := LH.out.cell
  have fH := LH.out.frozen
  have lH := LH.out.lt
  obtain ⟨PA, ePA⟩ : ∃ P, (M + 1) * pa = P := ⟨_, rfl⟩
  have hPA : -20 ≤ PA ∧ PA ≤ 20 := by
    rw [← ePA]
    rcases (show M = 0 ∨ M = 1 ∨ M = 2 ∨ M = 3 by omega) with rfl | rfl | rfl | rfl <;> omega
  have sPA : IntKind.i64.wrap ((M + 1) * pa) = PA := by rw [ePA]; exact IntWalk.i64_in _ (by omega)
  obtain ⟨PB, ePB⟩ : ∃ P, (M + 1) * pb = P := ⟨_, rfl⟩
  have hPB : -20 ≤ PB ∧ PB ≤ 20 := by
    rw [← ePB]
    rcases (show M = 0 ∨ M = 1 ∨ M = 2 ∨ M = 3 by omega) with rfl | rfl | rfl | rfl <;> omega
  have sPB : IntKind.i64.wrap ((M + 1) * pb) = PB := by rw [ePB]; exact IntWalk.i64_in _ (by omega)
  obtain ⟨PC, ePC⟩ : ∃ P, (M + 1) * qa = P := ⟨_, rfl⟩
  have hPC : -20 ≤ PC ∧ PC ≤ 20 := by
    rw [← ePC]
    rcases (show M = 0 ∨ M = 1 ∨ M = 2 ∨ M = 3 by omega) with rfl | rfl | rfl | rfl <;> omega
  have sPC : IntKind.i64.wrap ((M + 1) * qa) = PC := by rw [ePC]; exact IntWalk.i64_in _ (by omega)
  obtain ⟨PD, ePD⟩ : ∃ P, (M + 1) * qb = P := ⟨_, rfl⟩
  have hPD : -20 ≤ PD ∧ PD ≤ 20 := by
    rw [← ePD]
    rcases (show M = 0 ∨ M = 1 ∨ M = 2 ∨ M = 3 by omega) with rfl | rfl | rfl | rfl <;> omega
  have sPD : IntKind.i64.wrap ((M + 1) * qb) = PD := by rw [ePD]; exact IntWalk.i64_in _ (by omega)
  have tA : IntKind.i64.wrap (da + PA) = da + PA := IntWalk.i64_in _ (by omega)
  have tB : IntKind.i64.wrap (db + PB) = db + PB := IntWalk.i64_in _ (by omega)
  have tC : IntKind.i64.wrap (da + PC) = da + PC := IntWalk.i64_in _ (by omega)
  have tD : IntKind.i64.wrap (db + PD) = db + PD := IntWalk.i64_in _ (by omega)
  have nGR : ¬ ga = w.heap.size + 1 := by omega
  have nGS : ¬ ga = w.heap.size + 1 + 1 := by omega
  have nGT : ¬ ga = w.heap.size + 1 + 1 + 1 := by omega
  have nHR : ¬ gb = w.heap.size + 1 := by omega
  have nHS : ¬ gb = w.heap.size + 1 + 1 := by omega
  have nHT : ¬ gb = w.heap.size + 1 + 1 + 1 := by omega
  clear ePA ePB ePC ePD eM hi2 hj2 ei2 ej2 ei ej
  have hKS : ∀ w', Only [w.heap.size + 1, w.heap.size + 1 + 1, w.heap.size + 1 + 1 + 1] v2 w' → w'.cell? ⟨w.heap.size, 0, none⟩ = some (.int .i64 da) ∧ w'.cell? ⟨w.heap.size, 1, none⟩ = some (.int .i64 db) ∧ w'.cell? ⟨ga, 0, none⟩ = some (.int .i64 pa) ∧ w'.cell? ⟨ga, 1, none⟩ = some (.int .i64 pb) ∧ w'.cell? ⟨gb, 0, none⟩ = some (.int .i64 qa) ∧ w'.cell? ⟨gb, 1, none⟩ = some (.int .i64 qb) := fun w' ho =>
    have z : ∀ {b : Nat} {cs : Array Value}, Blk v2 b 58 cs → b ∉ [w.heap.size + 1, w.heap.size + 1 + 1, w.heap.size + 1 + 1 + 1] → Blk w' b 58 cs := fun hb hn => ho.blk hb hn
    ⟨(z LX.out (by simp; omega)).cell 0, (z LX.out (by simp; omega)).cell 1, (z LG.out (by simp; omega)).cell 0, (z LG.out (by simp; omega)).cell 1, (z LH.out (by simp; omega)).cell 0, (z LH.out (by simp; omega)).cell 1⟩
  have HKS := Lib.hid hKS
  clear hKS
  go_region_held3 (fun w' => w'.cell? ⟨w.heap.size, 0, none⟩ = some (.int .i64 da) ∧ w'.cell? ⟨w.heap.size, 1, none⟩ = some (.int .i64 db) ∧ w'.cell? ⟨ga, 0, none⟩ = some (.int .i64 pa) ∧ w'.cell? ⟨ga, 1, none⟩ = some (.int .i64 pb) ∧ w'.cell? ⟨gb, 0, none⟩ = some (.int .i64 qa) ∧ w'.cell? ⟨gb, 1, none⟩ = some (.int .i64 qb)) (exact HKS.out _ (by exact onw)) (fail)
  all_goals
    go_wp2_with fail
    clear sPA sPB sPC sPD tA tB tC tD eF eT eu
    have q1 : -40 ≤ da + PA ∧ da + PA ≤ 40 := by omega
    have q2 : -40 ≤ db + PB ∧ db + PB ≤ 40 := by omega
    have q3 : -40 ≤ da + PC ∧ da + PC ≤ 40 := by omega
    have q4 : -40 ≤ db + PD ∧ db + PD ≤ 40 := by omega
    have q5 : -40 ≤ da ∧ da ≤ 40 := by omega
    have q6 : -40 ≤ db ∧ db ≤ 40 := by omega
    refine bodyPost_ret (results_cell3 Tryz.results44 _ _ (w.heap.size + 1) (w.heap.size + 1 + 1) (w.heap.size + 1 + 1 + 1) #[.int .i64 da, .int .i64 db] #[.int .i64 (da + PA), .int .i64 (db + PB)] #[.int .i64 (da + PC), .int .i64 (db + PD)] (by rfl) (by rfl) (by rfl)
      (run_loadVar_row _ _ 58 58 _ (0, 0) _ ?_ Tryz.underlying58 rfl (by kernel_rfl)) (run_loadVar_row _ _ 58 58 _ (0, 0) _ ?_ Tryz.underlying58 rfl (by kernel_rfl)) (run_loadVar_row _ _ 58 58 _ (0, 0) _ ?_ Tryz.underlying58 rfl (by kernel_rfl))) rfl
      ⟨da, db, da + PA, db + PB, da + PC, db + PD, q5, q6, q1, q2, q3, q4, rfl, ?_⟩
    · change Blk _ (w.heap.size + 1) 58 #[.int .i64 da, .int .i64 db]
      exact ((((((LR.out.set_ 0 (.int .i64 da) rfl).set_ 1 (.int .i64 db) rfl).far (p := ⟨w.heap.size + 1 + 1, 0, none⟩) (by simp) (.int .i64 (da + PA))).far (p := ⟨w.heap.size + 1 + 1, 1, none⟩) (by simp) (.int .i64 (db + PB))).far (p := ⟨w.heap.size + 1 + 1 + 1, 0, none⟩) (by simp) (.int .i64 (da + PC))).far (p := ⟨w.heap.size + 1 + 1 + 1, 1, none⟩) (by simp) (.int .i64 (db + PD))).drew
    · change Blk _ (w.heap.size + 1 + 1) 58 #[.int .i64 (da + PA), .int .i64 (db + PB)]
      exact ((((((LS.out.far (p := ⟨w.heap.size + 1, 0, none⟩) (by simp) (.int .i64 da)).far (p := ⟨w.heap.size + 1, 1, none⟩) (by simp) (.int .i64 db)).set_ 0 (.int .i64 (da + PA)) rfl).set_ 1 (.int .i64 (db + PB)) rfl).far (p := ⟨w.heap.size + 1 + 1 + 1, 0, none⟩) (by simp) (.int .i64 (da + PC))).far (p := ⟨w.heap.size + 1 + 1 + 1, 1, none⟩) (by simp) (.int .i64 (db + PD))).drew
    · change Blk _ (w.heap.size + 1 + 1 + 1) 58 #[.int .i64 (da + PC), .int .i64 (db + PD)]
      exact ((((((LT.out.far (p := ⟨w.heap.size + 1, 0, none⟩) (by first | (simp; done) | (simp; omega)) (.int .i64 da)).far (p := ⟨w.heap.size + 1, 1, none⟩) (by first | (simp; done) | (simp; omega)) (.int .i64 db)).far (p := ⟨w.heap.size + 1 + 1, 0, none⟩) (by first | (simp; done) | (simp; omega)) (.int .i64 (da + PA))).far (p := ⟨w.heap.size + 1 + 1, 1, none⟩) (by first | (simp; done) | (simp; omega)) (.int .i64 (db + PB))).set_ 0 (.int .i64 (da + PC)) rfl).set_ 1 (.int .i64 (db + PD)) rfl).drew
    · have hb := HBE.out
      exact blw
theorem tame10_ring (T : List Nat) (k0 x0 y0 c0 d0 e0 f0 r0 : Int) (L P : Value) (w : World) (hL : PolyRd w L) (hP : PartsRd 1 w P) (hT : ∀ b ∈ T, b < w.heap.size) (hk : ((k0.tmod 6 + 6) % 6) = 4) :
    Calls Tryz.prog 19 #[.agg (shV k0 x0 y0 c0 d0 e0 f0 r0 L P), .bool true, .int .i64 9] w (SomeShape T w) := by
  obtain ⟨pp, np, cp, rfl, _⟩ := hP.len
  obtain ⟨pl, nl, cl, eL, _⟩ := id hL
  subst eL
  unfold shV
  obtain ⟨a, ea⟩ : ∃ a, k0.tmod 6 = a := ⟨_, rfl⟩
  have ha := tmod_rng k0 6 (by decide)
  rw [ea] at ha hk
  have hk2 : (a + 6).tmod 6 = 4 := by rw [Int.tmod_eq_emod_of_nonneg (by omega)]; exact hk
  have HP := Lib.hid hL
  have C1 := Lib.hid r_any
  have C2 := Lib.hid at_any
  have HT := Lib.hid hT
  clear hL hP hT
  go_enter Tryz.func19, Tryz.ntmps19
  go_wp2_with fail
  refine (C1.out _ _).mono ?_
  rintro e w' ⟨r1, hr0, hr1, rfl, rfl⟩
  clear hk hk2 ha ea
  have hr2 : 0 ≤ r1 % 15 ∧ r1 % 15 ≤ 14 := by omega
  obtain ⟨r, er⟩ : ∃ r, r1 % 15 + 1 = r := ⟨_, rfl⟩
  have hr3 : 1 ≤ r ∧ r ≤ 15 := by omega
  have HR := Lib.hid hr3
  go_wp2_with fail
  refine (arc_any _ _ _ _ _ _).mono ?_
  rintro e z1 ⟨a, b, c, d, f, g, ha1, hb1, hc1, hd1, hf1, hg1, rfl, hb⟩
  have kO : Blk z1 (w.heap.size + 1 + 1 + 1) 62 #[.int .i64 5, .int .i64 0, .int .i64 0, .int .i64 0, .int .i64 0, .int .i64 0, .int .i64 0, .int .i64 r, .slice none 0 0, .slice none 0 0] := Blk.below (by exact bkw) hb (by first | omega | (simp; done) | (simp; omega))
  have kZ : Blk z1 (w.heap.size + 1 + 1) 62 #[.int .i64 0, .int .i64 0, .int .i64 0, .int .i64 0, .int .i64 0, .int .i64 0, .int .i64 0, .int .i64 0, .slice none 0 0, .slice none 0 0] := Blk.below (by exact bkw) hb (by first | omega | (simp; done) | (simp; omega))
  have hB : Below w.heap.size w z1 := Below.trans (by exact blw) (hb.mono (by first | omega | (simp; done) | (simp; omega)))
  have cO := kO.cell
  have fO := kO.frozen
  have lO := kO.lt
  have fZ := kZ.frozen
  have lZ := kZ.lt
  have KO := Lib.hid kO
  have KZ := Lib.hid kZ
  have HB := Lib.hid hB
  have sB := hB.size
  have HX := Lib.hid (And.intro hc1 hd1)
  clear ha1 hb1 hc1 hd1 hf1 hg1
  clear hb kO kZ hB
  go_upto_region 27 with fail
  obtain ⟨v, ev⟩ : ∃ v, ((((((z1.setCell ⟨w.heap.size + 1 + 1 + 1, 5, none⟩ (.int .i64 a)).setCell ⟨w.heap.size + 1 + 1 + 1, 6, none⟩ (.int .i64 b)).setCell ⟨w.heap.size + 1 + 1 + 1, 1, none⟩ (.int .i64 c)).setCell ⟨w.heap.size + 1 + 1 + 1, 2, none⟩ (.int .i64 d)).setCell ⟨w.heap.size + 1 + 1 + 1, 3, none⟩ (.int .i64 f)).setCell ⟨w.heap.size + 1 + 1 + 1, 4, none⟩ (.int .i64 g)) = v := ⟨_, rfl⟩
  have kO2 : Blk v (w.heap.size + 1 + 1 + 1) 62 #[.int .i64 5, .int .i64 c, .int .i64 d, .int .i64 f, .int .i64 g, .int .i64 a, .int .i64 b, .int .i64 r, .slice none 0 0, .slice none 0 0] := by rw [← ev]; exact ((((((KO.out.set_ 5 (.int .i64 a) rfl).set_ 6 (.int .i64 b) rfl).set_ 1 (.int .i64 c) rfl).set_ 2 (.int .i64 d) rfl).set_ 3 (.int .i64 f) rfl).set_ 4 (.int .i64 g) rfl)
  have kZ2 : Blk v (w.heap.size + 1 + 1) 62 #[.int .i64 0, .int .i64 0, .int .i64 0, .int .i64 0, .int .i64 0, .int .i64 0, .int .i64 0, .int .i64 0, .slice none 0 0, .slice none 0 0] := by rw [← ev]; exact ((((((KZ.out.far (by simp) _).far (by simp) _).far (by simp) _).far (by simp) _).far (by simp) _).far (by simp) _)
  have hB2 : Below w.heap.size w v := by rw [← ev]; exact ((((((HB.out.setCell (by simp; omega) _).setCell (by simp; omega) _).setCell (by simp; omega) _).setCell (by simp; omega) _).setCell (by simp; omega) _).setCell (by simp; omega) _)
  rw [ev]
  have cO := kO2.cell
  have fO := kO2.frozen
  have lO := kO2.lt
  have fZ := kZ2.frozen
  have lZ := kZ2.lt
  have KZ2 := Lib.hid kZ2
  have HB := Lib.hid hB2
  clear kO2 kZ2 hB2 ev
  go_wp2_with (refine wpList_storeBlk rfl 62 (.tmp 6) (.tmp 153) rfl rfl (w.heap.size + 1 + 1) #[.int .i64 5, .int .i64 c, .int .i64 d, .int .i64 f, .int .i64 g, .int .i64 a, .int .i64 b, .int .i64 r, .slice none 0 0, .slice none 0 0] (by simp [Act.eval]) (by simp [Act.eval]) 62 #[.int .i64 0, .int .i64 0, .int .i64 0, .int .i64 0, .int .i64 0, .int .i64 0, .int .i64 0, .int .i64 0, .slice none 0 0, .slice none 0 0] (KZ2.out) (by kernel_rfl) (by kernel_rfl) (by kernel_rfl) ?_)
  intro w1 hk hg
  have hB2 : Below w.heap.size w w1 := Below.grown (HB.out) hg (by first | exact HB.out.size | (simp; exact HB.out.size)) (by intro b e; cases e; omega)
  have HB2 := Lib.hid hB2
  have HK := Lib.hid hk
  clear hk hg hB2
  go_wp2_with fail
  refine bodyPost_ret (results_cell_row (t := 62) Tryz.results19 _ _ (w.heap.size + 1 + 1) #[.int .i64 5, .int .i64 c, .int .i64 d, .int .i64 f, .int .i64 g, .int .i64 a, .int .i64 b, .int .i64 r, .slice none 0 0, .slice none 0 0] (0, 0) _ (by rfl) ?_ Tryz.underlying62 rfl (by kernel_rfl)) rfl (⟨_, rfl, TamedSh.ring c d f g a b r HX.out.1 HX.out.2 HR.out, HB2.out⟩)
  exact HK.out
theorem tame10 (T : List Nat) (k0 x0 y0 c0 d0 e0 f0 r0 : Int) (L P : Value) (w : World) (hL : PolyRd w L) (hP : PartsRd 1 w P) (hT : ∀ b ∈ T, b < w.heap.size) :
    Calls Tryz.prog 19 #[.agg (shV k0 x0 y0 c0 d0 e0 f0 r0 L P), .bool true, .int .i64 9] w (SomeShape T w) := by
  have h := tmod_rng k0 6 (by decide)
  rcases (show (k0.tmod 6 + 6) % 6 = 0 ∨ (k0.tmod 6 + 6) % 6 = 1 ∨ (k0.tmod 6 + 6) % 6 = 2 ∨ (k0.tmod 6 + 6) % 6 = 3 ∨ (k0.tmod 6 + 6) % 6 = 4 ∨ (k0.tmod 6 + 6) % 6 = 5 by omega) with h | h | h | h | h | h
  · exact tame10_disc T k0 x0 y0 c0 d0 e0 f0 r0 L P w hL hP h
  · exact tame10_poly T k0 x0 y0 c0 d0 e0 f0 r0 L P w hL hP hT h
  · exact tame10_line T k0 x0 y0 c0 d0 e0 f0 r0 L P w hL hP h
  · exact tame10_bar T k0 x0 y0 c0 d0 e0 f0 r0 L P w hL hP h
  · exact tame10_ring T k0 x0 y0 c0 d0 e0 f0 r0 L P w hL hP hT h
  · exact tame10_form T k0 x0 y0 c0 d0 e0 f0 r0 L P w hL hP h
end Go.Proofs.YtfajckkbinbpiaaGreatDoor
