/- Walk: whether a point is in a pile of objects, as the reference says. -/
import Derived.LoopTactic
import Derived.Test.YtfajckkbinbpiaaGreatDoorN25
import Derived.Test.YtfajckkbinbpiaaGreatDoorN26
namespace Go.Proofs.YtfajckkbinbpiaaGreatDoor
set_option maxRecDepth 100000
set_option maxHeartbeats 32000000
set_option linter.unusedVariables false
set_option linter.unusedSimpArgs false
open Go.RowKit Go.Sort
theorem phas_take {ol : List Obj2} {k : Nat} (h : k < ol.length) (p : Geo.Pt) : Geo.phas ((ol.take (k + 1)).map (·.1)) p = if ol[k].1.2.has p = true then ol[k].1.1 else Geo.phas ((ol.take k).map (·.1)) p := by
  rw [List.take_succ_eq_append_getElem h]
  unfold Geo.phas
  rw [List.map_append, List.foldl_append]
  rfl
theorem rpilehas_c (px py : Int) (S : List Nat) (v : Value) (ol : List Obj2) (w : World) (hO : ObjsAt S w v ol) (hs : ∀ o ∈ ol, SmSh o.1.2) (hl : ol.length ≤ 100000) (px_0 : -2000 ≤ px) (px_1 : px ≤ 2000) (py_0 : -2000 ≤ py) (py_1 : py ≤ 2000) :
    Calls Tryz.prog 23 #[v, .agg #[.int .i64 px, .int .i64 py]] w fun e w' => e = .returned (.bool (Geo.phas (ol.map (·.1)) (px, py))) ∧ Below w.heap.size w w' := by
  have n1 := fun w s L hs h => rHas_c px py S s L w hs h px_0 px_1 py_0 py_1
  have C1 := Lib.hid n1
  have HO := Lib.hid hO
  have HS := Lib.hid hs
  obtain ⟨p0, cap0, rfl⟩ := hO.1.len
  obtain ⟨n, en⟩ : ∃ n, ol.length = n := ⟨_, rfl⟩
  have HN := Lib.hid en
  rw [en] at hl
  rw [en]
  clear n1 hO hs en px_0 px_1 py_0 py_1
  go_enter Tryz.func23, Tryz.ntmps23
  go_wp2_with fail
  go_loopw [5] (fun i wr => ∃ k : Nat, i = .int .i64 ((k : Int) - 1) ∧ k ≤ n ∧ Blk wr w.heap.size 58 #[.int .i64 px, .int .i64 py] ∧ Below w.heap.size w wr ∧ Geo.phas (ol.map (·.1)) (px, py) = Geo.phas ((ol.take k).map (·.1)) (px, py)) (fun i wr => (intOf i + 1).toNat)
  case atStart => exact ⟨n, rfl, Nat.le_refl _, by exact bkw, by exact blw, by rw [List.take_of_length_le (by rw [HN.out]; omega)]⟩
  case round =>
  obtain ⟨k, rfl, hk, j0, hB, hE⟩ := hrel
  rcases Nat.eq_zero_or_pos k with h0 | h0
  · subst h0
    have HE := Lib.hid hE
    have HB := Lib.hid hB
    clear hE hB j0
    go_wp2_with fail
    go_ret
    exact ⟨by rw [HE.out]; rfl, HB.out⟩
  · obtain ⟨q, rfl⟩ : ∃ q, k = q + 1 := ⟨k - 1, by omega⟩
    have ek : (((q + 1 : Nat) : Int) - 1) = (q : Int) := by omega
    rw [ek]
    have hq : q < ol.length := by rw [HN.out]; omega
    obtain ⟨b, cap, kd, x, y, cc, dd, r, lp, ln, lc, e1, _, lb, eA, q0, q1, q2, q3, q4, q5, q6, q7, q8, q9, q10⟩ := (HO.out.below hB (Nat.le_refl _)).at q hq
    rw [HN.out] at e1
    injection e1 with e1 e1n e1c
    subst e1 e1c
    clear e1n
    have hsh := (HO.out.below hB (Nat.le_refl _)).2 _ (List.getElem_mem hq)
    have hsm := HS.out _ (List.getElem_mem hq)
    rw [phas_take hq] at hE
    have hcr := fun w (h : ShAt S w (ol[q]).1.2 (ol[q]).2) => C1.out w (ol[q]).1.2 (ol[q]).2 hsm h
    rw [eA] at hcr
    obtain ⟨T, eT⟩ : ∃ T, ol[q].1.2.has (px, py) = T := ⟨_, rfl⟩
    obtain ⟨DK, eD⟩ : ∃ T, ol[q].1.1 = T := ⟨_, rfl⟩
    rw [eT] at hcr hE
    rw [eD] at hE q0
    have HC := Lib.hid hcr
    have HSH := Lib.hid hsh
    have HE := Lib.hid hE
    have y0 := cell_regrown (show wr.cell? ⟨w.heap.size, 0, none⟩ = some (.int .i64 px) from j0.cell 0)
    have y1 := cell_regrown (show wr.cell? ⟨w.heap.size, 1, none⟩ = some (.int .i64 py) from j0.cell 1)
    have z0 := cell_regrown q0
    have z1 := cell_regrown q1
    have z2 := cell_regrown q2
    have z3 := cell_regrown q3
    have z4 := cell_regrown q4
    have z5 := cell_regrown q5
    have z6 := cell_regrown q6
    have z7 := cell_regrown q7
    have z8 := cell_regrown q8
    have z9 := cell_regrown q9
    have z10 := cell_regrown q10
    have lj := j0.lt
    have m1 : ∀ d' os, Calls Tryz.prog 50 #[.agg #[.int .i64 kd, .int .i64 x, .int .i64 y, .int .i64 cc, .int .i64 dd, .int .i64 0, .int .i64 0, .int .i64 r, .slice lp ln lc, .slice none 0 0], .agg #[.int .i64 px, .int .i64 py]] (Go.Sort.grow (redrawn wr d') os) fun e w'' => e = .returned (.bool T) ∧ ∃ p : Regrown, w'' = Go.Sort.grow (redrawn wr p.d) p.os := fun d' os => Calls.regrown_of (HC.out _ (HSH.out.below (below_regrown _ _ _) (Nat.le_refl _)))
    have M1 := Lib.hid m1
    have J0 := Lib.hid j0
    have HB := Lib.hid hB
    have sw := hB.size
    have hqi : (q : Int) < (n : Int) := by omega
    have hq0 : decide ((q : Int) ≥ 0) = true := by simp
    have Q0 := Lib.hid q0
    clear hcr hsh hsm eA eT eD hE m1 j0 hB q0 q1 q2 q3 q4 q5 q6 q7 q8 q9 q10
    go_wp2_with fail
    refine wp_region_quiet_below (by kernel_rfl) (by kernel_rfl) ?_
    repeat (any_goals (first | go_big_quiet_step (first | (with_reducible exact M1.out _ _)) | quiet_step (first | (with_reducible exact M1.out _ _))))
    refine wpQuiet_nil ?_
    intro w1 hw'
    have hb : Below wr.heap.size wr w1 := by obtain ⟨p, rfl⟩ := hw'; exact below_regrown _ _ _
    have HB9 := Lib.hid (HB.out.trans (hb.mono sw))
    have lb1 : b < w1.heap.size := Nat.lt_of_lt_of_le lb hb.size
    have q0 : w1.cell? ⟨b, q * 11, none⟩ = some (.bool DK) := (World.cell?_of_block (hb.block b lb)).trans Q0.out
    have J1 := Lib.hid (J0.out.below hb lj)
    clear hw' hb y0 y1 z0 z1 z2 z3 z4 z5 z6 z7 z8 z9 z10 Q0
    cases T
    · have he := HE.out
      rw [if_neg (by decide)] at he
      have HE2 := Lib.hid he
      clear HE he q0
      go_wp2_with fail
      go_roundw
      case rel =>
        have hr2 : ∃ k' : Nat, Value.int .i64 ((q : Int) - 1) = .int .i64 ((k' : Int) - 1) ∧ k' ≤ n ∧ Blk w1 w.heap.size 58 #[.int .i64 px, .int .i64 py] ∧ Below w.heap.size w w1 ∧ Geo.phas (ol.map (·.1)) (px, py) = Geo.phas ((ol.take k').map (·.1)) (px, py) := ⟨q, rfl, by omega, J1.out, HB9.out, HE2.out⟩
        first | exact hr2 | ((repeat apply Exists.intro); exact ⟨hr2, rfl⟩)
      case measure => first | (simp [intOf]; done) | (simp [intOf]; omega)
    · have he := HE.out
      rw [if_pos rfl] at he
      have HE2 := Lib.hid he
      clear HE he
      go_wp2_with fail
      go_ret
      exact ⟨by rw [HE2.out]; rfl, HB9.out⟩
theorem SmSh.ok {s : Geo.Sh} (h : SmSh s) : ShOk s := by
  cases s with
  | disc x y r =>
    obtain ⟨⟨h1, h2⟩, ⟨h3, h4⟩, h5, h6⟩ := h
    exact ⟨⟨by omega, by omega⟩, ⟨by omega, by omega⟩, h5, by omega⟩
  | line x y c d r =>
    obtain ⟨⟨h1, h2⟩, ⟨h3, h4⟩, ⟨h7, h8⟩, ⟨h9, h10⟩, h5, h6⟩ := h
    exact ⟨⟨by omega, by omega⟩, ⟨by omega, by omega⟩, ⟨by omega, by omega⟩, ⟨by omega, by omega⟩, h5, by omega⟩
  | poly l =>
    obtain ⟨h1, h2⟩ := h
    refine ⟨fun c hc p hp => ?_, ?_, by omega⟩
    · obtain ⟨⟨g1, g2⟩, g3, g4⟩ := (h2 c hc).2 p hp
      exact ⟨⟨by omega, by omega⟩, by omega, by omega⟩
    · have key : ∀ l : List (List Geo.Pt), (∀ c ∈ l, Few c) → total l ≤ 12 * l.length := by
        intro l
        induction l with
        | nil => intro _; simp [total]
        | cons c l ih =>
          intro hh
          have g1 := ih (fun c hc => hh c (List.mem_cons_of_mem _ hc))
          have g2 := (hh c (List.mem_cons_self ..)).1
          unfold total at g1 ⊢
          simp only [List.map_cons, List.sum_cons, List.length_cons]
          omega
      have := key l h2
      omega
end Go.Proofs.YtfajckkbinbpiaaGreatDoor
