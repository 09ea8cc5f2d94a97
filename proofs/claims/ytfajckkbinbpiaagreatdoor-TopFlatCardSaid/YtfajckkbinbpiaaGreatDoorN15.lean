/- Walk: few contours near (0, 0). Walks: boxes, edges and pixels of the one fixed image. -/
import Derived.Deep.AppendLies
import Derived.LoopTactic
import Derived.OwnWalk
import Derived.Test.YtfajckkbinbpiaaGreatDoorN05
import Derived.Test.YtfajckkbinbpiaaGreatDoorN06
import Derived.Test.YtfajckkbinbpiaaGreatDoorN12
import Derived.Test.YtfajckkbinbpiaaGreatDoorN14
namespace Go.Proofs.YtfajckkbinbpiaaGreatDoor
set_option maxRecDepth 100000
set_option maxHeartbeats 32000000
set_option linter.unusedVariables false
set_option linter.unusedSimpArgs false
open Go.RowKit
theorem infoPt : (Tryz.prog.info? 58).map (fun i => (i.zero, i.size, i.bytes)) = some (some (.agg #[.int .i64 0, .int .i64 0]), 2, 16) := by kernel_rfl
theorem infoPts : (Tryz.prog.info? 166).map (fun i => (i.zero, i.size, i.bytes)) = some (some (.slice none 0 0), 1, 24) := by kernel_rfl
def ptC (l : List Geo.Pt) : List Value := l.flatMap fun p => [.int .i64 p.1, .int .i64 p.2]
theorem ptC_append (l : List Geo.Pt) (p : Geo.Pt) : ptC (l ++ [p]) = ptC l ++ [.int .i64 p.1, .int .i64 p.2] := by simp [ptC]
def Few (c : List Geo.Pt) : Prop := c.length ≤ 12 ∧ ∀ p ∈ c, (-20 ≤ p.1 ∧ p.1 ≤ 20) ∧ (-20 ≤ p.2 ∧ p.2 ≤ 20)
theorem Few.append {c : List Geo.Pt} {x y : Int} (h : ∀ p ∈ c, (-20 ≤ p.1 ∧ p.1 ≤ 20) ∧ (-20 ≤ p.2 ∧ p.2 ≤ 20)) (x0 : -20 ≤ x) (x1 : x ≤ 20) (y0 : -20 ≤ y) (y1 : y ≤ 20) : ∀ p ∈ c ++ [(x, y)], (-20 ≤ p.1 ∧ p.1 ≤ 20) ∧ (-20 ≤ p.2 ∧ p.2 ≤ 20) := by
  intro p hp
  rcases List.mem_append.1 hp with hp | hp
  · exact h p hp
  · simp only [List.mem_singleton] at hp
    subst hp
    exact ⟨⟨x0, x1⟩, y0, y1⟩
theorem PtsAt.of_row {S : List Nat} {w : World} {B n : Nat} {v : Value} {c : List Geo.Pt} (h : w.ownsRow B 58 2 v n (ptC c)) (hn : n = c.length) (hS : ∀ b ∈ S, b < B) : PtsAt S w v c := by
  subst hn
  obtain ⟨p, cap, rfl⟩ := own_form h
  refine ⟨p, cap, rfl, fun hc => ?_⟩
  have hlen : 0 < c.length := List.length_pos_iff.2 hc
  obtain ⟨g, cap', he, hg, _⟩ := h.form hlen
  injection he with he1 he2 he3
  subst he1 he3
  have hl : ∀ x ∈ c, ((fun p : Geo.Pt => [Value.int .i64 p.1, .int .i64 p.2]) x).length = 2 := fun _ _ => rfl
  refine ⟨g, rfl, fun hm => by have := hS g hm; omega, own_lt h rfl, fun j hj => ⟨?_, ?_⟩⟩
  · rw [h.cellAt (j * 2) (by omega)]
    have := cells_at (fun p : Geo.Pt => [Value.int .i64 p.1, .int .i64 p.2]) 2 c hl j hj 0 (by omega)
    exact this
  · rw [h.cellAt (j * 2 + 1) (by omega)]
    exact cells_at (fun p : Geo.Pt => [Value.int .i64 p.1, .int .i64 p.2]) 2 c hl j hj 1 (by omega)
structure OutIs (T : List Nat) (B : Nat) (v : Value) (n : Nat) (vs : List Value) (ls : List (List Geo.Pt)) (W : World) : Prop where
  own : W.ownsRow B 166 1 v n vs
  len : ls.length = n
  pts : ∀ j (hv : j < vs.length) (hl : j < ls.length), PtsAt (v.ownBlock.toList ++ T) W vs[j] ls[j]
  few : ∀ c ∈ ls, Few c
theorem OutIs.below {T : List Nat} {B C n : Nat} {v : Value} {vs : List Value} {ls : List (List Geo.Pt)} {W W' : World} (h : OutIs T B v n vs ls W) (hb : Below C W W') (hC : W.heap.size ≤ C) : OutIs T B v n vs ls W' :=
  ⟨own_below h.own hb hC, h.len, fun j hv hl => (h.pts j hv hl).below hb hC, h.few⟩
theorem OutIs.put {T : List Nat} {B n g c' : Nat} {v u : Value} {vs : List Value} {ls : List (List Geo.Pt)} {c : List Geo.Pt} {W W' : World} (h : OutIs T B v n vs ls W) (hg : W.grownBy W' v.ownBlock)
    (hw : W'.ownsRow B 166 1 (.slice (some ⟨g, 0, none⟩) (n + 1) c') (n + 1) (vs ++ [u])) (ha : v.ownBlock = some g ∨ g = W.heap.size) (hc : PtsAt (v.ownBlock.toList ++ T) W u c) (hf : Few c) : OutIs T B (.slice (some ⟨g, 0, none⟩) (n + 1) c') (n + 1) (vs ++ [u]) (ls ++ [c]) W' := by
  have hvl : vs.length = n := by have := h.own.1; omega
  have hmv : ∀ {u : Value} {c : List Geo.Pt}, PtsAt (v.ownBlock.toList ++ T) W u c → PtsAt ((Value.slice (some ⟨g, 0, none⟩) (n + 1) c').ownBlock.toList ++ T) W' u c := fun hp =>
    hp.to hg.size (fun b hb hlt => hg.block b hlt (fun e => hb (by rw [← e]; simp))) (fun b hb hlt hm => by
      simp [Value.ownBlock] at hm
      rcases hm with hm | hm
      rotate_left
      · exact hb (List.mem_append_right _ hm)
      subst hm
      rcases ha with h2 | h2
      · rw [h2] at hb; simp at hb
      · omega)
  refine ⟨hw, by simp [h.len], fun j hv hl => ?_, fun c2 hc2 => ?_⟩
  · rcases Nat.lt_or_ge j n with hj | hj
    · rw [List.getElem_append_left (by omega), List.getElem_append_left (by rw [h.len]; omega)]
      exact hmv (h.pts j (by omega) (by rw [h.len]; omega))
    · have hjn : j = n := by simp at hv; omega
      subst hjn
      rw [List.getElem_append_right (by omega), List.getElem_append_right (by rw [h.len]; omega)]
      simp only [hvl, h.len, Nat.sub_self, List.getElem_cons_zero]
      exact hmv hc
  · rcases List.mem_append.1 hc2 with hc2 | hc2
    · exact h.few c2 hc2
    · simp only [List.mem_singleton] at hc2
      subst hc2; exact hf
theorem OutIs.poly {T : List Nat} {B n : Nat} {v : Value} {vs : List Value} {ls : List (List Geo.Pt)} {W : World} (h : OutIs T B v n vs ls W) (hT : ∀ b ∈ T, b < B) : PolyAt T W v ls := by
  obtain ⟨p, cap, rfl⟩ := own_form h.own
  have hl := h.len
  subst hl
  refine ⟨p, cap, rfl, fun hc => ?_⟩
  have hlen : 0 < ls.length := List.length_pos_iff.2 hc
  obtain ⟨g, cap', he, hg, _⟩ := h.own.form hlen
  injection he with he1 he2 he3
  subst he1 he3
  have hvl : vs.length = ls.length := by have := h.own.1; omega
  refine ⟨g, rfl, fun hm => by have := hT g hm; have := own_ge h.own rfl; omega, own_lt h.own rfl, fun i hi => ⟨vs[i], ?_, ?_⟩⟩
  · rw [h.own.cellAt i (by omega)]
    exact List.getElem?_eq_getElem (by omega)
  · exact (h.pts i (by omega) hi).to (Nat.le_refl _) (fun _ _ _ => rfl) (fun b hb _ hm => hb (List.mem_append_right _ hm))
def SomePoly (T : List Nat) (w : World) (e : Ending) (w' : World) : Prop := ∃ (v : Value) (ls : List (List Geo.Pt)), ls.length ≤ 4 ∧ (∀ c ∈ ls, Few c) ∧ PolyAt T w' v ls ∧ e = .returned v ∧ Below w.heap.size w w'
theorem two_i64' (x y : Int) : ∀ u ∈ ([.int .i64 x, .int .i64 y] : List Value), u.oneCell' = true := by
  intro u hu
  simp only [List.mem_cons, List.not_mem_nil, or_false] at hu
  rcases hu with rfl | rfl <;> rfl
theorem one_sl (p : Option Addr) (n c : Nat) : ∀ u ∈ ([.slice p n c] : List Value), u.oneCell' = true := by
  intro u hu
  simp only [List.mem_cons, List.not_mem_nil, or_false] at hu
  subst hu; rfl
theorem tame6 (T : List Nat) (L : Value) (w : World) (hL : PolyRd w L) (hT : ∀ b ∈ T, b < w.heap.size) : Calls Tryz.prog 45 #[L, .bool true] w (SomePoly T w) := by
  obtain ⟨pl, nl, cl, rfl, hnl, hl⟩ := hL
  have hh := infoPt
  obtain ⟨iT, hiT, hI⟩ := Option.map_eq_some_iff.1 hh
  simp only [Prod.mk.injEq] at hI
  have HI := Lib.hid (And.intro hiT hI)
  have hh2 := infoPts
  obtain ⟨iS, hiS, hJ⟩ := Option.map_eq_some_iff.1 hh2
  simp only [Prod.mk.injEq] at hJ
  have HJ := Lib.hid (And.intro hiS hJ)
  have hZ : (Value.agg #[.int .i64 0, .int .i64 0]).cells.size = 2 := by kernel_rfl
  have hY : (Value.slice none 0 0).cells.size = 1 := by kernel_rfl
  have HZ := Lib.hid hZ
  have HY := Lib.hid hY
  have HT := Lib.hid hT
  clear hT
  have HL := Lib.hid (show PolyRd w (.slice pl nl cl) from ⟨pl, nl, cl, rfl, hnl, hl⟩)
  have C1 := Lib.hid pt_any
  have C2 := Lib.hid close20
  clear hh hh2 hiT hI hiS hJ hZ hY hl
  go_enter Tryz.func45, Tryz.ntmps45
  go_wp2_with fail
  go_loopw [5, 6] (fun v i wr => ∃ n : Nat, i = .int .i64 (n : Int) ∧ n ≤ nl ∧ n ≤ 4 ∧ ∃ p c vs ls, v = .slice p n c ∧ OutIs T w.heap.size (.slice p n c) n vs ls wr ∧ Below w.heap.size w wr) (fun v i wr => nl - (intOf i).toNat)
  case atStart => exact ⟨0, rfl, Nat.zero_le _, by omega, none, 0, [], [], rfl, ⟨World.ownsRow_nil _ _ _ _, rfl, fun j hv => by simp at hv, fun c hc => by simp at hc⟩, Below.refl _ _⟩
  case round =>
  obtain ⟨n, rfl, hn, hn4, p, c, vs, ls, rfl, hO, hB⟩ := hrel
  by_cases hlt : n < nl
  · by_cases hlt4 : n < 4
    · obtain ⟨W, eW⟩ : ∃ W, wr = W := ⟨_, rfl⟩
      rw [eW] at hO hB
      rw [eW]
      obtain ⟨p', n', cap', e1, _, h1⟩ := HL.out.below hB (Nat.le_refl _)
      injection e1 with e1 e1n e1c
      subst e1 e1n e1c
      obtain ⟨b, off, rfl, lb, h1⟩ := h1 (by omega)
      obtain ⟨u1, h2, h3⟩ := h1 n hlt
      obtain ⟨p3, n3, cap3, e3, hn3, h4⟩ := id h3
      subst e3
      have HP := Lib.hid h3
      have HO := Lib.hid hO
      have HB := Lib.hid hB
      have HW := Lib.hid h2
      have sB := hB.size
      have d4 : decide ((n : Int) < 4) = true := by simp; omega
      clear h1 h3 h4 hO hB eW
      go_wp2_with fail
      clear d4
      go_loopw [7, 8] (fun v i wz => ∃ k : Nat, i = .int .i64 (k : Int) ∧ k ≤ n3 ∧ k ≤ 12 ∧ ∃ p c ps, v = .slice p k c ∧ wz.ownsRow W.heap.size 58 2 (.slice p k c) k (ptC ps) ∧ ps.length = k ∧ (∀ q ∈ ps, (-20 ≤ q.1 ∧ q.1 ≤ 20) ∧ (-20 ≤ q.2 ∧ q.2 ≤ 20)) ∧ Below W.heap.size W wz) (fun v i wz => n3 - (intOf i).toNat)
      case atStart => exact ⟨0, rfl, Nat.zero_le _, by omega, none, 0, [], rfl, World.ownsRow_nil _ _ _ _, rfl, fun q hq => by simp at hq, Below.refl _ _⟩
      case round =>
      clear h2
      obtain ⟨k, rfl, hk, hk12, pk, ck, ps, rfl, hown, hps, hfew, hB2⟩ := hrel
      have h2 : wr.cell? ⟨b, off + n, none⟩ = some (.slice p3 n3 cap3) := (World.cell?_of_block (hB2.block b lb)).trans HW.out
      have lb2 : b < wr.heap.size := by have := hB2.size; omega
      by_cases hlk : k < n3
      · by_cases hlk12 : k < 12
        · obtain ⟨p5, n5, cap5, e5, _, h5⟩ := HP.out.below hB2 (Nat.le_refl _)
          injection e5 with e5 e5n e5c
          subst e5 e5n e5c
          obtain ⟨b3, off3, rfl, lb3, h5⟩ := h5 (by omega)
          obtain ⟨x0, y0, h6, h7⟩ := h5 k hlk
          have H1 := Lib.hid (And.intro hown (And.intro hps (And.intro hfew hB2)))
          have s2 := hB2.size
          clear hown hps hfew hB2 h5
          go_wp2_with fail
          refine (C1.out _ _ _).mono ?_
          rintro e z1 ⟨x1, y1, _, _, _, _, rfl, hb1⟩
          have s3 := hb1.size
          have B1 := Lib.hid (H1.out.2.2.2.trans (hb1.mono s2))
          have O1 := Lib.hid (own_below H1.out.1 hb1 (Nat.le_refl _))
          have F1 := Lib.hid (And.intro H1.out.2.1 H1.out.2.2.1)
          clear h2 h6 h7 hb1 H1
          go_wp2_with fail
          refine (C2.out _ _ _).mono ?_
          rintro e z2 ⟨x2, y2, hx0, hx1, hy0, hy1, rfl, hb2⟩
          have kp : Blk z2 z1.heap.size 58 #[.int .i64 x1, .int .i64 y1] := (Blk.new _ _ _).below hb2 (by simp)
          have B2 := Lib.hid (B1.out.trans ((((Below.refl z1.heap.size z1).alloc (Nat.le_refl _) (.cells #[.int .i64 x1, .int .i64 y1] 58)).trans (hb2.mono (by first | (simp; done) | (simp; omega)))).mono (show W.heap.size ≤ z1.heap.size by omega)))
          have O2 := Lib.hid (own_below (O1.out.alloc (.cells #[.int .i64 x1, .int .i64 y1] 58)) hb2 (Nat.le_refl _))
          have KP := Lib.hid kp
          have cp := kp.cell
          have fp := kp.frozen
          have lp := kp.lt
          have sz2 := hb2.size
          have hne : (Value.slice pk k ck).ownBlock ≠ some z1.heap.size := fun e => by have := own_lt O1.out e; omega
          have o3 := ((own_far (own_far O2.out (p := ⟨z1.heap.size, 0, none⟩) hne (.int .i64 x2)) (p := ⟨z1.heap.size, 1, none⟩) hne (.int .i64 y2)).alloc (.cells #[.int .i64 x2, .int .i64 y2] 58))
          have b3 : Below W.heap.size W (((z2.setCell ⟨z1.heap.size, 0, none⟩ (.int .i64 x2)).setCell ⟨z1.heap.size, 1, none⟩ (.int .i64 y2)).alloc (.cells #[.int .i64 x2, .int .i64 y2] 58)) := by
            have hb := B2.out
            exact blw
          have hN9 : ∀ j v, ([.int .i64 x2, .int .i64 y2] : List Value)[j]? = some v → (((z2.setCell ⟨z1.heap.size, 0, none⟩ (.int .i64 x2)).setCell ⟨z1.heap.size, 1, none⟩ (.int .i64 y2)).alloc (.cells #[.int .i64 x2, .int .i64 y2] 58)).cell? ((⟨z2.heap.size, 0, none⟩ : Addr).add j) = some v :=
            World.news_of_block (cs := #[.int .i64 x2, .int .i64 y2]) (Blk.newAt (by simp))
          have hb16 : (k + 1) * 16 ≤ 140737488355328 := by omega
          have hmx : k + 1 ≤ maxLen := by unfold maxLen; omega
          have H3 := Lib.hid (And.intro o3 (And.intro b3 (And.intro hN9 (And.intro hb16 hmx))))
          have HF := Lib.hid (And.intro hx0 (And.intro hx1 (And.intro hy0 hy1)))
          clear hb2 kp o3 b3 hN9 hb16 hmx hx0 hx1 hy0 hy1
          go_wp2_with (at_builtin; refine wpList_append_lies _ rfl (.tmp 44) (.tmp 46) 166 rfl W.heap.size 58 iT _ 2 16 Tryz.underlying166 HI.out.1 HI.out.2.1 HI.out.2.2.1 HI.out.2.2.2 HZ.out (by decide) (.slice pk k ck) k (ptC ps) (by simp [Act.eval]) H3.out.1 ⟨z2.heap.size, 0, none⟩ 1 1 [.int .i64 x2, .int .i64 y2] (by simp [Act.eval]) rfl H3.out.2.2.1 (two_i64' x2 y2) (by decide) H3.out.2.2.2.2 H3.out.2.2.2.1 H3.out.2.1.size _ rfl ?_)
          intro gn cn zY hown hgrow hat hlt2
          have hY : Below W.heap.size W zY := H3.out.2.1.grown hgrow H3.out.2.1.size (fun b e => own_ge H3.out.1 e)
          have hown2 : zY.ownsRow W.heap.size 58 2 (.slice (some ⟨gn, 0, none⟩) (k + 1) cn) (k + 1) (ptC (ps ++ [(x2, y2)])) := by rw [ptC_append]; exact hown
          have HY2 := Lib.hid (And.intro hown2 hY)
          clear hown hgrow hat hlt2 hY hown2 cp fp lp
          go_wp2_with fail
          go_roundw
          case rel =>
            have hr2 : ∃ k' : Nat, Value.int .i64 ((k : Int) + 1) = .int .i64 (k' : Int) ∧ k' ≤ n3 ∧ k' ≤ 12 ∧ ∃ p c ps, Value.slice (some ⟨gn, 0, none⟩) (k + 1) cn = .slice p k' c ∧ zY.ownsRow W.heap.size 58 2 (.slice p k' c) k' (ptC ps) ∧ ps.length = k' ∧ (∀ q ∈ ps, (-20 ≤ q.1 ∧ q.1 ≤ 20) ∧ (-20 ≤ q.2 ∧ q.2 ≤ 20)) ∧ Below W.heap.size W zY :=
              ⟨k + 1, by go_num, by omega, by omega, some ⟨gn, 0, none⟩, cn, ps ++ [(x2, y2)], rfl, HY2.out.1, by simp [F1.out.1], Few.append F1.out.2 HF.out.1 HF.out.2.1 HF.out.2.2.1 HF.out.2.2.2, HY2.out.2⟩
            first | exact hr2 | ((repeat apply Exists.intro); exact ⟨hr2, rfl⟩)
          case measure => simp [intOf]; omega
        · obtain rfl : k = 12 := by omega
          have q1 : OutIs T w.heap.size (.slice p n c) n vs ls wr := HO.out.below hB2 (Nat.le_refl _)
          have q2 : PtsAt ((Value.slice p n c).ownBlock.toList ++ T) wr (.slice pk 12 ck) ps := PtsAt.of_row hown hps.symm (fun b hb => by rcases List.mem_append.1 hb with hb | hb <;> first | exact own_lt HO.out.own (by simpa using hb) | (have := HT.out b hb; omega))
          have q3 : Below w.heap.size w wr := HB.out.trans (hB2.mono sB)
          have q4 : Few ps := ⟨by omega, hfew⟩
          have hN9 : ∀ j v, ([.slice pk 12 ck] : List Value)[j]? = some v → (wr.alloc (.cells #[.slice pk 12 ck] 166)).cell? ((⟨wr.heap.size, 0, none⟩ : Addr).add j) = some v :=
            World.news_of_block (cs := #[.slice pk 12 ck]) (Blk.newAt rfl)
          have q5 : OutIs T w.heap.size (.slice p n c) n vs ls (wr.alloc (.cells #[.slice pk 12 ck] 166)) := q1.below ((Below.refl _ _).alloc (Nat.le_refl _) _) (Nat.le_refl _)
          have q6 := q2.alloc (.cells #[.slice pk 12 ck] 166)
          have q7 : Below w.heap.size w (wr.alloc (.cells #[.slice pk 12 ck] 166)) := q3.alloc q3.size _
          have hb16 : (n + 1) * 24 ≤ 140737488355328 := by omega
          have hmx : n + 1 ≤ maxLen := by unfold maxLen; omega
          have Q := Lib.hid (And.intro q5 (And.intro q6 (And.intro q7 (And.intro q4 (And.intro hN9 (And.intro hb16 hmx))))))
          clear hown hps hfew hB2 q1 q2 q3 q4 q5 q6 q7 hN9 hb16 hmx
          go_wp2_with (at_builtin; refine wpList_append_lies _ rfl (.tmp 48) (.tmp 50) 59 rfl w.heap.size 166 iS _ 1 24 Tryz.underlying59 HJ.out.1 HJ.out.2.1 HJ.out.2.2.1 HJ.out.2.2.2 HY.out (by decide) (.slice p n c) n vs (by simp [Act.eval]) Q.out.1.own ⟨wr.heap.size, 0, none⟩ 1 1 [.slice pk 12 ck] (by simp [Act.eval]) rfl Q.out.2.2.2.2.1 (one_sl pk 12 ck) (by decide) Q.out.2.2.2.2.2.2 Q.out.2.2.2.2.2.1 Q.out.2.2.1.size _ rfl ?_)
          intro gn cn zY hown hgrow hat hlt2
          have q8 : OutIs T w.heap.size (.slice (some ⟨gn, 0, none⟩) (n + 1) cn) (n + 1) (vs ++ [.slice pk 12 ck]) (ls ++ [ps]) zY := Q.out.1.put hgrow hown (by first | exact hat | simpa using hat) Q.out.2.1 Q.out.2.2.2.1
          have q9 : Below w.heap.size w zY := Q.out.2.2.1.grown hgrow Q.out.2.2.1.size (fun b e => own_ge Q.out.1.own e)
          have R := Lib.hid (And.intro q8 q9)
          clear hown hgrow hat hlt2 q8 q9 h2
          go_wp2_with fail
          go_roundw
          case rel =>
            have hr2 : ∃ n' : Nat, Value.int .i64 ((n : Int) + 1) = .int .i64 (n' : Int) ∧ n' ≤ nl ∧ n' ≤ 4 ∧ ∃ p c vs ls, Value.slice (some ⟨gn, 0, none⟩) (n + 1) cn = .slice p n' c ∧ OutIs T w.heap.size (.slice p n' c) n' vs ls zY ∧ Below w.heap.size w zY :=
              ⟨n + 1, by go_num, by omega, by omega, some ⟨gn, 0, none⟩, cn, _, _, rfl, R.out.1, R.out.2⟩
            first | exact hr2 | ((repeat apply Exists.intro); exact ⟨hr2, rfl⟩)
          case measure => simp [intOf]; omega
      · obtain rfl : k = n3 := by omega
        have q1 : OutIs T w.heap.size (.slice p n c) n vs ls wr := HO.out.below hB2 (Nat.le_refl _)
        have q2 : PtsAt ((Value.slice p n c).ownBlock.toList ++ T) wr (.slice pk k ck) ps := PtsAt.of_row hown hps.symm (fun b hb => by rcases List.mem_append.1 hb with hb | hb <;> first | exact own_lt HO.out.own (by simpa using hb) | (have := HT.out b hb; omega))
        have q3 : Below w.heap.size w wr := HB.out.trans (hB2.mono sB)
        have q4 : Few ps := ⟨by omega, hfew⟩
        have hN9 : ∀ j v, ([.slice pk k ck] : List Value)[j]? = some v → (wr.alloc (.cells #[.slice pk k ck] 166)).cell? ((⟨wr.heap.size, 0, none⟩ : Addr).add j) = some v :=
          World.news_of_block (cs := #[.slice pk k ck]) (Blk.newAt rfl)
        have q5 : OutIs T w.heap.size (.slice p n c) n vs ls (wr.alloc (.cells #[.slice pk k ck] 166)) := q1.below ((Below.refl _ _).alloc (Nat.le_refl _) _) (Nat.le_refl _)
        have q6 := q2.alloc (.cells #[.slice pk k ck] 166)
        have q7 : Below w.heap.size w (wr.alloc (.cells #[.slice pk k ck] 166)) := q3.alloc q3.size _
        have hb16 : (n + 1) * 24 ≤ 140737488355328 := by omega
        have hmx : n + 1 ≤ maxLen := by unfold maxLen; omega
        have Q := Lib.hid (And.intro q5 (And.intro q6 (And.intro q7 (And.intro q4 (And.intro hN9 (And.intro hb16 hmx))))))
        clear hown hps hfew hB2 q1 q2 q3 q4 q5 q6 q7 hN9 hb16 hmx
        go_wp2_with (at_builtin; refine wpList_append_lies _ rfl (.tmp 48) (.tmp 50) 59 rfl w.heap.size 166 iS _ 1 24 Tryz.underlying59 HJ.out.1 HJ.out.2.1 HJ.out.2.2.1 HJ.out.2.2.2 HY.out (by decide) (.slice p n c) n vs (by simp [Act.eval]) Q.out.1.own ⟨wr.heap.size, 0, none⟩ 1 1 [.slice pk k ck] (by simp [Act.eval]) rfl Q.out.2.2.2.2.1 (one_sl pk k ck) (by decide) Q.out.2.2.2.2.2.2 Q.out.2.2.2.2.2.1 Q.out.2.2.1.size _ rfl ?_)
        intro gn cn zY hown hgrow hat hlt2
        have q8 : OutIs T w.heap.size (.slice (some ⟨gn, 0, none⟩) (n + 1) cn) (n + 1) (vs ++ [.slice pk k ck]) (ls ++ [ps]) zY := Q.out.1.put hgrow hown (by first | exact hat | simpa using hat) Q.out.2.1 Q.out.2.2.2.1
        have q9 : Below w.heap.size w zY := Q.out.2.2.1.grown hgrow Q.out.2.2.1.size (fun b e => own_ge Q.out.1.own e)
        have R := Lib.hid (And.intro q8 q9)
        clear hown hgrow hat hlt2 q8 q9 h2
        go_wp2_with fail
        go_roundw
        case rel =>
          have hr2 : ∃ n' : Nat, Value.int .i64 ((n : Int) + 1) = .int .i64 (n' : Int) ∧ n' ≤ nl ∧ n' ≤ 4 ∧ ∃ p c vs ls, Value.slice (some ⟨gn, 0, none⟩) (n + 1) cn = .slice p n' c ∧ OutIs T w.heap.size (.slice p n' c) n' vs ls zY ∧ Below w.heap.size w zY :=
            ⟨n + 1, by go_num, by omega, by omega, some ⟨gn, 0, none⟩, cn, _, _, rfl, R.out.1, R.out.2⟩
          first | exact hr2 | ((repeat apply Exists.intro); exact ⟨hr2, rfl⟩)
        case measure => simp [intOf]; omega
    · obtain rfl : n = 4 := by omega
      have HO := Lib.hid hO
      have HB := Lib.hid hB
      clear hO hB
      go_wp2_with fail
      go_ret
      exact ⟨_, _, by rw [HO.out.len]; omega, HO.out.few, HO.out.poly HT.out, rfl, HB.out⟩
  · obtain rfl : n = nl := by omega
    have HO := Lib.hid hO
    have HB := Lib.hid hB
    clear hO hB
    go_wp2_with fail
    go_ret
    exact ⟨_, _, by rw [HO.out.len]; omega, HO.out.few, HO.out.poly HT.out, rfl, HB.out⟩
def sqv : List Value := [.int .i64 (-20000000), .int .i64 (-20000000), .int .i64 20000000, .int .i64 (-20000000), .int .i64 20000000, .int .i64 20000000, .int .i64 (-20000000), .int .i64 20000000]
def SqAt (w : World) (gl gp cp : Nat) : Prop := w.cell? ⟨gl, 0, none⟩ = some (.slice (some ⟨gp, 0, none⟩) 4 cp) ∧ ∀ j v, sqv[j]? = some v → w.cell? ⟨gp, j, none⟩ = some v
section
variable {w w' : World} {gl gp cp : Nat}
theorem SqAt.lt1 (h : SqAt w gl gp cp) : gl < w.heap.size := blk_of_cell h.1
theorem SqAt.lt2 (h : SqAt w gl gp cp) : gp < w.heap.size := blk_of_cell (h.2 0 _ rfl)
theorem SqAt.same (h : SqAt w gl gp cp) (h1 : w'.heap[gl]? = w.heap[gl]?) (h2 : w'.heap[gp]? = w.heap[gp]?) : SqAt w' gl gp cp :=
  ⟨(World.cell?_of_block h1).trans h.1, fun j v hj => (World.cell?_of_block h2).trans (h.2 j v hj)⟩
theorem SqAt.below {B : Nat} (h : SqAt w gl gp cp) (hb : Below B w w') (hB : w.heap.size ≤ B) : SqAt w' gl gp cp :=
  h.same (hb.block _ (Nat.lt_of_lt_of_le h.lt1 hB)) (hb.block _ (Nat.lt_of_lt_of_le h.lt2 hB))
theorem SqAt.alloc (h : SqAt w gl gp cp) (o : Obj) : SqAt (w.alloc o) gl gp cp :=
  h.same (Below.heap_alloc w o _ h.lt1) (Below.heap_alloc w o _ h.lt2)
theorem SqAt.drew (h : SqAt w gl gp cp) : SqAt w.drew gl gp cp := h
theorem SqAt.drewN (h : SqAt w gl gp cp) (n : Nat) : SqAt (w.drewN n) gl gp cp := h
theorem SqAt.far (h : SqAt w gl gp cp) {p : Addr} (h1 : gl ≠ p.block) (h2 : gp ≠ p.block) (u : Value) : SqAt (w.setCell p u) gl gp cp :=
  h.same (Below.heap_setCell w p u _ h1) (Below.heap_setCell w p u _ h2)
theorem SqAt.only {S : List Nat} (h : SqAt w gl gp cp) (ho : Only S w w') (h1 : gl ∉ S) (h2 : gp ∉ S) : SqAt w' gl gp cp :=
  h.same (ho.block _ h.lt1 h1) (ho.block _ h.lt2 h2)
theorem SqAt.cells (h : SqAt w gl gp cp) : w.cell? ⟨gl, 0, none⟩ = some (.slice (some ⟨gp, 0, none⟩) 4 cp) ∧ w.cell? ⟨gp, 0, none⟩ = some (.int .i64 (-20000000)) ∧ w.cell? ⟨gp, 1, none⟩ = some (.int .i64 (-20000000)) ∧ w.cell? ⟨gp, 2, none⟩ = some (.int .i64 20000000) ∧ w.cell? ⟨gp, 3, none⟩ = some (.int .i64 (-20000000)) ∧ w.cell? ⟨gp, 4, none⟩ = some (.int .i64 20000000) ∧ w.cell? ⟨gp, 5, none⟩ = some (.int .i64 20000000) ∧ w.cell? ⟨gp, 6, none⟩ = some (.int .i64 (-20000000)) ∧ w.cell? ⟨gp, 7, none⟩ = some (.int .i64 20000000) :=
  ⟨h.1, h.2 0 _ rfl, h.2 1 _ rfl, h.2 2 _ rfl, h.2 3 _ rfl, h.2 4 _ rfl, h.2 5 _ rfl, h.2 6 _ rfl, h.2 7 _ rfl⟩
end
theorem boxok_yes (a b c d : Int) (w : World) (h0 : -536870912 ≤ a) (h1 : a ≤ c) (h2 : c ≤ 536870912) (g0 : -536870912 ≤ b) (g1 : b ≤ d) (g2 : d ≤ 536870912) :
    Calls Tryz.prog 85 #[.agg #[.int .i64 a, .int .i64 b, .int .i64 c, .int .i64 d]] w fun e w' => e = .returned (.bool true) ∧ Below w.heap.size w w' := by
  have e1 : -536870912 ≤ c := by omega
  have e2 : -536870912 ≤ d := by omega
  have e3 : a ≤ 536870912 := by omega
  have e4 : b ≤ 536870912 := by omega
  go_enter Tryz.func85, Tryz.ntmps85
  go_wp2
  go_ret
  exact ⟨rfl, by go_grown⟩
theorem empty_no (a b c d : Int) (w : World) (ac : a ≤ c) (bd : b ≤ d) :
    Calls Tryz.prog 173 #[.agg #[.int .i64 a, .int .i64 b, .int .i64 c, .int .i64 d]] w fun e w' => e = .returned (.bool false) ∧ Below w.heap.size w w' := by
  have dc0 : decide (c < a) = false := by simp; try omega
  have dc1 : decide (d < b) = false := by simp; try omega
  go_enter Tryz.func173, Tryz.ntmps173
  go_wp2
  go_ret
  exact ⟨rfl, by go_grown⟩
theorem has_corner (a b c d : Int) (w : World) (ac : a ≤ c) (bd : b ≤ d) :
    Calls Tryz.prog 282 #[.agg #[.int .i64 a, .int .i64 b, .int .i64 c, .int .i64 d], .agg #[.int .i64 a, .int .i64 b]] w fun e w' => e = .returned (.bool true) ∧ Below w.heap.size w w' := by
  have dc0 : decide (a ≤ c) = true := by simp; try omega
  have dc1 : decide (b ≤ d) = true := by simp; try omega
  go_enter Tryz.func282, Tryz.ntmps282
  go_wp2
  go_ret
  exact ⟨rfl, by go_grown⟩
end Go.Proofs.YtfajckkbinbpiaaGreatDoor
