/- What the reading of the objects says of the memory. -/
import Derived.ChangeArms
import Derived.ChangeSame
import Derived.Test.YtfajckkbinbpiaaGreatDoorN04
namespace Go.Proofs.YtfajckkbinbpiaaGreatDoor
set_option maxRecDepth 100000
set_option maxHeartbeats 32000000
set_option linter.unusedVariables false
set_option linter.unusedSimpArgs false
open Go.RowKit
section
variable {H : Type} {enc : TypeId × Value → H} {w : World} {base : Nat} {spare : Nat → Bool} {held : Bool}
theorem adr_of {a : Addr} {v : Value} (h : w.cell? a = some v) : a = ⟨a.block, a.off, none⟩ := by
  obtain ⟨b, o, s⟩ := a
  cases s with
  | none => rfl
  | some s => unfold World.cell? at h; split at h <;> simp at h
theorem adr_add (b o k : Nat) : (⟨b, o, none⟩ : Addr).add k = ⟨b, o + k, none⟩ := by unfold Addr.add; split <;> simp_all
theorem td_get {cs l : List Value} {o n : Nat} (h : (cs.drop o).take n = l) {j : Nat} {u : Value} (hj : l[j]? = some u) : cs[o + j]? = some u := by
  subst h
  rw [List.getElem?_take] at hj
  split at hj
  · rwa [List.getElem?_drop] at hj
  · simp at hj
theorem slice_rd {t e C fuel : Nat} {cs : List Value} {x : DataW H × List MemPlace} (ht : Tryz.prog.underlying t = some (.slice e)) (hC : Tryz.prog.cellsOf e = C) (hpos : 0 < C) (h : DataW.trod enc Tryz.prog w base spare held fuel t cs = some x) :
    ∃ p n cap, cs = [.slice p n cap] ∧ n ≤ 9223372036854775807 ∧ (0 < n → ∃ b off m, p = some ⟨b, off, none⟩ ∧ b < w.heap.size ∧ ∀ k, k < n → ∃ es y, DataW.trod enc Tryz.prog w base spare held m e es = some y ∧ es.length = C ∧ ∀ j u, es[j]? = some u → w.cell? ⟨b, off + k * C + j, none⟩ = some u) := by
  rcases DataW.trod_slice ht h with ⟨rfl, _⟩ | ⟨a, len, cap, elems, rest, n, _, rfl, _, _, hl, hm, hlen, hel, _, _⟩
  · exact ⟨none, 0, 0, rfl, by omega, fun h => by omega⟩
  · rw [hC] at hel
    refine ⟨some a, len, cap, rfl, by unfold maxLen at hm; omega, fun h0 => ?_⟩
    have key : ∀ k, k < len → ∃ es y, w.cells? base (a.add (k * C)) C = some es ∧ DataW.trod enc Tryz.prog w base spare held n e es = some y := by
      intro k hk
      have h1 := hel k hk
      rw [List.getElem?_eq_getElem (by omega)] at h1
      obtain ⟨es, h2, h3⟩ := Option.bind_eq_some_iff.1 h1
      exact ⟨es, _, h2, h3⟩
    have key2 : ∀ k, k < len → ∃ es y, DataW.trod enc Tryz.prog w base spare held n e es = some y ∧ es.length = C ∧ ∀ j u, es[j]? = some u → w.cell? ((a.add (k * C)).add j) = some u := by
      intro k hk
      obtain ⟨es, y, h2, h3⟩ := key k hk
      have h4 := World.cells?_some h2
      refine ⟨es, y, h3, h4.2.1, fun j u hj => ?_⟩
      have hjl : j < es.length := (List.getElem?_eq_some_iff.1 hj).1
      rw [h4.2.2 j (by rw [← h4.2.1]; exact hjl)]
      exact hj
    obtain ⟨es0, y0, _, hl0, h5⟩ := key2 0 h0
    have h6 : w.cell? a = some es0[0] := by
      have := h5 0 es0[0] (List.getElem?_eq_getElem (by omega))
      simpa [Addr.add] using this
    have ea := adr_of h6
    refine ⟨a.block, a.off, n, congrArg some ea, blk_of_cell h6, fun k hk => ?_⟩
    obtain ⟨es, y, h7, h8, h9⟩ := key2 k hk
    refine ⟨es, y, h7, h8, fun j u hj => ?_⟩
    have := h9 j u hj
    rw [ea, adr_add, adr_add] at this
    exact this
theorem cells1 {c : Nat} (h : c = 1) {cs : List Value} {o : Nat} {u : Value} (hu : (cs.drop o).take c = [u]) : cs[o]? = some u := by
  have := td_get hu (j := 0) (u := u) rfl
  simpa using this
theorem pt_rd {n : Nat} {cs : List Value} {x : DataW H × List MemPlace} (h : DataW.trod enc Tryz.prog w base spare held n 58 cs = some x) : ∃ a b : Int, cs[0]? = some (.int .i64 a) ∧ cs[1]? = some (.int .i64 b) := by
  obtain ⟨y0, y1, m, _, hl, h0, h1⟩ := Go.ChangeShapes.trod_struct2 Tryz.underlying58 h
  obtain ⟨a, ha, _, _⟩ := DataW.trod_int Tryz.underlying2 h0
  obtain ⟨b, hb, _, _⟩ := DataW.trod_int Tryz.underlying2 h1
  exact ⟨a, b, cells1 (by kernel_rfl) ha, cells1 (by kernel_rfl) hb⟩
theorem pts_rd {n : Nat} {cs : List Value} {x : DataW H × List MemPlace} (h : DataW.trod enc Tryz.prog w base spare held n 166 cs = some x) : ∃ v, cs = [v] ∧ PtsRd w v := by
  obtain ⟨p, m, cap, rfl, hm, h1⟩ := slice_rd (C := 2) Tryz.underlying166 (by kernel_rfl) (by omega) h
  refine ⟨_, rfl, p, m, cap, rfl, hm, fun h0 => ?_⟩
  obtain ⟨b, off, q, rfl, hb, h2⟩ := h1 h0
  refine ⟨b, off, rfl, hb, fun k hk => ?_⟩
  obtain ⟨es, y, h3, _, h4⟩ := h2 k hk
  obtain ⟨x, y, h5, h6⟩ := pt_rd h3
  exact ⟨x, y, h4 0 _ h5, h4 1 _ h6⟩
theorem poly_rd {n : Nat} {cs : List Value} {x : DataW H × List MemPlace} (h : DataW.trod enc Tryz.prog w base spare held n 59 cs = some x) : ∃ v, cs = [v] ∧ PolyRd w v := by
  obtain ⟨p, m, cap, rfl, hm, h1⟩ := slice_rd (C := 1) Tryz.underlying59 (by kernel_rfl) (by omega) h
  refine ⟨_, rfl, p, m, cap, rfl, hm, fun h0 => ?_⟩
  obtain ⟨b, off, q, rfl, hb, h2⟩ := h1 h0
  refine ⟨b, off, rfl, hb, fun k hk => ?_⟩
  obtain ⟨es, y, h3, _, h4⟩ := h2 k hk
  obtain ⟨v, rfl, hv⟩ := pts_rd h3
  have := h4 0 v rfl
  rw [Nat.mul_one] at this
  exact ⟨v, this, hv⟩
theorem shape_rd {n : Nat} {cs : List Value} {x : DataW H × List MemPlace} (h : DataW.trod enc Tryz.prog w base spare held n 62 cs = some x) : ∃ (k0 x0 y0 c0 d0 e0 f0 r0 : Int) (L P : Value) (m : Nat) (yp : DataW H × List MemPlace),
    (∀ (j : Nat) (u : Value), (shV k0 x0 y0 c0 d0 e0 f0 r0 L P)[j]? = some u → cs[j]? = some u) ∧ PolyRd w L ∧ DataW.trod enc Tryz.prog w base spare held m 60 [P] = some yp := by
  obtain ⟨xs, m, _, _, hl, hlen, hf⟩ := DataW.trod_struct Tryz.underlying62 h
  have hx : ∀ i, i < 7 → ∃ y, xs[i]? = some y := fun i hi => ⟨_, List.getElem?_eq_getElem (by rw [hlen]; exact hi)⟩
  obtain ⟨g0, w0⟩ := hx 0 (by omega)
  obtain ⟨g1, w1⟩ := hx 1 (by omega)
  obtain ⟨g2, w2⟩ := hx 2 (by omega)
  obtain ⟨g3, w3⟩ := hx 3 (by omega)
  obtain ⟨g4, w4⟩ := hx 4 (by omega)
  obtain ⟨g5, w5⟩ := hx 5 (by omega)
  obtain ⟨g6, w6⟩ := hx 6 (by omega)
  have f0 := (hf 0 _ rfl).trans w0
  have f1 := (hf 1 _ rfl).trans w1
  have f2 := (hf 2 _ rfl).trans w2
  have f3 := (hf 3 _ rfl).trans w3
  have f4 := (hf 4 _ rfl).trans w4
  have f5 := (hf 5 _ rfl).trans w5
  have f6 := (hf 6 _ rfl).trans w6
  obtain ⟨k0, e0, _, _⟩ := DataW.trod_int Tryz.underlying3 f0
  obtain ⟨r0, e4, _, _⟩ := DataW.trod_int Tryz.underlying2 f4
  obtain ⟨a1, a2, p1, p2⟩ := pt_rd f1
  obtain ⟨b1, b2, q1, q2⟩ := pt_rd f2
  obtain ⟨c1, c2, s1, s2⟩ := pt_rd f3
  obtain ⟨L, eL, hL⟩ := poly_rd f5
  obtain ⟨pp, np, cp, eP, _, _⟩ := slice_rd (C := 11) Tryz.underlying60 (by kernel_rfl) (by omega) f6
  refine ⟨k0, a1, a2, b1, b2, c1, c2, r0, L, .slice pp np cp, _, _, ?_, hL, by rw [← eP]; exact f6⟩
  have t0 := cells1 (by kernel_rfl) e0
  have t1 := td_get rfl p1
  have t2 := td_get rfl p2
  have t3 := td_get rfl q1
  have t4 := td_get rfl q2
  have t5 := td_get rfl s1
  have t6 := td_get rfl s2
  have t7 := cells1 (by kernel_rfl) e4
  have t8 := cells1 (by kernel_rfl) eL
  have t9 := cells1 (by kernel_rfl) eP
  intro j u hj
  unfold shV at hj
  rcases (show j = 0 ∨ j = 1 ∨ j = 2 ∨ j = 3 ∨ j = 4 ∨ j = 5 ∨ j = 6 ∨ j = 7 ∨ j = 8 ∨ j = 9 ∨ 10 ≤ j by omega) with rfl | rfl | rfl | rfl | rfl | rfl | rfl | rfl | rfl | rfl | h10
  · exact t0.trans hj
  · exact t1.trans hj
  · exact t2.trans hj
  · exact t3.trans hj
  · exact t4.trans hj
  · exact t5.trans hj
  · exact t6.trans hj
  · exact t7.trans hj
  · exact t8.trans hj
  · exact t9.trans hj
  · rw [Array.getElem?_eq_none (by simpa using h10)] at hj; simp at hj
theorem item_rd {e n : Nat} {cs : List Value} {x : DataW H × List MemPlace} {f0 f1 : Field} (he : Tryz.prog.underlying e = some (.struct #[f0, f1])) (h0t : f0.type = 4) (h0o : f0.offset = 0) (h1t : f1.type = 62) (h1o : f1.offset = 1) (h : DataW.trod enc Tryz.prog w base spare held n e cs = some x) : ∃ (dk : Bool) (m : Nat) (y : DataW H × List MemPlace),
    cs[0]? = some (.bool dk) ∧ DataW.trod enc Tryz.prog w base spare held m 62 ((cs.drop 1).take 10) = some y := by
  obtain ⟨y0, y1, m, _, hl, h0, h1⟩ := Go.ChangeShapes.trod_struct2 he h
  rw [h0t, h0o] at h0
  rw [h1t, h1o, show Tryz.prog.cellsOf 62 = 10 by kernel_rfl] at h1
  obtain ⟨b, hb, _⟩ := DataW.trod_bool Tryz.underlying4 h0
  exact ⟨b, m, y1, cells1 (by kernel_rfl) hb, h1⟩
theorem rows_rd (M : Nat) (ih : ∀ (n : Nat) (P : Value) (y : DataW H × List MemPlace), DataW.trod enc Tryz.prog w base spare held n 60 [P] = some y → PartsRd M w P) {t e n : Nat} {cs : List Value} {x : DataW H × List MemPlace} {f0 f1 : Field} (ht : Tryz.prog.underlying t = some (.slice e)) (hC : Tryz.prog.cellsOf e = 11)
    (he : Tryz.prog.underlying e = some (.struct #[f0, f1])) (h0t : f0.type = 4) (h0o : f0.offset = 0) (h1t : f1.type = 62) (h1o : f1.offset = 1) (h : DataW.trod enc Tryz.prog w base spare held n t cs = some x) : ∃ v, cs = [v] ∧ PartsRd (M + 1) w v := by
  obtain ⟨p, m, cap, rfl, hm, h1⟩ := slice_rd (C := 11) ht hC (by omega) h
  refine ⟨_, rfl, p, m, cap, rfl, hm, fun h0 => ?_⟩
  obtain ⟨b, off, q, rfl, hb, h2⟩ := h1 h0
  refine ⟨b, off, rfl, hb, fun k hk => ?_⟩
  obtain ⟨es, y, h3, _, h4⟩ := h2 k hk
  obtain ⟨dk, m1, y1, h5, h6⟩ := item_rd he h0t h0o h1t h1o h3
  obtain ⟨k0, x0, y0, c0, d0, e0, f0', r0, L, P, m2, yp, h7, h8, h9⟩ := shape_rd h6
  refine ⟨dk, k0, x0, y0, c0, d0, e0, f0', r0, L, P, h4 0 _ h5, fun j u hj => ?_, h8, ih _ _ _ h9⟩
  have := h4 (1 + j) u (td_get rfl (h7 j u hj))
  rw [Nat.add_comm 1 j] at this
  exact this
theorem parts_rd : ∀ (M n : Nat) (P : Value) (y : DataW H × List MemPlace), DataW.trod enc Tryz.prog w base spare held n 60 [P] = some y → PartsRd M w P
  | 0, n, P, y, h => by
    obtain ⟨p, m, cap, e, hm, _⟩ := slice_rd (C := 11) Tryz.underlying60 (by kernel_rfl) (by omega) h
    injection e with e
    exact ⟨p, m, cap, e, hm⟩
  | M + 1, n, P, y, h => by
    obtain ⟨v, e, hv⟩ := rows_rd M (parts_rd M) Tryz.underlying60 (by kernel_rfl) Tryz.underlying116 rfl rfl rfl rfl h
    injection e with e
    rw [e]; exact hv
theorem objs_rd (M : Nat) {n : Nat} {cs : List Value} {x : DataW H × List MemPlace} (h : DataW.trod enc Tryz.prog w base spare held n 47 cs = some x) : ∃ v, cs = [v] ∧ PartsRd (M + 1) w v :=
  rows_rd M (parts_rd M) Tryz.underlying47 (by kernel_rfl) Tryz.underlying65 rfl rfl rfl rfl h
end
end Go.Proofs.YtfajckkbinbpiaaGreatDoor
