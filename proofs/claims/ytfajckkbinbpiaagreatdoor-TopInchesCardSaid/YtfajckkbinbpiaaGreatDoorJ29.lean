/- Walks: bounds of shapes. -/
import Derived.RegionCalls
import Derived.Test.YtfajckkbinbpiaaGreatDoorJ28
namespace Go.Proofs.YtfajckkbinbpiaaGreatDoor
set_option maxRecDepth 100000
set_option maxHeartbeats 32000000
set_option linter.unusedVariables false
set_option linter.unusedSimpArgs false
open Go.RowKit
def ub (b : Option Geo.Bx) (p : Geo.Pt) : Option Geo.Bx := some (match b with
  | none => ⟨p.1, p.2, p.1, p.2⟩
  | some b => ⟨min b.x0 p.1, min b.y0 p.2, max b.x1 p.1, max b.y1 p.2⟩)
def polyB (l : List (List Geo.Pt)) : Option Geo.Bx := l.flatten.foldl ub none
def bnd (s : Geo.Sh) : Option Geo.Bx := match s with
  | .disc x y r => some (Geo.around 536870912 x y x y r)
  | .line x y c d r => some (Geo.around 536870912 x y c d r)
  | .poly l => polyB l
def bxC (b : Geo.Bx) : Array Value := #[.int .i64 b.x0, .int .i64 b.y0, .int .i64 b.x1, .int .i64 b.y1]
def bxO (b : Option Geo.Bx) : Array Value := match b with
  | none => #[.int .i64 0, .int .i64 0, .int .i64 0, .int .i64 0]
  | some b => bxC b
theorem polyB_succ (l : List (List Geo.Pt)) (k : Nat) (h : k < l.length) : polyB (l.take (k + 1)) = (l[k]).foldl ub (polyB (l.take k)) := by
  unfold polyB
  rw [List.take_succ_eq_append_getElem h, List.flatten_append, List.foldl_append]
  simp
theorem ub_in : ∀ (ps : List Geo.Pt) (b : Geo.Bx), b.Ok → ∃ b', ps.foldl ub (some b) = some b' ∧ b'.Ok ∧ (∀ p, b.In p → b'.In p) ∧ ∀ p ∈ ps, b'.In p
  | [], b, hb => ⟨b, rfl, hb, fun _ h => h, by simp⟩
  | p :: ps, b, hb => by
    obtain ⟨h1, h2⟩ := hb
    obtain ⟨b', e, h3, h4, h5⟩ := ub_in ps ⟨min b.x0 p.1, min b.y0 p.2, max b.x1 p.1, max b.y1 p.2⟩ ⟨by simp only; omega, by simp only; omega⟩
    refine ⟨b', e, h3, fun q hq => h4 q ?_, ?_⟩
    · obtain ⟨a1, a2, a3, a4⟩ := hq
      exact ⟨by simp only; omega, by simp only; omega, by simp only; omega, by simp only; omega⟩
    · intro q hq
      rcases List.mem_cons.1 hq with rfl | hq
      · exact h4 _ ⟨by simp only; omega, by simp only; omega, by simp only; omega, by simp only; omega⟩
      · exact h5 q hq
theorem bnd_is {s : Geo.Sh} {b : Geo.Bx} (hs : ShOk s) (h : bnd s = some b) : s.Bnd 536870912 b ∧ b.Ok := by
  cases s with
  | disc x y r =>
    obtain ⟨⟨x0, x1⟩, ⟨y0, y1⟩, r0, r1⟩ := hs
    simp only [bnd, Option.some.injEq] at h
    subst h
    refine ⟨⟨r0, rfl⟩, ?_, ?_⟩ <;> simp only [Geo.around] <;> omega
  | line x y c d r =>
    obtain ⟨⟨x0, x1⟩, ⟨y0, y1⟩, ⟨c0, c1⟩, ⟨d0, d1⟩, r0, r1⟩ := hs
    simp only [bnd, Option.some.injEq] at h
    subst h
    refine ⟨⟨r0, rfl⟩, ?_, ?_⟩ <;> simp only [Geo.around] <;> omega
  | poly l =>
    simp only [bnd, polyB] at h
    cases hf : l.flatten with
    | nil => rw [hf] at h; simp at h
    | cons p ps =>
      rw [hf, List.foldl_cons] at h
      obtain ⟨b', e, h3, h4, h5⟩ := ub_in ps ⟨p.1, p.2, p.1, p.2⟩ ⟨Int.le_refl _, Int.le_refl _⟩
      have e2 : ub none p = some ⟨p.1, p.2, p.1, p.2⟩ := rfl
      rw [e2, e] at h
      obtain rfl := Option.some.inj h
      refine ⟨fun c hc v hv => ?_, h3⟩
      have hm : v ∈ l.flatten := List.mem_flatten.2 ⟨c, hc, hv⟩
      rw [hf] at hm
      rcases List.mem_cons.1 hm with rfl | hm
      · exact h4 _ ⟨Int.le_refl _, Int.le_refl _, Int.le_refl _, Int.le_refl _⟩
      · exact h5 v hm
theorem around_c (px py qx qy r : Int) (w : World) (px_0 : -536870912 ≤ px) (px_1 : px ≤ 536870912) (py_0 : -536870912 ≤ py) (py_1 : py ≤ 536870912) (qx_0 : -536870912 ≤ qx) (qx_1 : qx ≤ 536870912) (qy_0 : -536870912 ≤ qy) (qy_1 : qy ≤ 536870912) (r_0 : 0 ≤ r) (r_1 : r ≤ 536870912) :
    Calls Tryz.prog 211 #[.agg #[.int .i64 px, .int .i64 py], .agg #[.int .i64 qx, .int .i64 qy], .int .i64 r] w fun e w' => e = .returned (.agg (bxC (Geo.around 536870912 px py qx qy r))) ∧ Below w.heap.size w w' := by
  go_enter Tryz.func211, Tryz.ntmps211
  go_wp2_with fail
  refine bodyPost_ret (results_cell_row (t := 70) Tryz.results211 _ _ (w.heap.size + 1 + 1) (bxC (Geo.around 536870912 px py qx qy r)) (0, 0) _ (by rfl) ?_ Tryz.underlying70 rfl (by kernel_rfl)) rfl ⟨rfl, by exact blw⟩
  unfold bxC Geo.around
  exact bkw
theorem btake_new (A F : Nat) (x y : Int) (w : World) (hA : Blk w A 70 #[.int .i64 0, .int .i64 0, .int .i64 0, .int .i64 0]) (hF : Blk w F 4 #[.bool false]) (hne : F ≠ A) :
    Calls Tryz.prog 213 #[.agg #[.int .i64 x, .int .i64 y, .int .i64 x, .int .i64 y], .pointer (some ⟨F, 0, none⟩), .pointer (some ⟨A, 0, none⟩)] w fun e w' => e = .returned (.tuple #[]) ∧ Blk w' A 70 #[.int .i64 x, .int .i64 y, .int .i64 x, .int .i64 y] ∧ Blk w' F 4 #[.bool true] ∧ Only [A, F] w w' := by
  have ca := hA.cell
  have fa := hA.frozen
  have la := hA.lt
  have cf := hF.cell
  have ff := hF.frozen
  have lf := hF.lt
  have HA := Lib.hid hA
  have HF := Lib.hid hF
  clear hA hF
  go_enter Tryz.func213, Tryz.ntmps213
  go_wp2_with fail
  go_end0
  refine ⟨rfl, ?_, ?_, ?_⟩
  · exact (((((HA.out.set_ 0 _ rfl).set_ 1 _ rfl).set_ 2 _ rfl).set_ 3 _ rfl).far (by simpa using Ne.symm hne) _).alloc _
  · exact (((((HF.out.far (by simpa using hne) _).far (by simpa using hne) _).far (by simpa using hne) _).far (by simpa using hne) _).set_ 0 _ rfl).alloc _
  · exact onw
theorem btake_more (A F : Nat) (a b c d x y : Int) (w : World) (hA : Blk w A 70 #[.int .i64 a, .int .i64 b, .int .i64 c, .int .i64 d]) (hF : Blk w F 4 #[.bool true]) (hne : F ≠ A) :
    Calls Tryz.prog 213 #[.agg #[.int .i64 x, .int .i64 y, .int .i64 x, .int .i64 y], .pointer (some ⟨F, 0, none⟩), .pointer (some ⟨A, 0, none⟩)] w fun e w' => e = .returned (.tuple #[]) ∧ Blk w' A 70 #[.int .i64 (min a x), .int .i64 (min b y), .int .i64 (max c x), .int .i64 (max d y)] ∧ Blk w' F 4 #[.bool true] ∧ Only [A, F] w w' := by
  have ca := hA.cell
  have fa := hA.frozen
  have la := hA.lt
  have cf := hF.cell
  have ff := hF.frozen
  have lf := hF.lt
  have HA := Lib.hid hA
  have HF := Lib.hid hF
  clear hA hF
  go_enter Tryz.func213, Tryz.ntmps213
  go_wp2_with fail
  go_end0
  refine ⟨rfl, ?_, ?_, ?_⟩
  · exact (((((HA.out.set_ 0 _ rfl).set_ 1 _ rfl).set_ 2 _ rfl).set_ 3 _ rfl).far (by simpa using Ne.symm hne) _).alloc _
  · exact (((((HF.out.far (by simpa using hne) _).far (by simpa using hne) _).far (by simpa using hne) _).far (by simpa using hne) _).set_ 0 _ rfl).alloc _
  · exact onw
theorem btake_c (A F : Nat) (z : Option Geo.Bx) (x y : Int) (w : World) (hA : Blk w A 70 (bxO z)) (hF : Blk w F 4 #[.bool z.isSome]) (hne : F ≠ A) :
    Calls Tryz.prog 213 #[.agg #[.int .i64 x, .int .i64 y, .int .i64 x, .int .i64 y], .pointer (some ⟨F, 0, none⟩), .pointer (some ⟨A, 0, none⟩)] w fun e w' => e = .returned (.tuple #[]) ∧ Blk w' A 70 (bxO (ub z (x, y))) ∧ Blk w' F 4 #[.bool (ub z (x, y)).isSome] ∧ Only [A, F] w w' := by
  cases z with
  | none => exact btake_new A F x y w hA hF hne
  | some b => exact btake_more A F b.x0 b.y0 b.x1 b.y1 x y w hA hF hne
theorem bounds_disc (x y r : Int) (w : World) (x_0 : -536870912 ≤ x) (x_1 : x ≤ 536870912) (y_0 : -536870912 ≤ y) (y_1 : y ≤ 536870912) (r_0 : 1 ≤ r) (r_1 : r ≤ 536870912) :
    Calls Tryz.prog 172 #[.agg #[.int .i64 1, .int .i64 x, .int .i64 y, .int .i64 0, .int .i64 0, .int .i64 0, .int .i64 0, .int .i64 r, .slice none 0 0, .slice none 0 0]] w fun e w' => e = .returned (.tuple #[.agg (bxC (Geo.around 536870912 x y x y r)), .bool true]) ∧ Below w.heap.size w w' := by
  have n1 := fun w => around_c x y x y r w x_0 x_1 y_0 y_1 x_0 x_1 y_0 y_1 (by omega) r_1
  obtain ⟨b, eb⟩ : ∃ b, Geo.around 536870912 x y x y r = b := ⟨_, rfl⟩
  rw [eb] at n1 ⊢
  obtain ⟨b0, b1, b2, b3⟩ := b
  unfold bxC at n1 ⊢
  simp only [] at n1 ⊢
  have C1 := Lib.hid n1
  clear n1 eb
  go_enter Tryz.func172, Tryz.ntmps172
  go_wp2_with fail
  refine (C1.out _).mono ?_
  rintro e w1 ⟨rfl, hb⟩
  have hB1 : Below w.heap.size w w1 := Below.trans (by exact blw) (hb.mono (by first | omega | (simp; done) | (simp; omega)))
  have k1_0 : Blk w1 (w.heap.size + 1) 70 #[.int .i64 0, .int .i64 0, .int .i64 0, .int .i64 0] := Blk.below (by exact bkw) hb (by first | omega | (simp; done) | (simp; omega))
  have c1_0 := k1_0.cell
  have f1_0 := k1_0.frozen
  have l1_0 := k1_0.lt
  have l1 := hB1.size
  clear hb
  go_wp2_with fail
  refine bodyPost_ret (results_row_tmp Tryz.results172 _ _ (w.heap.size + 1) #[.int .i64 b0, .int .i64 b1, .int .i64 b2, .int .i64 b3] (by rfl) (run_loadVar_row _ _ 70 70 _ (0, 0) _ ?_ Tryz.underlying70 rfl (by kernel_rfl))) rfl ⟨rfl, ?_⟩
  · exact (((k1_0.set_ 0 _ rfl).set_ 1 _ rfl).set_ 2 _ rfl).set_ 3 _ rfl
  · exact blw
theorem bounds_line (x y u v r : Int) (w : World) (x_0 : -536870912 ≤ x) (x_1 : x ≤ 536870912) (y_0 : -536870912 ≤ y) (y_1 : y ≤ 536870912) (u_0 : -536870912 ≤ u) (u_1 : u ≤ 536870912) (v_0 : -536870912 ≤ v) (v_1 : v ≤ 536870912) (r_0 : 1 ≤ r) (r_1 : r ≤ 536870912) :
    Calls Tryz.prog 172 #[.agg #[.int .i64 3, .int .i64 x, .int .i64 y, .int .i64 u, .int .i64 v, .int .i64 0, .int .i64 0, .int .i64 r, .slice none 0 0, .slice none 0 0]] w fun e w' => e = .returned (.tuple #[.agg (bxC (Geo.around 536870912 x y u v r)), .bool true]) ∧ Below w.heap.size w w' := by
  have n1 := fun w => around_c x y u v r w x_0 x_1 y_0 y_1 u_0 u_1 v_0 v_1 (by omega) r_1
  obtain ⟨b, eb⟩ : ∃ b, Geo.around 536870912 x y u v r = b := ⟨_, rfl⟩
  rw [eb] at n1 ⊢
  obtain ⟨b0, b1, b2, b3⟩ := b
  unfold bxC at n1 ⊢
  simp only [] at n1 ⊢
  have C1 := Lib.hid n1
  clear n1 eb
  go_enter Tryz.func172, Tryz.ntmps172
  go_wp2_with fail
  refine (C1.out _).mono ?_
  rintro e w1 ⟨rfl, hb⟩
  have hB1 : Below w.heap.size w w1 := Below.trans (by exact blw) (hb.mono (by first | omega | (simp; done) | (simp; omega)))
  have k1_0 : Blk w1 (w.heap.size + 1) 70 #[.int .i64 0, .int .i64 0, .int .i64 0, .int .i64 0] := Blk.below (by exact bkw) hb (by first | omega | (simp; done) | (simp; omega))
  have c1_0 := k1_0.cell
  have f1_0 := k1_0.frozen
  have l1_0 := k1_0.lt
  have l1 := hB1.size
  clear hb
  go_wp2_with fail
  refine bodyPost_ret (results_row_tmp Tryz.results172 _ _ (w.heap.size + 1) #[.int .i64 b0, .int .i64 b1, .int .i64 b2, .int .i64 b3] (by rfl) (run_loadVar_row _ _ 70 70 _ (0, 0) _ ?_ Tryz.underlying70 rfl (by kernel_rfl))) rfl ⟨rfl, ?_⟩
  · exact (((k1_0.set_ 0 _ rfl).set_ 1 _ rfl).set_ 2 _ rfl).set_ 3 _ rfl
  · exact blw
theorem bounds_poly (S : List Nat) (p : Option Addr) (n cap : Nat) (l : List (List Geo.Pt)) (w : World) (hP : PolyAt S w (.slice p n cap) l) (hF : FarOk l) (hl : l.length ≤ 100000) (hc : ∀ c ∈ l, c.length ≤ 100000) :
    Calls Tryz.prog 172 #[.agg #[.int .i64 2, .int .i64 0, .int .i64 0, .int .i64 0, .int .i64 0, .int .i64 0, .int .i64 0, .int .i64 0, .slice p n cap, .slice none 0 0]] w fun e w' => e = .returned (.tuple #[.agg (bxO (polyB l)), .bool (polyB l).isSome]) ∧ Below w.heap.size w w' := by
  have en : l.length = n := by
    obtain ⟨p1, c1, e1, _⟩ := hP
    injection e1 with _ e1 _
    exact e1.symm
  have HL := Lib.hid en
  have HF := Lib.hid hF
  have HC := Lib.hid hc
  have HP := Lib.hid hP
  have C1 := Lib.hid around_c
  have C2 := Lib.hid btake_c
  rw [en] at hl
  clear hP hF hc en
  go_enter Tryz.func172, Tryz.ntmps172
  go_wp2_with fail
  obtain ⟨u0, eu⟩ : ∃ u, (((w.alloc (.cells #[.int .i64 2, .int .i64 0, .int .i64 0, .int .i64 0, .int .i64 0, .int .i64 0, .int .i64 0, .int .i64 0, .slice p n cap, .slice none 0 0] 62)).alloc (.cells #[.int .i64 0, .int .i64 0, .int .i64 0, .int .i64 0] 70)).alloc (.cells #[.int .i64 0, .int .i64 0, .int .i64 0, .int .i64 0] 70)).alloc (.cells #[.bool false] 4) = u := ⟨_, rfl⟩
  have B0 : Below w.heap.size w u0 := by rw [← eu]; exact blw
  have kS0 : Blk u0 w.heap.size 62 #[.int .i64 2, .int .i64 0, .int .i64 0, .int .i64 0, .int .i64 0, .int .i64 0, .int .i64 0, .int .i64 0, .slice p n cap, .slice none 0 0] := by rw [← eu]; exact bkw
  have kR0 : Blk u0 (w.heap.size + 1) 70 #[.int .i64 0, .int .i64 0, .int .i64 0, .int .i64 0] := by rw [← eu]; exact bkw
  have kA0 : Blk u0 (w.heap.size + 1 + 1) 70 #[.int .i64 0, .int .i64 0, .int .i64 0, .int .i64 0] := by rw [← eu]; exact bkw
  have kF0 : Blk u0 (w.heap.size + 1 + 1 + 1) 4 #[.bool false] := by rw [← eu]; exact bkw
  have I0 := Lib.hid (And.intro kR0 (And.intro kA0 (And.intro kF0 (And.intro kS0 B0))))
  rw [eu]
  clear eu B0 kS0 kR0 kA0 kF0
  go_loopw [74] (fun i wr => ∃ k : Nat, i = .int .i64 (k : Int) ∧ k ≤ n ∧ ∃ z, z = polyB (l.take k) ∧ Blk wr (w.heap.size + 1) 70 #[.int .i64 0, .int .i64 0, .int .i64 0, .int .i64 0] ∧ Blk wr (w.heap.size + 1 + 1) 70 (bxO z) ∧ Blk wr (w.heap.size + 1 + 1 + 1) 4 #[.bool z.isSome] ∧ Blk wr w.heap.size 62 #[.int .i64 2, .int .i64 0, .int .i64 0, .int .i64 0, .int .i64 0, .int .i64 0, .int .i64 0, .int .i64 0, .slice p n cap, .slice none 0 0] ∧ Below w.heap.size w wr) (fun i wr => n - (intOf i).toNat)
  case atStart => exact ⟨0, rfl, Nat.zero_le _, none, by simp [polyB], I0.out⟩
  case round =>
  obtain ⟨k, rfl, hk, z, ez, j0, j1, j2, j3, hB⟩ := hrel
  by_cases hlt : k < n
  · have hkl : k < l.length := by rw [HL.out]; exact hlt
    obtain ⟨p1, cap1, e1, h1⟩ := HP.out
    obtain ⟨g1, rfl, _, lg1, h1⟩ := h1 (by intro e; rw [e] at hkl; simp at hkl)
    injection e1 with e1 e1n e1'
    subst e1 e1'
    clear e1n
    obtain ⟨u, hu0, p2, cap2, rfl, h2⟩ := h1 k hkl
    obtain ⟨m, em⟩ : ∃ m, (l[k]).length = m := ⟨_, rfl⟩
    have hm : m ≤ 100000 := by rw [← em]; exact HC.out _ (List.getElem_mem hkl)
    have hu := ((bcell hB).1 _ _ lg1).trans hu0
    rw [em] at hu
    have hst := polyB_succ l k hkl
    rw [← ez] at hst
    have PT : Hid (PtsAt S w (.slice p2 m cap2) l[k]) := Lib.hid ⟨p2, cap2, by rw [em], h2⟩
    have EM := Lib.hid em
    have HST := Lib.hid hst
    have I1 := Lib.hid (And.intro j0 (And.intro j1 (And.intro j2 (And.intro j3 hB))))
    have hw := hB.size
    have l3 := j3.lt
    clear h1 h2 hu0 em hst ez j0 j1 j2 j3 hB
    go_wp2_with fail
    go_loopw [80] (fun j wr => ∃ q : Nat, j = .int .i64 (q : Int) ∧ q ≤ m ∧ ∃ z', z' = ((l[k]).take q).foldl ub z ∧ Blk wr (w.heap.size + 1) 70 #[.int .i64 0, .int .i64 0, .int .i64 0, .int .i64 0] ∧ Blk wr (w.heap.size + 1 + 1) 70 (bxO z') ∧ Blk wr (w.heap.size + 1 + 1 + 1) 4 #[.bool z'.isSome] ∧ Blk wr w.heap.size 62 #[.int .i64 2, .int .i64 0, .int .i64 0, .int .i64 0, .int .i64 0, .int .i64 0, .int .i64 0, .int .i64 0, .slice (some ⟨g1, 0, none⟩) n cap, .slice none 0 0] ∧ Below w.heap.size w wr) (fun j wr => m - (intOf j).toNat)
    case atStart => exact ⟨0, rfl, Nat.zero_le _, z, by simp, I1.out⟩
    case round =>
    obtain ⟨q, rfl, hq, y, ey, j0, j1, j2, j3, hB⟩ := hrel
    clear hw l3 hu
    by_cases hlq : q < m
    · have hql : q < (l[k]).length := by rw [EM.out]; exact hlq
      obtain ⟨p3, cap3, e3, h3⟩ := PT.out.below hB (Nat.le_refl _)
      obtain ⟨g2, rfl, _, lg2, h3⟩ := h3 (by intro e; rw [e] at hql; simp at hql)
      injection e3 with e3 e3n e3'
      subst e3 e3'
      clear e3n
      obtain ⟨x0, x1⟩ := h3 q hql
      obtain ⟨⟨b1, b2⟩, b3, b4⟩ := HF.out.at hkl hql
      have hst : ((l[k]).take (q + 1)).foldl ub z = ub y (l[k])[q] := by
        rw [List.take_succ_eq_append_getElem hql, List.foldl_append, ← ey]; rfl
      obtain ⟨P, eP⟩ : ∃ P, (l[k])[q] = P := ⟨_, rfl⟩
      rw [eP] at x0 x1 b1 b2 b3 b4 hst
      obtain ⟨P1, P2⟩ := P
      simp only [] at x0 x1 b1 b2 b3 b4
      have ha := fun w => C1.out P1 P2 P1 P2 0 w b1 b2 b3 b4 b1 b2 b3 b4 (by omega) (by omega)
      have ea : Geo.around 536870912 P1 P2 P1 P2 0 = ⟨P1, P2, P1, P2⟩ := by
        unfold Geo.around
        congr 1 <;> omega
      rw [ea] at ha
      unfold bxC at ha
      simp only [] at ha
      have HA := Lib.hid ha
      have HST2 := Lib.hid hst
      have I2 := Lib.hid (And.intro j0 (And.intro j1 (And.intro j2 (And.intro j3 hB))))
      have hwx := hB.size
      have l0 := j0.lt
      have l1 := j1.lt
      have l2 := j2.lt
      have l3 := j3.lt
      clear h3 b1 b2 b3 b4 ha ea eP hst j0 j1 j2 j3 hB ey
      go_wp2_with fail
      refine (HA.out _).mono ?_
      rintro e z1 ⟨rfl, hb⟩
      have z0 := (I2.out.1.alloc (.cells #[.int .i64 P1, .int .i64 P2] 58)).below hb (by simp; omega)
      have zA := (I2.out.2.1.alloc (.cells #[.int .i64 P1, .int .i64 P2] 58)).below hb (by simp; omega)
      have zF := (I2.out.2.2.1.alloc (.cells #[.int .i64 P1, .int .i64 P2] 58)).below hb (by simp; omega)
      have zS := (I2.out.2.2.2.1.alloc (.cells #[.int .i64 P1, .int .i64 P2] 58)).below hb (by simp; omega)
      have zB := (I2.out.2.2.2.2.alloc hwx (.cells #[.int .i64 P1, .int .i64 P2] 58)).trans (hb.mono (by simp; omega))
      have lz := zB.size
      have ZI := Lib.hid (And.intro z0 (And.intro zA (And.intro zF (And.intro zS zB))))
      clear hb z0 zA zF zS zB x0 x1 l0 l1 l2 l3
      go_wp2_with fail
      refine (C2.out (w.heap.size + 1 + 1) (w.heap.size + 1 + 1 + 1) y P1 P2 _ ZI.out.2.1 ZI.out.2.2.1 (by omega)).mono ?_
      rintro e z2 ⟨rfl, kA, kF, hO⟩
      have k0 := hO.blk ZI.out.1 (by simp)
      have kS := hO.blk ZI.out.2.2.2.1 (by simp; omega)
      have kB := ZI.out.2.2.2.2.trans (hO.toBelow lz (by intro b hb; simp at hb; omega))
      have KI := Lib.hid (And.intro k0 (And.intro kA (And.intro kF (And.intro kS kB))))
      clear kA kF hO k0 kS kB
      go_wp2_with fail
      go_roundw
      case rel =>
        have hr2 : ∃ q' : Nat, Value.int .i64 ((q : Int) + 1) = .int .i64 (q' : Int) ∧ q' ≤ m ∧ ∃ z', z' = ((l[k]).take q').foldl ub z ∧ Blk z2 (w.heap.size + 1) 70 #[.int .i64 0, .int .i64 0, .int .i64 0, .int .i64 0] ∧ Blk z2 (w.heap.size + 1 + 1) 70 (bxO z') ∧ Blk z2 (w.heap.size + 1 + 1 + 1) 4 #[.bool z'.isSome] ∧ Blk z2 w.heap.size 62 #[.int .i64 2, .int .i64 0, .int .i64 0, .int .i64 0, .int .i64 0, .int .i64 0, .int .i64 0, .int .i64 0, .slice (some ⟨g1, 0, none⟩) n cap, .slice none 0 0] ∧ Below w.heap.size w z2 := ⟨q + 1, by go_num, by omega, _, HST2.out.symm, KI.out⟩
        first | exact hr2 | ((repeat apply Exists.intro); exact ⟨hr2, rfl⟩)
      case measure => simp [intOf]; omega
    · have e : q = m := by omega
      subst e
      have hE : y = polyB (l.take (k + 1)) := by
        rw [HST.out, ey, List.take_of_length_le (by rw [EM.out]; omega)]
      have HE := Lib.hid hE
      have I2 := Lib.hid (And.intro j0 (And.intro j1 (And.intro j2 (And.intro j3 hB))))
      clear hE ey j0 j1 j2 j3 hB EM PT HST I1
      go_wp2_with fail
      go_roundw
      case rel =>
        have hr2 : ∃ k' : Nat, Value.int .i64 ((k : Int) + 1) = .int .i64 (k' : Int) ∧ k' ≤ n ∧ ∃ z, z = polyB (l.take k') ∧ Blk wr (w.heap.size + 1) 70 #[.int .i64 0, .int .i64 0, .int .i64 0, .int .i64 0] ∧ Blk wr (w.heap.size + 1 + 1) 70 (bxO z) ∧ Blk wr (w.heap.size + 1 + 1 + 1) 4 #[.bool z.isSome] ∧ Blk wr w.heap.size 62 #[.int .i64 2, .int .i64 0, .int .i64 0, .int .i64 0, .int .i64 0, .int .i64 0, .int .i64 0, .int .i64 0, .slice (some ⟨g1, 0, none⟩) n cap, .slice none 0 0] ∧ Below w.heap.size w wr := ⟨k + 1, by go_num, by omega, y, HE.out, I2.out⟩
        first | exact hr2 | ((repeat apply Exists.intro); exact ⟨hr2, rfl⟩)
      case measure => simp [intOf]; omega
  · have e : k = n := by omega
    subst e
    rw [List.take_of_length_le (by rw [HL.out]; omega)] at ez
    subst ez
    obtain ⟨Z, eZ⟩ : ∃ Z, polyB l = Z := ⟨_, rfl⟩
    rw [eZ] at j1 j2
    have EZ := Lib.hid eZ
    clear eZ
    obtain ⟨c0, c1, c2, c3, ec⟩ : ∃ c0 c1 c2 c3, bxO Z = #[.int .i64 c0, .int .i64 c1, .int .i64 c2, .int .i64 c3] := by
      cases Z with
      | none => exact ⟨_, _, _, _, rfl⟩
      | some b => exact ⟨_, _, _, _, rfl⟩
    rw [ec] at j1
    have EC := Lib.hid ec
    have cS := j3.cell
    have ls := j3.lt
    have cA := j1.cell
    have la := j1.lt
    have cF := j2.cell
    have lf := j2.lt
    have cR := j0.cell
    have fR := j0.frozen
    have lr := j0.lt
    have KR := Lib.hid j0
    have HB := Lib.hid hB
    clear j0 j1 j2 j3 hB ec
    go_wp2_with fail
    refine wp_loop_rounds 1 ?_
    rw [rounds_succ]
    go_wp2_with fail
    go_region
    all_goals
      go_wp2_with fail
      refine bodyPost_ret (results_row_tmp Tryz.results172 _ _ (w.heap.size + 1) #[.int .i64 c0, .int .i64 c1, .int .i64 c2, .int .i64 c3] (by rfl) (run_loadVar_row _ _ 70 70 _ (0, 0) _ ?_ Tryz.underlying70 rfl (by kernel_rfl))) rfl ⟨by rw [EZ.out, EC.out]; rfl, ?_⟩
      · exact ((((KR.out.set_ 0 _ rfl).set_ 1 _ rfl).set_ 2 _ rfl).set_ 3 _ rfl).drew
      · have hB := HB.out
        exact blw
theorem boundsSh (S : List Nat) (s : Geo.Sh) (L : Value) (w : World) (hs : ShOk s) (hL : ShAt S w s L) :
    Calls Tryz.prog 172 #[.agg (shA s L)] w fun e w' => e = .returned (.tuple #[.agg (bxO (bnd s)), .bool (bnd s).isSome]) ∧ Below w.heap.size w w' := by
  cases s with
  | disc x y r => exact bounds_disc x y r w hs.1.1 hs.1.2 hs.2.1.1 hs.2.1.2 hs.2.2.1 hs.2.2.2
  | line x y u v r => exact bounds_line x y u v r w hs.1.1 hs.1.2 hs.2.1.1 hs.2.1.2 hs.2.2.1.1 hs.2.2.1.2 hs.2.2.2.1.1 hs.2.2.2.1.2 hs.2.2.2.2.1 hs.2.2.2.2.2
  | poly l =>
    have h : PolyAt S w L l := hL
    obtain ⟨p, cap, rfl, h2⟩ := h
    exact bounds_poly S p l.length cap l w ⟨p, cap, rfl, h2⟩ hs.1 hs.2.2 (fun c hc => by have := total_mem hc; have := hs.2.1; omega)
theorem bxO_form (z : Option Geo.Bx) : ∃ c0 c1 c2 c3, bxO z = #[.int .i64 c0, .int .i64 c1, .int .i64 c2, .int .i64 c3] := by
  cases z with
  | none => exact ⟨_, _, _, _, rfl⟩
  | some b => exact ⟨_, _, _, _, rfl⟩
theorem BoundsSh (S : List Nat) (s : Geo.Sh) (L : Value) (w : World) (hs : ShOk s) (hL : ShAt S w s L) :
    Calls Tryz.prog 112 #[.agg (shA s L)] w fun e w' => e = .returned (.tuple #[.agg (bxO (bnd s)), .bool (bnd s).isSome]) ∧ Below w.heap.size w w' := by
  have n1 := fun w h => okSh S s L w hs h
  have n2 := fun w h => boundsSh S s L w hs h
  obtain ⟨kd, x, y, p, q, r, l, e, _⟩ := shA_form s L
  rw [e] at n1 n2 ⊢
  obtain ⟨c0, c1, c2, c3, ec⟩ := bxO_form (bnd s)
  rw [ec] at n2 ⊢
  obtain ⟨K, eK⟩ : ∃ K, (bnd s).isSome = K := ⟨_, rfl⟩
  rw [eK] at n2 ⊢
  have C1 := Lib.hid n1
  have C2 := Lib.hid n2
  have HL := Lib.hid hL
  clear n1 n2 e eK ec hs hL
  go_enter Tryz.func112, Tryz.ntmps112
  go_wp2_with fail
  refine (C1.out _ ((HL.out.alloc _).alloc _)).mono ?_
  rintro e w1 ⟨rfl, hb⟩
  have hB1 : Below w.heap.size w w1 := Below.trans (by exact blw) (hb.mono (by first | omega | (simp; done) | (simp; omega)))
  have k1_0 : Blk w1 (w.heap.size) 62 #[.int .i64 kd, .int .i64 x, .int .i64 y, .int .i64 p, .int .i64 q, .int .i64 0, .int .i64 0, .int .i64 r, l, .slice none 0 0] := Blk.below (by exact bkw) hb (by first | omega | (simp; done) | (simp; omega))
  have k1_1 : Blk w1 (w.heap.size + 1) 70 #[.int .i64 0, .int .i64 0, .int .i64 0, .int .i64 0] := Blk.below (by exact bkw) hb (by first | omega | (simp; done) | (simp; omega))
  have c1_0 := k1_0.cell
  have f1_0 := k1_0.frozen
  have l1_0 := k1_0.lt
  have c1_1 := k1_1.cell
  have f1_1 := k1_1.frozen
  have l1_1 := k1_1.lt
  have l1 := hB1.size
  clear hb
  go_wp2_with fail
  refine (C2.out _ (HL.out.below hB1 (Nat.le_refl _))).mono ?_
  rintro e w2 ⟨rfl, hb⟩
  have hB2 : Below w.heap.size w w2 := Below.trans (by exact blw) (hb.mono (by first | omega | (simp; done) | (simp; omega)))
  have k2_0 : Blk w2 (w.heap.size + 1) 70 #[.int .i64 0, .int .i64 0, .int .i64 0, .int .i64 0] := Blk.below (by exact bkw) hb (by first | omega | (simp; done) | (simp; omega))
  have c2_0 := k2_0.cell
  have f2_0 := k2_0.frozen
  have l2_0 := k2_0.lt
  have l2 := hB2.size
  clear hb k1_0 k1_1 c1_0 c1_1 f1_0 f1_1 l1_0 l1_1
  go_wp2_with fail
  refine bodyPost_ret (results_row_tmp Tryz.results112 _ _ (w.heap.size + 1) #[.int .i64 c0, .int .i64 c1, .int .i64 c2, .int .i64 c3] (by rfl) (run_loadVar_row _ _ 70 70 _ (0, 0) _ ?_ Tryz.underlying70 rfl (by kernel_rfl))) rfl ⟨rfl, ?_⟩
  · exact (((k2_0.set_ 0 _ rfl).set_ 1 _ rfl).set_ 2 _ rfl).set_ 3 _ rfl
  · exact blw
end Go.Proofs.YtfajckkbinbpiaaGreatDoor
