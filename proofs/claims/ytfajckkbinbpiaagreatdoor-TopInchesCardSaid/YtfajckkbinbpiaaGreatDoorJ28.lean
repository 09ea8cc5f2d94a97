/- Walks: package figure: classes; what is folded. Walk: the class of a box in a pile of objects. -/
import Derived.LoopTactic
import Derived.Test.YtfajckkbinbpiaaGreatDoorJ21
namespace Go.Proofs.YtfajckkbinbpiaaGreatDoor
set_option maxRecDepth 100000
set_option maxHeartbeats 32000000
set_option linter.unusedVariables false
set_option linter.unusedSimpArgs false
open Go.RowKit
theorem class_disc (a b c d : Int) (x y r : Int) (w : World) (a_0 : -536870912 ≤ a) (a_1 : a ≤ 536870912) (b_0 : -536870912 ≤ b) (b_1 : b ≤ 536870912) (c_0 : -536870912 ≤ c) (c_1 : c ≤ 536870912) (d_0 : -536870912 ≤ d) (d_1 : d ≤ 536870912) (ac : a ≤ c) (bd : b ≤ d) (x_0 : -536870912 ≤ x) (x_1 : x ≤ 536870912) (y_0 : -536870912 ≤ y) (y_1 : y ≤ 536870912) (r_0 : 1 ≤ r) (r_1 : r ≤ 536870912) :
    Calls Tryz.prog 215 #[.agg #[.int .i64 1, .int .i64 x, .int .i64 y, .int .i64 0, .int .i64 0, .int .i64 0, .int .i64 0, .int .i64 r, .slice none 0 0, .slice none 0 0], .agg #[.int .i64 a, .int .i64 b, .int .i64 c, .int .i64 d]] w fun e w' => e = .returned (.int .i64 (Geo.discC ⟨a, b, c, d⟩ x y r)) ∧ Below w.heap.size w w' := by
  have n1 := fun w => discClass_c a b c d x y r w a_0 a_1 b_0 b_1 c_0 c_1 d_0 d_1 x_0 x_1 y_0 y_1 ac bd r_0 r_1
  obtain ⟨K, eK⟩ : ∃ K, Geo.discC ⟨a, b, c, d⟩ x y r = K := ⟨_, rfl⟩
  rw [eK] at n1 ⊢
  have C1 := Lib.hid n1
  clear n1 eK
  go_enter Tryz.func215, Tryz.ntmps215
  go_wp2_with fail
  refine (C1.out _).mono ?_
  rintro e w1 ⟨rfl, hb⟩
  have hB1 : Below w.heap.size w w1 := Below.trans (by exact blw) (hb.mono (by first | omega | (simp; done) | (simp; omega)))
  have l1 := hB1.size
  clear hb
  go_wp2_with fail
  go_ret
  exact ⟨rfl, hB1⟩
theorem class_line (a b c d : Int) (x y u v r : Int) (w : World) (a_0 : -536870912 ≤ a) (a_1 : a ≤ 536870912) (b_0 : -536870912 ≤ b) (b_1 : b ≤ 536870912) (c_0 : -536870912 ≤ c) (c_1 : c ≤ 536870912) (d_0 : -536870912 ≤ d) (d_1 : d ≤ 536870912) (ac : a ≤ c) (bd : b ≤ d) (x_0 : -536870912 ≤ x) (x_1 : x ≤ 536870912) (y_0 : -536870912 ≤ y) (y_1 : y ≤ 536870912) (u_0 : -536870912 ≤ u) (u_1 : u ≤ 536870912) (v_0 : -536870912 ≤ v) (v_1 : v ≤ 536870912) (r_0 : 1 ≤ r) (r_1 : r ≤ 536870912) :
    Calls Tryz.prog 215 #[.agg #[.int .i64 3, .int .i64 x, .int .i64 y, .int .i64 u, .int .i64 v, .int .i64 0, .int .i64 0, .int .i64 r, .slice none 0 0, .slice none 0 0], .agg #[.int .i64 a, .int .i64 b, .int .i64 c, .int .i64 d]] w fun e w' => e = .returned (.int .i64 (Geo.lineC ⟨a, b, c, d⟩ x y u v r)) ∧ Below w.heap.size w w' := by
  have n1 := fun w => lineClass_c a b c d x y u v r w a_0 a_1 b_0 b_1 c_0 c_1 d_0 d_1 x_0 x_1 y_0 y_1 u_0 u_1 v_0 v_1 ac bd r_0 r_1
  obtain ⟨K, eK⟩ : ∃ K, Geo.lineC ⟨a, b, c, d⟩ x y u v r = K := ⟨_, rfl⟩
  rw [eK] at n1 ⊢
  have C1 := Lib.hid n1
  clear n1 eK
  go_enter Tryz.func215, Tryz.ntmps215
  go_wp2_with fail
  refine (C1.out _).mono ?_
  rintro e w1 ⟨rfl, hb⟩
  have hB1 : Below w.heap.size w w1 := Below.trans (by exact blw) (hb.mono (by first | omega | (simp; done) | (simp; omega)))
  have l1 := hB1.size
  clear hb
  go_wp2_with fail
  go_ret
  exact ⟨rfl, hB1⟩
theorem class_poly (a b c d : Int) (S : List Nat) (p : Option Addr) (n cap : Nat) (l : List (List Geo.Pt)) (w : World) (a_0 : -536870912 ≤ a) (a_1 : a ≤ 536870912) (b_0 : -536870912 ≤ b) (b_1 : b ≤ 536870912) (c_0 : -536870912 ≤ c) (c_1 : c ≤ 536870912) (d_0 : -536870912 ≤ d) (d_1 : d ≤ 536870912) (ac : a ≤ c) (bd : b ≤ d) (hP : PolyAt S w (.slice p n cap) l) (hF : FarOk l) (hl : l.length ≤ 100000) (hc : ∀ c ∈ l, c.length ≤ 100000) :
    Calls Tryz.prog 215 #[.agg #[.int .i64 2, .int .i64 0, .int .i64 0, .int .i64 0, .int .i64 0, .int .i64 0, .int .i64 0, .int .i64 0, .slice p n cap, .slice none 0 0], .agg #[.int .i64 a, .int .i64 b, .int .i64 c, .int .i64 d]] w fun e w' => e = .returned (.int .i64 (Geo.polyC ⟨a, b, c, d⟩ l)) ∧ Below w.heap.size w w' := by
  have n1 := fun w h => polyClass_c a b c d S (.slice p n cap) l w h hF hl hc a_0 a_1 b_0 b_1 c_0 c_1 d_0 d_1 ac bd
  have HP := Lib.hid hP
  clear hP hF hc
  obtain ⟨K, eK⟩ : ∃ K, Geo.polyC ⟨a, b, c, d⟩ l = K := ⟨_, rfl⟩
  rw [eK] at n1 ⊢
  have C1 := Lib.hid n1
  clear n1 eK
  go_enter Tryz.func215, Tryz.ntmps215
  go_wp2_with fail
  refine (C1.out _ ((HP.out.alloc _).alloc _)).mono ?_
  rintro e w1 ⟨rfl, hb⟩
  have hB1 : Below w.heap.size w w1 := Below.trans (by exact blw) (hb.mono (by first | omega | (simp; done) | (simp; omega)))
  have l1 := hB1.size
  clear hb
  go_wp2_with fail
  go_ret
  exact ⟨rfl, hB1⟩
theorem classSh (S : List Nat) (s : Geo.Sh) (L : Value) (a b c d : Int) (w : World) (a_0 : -536870912 ≤ a) (a_1 : a ≤ 536870912) (b_0 : -536870912 ≤ b) (b_1 : b ≤ 536870912) (c_0 : -536870912 ≤ c) (c_1 : c ≤ 536870912) (d_0 : -536870912 ≤ d) (d_1 : d ≤ 536870912) (ac : a ≤ c) (bd : b ≤ d) (hs : ShOk s) (hL : ShAt S w s L) :
    Calls Tryz.prog 215 #[.agg (shA s L), .agg #[.int .i64 a, .int .i64 b, .int .i64 c, .int .i64 d]] w fun e w' => e = .returned (.int .i64 (s.cls ⟨a, b, c, d⟩)) ∧ Below w.heap.size w w' := by
  cases s with
  | disc x y r => exact class_disc a b c d x y r w a_0 a_1 b_0 b_1 c_0 c_1 d_0 d_1 ac bd hs.1.1 hs.1.2 hs.2.1.1 hs.2.1.2 hs.2.2.1 hs.2.2.2
  | line x y u v r => exact class_line a b c d x y u v r w a_0 a_1 b_0 b_1 c_0 c_1 d_0 d_1 ac bd hs.1.1 hs.1.2 hs.2.1.1 hs.2.1.2 hs.2.2.1.1 hs.2.2.1.2 hs.2.2.2.1.1 hs.2.2.2.1.2 hs.2.2.2.2.1 hs.2.2.2.2.2
  | poly l =>
    have h : PolyAt S w L l := hL
    obtain ⟨p, cap, rfl, h2⟩ := h
    exact class_poly a b c d S p l.length cap l w a_0 a_1 b_0 b_1 c_0 c_1 d_0 d_1 ac bd ⟨p, cap, rfl, h2⟩ hs.1 hs.2.2 (fun c hc => by have := total_mem hc; have := hs.2.1; omega)
theorem ClassSh (S : List Nat) (s : Geo.Sh) (L : Value) (a b c d : Int) (w : World) (a_0 : -536870912 ≤ a) (a_1 : a ≤ 536870912) (b_0 : -536870912 ≤ b) (b_1 : b ≤ 536870912) (c_0 : -536870912 ≤ c) (c_1 : c ≤ 536870912) (d_0 : -536870912 ≤ d) (d_1 : d ≤ 536870912) (ac : a ≤ c) (bd : b ≤ d) (hs : ShOk s) (hL : ShAt S w s L) :
    Calls Tryz.prog 176 #[.agg (shA s L), .agg #[.int .i64 a, .int .i64 b, .int .i64 c, .int .i64 d]] w fun e w' => e = .returned (.int .i64 (s.cls ⟨a, b, c, d⟩)) ∧ Below w.heap.size w w' := by
  have n1 := fun w h => okSh S s L w hs h
  have n2 := fun w h => classSh S s L a b c d w a_0 a_1 b_0 b_1 c_0 c_1 d_0 d_1 ac bd hs h
  obtain ⟨kd, x, y, p, q, r, l, e, _⟩ := shA_form s L
  rw [e] at n1 n2 ⊢
  obtain ⟨K, eK⟩ : ∃ K, s.cls ⟨a, b, c, d⟩ = K := ⟨_, rfl⟩
  rw [eK] at n2 ⊢
  have C1 := Lib.hid n1
  have C2 := Lib.hid n2
  have HL := Lib.hid hL
  clear n1 n2 e eK hs hL
  go_enter Tryz.func176, Tryz.ntmps176
  go_wp2_with fail
  refine (C1.out _ ((HL.out.alloc _).alloc _)).mono ?_
  rintro e w1 ⟨rfl, hb⟩
  have hB1 : Below w.heap.size w w1 := Below.trans (by exact blw) (hb.mono (by first | omega | (simp; done) | (simp; omega)))
  have k1_0 : Blk w1 (w.heap.size) 62 #[.int .i64 kd, .int .i64 x, .int .i64 y, .int .i64 p, .int .i64 q, .int .i64 0, .int .i64 0, .int .i64 r, l, .slice none 0 0] := Blk.below (by exact bkw) hb (by first | omega | (simp; done) | (simp; omega))
  have k1_1 : Blk w1 (w.heap.size + 1) 70 #[.int .i64 a, .int .i64 b, .int .i64 c, .int .i64 d] := Blk.below (by exact bkw) hb (by first | omega | (simp; done) | (simp; omega))
  have c1_0 := k1_0.cell
  have f1_0 := k1_0.frozen
  have l1_0 := k1_0.lt
  have c1_1 := k1_1.cell
  have f1_1 := k1_1.frozen
  have l1_1 := k1_1.lt
  have l1 := hB1.size
  clear hb
  go_wp2_with fail
  refine (C2.out _ (HL.out.below hB1 (Nat.le_refl _))).mono ?_
  rintro e w2 ⟨rfl, hb⟩
  have hB2 : Below w.heap.size w w2 := Below.trans (by exact blw) (hb.mono (by first | omega | (simp; done) | (simp; omega)))
  have l2 := hB2.size
  clear hb
  go_wp2_with fail
  go_ret
  exact ⟨rfl, hB2⟩
theorem fold_c (was k : Int) (add : Bool) (w : World) (h1 : was = 0 ∨ was = 1 ∨ was = 2) (h2 : k = 0 ∨ k = 1 ∨ k = 2) :
    Calls Tryz.prog 175 #[.int .i64 was, .int .i64 k, .bool add] w fun e w' => e = .returned (.int .i64 (Geo.fold was k add)) ∧ Below w.heap.size w w' := by
  rcases h1 with rfl | rfl | rfl <;> rcases h2 with rfl | rfl | rfl <;> cases add <;>
  · go_enter Tryz.func175, Tryz.ntmps175
    go_wp2
    go_ret
    exact ⟨rfl, Below.refl _ _⟩
theorem pcls_succ (l : List Obj2) (b : Geo.Bx) (k : Nat) (hk : k < l.length) : Geo.pcls ((l.take (k + 1)).map (·.1)) b = Geo.fold (Geo.pcls ((l.take k).map (·.1)) b) ((l[k]).1.2.cls b) (l[k]).1.1 := by
  rw [List.take_succ_eq_append_getElem hk]
  simp only [Geo.pcls, List.map_append, List.foldl_append, List.map_cons, List.map_nil, List.foldl_cons, List.foldl_nil]
theorem pileClass_c (S : List Nat) (v : Value) (ol : List Obj2) (a b c d : Int) (w : World) (a_0 : -536870912 ≤ a) (a_1 : a ≤ 536870912) (b_0 : -536870912 ≤ b) (b_1 : b ≤ 536870912) (c_0 : -536870912 ≤ c) (c_1 : c ≤ 536870912) (d_0 : -536870912 ≤ d) (d_1 : d ≤ 536870912) (ac : a ≤ c) (bd : b ≤ d) (hO : ObjsAt S w v ol) (hs : ∀ o ∈ ol, ShOk o.1.2) (hl : ol.length ≤ 100000) :
    Calls Tryz.prog 116 #[v, .agg #[.int .i64 a, .int .i64 b, .int .i64 c, .int .i64 d]] w fun e w' => e = .returned (.int .i64 (Geo.pcls (ol.map (·.1)) ⟨a, b, c, d⟩)) ∧ Below w.heap.size w w' := by
  have n1 := fun s L w hs h => ClassSh S s L a b c d w a_0 a_1 b_0 b_1 c_0 c_1 d_0 d_1 ac bd hs h
  obtain ⟨n, en⟩ : ∃ n, ol.length = n := ⟨_, rfl⟩
  have HL := Lib.hid en
  have HS := Lib.hid hs
  have C1 := Lib.hid n1
  have HO := Lib.hid hO
  obtain ⟨p, cap, rfl⟩ := hO.1.len
  rw [en] at hl HO ⊢
  clear en hs n1 hO a_0 a_1 b_0 b_1 c_0 c_1 d_0 d_1
  go_enter Tryz.func116, Tryz.ntmps116
  go_wp2_with fail
  go_loopw [5, 10] (fun z i wr => ∃ k : Nat, i = .int .i64 (k : Int) ∧ z = .int .i64 (Geo.pcls ((ol.take k).map (·.1)) ⟨a, b, c, d⟩) ∧ k ≤ n ∧ Blk wr w.heap.size 70 #[.int .i64 a, .int .i64 b, .int .i64 c, .int .i64 d] ∧ Below w.heap.size w wr) (fun z i wr => n - (intOf i).toNat)
  case atStart => exact ⟨0, rfl, by simp [Geo.pcls], Nat.zero_le _, by exact bkw, by exact blw⟩
  case round =>
  obtain ⟨k, rfl, rfl, hk, j0, hB⟩ := hrel
  obtain ⟨Z, eZ⟩ : ∃ Z, Geo.pcls ((ol.take k).map (·.1)) ⟨a, b, c, d⟩ = Z := ⟨_, rfl⟩
  rw [eZ]
  by_cases hlt : k < n
  · have hkl : k < ol.length := by rw [HL.out]; exact hlt
    have hO2 := HO.out.below hB (Nat.le_refl _)
    obtain ⟨g1, cap1, kd, x, y, p_, q, r, lp, ln, lc, e1, _, lg1, hsh, q0, q1, q2, q3, q4, q5, q6, q7, q8, q9, q10⟩ := hO2.at k hkl
    rw [HL.out] at e1
    injection e1 with e1 _ e1'
    subst e1 e1'
    have hst := pcls_succ ol ⟨a, b, c, d⟩ k hkl
    have hZr := Geo.pcls_range ((ol.take k).map (·.1)) ⟨a, b, c, d⟩
    have hKr := Geo.Sh.cls_range (ol[k]).1.2 ⟨a, b, c, d⟩
    have hshat := hO2.2 _ (List.getElem_mem hkl)
    have hm := C1.out (ol[k]).1.2 (ol[k]).2
    obtain ⟨K, eK⟩ : ∃ K, (ol[k]).1.2.cls ⟨a, b, c, d⟩ = K := ⟨_, rfl⟩
    obtain ⟨dk, edk⟩ : ∃ K, (ol[k]).1.1 = K := ⟨_, rfl⟩
    rw [hsh, eK] at hm
    rw [eZ, eK, edk] at hst
    rw [eZ] at hZr
    rw [eK] at hKr
    rw [edk] at q0
    have HM := Lib.hid (fun w h => hm w (HS.out _ (List.getElem_mem hkl)) h)
    have HF := Lib.hid (fun w => fold_c Z K dk w hZr hKr)
    have HSH := Lib.hid hshat
    have HST := Lib.hid hst
    have J0 := Lib.hid j0
    have HB := Lib.hid hB
    have lb := j0.lt
    have hwr := hB.size
    clear hO2 hsh hst hZr hKr hshat hm eK edk eZ j0 hB
    go_wp2_with fail
    obtain ⟨vv, ev⟩ : ∃ v, wr.alloc (.cells #[.bool dk, .int .i64 kd, .int .i64 x, .int .i64 y, .int .i64 p_, .int .i64 q, .int .i64 0, .int .i64 0, .int .i64 r, .slice lp ln lc, .slice none 0 0] 65) = v := ⟨_, rfl⟩
    have bv : Below wr.heap.size wr vv := by rw [← ev]; exact blw
    have kp : Blk vv wr.heap.size 65 #[.bool dk, .int .i64 kd, .int .i64 x, .int .i64 y, .int .i64 p_, .int .i64 q, .int .i64 0, .int .i64 0, .int .i64 r, .slice lp ln lc, .slice none 0 0] := by rw [← ev]; exact bkw
    have kb := J0.out.below bv lb
    have sv := bv.size
    rw [ev]
    have z0 := cell_regrown (show vv.cell? ⟨w.heap.size, 0, none⟩ = some (.int .i64 a) from kb.cell 0)
    have z1 := cell_regrown (show vv.cell? ⟨w.heap.size, 1, none⟩ = some (.int .i64 b) from kb.cell 1)
    have z2 := cell_regrown (show vv.cell? ⟨w.heap.size, 2, none⟩ = some (.int .i64 c) from kb.cell 2)
    have z3 := cell_regrown (show vv.cell? ⟨w.heap.size, 3, none⟩ = some (.int .i64 d) from kb.cell 3)
    have y0 := cell_regrown (show vv.cell? ⟨wr.heap.size, 0, none⟩ = some (.bool dk) from kp.cell 0)
    have y1 := cell_regrown (show vv.cell? ⟨wr.heap.size, 1, none⟩ = some (.int .i64 kd) from kp.cell 1)
    have y2 := cell_regrown (show vv.cell? ⟨wr.heap.size, 2, none⟩ = some (.int .i64 x) from kp.cell 2)
    have y3 := cell_regrown (show vv.cell? ⟨wr.heap.size, 3, none⟩ = some (.int .i64 y) from kp.cell 3)
    have y4 := cell_regrown (show vv.cell? ⟨wr.heap.size, 4, none⟩ = some (.int .i64 p_) from kp.cell 4)
    have y5 := cell_regrown (show vv.cell? ⟨wr.heap.size, 5, none⟩ = some (.int .i64 q) from kp.cell 5)
    have y6 := cell_regrown (show vv.cell? ⟨wr.heap.size, 6, none⟩ = some (.int .i64 0) from kp.cell 6)
    have y7 := cell_regrown (show vv.cell? ⟨wr.heap.size, 7, none⟩ = some (.int .i64 0) from kp.cell 7)
    have y8 := cell_regrown (show vv.cell? ⟨wr.heap.size, 8, none⟩ = some (.int .i64 r) from kp.cell 8)
    have y9 := cell_regrown (show vv.cell? ⟨wr.heap.size, 9, none⟩ = some (.slice lp ln lc) from kp.cell 9)
    have y10 := cell_regrown (show vv.cell? ⟨wr.heap.size, 10, none⟩ = some (.slice none 0 0) from kp.cell 10)
    have m1 : ∀ d' os, Calls Tryz.prog 176 #[.agg #[.int .i64 kd, .int .i64 x, .int .i64 y, .int .i64 p_, .int .i64 q, .int .i64 0, .int .i64 0, .int .i64 r, .slice lp ln lc, .slice none 0 0], .agg #[.int .i64 a, .int .i64 b, .int .i64 c, .int .i64 d]] (Go.Sort.grow (redrawn vv d') os) fun e w'' => e = .returned (.int .i64 K) ∧ ∃ p : Regrown, w'' = Go.Sort.grow (redrawn vv p.d) p.os := fun d' os => Calls.regrown_of (HM.out _ ((HSH.out.below bv (Nat.le_refl _)).below (below_regrown _ _ _) (Nat.le_refl _)))
    have m2 : ∀ d' os, Calls Tryz.prog 175 #[.int .i64 Z, .int .i64 K, .bool dk] (Go.Sort.grow (redrawn vv d') os) fun e w'' => e = .returned (.int .i64 (Geo.fold Z K dk)) ∧ ∃ p : Regrown, w'' = Go.Sort.grow (redrawn vv p.d) p.os := fun d' os => Calls.regrown_of (HF.out _)
    obtain ⟨FZ, eFZ⟩ : ∃ f, Geo.fold Z K dk = f := ⟨_, rfl⟩
    rw [eFZ] at m2
    have EFZ := Lib.hid eFZ
    have M1 := Lib.hid m1
    have M2 := Lib.hid m2
    have BV := Lib.hid bv
    clear m1 m2 ev kp kb bv eFZ q0 q1 q2 q3 q4 q5 q6 q7 q8 q9 q10
    refine wp_region_quiet_below (by kernel_rfl) (by kernel_rfl) ?_
    repeat (first | go_big_quiet_step (first | (with_reducible exact M1.out _ _) | (with_reducible exact M2.out _ _)) | quiet_step (first | (with_reducible exact M1.out _ _) | (with_reducible exact M2.out _ _)))
    refine wpQuiet_nil ?_
    intro w1 hw'
    have hb : Below vv.heap.size vv w1 := by obtain ⟨p, rfl⟩ := hw'; exact below_regrown _ _ _
    have HB1 := Lib.hid (BV.out.trans (hb.mono sv))
    clear hw' hb z0 z1 z2 z3 y0 y1 y2 y3 y4 y5 y6 y7 y8 y9 y10
    go_wp2_with fail
    go_roundw
    case rel =>
      have hr2 : ∃ k' : Nat, Value.int .i64 ((k : Int) + 1) = .int .i64 (k' : Int) ∧ Value.int .i64 FZ = .int .i64 (Geo.pcls ((ol.take k').map (·.1)) ⟨a, b, c, d⟩) ∧ k' ≤ n ∧ Blk w1 w.heap.size 70 #[.int .i64 a, .int .i64 b, .int .i64 c, .int .i64 d] ∧ Below w.heap.size w w1 := ⟨k + 1, by go_num, by rw [HST.out, EFZ.out], by omega, J0.out.below HB1.out lb, HB.out.trans (HB1.out.mono hwr)⟩
      first | exact hr2 | ((repeat apply Exists.intro); exact ⟨hr2, rfl⟩)
    case measure => simp [intOf]; omega
  · have e : k = n := by omega
    subst e
    have hE : Geo.pcls (ol.map (·.1)) ⟨a, b, c, d⟩ = Z := by
      rw [List.take_of_length_le (by rw [HL.out]; omega)] at eZ
      exact eZ
    have HE := Lib.hid hE
    have HB := Lib.hid hB
    clear hE eZ hB j0
    go_wp2_with fail
    go_ret
    exact ⟨by rw [HE.out]; rfl, HB.out⟩
end Go.Proofs.YtfajckkbinbpiaaGreatDoor
