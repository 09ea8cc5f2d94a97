/- Walk: the group of objects that have bounds. Walks: the meter of steps, any. -/
import Derived.IntWalk
import Derived.Laws.LoneSync
import Derived.Laws.Pointers
import Derived.Test.YtfajckkbinbpiaaGreatDoorJ25
import Derived.Test.YtfajckkbinbpiaaGreatDoorJ26
import Derived.Test.YtfajckkbinbpiaaGreatDoorJ30
namespace Go.Proofs.YtfajckkbinbpiaaGreatDoor
set_option maxRecDepth 100000
set_option maxHeartbeats 32000000
set_option linter.unusedVariables false
set_option linter.unusedSimpArgs false
open Go.RowKit
def reachL (l : List Obj2) : List Ent2 := l.filterMap fun o => (bnd o.1.2).map fun b => ((o.1, b), o.2)
theorem reachL_succ (l : List Obj2) (k : Nat) (h : k < l.length) : reachL (l.take (k + 1)) = reachL (l.take k) ++ (match bnd l[k].1.2 with | none => [] | some b => [((l[k].1, b), l[k].2)]) := by
  rw [List.take_succ_eq_append_getElem h]
  unfold reachL
  rw [List.filterMap_append]
  congr 1
  cases hb : bnd l[k].1.2 with
  | none => simp [hb]
  | some b => simp [hb]
theorem reachL_len (l : List Obj2) : (reachL l).length ≤ l.length := List.length_filterMap_le _ _
theorem reachL_mem {l : List Obj2} {e : Ent2} (h : e ∈ reachL l) : ∃ o ∈ l, bnd o.1.2 = some e.1.2 ∧ e.1.1 = o.1 ∧ e.2 = o.2 := by
  obtain ⟨o, ho, he⟩ := List.mem_filterMap.1 h
  cases hb : bnd o.1.2 with
  | none => rw [hb] at he; cases he
  | some b =>
    rw [hb] at he
    simp only [Option.map_some, Option.some.injEq] at he
    subst he
    exact ⟨o, ho, hb, rfl, rfl⟩
theorem hasBarX (s : Geo.Sh) (L : Value) (w : World) :
    Calls Tryz.prog 113 #[.agg (shA s L)] w fun e w' => e = .returned (.bool false) ∧ w' = w.alloc (.cells (shA s L) 62) := by
  cases s <;> simp only [shA] <;>
  · go_enter Tryz.func113, Tryz.ntmps113
    go_wp2_with fail
    refine wp_loop_rounds 1 ?_
    rw [rounds_succ]
    go_wp2_with fail
    go_ret
    exact ⟨rfl, rfl⟩
theorem reach_c (S : List Nat) (v : Value) (ol : List Obj2) (w : World) (hO : ObjsAt S w v ol) (hS : ∀ b ∈ S, b < w.heap.size) (hl : ol.length ≤ 100000) (hs : ∀ o ∈ ol, ShOk o.1.2) :
    Calls Tryz.prog 72 #[v] w fun e w' => ∃ u1 u2, e = .returned (.agg #[u1, u2]) ∧ GroupAt S w' u1 u2 (reachL ol) ∧ Below w.heap.size w w' := by
  obtain ⟨n, en⟩ : ∃ n, ol.length = n := ⟨_, rfl⟩
  obtain ⟨p1, cap1, rfl⟩ := hO.1.len
  rw [en] at hl hO ⊢
  have HL := Lib.hid en
  have HO := Lib.hid hO
  have HSO := Lib.hid hs
  have HS := Lib.hid hS
  have HBD := Lib.hid BoundsSh
  have HBX := Lib.hid hasBarX
  clear en hO hs hS
  obtain ⟨i48, hi48, hz0, hz1, hz2⟩ := info_parts info48
  have HI := Lib.hid (And.intro hi48 (And.intro hz0 (And.intro hz1 hz2)))
  have hZ : Hid ((Value.agg #[.bool false, .int .i64 0, .int .i64 0, .int .i64 0, .int .i64 0, .int .i64 0, .int .i64 0, .int .i64 0, .int .i64 0, .slice none 0 0, .slice none 0 0]).cells.size = 11) := Lib.hid (by kernel_rfl)
  obtain ⟨i251, hi251, he0, he1, he2⟩ := info_parts info251
  have HJ := Lib.hid (And.intro hi251 (And.intro he0 (And.intro he1 he2)))
  have hY : Hid ((Value.agg #[.int .i64 0, .int .i64 0, .int .i64 0, .int .i64 0, .bool false]).cells.size = 5) := Lib.hid (by kernel_rfl)
  clear hi48 hz0 hz1 hz2 hi251 he0 he1 he2
  go_enter Tryz.func72, Tryz.ntmps72
  go_wp2_with fail
  obtain ⟨u0, eu⟩ : ∃ u, (w.alloc (.cells #[.slice none 0 0, .slice none 0 0] 169)).alloc (.cells #[.slice none 0 0, .slice none 0 0] 169) = u := ⟨_, rfl⟩
  have B0 : Below w.heap.size w u0 := by rw [← eu]; exact blw
  have kR : Blk u0 w.heap.size 169 #[.slice none 0 0, .slice none 0 0] := by rw [← eu]; exact bkw
  have kr : Blk u0 (w.heap.size + 1) 169 #[.slice none 0 0, .slice none 0 0] := by rw [← eu]; exact bkw
  have KK := Lib.hid (And.intro kR (And.intro kr B0))
  rw [eu]
  clear eu B0 kR kr
  go_loopw [10] (fun i wr => ∃ k : Nat, i = .int .i64 (k : Int) ∧ k ≤ n ∧ Lay w w.heap.size (w.heap.size + 1) (reachL (ol.take k)) wr ∧ Blk wr w.heap.size 169 #[.slice none 0 0, .slice none 0 0]) (fun i wr => n - (intOf i).toNat)
  case atStart => exact ⟨0, rfl, Nat.zero_le _, ⟨⟨none, 0, none, 0, KK.out.2.1, World.ownsRow_nil _ _ _ _, World.ownsRow_nil _ _ _ _⟩, KK.out.2.2⟩, KK.out.1⟩
  case round =>
  obtain ⟨k, rfl, hk, ⟨⟨s1, d1, s2, d2, jr, o1, o2⟩, hB⟩, jR⟩ := hrel
  clear KK
  by_cases hlt : k < n
  · have hkl : k < ol.length := by rw [HL.out]; exact hlt
    have hO2 := HO.out.below hB (Nat.le_refl _)
    obtain ⟨b1, cp1, kd, x, y, p_, q, r, lp, ln, lc, eo, _, lb1, hsh, q0, q1, q2, q3, q4, q5, q6, q7, q8, q9, q10⟩ := hO2.at k hkl
    rw [HL.out] at eo
    injection eo with eo _ eo'
    subst eo eo'
    obtain ⟨m, em⟩ : ∃ m, (reachL (ol.take k)).length = m := ⟨_, rfl⟩
    have hmk : m ≤ n := by
      rw [← em]
      have h8 := reachL_len (ol.take k)
      rw [List.length_take] at h8
      omega
    have hst := reachL_succ ol k hkl
    have hok := HSO.out _ (List.getElem_mem hkl)
    have hat := HO.out.2 _ (List.getElem_mem hkl)
    obtain ⟨E, eE⟩ : ∃ E, ol[k] = E := ⟨_, rfl⟩
    rw [eE] at hst hok hsh q0 hat
    have hoc : oCells E = [.bool E.1.1, .int .i64 kd, .int .i64 x, .int .i64 y, .int .i64 p_, .int .i64 q, .int .i64 0, .int .i64 0, .int .i64 r, .slice lp ln lc, .slice none 0 0] := by unfold oCells; rw [hsh]
    have hbd := fun w h => HBD.out S E.1.2 E.2 w hok h
    have hbx := fun w => HBX.out E.1.2 E.2 w
    rw [hsh] at hbd hbx
    obtain ⟨dk, edk⟩ : ∃ f, E.1.1 = f := ⟨_, rfl⟩
    rw [edk] at q0 hoc
    rw [em] at jr o1 o2
    obtain ⟨Z, eZ⟩ : ∃ Z, bnd E.1.2 = Z := ⟨_, rfl⟩
    rw [eZ] at hbd hst
    have HST := Lib.hid hst
    have HOC := Lib.hid hoc
    have EM := Lib.hid em
    have JR := Lib.hid jr
    have JR2 := Lib.hid jR
    have O1 := Lib.hid o1
    have O2 := Lib.hid o2
    have HB := Lib.hid hB
    have HBE := Lib.hid hbd
    have HBB := Lib.hid hbx
    have HAT := Lib.hid hat
    have lw := hB.size
    have lr := jr.lt
    have lR := jR.lt
    clear hO2 hst hok hsh eE hoc hbd hbx edk em eZ jr jR o1 o2 hB hat
    cases Z with
    | none =>
      have e5 : reachL (ol.take (k + 1)) = reachL (ol.take k) := by rw [HST.out]; simp
      have E5 := Lib.hid e5
      have hbd := HBE.out
      simp only [bxO, Option.isSome_none] at hbd
      have HBE := Lib.hid hbd
      clear e5 HST hbd
      go_wp2_with fail
      refine (HBE.out _ ((HAT.out.below HB.out (Nat.le_refl _)).alloc _)).mono ?_
      rintro e w1 ⟨rfl, hb⟩
      have hbw : Below wr.heap.size wr w1 := ((Below.refl _ _).alloc (Nat.le_refl _) (.cells #[.bool dk, .int .i64 kd, .int .i64 x, .int .i64 y, .int .i64 p_, .int .i64 q, .int .i64 0, .int .i64 0, .int .i64 r, .slice lp ln lc, .slice none 0 0] 65)).trans (hb.mono (by first | (simp; done) | (simp; omega)))
      obtain ⟨W1, eW1⟩ : ∃ W, w1.alloc (.cells #[.int .i64 0, .int .i64 0, .int .i64 0, .int .i64 0] 70) = W := ⟨_, rfl⟩
      have hbW : Below wr.heap.size wr W1 := by rw [← eW1]; exact hbw.alloc hbw.size _
      have HL2 : Hid (Lay w w.heap.size (w.heap.size + 1) (reachL (ol.take (k + 1))) W1) := Lib.hid ⟨⟨s1, d1, s2, d2, by rw [E5.out, EM.out]; exact JR.out.below hbW lr, by rw [E5.out, EM.out]; exact own_below O1.out hbW (Nat.le_refl _), by rw [E5.out, EM.out]; exact own_below O2.out hbW (Nat.le_refl _)⟩, HB.out.trans (hbW.mono lw)⟩
      have HK := Lib.hid (JR2.out.below hbW lR)
      have EW := Lib.hid eW1
      clear hb hbw hbW eW1
      go_wp2_with fail
      rw [EW.out]
      go_roundw
      case rel =>
        have hr2 : ∃ k' : Nat, Value.int .i64 ((k : Int) + 1) = .int .i64 (k' : Int) ∧ k' ≤ n ∧ Lay w w.heap.size (w.heap.size + 1) (reachL (ol.take k')) W1 ∧ Blk W1 w.heap.size 169 #[.slice none 0 0, .slice none 0 0] := ⟨k + 1, by go_num, by omega, HL2.out, HK.out⟩
        first | exact hr2 | ((repeat apply Exists.intro); exact ⟨hr2, rfl⟩)
      case measure => simp [intOf]; omega
    | some bb =>
      obtain ⟨f0, f1, f2, f3⟩ := bb
      have e5 : reachL (ol.take (k + 1)) = reachL (ol.take k) ++ [((E.1, ⟨f0, f1, f2, f3⟩), E.2)] := by rw [HST.out]
      have E5 := Lib.hid e5
      have hbd := HBE.out
      simp only [bxO, bxC, Option.isSome_some] at hbd
      have HBE := Lib.hid hbd
      have hec : eCells ((E.1, ⟨f0, f1, f2, f3⟩), E.2) = [.int .i64 f0, .int .i64 f1, .int .i64 f2, .int .i64 f3, .bool false] := rfl
      have HEC := Lib.hid hec
      clear e5 HST hbd hec
      go_wp2_with fail
      refine (HBE.out _ ((HAT.out.below HB.out (Nat.le_refl _)).alloc _)).mono ?_
      rintro e w1 ⟨rfl, hb⟩
      have hbw : Below wr.heap.size wr w1 := ((Below.refl _ _).alloc (Nat.le_refl _) (.cells #[.bool dk, .int .i64 kd, .int .i64 x, .int .i64 y, .int .i64 p_, .int .i64 q, .int .i64 0, .int .i64 0, .int .i64 r, .slice lp ln lc, .slice none 0 0] 65)).trans (hb.mono (by first | (simp; done) | (simp; omega)))
      have kE : Blk w1 wr.heap.size 65 #[.bool dk, .int .i64 kd, .int .i64 x, .int .i64 y, .int .i64 p_, .int .i64 q, .int .i64 0, .int .i64 0, .int .i64 r, .slice lp ln lc, .slice none 0 0] := (Blk.newAt (w := wr) rfl).below hb (by simp)
      have j1 := JR.out.below hbw lr
      have j4 := JR2.out.below hbw lR
      have oo1 := own_below O1.out hbw (Nat.le_refl _)
      have oo2 := own_below O2.out hbw (Nat.le_refl _)
      have hB1 := HB.out.trans (hbw.mono lw)
      have cE := kE.cell
      have lE := kE.lt
      have cR1 := j1.cell
      have fR1 := j1.frozen
      have lR1 := j1.lt
      obtain ⟨v1, ev1⟩ : ∃ x, w1.alloc (.cells #[.int .i64 f0, .int .i64 f1, .int .i64 f2, .int .i64 f3] 70) = x := ⟨_, rfl⟩
      have hN : ∀ j v, ([.bool dk, .int .i64 kd, .int .i64 x, .int .i64 y, .int .i64 p_, .int .i64 q, .int .i64 0, .int .i64 0, .int .i64 r, .slice lp ln lc, .slice none 0 0] : List Value)[j]? = some v → (v1.alloc (.cells #[.bool dk, .int .i64 kd, .int .i64 x, .int .i64 y, .int .i64 p_, .int .i64 q, .int .i64 0, .int .i64 0, .int .i64 r, .slice lp ln lc, .slice none 0 0] 65)).cell? ((⟨v1.heap.size, 0, none⟩ : Addr).add j) = some v :=
        World.news_of_block (cs := #[.bool dk, .int .i64 kd, .int .i64 x, .int .i64 y, .int .i64 p_, .int .i64 q, .int .i64 0, .int .i64 0, .int .i64 r, .slice lp ln lc, .slice none 0 0]) (Blk.newAt (w := v1) rfl)
      have o1v : v1.ownsRow w.heap.size 65 11 (.slice s1 m d1) m (gO (reachL (ol.take k))) := by rw [← ev1]; exact oo1.alloc _
      have o2v : v1.ownsRow w.heap.size 224 5 (.slice s2 m d2) m (gE (reachL (ol.take k))) := by rw [← ev1]; exact oo2.alloc _
      have jRv : Blk v1 (w.heap.size + 1) 169 #[.slice s1 m d1, .slice s2 m d2] := by rw [← ev1]; exact j1.alloc _
      have jZv : Blk v1 w.heap.size 169 #[.slice none 0 0, .slice none 0 0] := by rw [← ev1]; exact j4.alloc _
      have jEv : Blk v1 wr.heap.size 65 #[.bool dk, .int .i64 kd, .int .i64 x, .int .i64 y, .int .i64 p_, .int .i64 q, .int .i64 0, .int .i64 0, .int .i64 r, .slice lp ln lc, .slice none 0 0] := by rw [← ev1]; exact kE.alloc _
      have jBv : Blk v1 w1.heap.size 70 #[.int .i64 f0, .int .i64 f1, .int .i64 f2, .int .i64 f3] := by rw [← ev1]; exact Blk.new _ _ _
      have hBv : Below w.heap.size w v1 := by rw [← ev1]; exact hB1.alloc hB1.size _
      have hO : (v1.alloc (.cells #[.bool dk, .int .i64 kd, .int .i64 x, .int .i64 y, .int .i64 p_, .int .i64 q, .int .i64 0, .int .i64 0, .int .i64 r, .slice lp ln lc, .slice none 0 0] 65)).ownsRow w.heap.size 65 11 (.slice s1 m d1) m (gO (reachL (ol.take k))) := o1v.alloc _
      have HN := Lib.hid hN
      have HOX := Lib.hid hO
      have o1lt : ∀ b', (Value.slice s1 m d1).ownBlock = some b' → b' < wr.heap.size := fun b' h => own_lt O1.out h
      have OLT := Lib.hid o1lt
      have hn1 : ¬ wr.heap.size = w.heap.size + 1 := by omega
      have hn2 : ¬ w1.heap.size = w.heap.size + 1 := by omega
      have N12 := Lib.hid (And.intro hn1 hn2)
      have HON := Lib.hid (obj_one dk kd x y p_ q r lp ln lc)
      have VV := Lib.hid (And.intro jRv (And.intro jZv (And.intro jEv (And.intro jBv (And.intro o2v hBv)))))
      have cv1 := jEv.cell
      have lv1 := jEv.lt
      have cv2 := jRv.cell
      have fv2 := jRv.frozen
      have lv2 := jRv.lt
      have svv := hBv.size
      have EV1 := Lib.hid ev1
      have m1 : m + 1 ≤ maxLen := by unfold maxLen; omega
      have m2 : (m + 1) * 120 ≤ 140737488355328 := by omega
      have m3 : (m + 1) * 40 ≤ 140737488355328 := by omega
      have m4 : w.heap.size ≤ (v1.alloc (.cells #[.bool dk, .int .i64 kd, .int .i64 x, .int .i64 y, .int .i64 p_, .int .i64 q, .int .i64 0, .int .i64 0, .int .i64 r, .slice lp ln lc, .slice none 0 0] 65)).heap.size := by first | (simp; done) | (simp; omega)
      have MM := Lib.hid (And.intro m1 (And.intro m2 (And.intro m3 m4)))
      clear hb hbw hN hO o1lt hn1 hn2 j1 j4 kE oo1 oo2 hB1 o1v o2v jRv jZv jEv jBv hBv ev1 q0 q1 q2 q3 q4 q5 q6 q7 q8 q9 q10 lr lR m1 m2 m3 m4 JR JR2 O1 O2 HB
      go_upto_region 7 with (fail)
      rw [EV1.out]
      clear cE lE cR1 fR1 lR1
      go_wp2_with (at_builtin; refine wpList_append_lies _ rfl (.tmp 22) (.tmp 24) 47 rfl w.heap.size 65 i48 _ 11 120 Tryz.underlying47 HI.out.1 HI.out.2.1 HI.out.2.2.1 HI.out.2.2.2 hZ.out (by decide) (.slice s1 m d1) m (gO (reachL (ol.take k))) (by simp [Act.eval]) HOX.out ⟨v1.heap.size, 0, none⟩ 1 1 [.bool dk, .int .i64 kd, .int .i64 x, .int .i64 y, .int .i64 p_, .int .i64 q, .int .i64 0, .int .i64 0, .int .i64 r, .slice lp ln lc, .slice none 0 0] (by simp [Act.eval]) rfl HN.out HON.out (by decide) MM.out.1 MM.out.2.1 MM.out.2.2.2 _ rfl ?_)
      intro q_ cq w3 hown hgrow hat3 hlt3
      have r3 := (VV.out.1.alloc (.cells #[.bool dk, .int .i64 kd, .int .i64 x, .int .i64 y, .int .i64 p_, .int .i64 q, .int .i64 0, .int .i64 0, .int .i64 r, .slice lp ln lc, .slice none 0 0] 65)).grown hgrow (fun e => own_blk_ne HOX.out (VV.out.1.alloc (.cells #[.bool dk, .int .i64 kd, .int .i64 x, .int .i64 y, .int .i64 p_, .int .i64 q, .int .i64 0, .int .i64 0, .int .i64 r, .slice lp ln lc, .slice none 0 0] 65)) (by decide) e.symm)
      have z3 := (VV.out.2.1.alloc (.cells #[.bool dk, .int .i64 kd, .int .i64 x, .int .i64 y, .int .i64 p_, .int .i64 q, .int .i64 0, .int .i64 0, .int .i64 r, .slice lp ln lc, .slice none 0 0] 65)).grown hgrow (fun e => own_blk_ne HOX.out (VV.out.2.1.alloc (.cells #[.bool dk, .int .i64 kd, .int .i64 x, .int .i64 y, .int .i64 p_, .int .i64 q, .int .i64 0, .int .i64 0, .int .i64 r, .slice lp ln lc, .slice none 0 0] 65)) (by decide) e.symm)
      have e3 := (VV.out.2.2.1.alloc (.cells #[.bool dk, .int .i64 kd, .int .i64 x, .int .i64 y, .int .i64 p_, .int .i64 q, .int .i64 0, .int .i64 0, .int .i64 r, .slice lp ln lc, .slice none 0 0] 65)).grown hgrow (fun e => by have h9 := OLT.out _ e.symm; omega)
      have b3 := (VV.out.2.2.2.1.alloc (.cells #[.bool dk, .int .i64 kd, .int .i64 x, .int .i64 y, .int .i64 p_, .int .i64 q, .int .i64 0, .int .i64 0, .int .i64 r, .slice lp ln lc, .slice none 0 0] 65)).grown hgrow (fun e => own_blk_ne HOX.out (VV.out.2.2.2.1.alloc (.cells #[.bool dk, .int .i64 kd, .int .i64 x, .int .i64 y, .int .i64 p_, .int .i64 q, .int .i64 0, .int .i64 0, .int .i64 r, .slice lp ln lc, .slice none 0 0] 65)) (by decide) e.symm)
      have h1 : (v1.alloc (.cells #[.bool dk, .int .i64 kd, .int .i64 x, .int .i64 y, .int .i64 p_, .int .i64 q, .int .i64 0, .int .i64 0, .int .i64 r, .slice lp ln lc, .slice none 0 0] 65)).ownsRow w.heap.size 224 5 (.slice s2 m d2) m (gE (reachL (ol.take k))) := VV.out.2.2.2.2.1.alloc _
      have p3 : w3.ownsRow w.heap.size 224 5 (.slice s2 m d2) m (gE (reachL (ol.take k))) := own_same h1 (fun b' hb' => hgrow.block b' (own_lt h1 hb') (fun e => own_own_ne3 h1 HOX.out (by decide) hb' e.symm))
      have hb3 : Below w.heap.size w w3 := Below.grown (VV.out.2.2.2.2.2.alloc svv (.cells #[.bool dk, .int .i64 kd, .int .i64 x, .int .i64 y, .int .i64 p_, .int .i64 q, .int .i64 0, .int .i64 0, .int .i64 r, .slice lp ln lc, .slice none 0 0] 65)) hgrow (by first | (simp; done) | (simp; omega)) (fun b' hb' => own_ge HOX.out hb')
      have hne1 := N12.out.1
      have hne2 := N12.out.2
      have cr3 := r3.cell
      have fr3 := r3.frozen
      have lr3 := r3.lt
      have WX := Lib.hid (And.intro r3 (And.intro z3 (And.intro e3 (And.intro b3 (And.intro hown (And.intro p3 hb3))))))
      clear r3 z3 e3 b3 h1 p3 hb3 hown hgrow hat3 hlt3 cv1 lv1 cv2 fv2 lv2
      go_upto_region 8 with (fail)
      obtain ⟨xw, exw⟩ : ∃ x, w3.setCell ⟨w.heap.size + 1, 0, none⟩ (.slice (some ⟨q_, 0, none⟩) (m + 1) cq) = x := ⟨_, rfl⟩
      have rx : Blk xw (w.heap.size + 1) 169 #[.slice (some ⟨q_, 0, none⟩) (m + 1) cq, .slice s2 m d2] := by rw [← exw]; exact WX.out.1.set_ 0 _ rfl
      have zx : Blk xw w.heap.size 169 #[.slice none 0 0, .slice none 0 0] := by rw [← exw]; exact WX.out.2.1.far (by simp) _
      have ex_ : Blk xw wr.heap.size 65 #[.bool dk, .int .i64 kd, .int .i64 x, .int .i64 y, .int .i64 p_, .int .i64 q, .int .i64 0, .int .i64 0, .int .i64 r, .slice lp ln lc, .slice none 0 0] := by rw [← exw]; exact WX.out.2.2.1.far (by simpa using hne1) _
      have bx_ : Blk xw w1.heap.size 70 #[.int .i64 f0, .int .i64 f1, .int .i64 f2, .int .i64 f3] := by rw [← exw]; exact WX.out.2.2.2.1.far (by simpa using hne2) _
      have OS : Only [w.heap.size + 1] w3 xw := by rw [← exw]; exact (Only.refl _ _).setCell (by simp) _
      have o1x : xw.ownsRow w.heap.size 65 11 (.slice (some ⟨q_, 0, none⟩) (m + 1) cq) (m + 1) (gO (reachL (ol.take k)) ++ [.bool dk, .int .i64 kd, .int .i64 x, .int .i64 y, .int .i64 p_, .int .i64 q, .int .i64 0, .int .i64 0, .int .i64 r, .slice lp ln lc, .slice none 0 0]) :=
        OS.own WX.out.2.2.2.2.1 (fun b' hb' hm' => by simp at hm'; subst hm'; exact own_blk_ne WX.out.2.2.2.2.1 WX.out.1 (by decide) hb')
      have o2x : xw.ownsRow w.heap.size 224 5 (.slice s2 m d2) m (gE (reachL (ol.take k))) :=
        OS.own WX.out.2.2.2.2.2.1 (fun b' hb' hm' => by simp at hm'; subst hm'; exact own_blk_ne WX.out.2.2.2.2.2.1 WX.out.1 (by decide) hb')
      have hbx : Below w.heap.size w xw := by rw [← exw]; exact WX.out.2.2.2.2.2.2.setCell (by simp) _
      have sx := hbx.size
      have hN2 : ∀ j v, ([.int .i64 f0, .int .i64 f1, .int .i64 f2, .int .i64 f3, .bool false] : List Value)[j]? = some v → (((xw.alloc (.cells #[.int .i64 kd, .int .i64 x, .int .i64 y, .int .i64 p_, .int .i64 q, .int .i64 0, .int .i64 0, .int .i64 r, .slice lp ln lc, .slice none 0 0] 62)).alloc (.cells #[.int .i64 f0, .int .i64 f1, .int .i64 f2, .int .i64 f3, .bool false] 224)).drew).cell? ((⟨xw.heap.size + 1, 0, none⟩ : Addr).add j) = some v :=
        World.news_of_block (cs := #[.int .i64 f0, .int .i64 f1, .int .i64 f2, .int .i64 f3, .bool false]) (Blk.newAt (w := xw.alloc (.cells #[.int .i64 kd, .int .i64 x, .int .i64 y, .int .i64 p_, .int .i64 q, .int .i64 0, .int .i64 0, .int .i64 r, .slice lp ln lc, .slice none 0 0] 62)) (by simp))
      have hO2 : (((xw.alloc (.cells #[.int .i64 kd, .int .i64 x, .int .i64 y, .int .i64 p_, .int .i64 q, .int .i64 0, .int .i64 0, .int .i64 r, .slice lp ln lc, .slice none 0 0] 62)).alloc (.cells #[.int .i64 f0, .int .i64 f1, .int .i64 f2, .int .i64 f3, .bool false] 224)).drew).ownsRow w.heap.size 224 5 (.slice s2 m d2) m (gE (reachL (ol.take k))) := World.ownsRow.drew ((o2x.alloc _).alloc _)
      have HN2 := Lib.hid hN2
      have HO2X := Lib.hid hO2
      have cR2 := rx.cell
      have fR2 := rx.frozen
      have lR2 := rx.lt
      have cE2 := ex_.cell
      have lE2 := ex_.lt
      have cB2 := bx_.cell
      have lB2 := bx_.lt
      have lR2b : w.heap.size + 1 < xw.heap.size + 1 := by omega
      have XX := Lib.hid (And.intro rx (And.intro zx (And.intro o1x hbx)))
      have hew := Lib.hid (ext_one f0 f1 f2 f3)
      have m5 : w.heap.size ≤ (((xw.alloc (.cells #[.int .i64 kd, .int .i64 x, .int .i64 y, .int .i64 p_, .int .i64 q, .int .i64 0, .int .i64 0, .int .i64 r, .slice lp ln lc, .slice none 0 0] 62)).alloc (.cells #[.int .i64 f0, .int .i64 f1, .int .i64 f2, .int .i64 f3, .bool false] 224)).drew).heap.size := by simp; omega
      have M5 := Lib.hid m5
      rw [exw]
      clear exw rx zx ex_ bx_ o1x o2x hbx OS hN2 hO2 m5 cr3 fr3 lr3
      go_region_law (first | (refine step_append_lies _ rfl (.tmp 28) (.tmp 34) 167 rfl w.heap.size 224 i251 _ 5 40 Tryz.underlying167 HJ.out.1 HJ.out.2.1 HJ.out.2.2.1 HJ.out.2.2.2 hY.out (by decide) (.slice s2 m d2) m (gE (reachL (ol.take k))) (by simp [Act.eval, Act.put]) HO2X.out ⟨xw.heap.size + 1, 0, none⟩ 1 1 [.int .i64 f0, .int .i64 f1, .int .i64 f2, .int .i64 f3, .bool false] (by simp [Act.eval, Act.put]) rfl HN2.out hew.out (by decide) MM.out.1 MM.out.2.2.1 M5.out _ rfl ?_; intro q2_ cq2 w4 hown2 hgrow2 hat2 hlt4; have r4 := ((XX.out.1.alloc (.cells #[.int .i64 kd, .int .i64 x, .int .i64 y, .int .i64 p_, .int .i64 q, .int .i64 0, .int .i64 0, .int .i64 r, .slice lp ln lc, .slice none 0 0] 62)).alloc (.cells #[.int .i64 f0, .int .i64 f1, .int .i64 f2, .int .i64 f3, .bool false] 224)).drew.grown hgrow2 (fun e => own_blk_ne HO2X.out ((XX.out.1.alloc (.cells #[.int .i64 kd, .int .i64 x, .int .i64 y, .int .i64 p_, .int .i64 q, .int .i64 0, .int .i64 0, .int .i64 r, .slice lp ln lc, .slice none 0 0] 62)).alloc (.cells #[.int .i64 f0, .int .i64 f1, .int .i64 f2, .int .i64 f3, .bool false] 224)).drew (by decide) e.symm); have c4 := r4.cell; have fz4 := r4.frozen; have l4 := r4.lt) | (go_simp; go_at_call 113; (with_reducible refine (HBB.out _).mono ?_); rintro e w' ⟨rfl, rfl⟩))
      all_goals
        have z4 := ((XX.out.2.1.alloc (.cells #[.int .i64 kd, .int .i64 x, .int .i64 y, .int .i64 p_, .int .i64 q, .int .i64 0, .int .i64 0, .int .i64 r, .slice lp ln lc, .slice none 0 0] 62)).alloc (.cells #[.int .i64 f0, .int .i64 f1, .int .i64 f2, .int .i64 f3, .bool false] 224)).drew.grown hgrow2 (fun e => own_blk_ne HO2X.out ((XX.out.2.1.alloc (.cells #[.int .i64 kd, .int .i64 x, .int .i64 y, .int .i64 p_, .int .i64 q, .int .i64 0, .int .i64 0, .int .i64 r, .slice lp ln lc, .slice none 0 0] 62)).alloc (.cells #[.int .i64 f0, .int .i64 f1, .int .i64 f2, .int .i64 f3, .bool false] 224)).drew (by decide) e.symm)
        have h1 : (((xw.alloc (.cells #[.int .i64 kd, .int .i64 x, .int .i64 y, .int .i64 p_, .int .i64 q, .int .i64 0, .int .i64 0, .int .i64 r, .slice lp ln lc, .slice none 0 0] 62)).alloc (.cells #[.int .i64 f0, .int .i64 f1, .int .i64 f2, .int .i64 f3, .bool false] 224)).drew).ownsRow w.heap.size 65 11 (.slice (some ⟨q_, 0, none⟩) (m + 1) cq) (m + 1) (gO (reachL (ol.take k)) ++ [.bool dk, .int .i64 kd, .int .i64 x, .int .i64 y, .int .i64 p_, .int .i64 q, .int .i64 0, .int .i64 0, .int .i64 r, .slice lp ln lc, .slice none 0 0]) := World.ownsRow.drew ((XX.out.2.2.1.alloc _).alloc _)
        have h2 : w4.ownsRow w.heap.size 65 11 (.slice (some ⟨q_, 0, none⟩) (m + 1) cq) (m + 1) (gO (reachL (ol.take k)) ++ [.bool dk, .int .i64 kd, .int .i64 x, .int .i64 y, .int .i64 p_, .int .i64 q, .int .i64 0, .int .i64 0, .int .i64 r, .slice lp ln lc, .slice none 0 0]) := own_same h1 (fun b' hb' => hgrow2.block b' (own_lt h1 hb') (fun e => own_own_ne3 h1 HO2X.out (by decide) hb' e.symm))
        have hb4 : Below w.heap.size w w4 := Below.grown ((((XX.out.2.2.2.alloc sx (.cells #[.int .i64 kd, .int .i64 x, .int .i64 y, .int .i64 p_, .int .i64 q, .int .i64 0, .int .i64 0, .int .i64 r, .slice lp ln lc, .slice none 0 0] 62))).alloc (by simp; omega) (.cells #[.int .i64 f0, .int .i64 f1, .int .i64 f2, .int .i64 f3, .bool false] 224)).drew) hgrow2 (by first | (simp; done) | (simp; omega)) (fun b' hb' => own_ge HO2X.out hb')
        have R4 := Lib.hid (And.intro r4 z4)
        have P1 := Lib.hid h2
        have P2' := Lib.hid hown2
        have HB4 := Lib.hid hb4
        have s4 := hb4.size
        clear r4 z4 h1 h2 hb4 hown2 hgrow2 hat2 hlt4 cR2 fR2 lR2 cE2 lE2 cB2 lB2
        go_wp2_with fail
        have OF : Only [w.heap.size + 1] w4 (w4.setCell ⟨w.heap.size + 1, 1, none⟩ (.slice (some ⟨q2_, 0, none⟩) (m + 1) cq2)) := (Only.refl _ _).setCell (by simp) _
        have HL2 : Hid (Lay w w.heap.size (w.heap.size + 1) (reachL (ol.take (k + 1))) (w4.setCell ⟨w.heap.size + 1, 1, none⟩ (.slice (some ⟨q2_, 0, none⟩) (m + 1) cq2))) := by
          refine Lib.hid ⟨⟨some ⟨q_, 0, none⟩, cq, some ⟨q2_, 0, none⟩, cq2, ?_, ?_, ?_⟩, HB4.out.setCell (by simp) _⟩
          · rw [E5.out, List.length_append, EM.out]
            exact R4.out.1.set_ 1 _ rfl
          · rw [E5.out, List.length_append, EM.out, gO_add, show oCells (Ent2.obj ((E.1, ⟨f0, f1, f2, f3⟩), E.2)) = [.bool dk, .int .i64 kd, .int .i64 x, .int .i64 y, .int .i64 p_, .int .i64 q, .int .i64 0, .int .i64 0, .int .i64 r, .slice lp ln lc, .slice none 0 0] from HOC.out]
            exact OF.own P1.out (fun b' hb' hm' => by simp at hm'; subst hm'; exact own_blk_ne P1.out R4.out.1 (by decide) hb')
          · rw [E5.out, List.length_append, EM.out, gE_add, HEC.out]
            exact OF.own P2'.out (fun b' hb' hm' => by simp at hm'; subst hm'; exact own_blk_ne P2'.out R4.out.1 (by decide) hb')
        have HK := Lib.hid (R4.out.2.far (p := ⟨w.heap.size + 1, 1, none⟩) (by simp) (.slice (some ⟨q2_, 0, none⟩) (m + 1) cq2))
        clear OF
        go_roundw
        case rel =>
          have hr2 : ∃ k' : Nat, Value.int .i64 ((k : Int) + 1) = .int .i64 (k' : Int) ∧ k' ≤ n ∧ Lay w w.heap.size (w.heap.size + 1) (reachL (ol.take k')) (w4.setCell ⟨w.heap.size + 1, 1, none⟩ (.slice (some ⟨q2_, 0, none⟩) (m + 1) cq2)) ∧ Blk (w4.setCell ⟨w.heap.size + 1, 1, none⟩ (.slice (some ⟨q2_, 0, none⟩) (m + 1) cq2)) w.heap.size 169 #[.slice none 0 0, .slice none 0 0] := ⟨k + 1, by go_num, by omega, HL2.out, HK.out⟩
          first | exact hr2 | ((repeat apply Exists.intro); exact ⟨hr2, rfl⟩)
        case measure => simp [intOf]; omega
  · have e : k = n := by omega
    subst e
    have e5 : reachL (ol.take k) = reachL ol := by rw [List.take_of_length_le (by rw [HL.out]; omega)]
    rw [e5] at jr o1 o2
    obtain ⟨Y, eY⟩ : ∃ Y, reachL ol = Y := ⟨_, rfl⟩
    rw [eY] at jr o1 o2
    have EY := Lib.hid eY
    have hsh : ∀ e ∈ Y, ShAt S w e.1.1.2 e.2 := fun e he => by
      rw [← eY] at he
      obtain ⟨o, ho, _, h1, h2⟩ := reachL_mem he
      rw [h1, h2]
      exact HO.out.2 o ho
    have HSH := Lib.hid hsh
    have JR := Lib.hid jr
    have JR2 := Lib.hid jR
    have O1 := Lib.hid o1
    have O2 := Lib.hid o2
    have HB := Lib.hid hB
    have cr := jr.cell
    have lr := jr.lt
    have cR := jR.cell
    have fR := jR.frozen
    have lR := jR.lt
    have lw := hB.size
    clear e5 eY hsh jr jR o1 o2 hB
    go_wp2_with fail
    have OF : Only [w.heap.size] wr ((wr.setCell ⟨w.heap.size, 0, none⟩ (.slice s1 Y.length d1)).setCell ⟨w.heap.size, 1, none⟩ (.slice s2 Y.length d2)) := ((Only.refl _ _).setCell (by simp) _).setCell (by simp) _
    have hBF : Below w.heap.size w ((wr.setCell ⟨w.heap.size, 0, none⟩ (.slice s1 Y.length d1)).setCell ⟨w.heap.size, 1, none⟩ (.slice s2 Y.length d2)) := (HB.out.setCell (by simp) _).setCell (by simp) _
    refine bodyPost_ret (results_cell_row (t := 169) Tryz.results72 _ _ (w.heap.size) #[.slice s1 Y.length d1, .slice s2 Y.length d2] (0, 0) _ (by rfl) ?_ Tryz.underlying169 rfl (by kernel_rfl)) rfl ⟨_, _, rfl, ?_, hBF⟩
    · exact (JR2.out.set_ 0 _ rfl).set_ 1 _ rfl
    · rw [EY.out]
      refine GroupAt.of_own (H := w.heap.size) (OF.own O1.out ?_) (OF.own O2.out ?_) HS.out (fun e he => (HSH.out e he).below hBF (Nat.le_refl _))
      · intro b' hb' hm'; simp at hm'; subst hm'; exact own_blk_ne O1.out JR2.out (by decide) hb'
      · intro b' hb' hm'; simp at hm'; subst hm'; exact own_blk_ne O2.out JR2.out (by decide) hb'
theorem add64_g (M : Nat) (k : Int) (w : World) (h0 : 0 ≤ k) (h1 : k ≤ 1000000000000) (hc : w.cell? ⟨M, 1, none⟩ = some (.int .i64 k)) (hz : w.frozen? ⟨M, 1, none⟩ = false) :
    Calls Tryz.prog 174 #[.pointer (some ⟨M, 1, none⟩), .int .i64 1] w fun e w' => e = .returned (.int .i64 (k + 1)) ∧ w' = w.setCell ⟨M, 1, none⟩ (.int .i64 (k + 1)) := by
  have hadd := run_call_add (P := Tryz.prog) Tryz.func214 (by kernel_rfl) (by kernel_rfl) (by kernel_rfl) .i64 (by kernel_rfl) (y := 1) (s := k + 1) hc hz (by have h9 : IntKind.i64.wrap (k + 1) = k + 1 := IntWalk.i64_in _ (by omega); simp [go_sem, h9])
  go_enter Tryz.func174, Tryz.ntmps174
  go_wp2
  go_ret
  exact ⟨rfl, rfl⟩
theorem meterTake_g (M : Nat) (most k : Int) (w : World) (h0 : 0 ≤ k) (h1 : k ≤ 1000000000000) (hM : Blk w M 133 #[.int .i64 most, .int .i64 k]) :
    Calls Tryz.prog 115 #[.pointer (some ⟨M, 0, none⟩)] w fun e w' => e = .returned (.bool (decide (k + 1 ≤ most))) ∧ Blk w' M 133 #[.int .i64 most, .int .i64 (k + 1)] ∧ Only [M] w w' := by
  have c0 : w.cell? ⟨M, 0, none⟩ = some (.int .i64 most) := hM.cell 0
  have l := hM.lt
  obtain ⟨T, eT⟩ : ∃ T, decide (k + 1 ≤ most) = T := ⟨_, rfl⟩
  have ha : ∀ w', Blk w' M 133 #[.int .i64 most, .int .i64 k] → Calls Tryz.prog 174 #[.pointer (some ⟨M, 1, none⟩), .int .i64 1] w' fun e w'' => e = .returned (.int .i64 (k + 1)) ∧ w'' = w'.setCell ⟨M, 1, none⟩ (.int .i64 (k + 1)) := fun w' h => add64_g M k w' h0 h1 (h.cell 1) (h.frozen 1)
  have HA := Lib.hid ha
  have HM := Lib.hid hM
  rw [eT]
  have HT := Lib.hid eT
  clear ha hM h0 h1 eT
  go_enter Tryz.func115, Tryz.ntmps115
  go_wp2_with fail
  go_region_held3 (fun w' => w'.cell? ⟨M, 0, none⟩ = some (.int .i64 most))
    (first | exact c0 | (simp [World.cell?_setCell_other]; exact c0))
    (first | (go_at_call 174; (with_reducible refine (HA.out _ HM.out.drew).mono ?_); rintro e w' ⟨rfl, rfl⟩))
  all_goals
    go_wp2_with fail
    go_ret
    exact ⟨by rw [← HT.out]; rfl, (HM.out.drew.set_ 1 _ rfl), by exact onw⟩
end Go.Proofs.YtfajckkbinbpiaaGreatDoor
