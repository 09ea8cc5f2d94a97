/- Walks: package plot: the copies of a step. -/
import Derived.Test.YtfajckkbinbpiaaGreatDoorM30
import Derived.Test.YtfajckkbinbpiaaGreatDoorM26
import Derived.Test.YtfajckkbinbpiaaGreatDoorM28
import Derived.LoopTactic
namespace Go.Proofs.YtfajckkbinbpiaaGreatDoor
open Go.RowKit
set_option linter.unusedVariables false
set_option linter.unusedSimpArgs false

theorem Adds.fromP {P gL off B n : Nat} {pc : Int → Array Value} {lcs : Array Value} {ov : Value} {xs : List Value} {mk : Int} {w u wr : World} {k : Nat} {zs : List Value} (h : Adds P gL off B n pc lcs ov xs mk u k zs wr) (hu : Only [P] w u) : Adds P gL off B n pc lcs ov xs mk w k zs wr := by
  obtain ⟨ov', lcs', h1, h2, h3, h4, h5, h6, h7⟩ := h
  exact ⟨ov', lcs', h1, h2, h3, h4, h5, (hu.mono (by simp)).trans h6, h7.imp id (fun ⟨g, h8, h9⟩ => ⟨g, h8, Nat.le_trans hu.size h9⟩)⟩
theorem copiesY_len (l : List Ob) (a b : Int) (m : Nat) : (copiesY l a b m).length = m * l.length := by
  induction m with
  | zero => simp [copiesY]
  | succ m ih => simp [copiesY, ih, Nat.add_mul]
theorem copies_len (l : List Ob) (a b : Int) (m n : Nat) : (copies l a b m n).length = n * (m * l.length) := by
  induction n with
  | zero => simp [copies]
  | succ n ih => simp [copies, ih, copiesY_len, Nat.add_mul]
/-- The relation of the loops over copies: what has been laid. -/
def Laid (P gL B n : Nat) (pc : Int → Array Value) (lcs : Array Value) (ov : Value) (xs : List Value) (mk : Int) (w : World) (vb : Nat) (vc : Array Value) (zs : List Ob) (wr : World) : Prop :=
  Adds P gL 6 B n pc lcs ov xs mk w zs.length (ocells zs) wr ∧ Blk wr vb 162 vc
theorem prod_le {a b A B : Int} (ha : 0 ≤ a) (hA : a ≤ A) (hb : 0 ≤ b) (hB : b ≤ B) : 0 ≤ a * b ∧ a * b ≤ A * B := ⟨Int.mul_nonneg ha hb, Int.mul_le_mul hA hB hb (by omega)⟩
set_option maxRecDepth 100000 in
set_option maxHeartbeats 16000000 in
theorem endStep_c (P gL capL B n : Nat) (mk bud ln lm lx ly : Int) (op : Option Addr) (on oc : Nat) (L : List Ob) {v0 v1 v2 v3 v4 v5 v6 v7 v8 v9 v10 v11 v12 v13 v14 v15 v16 v17 v18 v19 v20 v24 : Value} {lcs : Array Value} {ov : Value} {xs : List Value} (w : World) (hP : Blk w P 159 #[v0, v1, v2, v3, v4, v5, v6, v7, v8, v9, v10, v11, v12, v13, v14, v15, v16, v17, v18, v19, v20, .slice (some ⟨gL, 0, none⟩) 2 capL, .int .i64 mk, .int .i64 bud, v24]) (hL : Blk w gL 162 lcs) (h7 : ∀ j u, ([.bool true, .int .i64 0, .int .i64 ln, .int .i64 lm, .int .i64 lx, .int .i64 ly, .slice op on oc] : List Value)[j]? = some u → lcs[7 + j]? = some u) (hcap : 2 ≤ capL)
    (ho : lcs[6]? = some ov) (hov : w.ownsRow B 65 11 ov n xs) (hs : w.ownsRow B 65 11 (.slice op on oc) L.length (ocells L)) (hd : ∀ q, (Value.slice op on oc).ownBlock = some q → ov.ownBlock ≠ some q) (hm0 : 0 ≤ mk) (hm1 : mk + 192 ≤ bud) (hm2 : bud ≤ 100000) (hn : n ≤ 10000) (hB : B ≤ w.heap.size) (hLl : L.length ≤ 12)
    (n1 : 1 ≤ ln) (n4 : ln ≤ 4) (m1 : 1 ≤ lm) (m4 : lm ≤ 4) (x0 : 0 ≤ lx) (x1 : lx ≤ 70000000) (y0 : 0 ≤ ly) (y1 : ly ≤ 70000000) (hb : ∀ o ∈ L, (0 ≤ o.x ∧ o.x ≤ 4095000) ∧ (0 ≤ o.y ∧ o.y ≤ 4095000)) :
    Calls Tryz.prog 107 #[.pointer (some ⟨P, 0, none⟩)] w fun e w' => e = .returned (.int .i64 0) ∧ Adds P gL 6 B n (fun m => #[v0, v1, v2, v3, v4, v5, v6, v7, v8, v9, v10, v11, v12, v13, v14, v15, v16, v17, v18, v19, v20, .slice (some ⟨gL, 0, none⟩) 1 capL, .int .i64 m, .int .i64 bud, v24]) lcs ov xs mk w (copies L lx ly lm.toNat ln.toNat).length (ocells (copies L lx ly lm.toNat ln.toNat)) w' := by
  obtain ⟨N, rfl⟩ : ∃ N : Nat, ln = (N : Int) := ⟨ln.toNat, by omega⟩
  obtain ⟨K, rfl⟩ : ∃ K : Nat, lm = (K : Int) := ⟨lm.toNat, by omega⟩
  simp only [Int.toNat_natCast]
  have h1 := end_c P gL capL true 0 N K lx ly op on oc w hP hL h7 hcap
  have hne := hP.ne_ hL (by decide)
  have l := hP.lt
  have hno : on = L.length := (own_cap hs).1
  rw [← hno] at hLl
  have HNO := Lib.hid hno
  have H1 := Lib.hid h1
  have HP := Lib.hid hP
  have HL := Lib.hid hL
  have HO := Lib.hid ho
  have HOV := Lib.hid hov
  have HS := Lib.hid hs
  have HD := Lib.hid hd
  have HBD := Lib.hid hb
  have HB := Lib.hid hB
  clear hP hL h7 h1 ho hov hs hd hb hB hno
  go_enter Tryz.func107, Tryz.ntmps107
  go_wp2_with fail
  refine (H1.out).mono ?_
  rintro e w1 ⟨rfl, k1, o1⟩
  have a1 : Blk w1 gL 162 lcs := o1.blk HL.out (by simpa using Ne.symm hne)
  have a2 := o1.own HOV.out (fun b hb hm => by simp at hm; subst hm; exact own_blk_ne HOV.out HP.out (by decide) hb)
  have a3 := o1.own HS.out (fun b hb hm => by simp at hm; subst hm; exact own_blk_ne HS.out HP.out (by decide) hb)
  have K1 := Lib.hid k1
  have O1 := Lib.hid o1
  have A1 := Lib.hid a1
  have A2 := Lib.hid a2
  have A3 := Lib.hid a3
  obtain ⟨u, eu⟩ : ∃ u, w1.alloc (.cells #[.bool true, .int .i64 0, .int .i64 (N : Int), .int .i64 (K : Int), .int .i64 lx, .int .i64 ly, .slice op on oc] 162) = u := ⟨_, rfl⟩
  have u2 : Blk u w1.heap.size 162 #[.bool true, .int .i64 0, .int .i64 (N : Int), .int .i64 (K : Int), .int .i64 lx, .int .i64 ly, .slice op on oc] := by rw [← eu]; exact Blk.new _ _ _
  have st0 : Laid P gL B n (fun m => #[v0, v1, v2, v3, v4, v5, v6, v7, v8, v9, v10, v11, v12, v13, v14, v15, v16, v17, v18, v19, v20, .slice (some ⟨gL, 0, none⟩) 1 capL, .int .i64 m, .int .i64 bud, v24]) lcs ov xs mk w1 w1.heap.size #[.bool true, .int .i64 0, .int .i64 (N : Int), .int .i64 (K : Int), .int .i64 lx, .int .i64 ly, .slice op on oc] [] u := ⟨by
    have := (Adds.start (P := P) (gL := gL) (off := 6) (B := B) (n := n) (pc := (fun m => #[v0, v1, v2, v3, v4, v5, v6, v7, v8, v9, v10, v11, v12, v13, v14, v15, v16, v17, v18, v19, v20, .slice (some ⟨gL, 0, none⟩) 1 capL, .int .i64 m, .int .i64 bud, v24])) (lcs := lcs) (ov := ov) (xs := xs) (mk := mk) k1 a1 HO.out a2).only (wr' := u) (by rw [← eu]; exact (Only.refl _ _).alloc _)
    simpa [ocells] using this, u2⟩
  have c2 := u2.cell
  have l2 := u2.lt
  have EU := Lib.hid eu
  have ST0 := Lib.hid st0
  clear k1 o1 a1 a2 a3 eu u2 st0
  go_wp2_with fail
  rw [EU.out]
  go_loopw [20] (fun i wr => ∃ p : Nat, i = .int .i64 (p : Int) ∧ p ≤ N ∧ Laid P gL B n (fun m => #[v0, v1, v2, v3, v4, v5, v6, v7, v8, v9, v10, v11, v12, v13, v14, v15, v16, v17, v18, v19, v20, .slice (some ⟨gL, 0, none⟩) 1 capL, .int .i64 m, .int .i64 bud, v24]) lcs ov xs mk w1 w1.heap.size #[.bool true, .int .i64 0, .int .i64 (N : Int), .int .i64 (K : Int), .int .i64 lx, .int .i64 ly, .slice op on oc] (copies L lx ly K p) wr) (fun i wr => N - (intOf i).toNat)
  case atStart => exact ⟨0, rfl, Nat.zero_le _, ST0.out⟩
  case round =>
  obtain ⟨p, rfl, hp, hA⟩ := hrel
  have HA := Lib.hid hA
  clear hA ST0 c2 l2 EU
  by_cases hlt : p < N
  · have c := HA.out.2.cell
    have lv := HA.out.2.lt
    go_wp2_with fail
    go_loopw [25] (fun j wr => ∃ q : Nat, j = .int .i64 (q : Int) ∧ q ≤ K ∧ Laid P gL B n (fun m => #[v0, v1, v2, v3, v4, v5, v6, v7, v8, v9, v10, v11, v12, v13, v14, v15, v16, v17, v18, v19, v20, .slice (some ⟨gL, 0, none⟩) 1 capL, .int .i64 m, .int .i64 bud, v24]) lcs ov xs mk w1 w1.heap.size #[.bool true, .int .i64 0, .int .i64 (N : Int), .int .i64 (K : Int), .int .i64 lx, .int .i64 ly, .slice op on oc] (copies L lx ly K p ++ copiesY L ((p : Int) * lx) ly q) wr) (fun j wr => K - (intOf j).toNat)
    case atStart => exact ⟨0, rfl, Nat.zero_le _, by simpa [copiesY] using HA.out⟩
    case round =>
    obtain ⟨q, rfl, hq, hA⟩ := hrel
    have HA := Lib.hid hA
    clear hA c lv
    by_cases hlq : q < K
    · have c := HA.out.2.cell
      have lv := HA.out.2.lt
      obtain ⟨X, eX⟩ : ∃ X, (p : Int) * lx = X := ⟨_, rfl⟩
      obtain ⟨Y, eY⟩ : ∃ Y, (q : Int) * ly = Y := ⟨_, rfl⟩
      have bX := prod_le (a := (p : Int)) (b := lx) (A := 3) (B := 70000000) (by omega) (by omega) x0 x1
      have bY := prod_le (a := (q : Int)) (b := ly) (A := 3) (B := 70000000) (by omega) (by omega) y0 y1
      rw [eX] at bX
      rw [eY] at bY
      obtain ⟨X0, X1⟩ := bX
      obtain ⟨Y0, Y1⟩ := bY
      obtain ⟨qb, eqb⟩ : ∃ q, wr.heap.size = q := ⟨_, rfl⟩
      have EQB := Lib.hid eqb
      obtain ⟨v, ev⟩ : ∃ v, wr.alloc (.cells #[.int .i64 X, .int .i64 Y] 58) = v := ⟨_, rfl⟩
      have hv1 : Only [] wr v := by rw [← ev]; exact (Only.refl _ _).alloc _
      have hv2 : Blk v qb 58 #[.int .i64 X, .int .i64 Y] := by rw [← ev, ← eqb]; exact Blk.new _ _ _
      have hv3 : Laid P gL B n (fun m => #[v0, v1, v2, v3, v4, v5, v6, v7, v8, v9, v10, v11, v12, v13, v14, v15, v16, v17, v18, v19, v20, .slice (some ⟨gL, 0, none⟩) 1 capL, .int .i64 m, .int .i64 bud, v24]) lcs ov xs mk w1 w1.heap.size #[.bool true, .int .i64 0, .int .i64 (N : Int), .int .i64 (K : Int), .int .i64 lx, .int .i64 ly, .slice op on oc] (copies L lx ly K p ++ copiesY L ((p : Int) * lx) ly q) v := ⟨HA.out.1.only hv1, hv1.blk HA.out.2 (by simp)⟩
      have V2 := Lib.hid hv2
      have V3 := Lib.hid hv3
      have EV := Lib.hid ev
      have EX := Lib.hid eX
      have EY := Lib.hid eY
      clear hv1 hv2 hv3 ev eqb
      go_wp2_with fail
      rw [EV.out, EQB.out]
      go_loopw [42] (fun k wx => ∃ r : Nat, k = .int .i64 (r : Int) ∧ r ≤ on ∧ Laid P gL B n (fun m => #[v0, v1, v2, v3, v4, v5, v6, v7, v8, v9, v10, v11, v12, v13, v14, v15, v16, v17, v18, v19, v20, .slice (some ⟨gL, 0, none⟩) 1 capL, .int .i64 m, .int .i64 bud, v24]) lcs ov xs mk w1 w1.heap.size #[.bool true, .int .i64 0, .int .i64 (N : Int), .int .i64 (K : Int), .int .i64 lx, .int .i64 ly, .slice op on oc] (copies L lx ly K p ++ copiesY L X ly q ++ (L.take r).map (fun o => o.moved X Y)) wx ∧ Blk wx qb 58 #[.int .i64 X, .int .i64 Y]) (fun k wx => on - (intOf k).toNat)
      case atStart => exact ⟨0, rfl, Nat.zero_le _, by have := V3.out; rw [EX.out] at this; simpa using this, V2.out⟩
      case round =>
      obtain ⟨r, rfl, hr, hA, hT⟩ := hrel
      have HA3 := Lib.hid hA
      have HT := Lib.hid hT
      clear hA hT c lv
      by_cases hlr : r < on
      · obtain ⟨o, eo⟩ : ∃ o, L[r]'(by have := HNO.out; omega) = o := ⟨_, rfl⟩
        have ho := HBD.out o (by rw [← eo]; exact List.getElem_mem _)
        have hrL : r < L.length := by have := HNO.out; omega
        have hsr := HA3.out.1.apart K1.out A1.out A3.out HD.out
        obtain ⟨gs, cap0, he, _, hgs⟩ := hsr.form (by omega)
        simp only [Value.slice.injEq] at he
        obtain ⟨hpo, hno', hco⟩ := he
        subst hpo hco
        clear hno'
        have hq : ∀ j v, j < 11 → o.cells[j]? = some v → wr.cell? ⟨gs, r * 11 + j, none⟩ = some v := fun j v hj hv => by
          have h1 := hsr
          rw [← HNO.out] at h1
          rw [h1.cellAt (r * 11 + j) (by omega), ocells_at L r hrL j hj, eo, hv]
        have q0 := hq 0 (.bool o.dark) (by omega) rfl
        have q1 := hq 1 (.int .i64 1) (by omega) rfl
        have q2 := hq 2 (.int .i64 o.x) (by omega) rfl
        have q3 := hq 3 (.int .i64 o.y) (by omega) rfl
        have q4 := hq 4 (.int .i64 0) (by omega) rfl
        have q5 := hq 5 (.int .i64 0) (by omega) rfl
        have q6 := hq 6 (.int .i64 0) (by omega) rfl
        have q7 := hq 7 (.int .i64 0) (by omega) rfl
        have q8 := hq 8 (.int .i64 2500000) (by omega) rfl
        have q9 := hq 9 (.slice none 0 0) (by omega) rfl
        have q10 := hq 10 (.slice none 0 0) (by omega) rfl
        simp only [Nat.add_zero] at q0
        obtain ⟨ov', lcs', h1, h2, h3, h4, h5, h6, h7⟩ := HA3.out.1
        obtain ⟨S, eS⟩ : ∃ S, (copies L lx ly K p ++ copiesY L X ly q ++ (L.take r).map (fun o => o.moved X Y)).length = S := ⟨_, rfl⟩
        have hS : S ≤ 191 := by
          rw [← eS, List.length_append, List.length_append, copies_len, copiesY_len, List.length_map, List.length_take, ← HNO.out]
          have e1 : p * (K * on) ≤ 3 * (4 * 12) := Nat.mul_le_mul (by omega) (Nat.mul_le_mul (by omega) hLl)
          have e2 : q * on ≤ 3 * 12 := Nat.mul_le_mul (by omega) hLl
          omega
        rw [eS] at h1 h4 h5
        have ES := Lib.hid eS
        obtain ⟨z, ez⟩ : ∃ z, wr.alloc (.cells #[.bool o.dark, .int .i64 1, .int .i64 o.x, .int .i64 o.y, .int .i64 0, .int .i64 0, .int .i64 0, .int .i64 0, .int .i64 2500000, .slice none 0 0, .slice none 0 0] 65) = z := ⟨_, rfl⟩
        have hT1 := addT_1 P gL capL B (n + S) (mk + (S : Int)) bud o.x o.y X Y o.dark z (ez ▸ h1.alloc _) (ez ▸ h2.alloc _) h3 (ez ▸ h5.alloc _) (by omega) (by omega) hm2 (by omega) (by have h1 := HB.out; have h2 := h6.size; have h3 := O1.out.size; rw [← ez]; simp; omega) (by omega) (by omega) (by omega) (by omega) X0 (by omega) Y0 (by omega)
        have HTT := Lib.hid hT1
        have c := h1.cell
        have f := h1.frozen
        have lP := h1.lt
        have cT := HT.out.cell
        have lT := HT.out.lt
        have H3 := Lib.hid h3
        have H4 := Lib.hid h4
        have H6 := Lib.hid h6
        have H7 := Lib.hid h7
        have htake : L.take (r + 1) = L.take r ++ [o] := by rw [List.take_succ_eq_append_getElem hrL, eo]
        have HTK := Lib.hid htake
        have N1 := Lib.hid (h1.ne_ HT.out (by decide))
        have N2 := Lib.hid (h2.ne_ HT.out (by decide))
        have N3 := Lib.hid (own_blk_ne h5 HT.out (by decide))
        have N4 := Lib.hid (h1.ne_ HA3.out.2 (by decide))
        have N5 := Lib.hid (own_blk_ne h5 HA3.out.2 (by decide))
        have hgw : w1.heap.size ≠ gL := Nat.ne_of_gt A1.out.lt
        have EZ := Lib.hid ez
        clear hsr hq hT1 h1 h2 h3 h4 h5 h6 h7 htake eo ho ez eS
        go_wp2_with (go_at_call 168; rw [EZ.out]; refine (HTT.out).mono ?_; rintro e w3 ⟨g, cap, rfl, hAd⟩)
        have hAd2 := hAd.from (show Only [] wr z by rw [← EZ.out]; exact (Only.refl _ _).alloc _)
        have hT3 : Blk w3 qb 58 #[.int .i64 X, .int .i64 Y] := hAd2.2.2.2.1.blk HT.out (by
          intro hm
          simp only [List.mem_cons, Option.mem_toList] at hm
          rcases hm with h | h | h
          · exact N1.out h.symm
          · exact N2.out h.symm
          · exact N3.out h)
        have hV3 : Blk w3 w1.heap.size 162 #[.bool true, .int .i64 0, .int .i64 (N : Int), .int .i64 (K : Int), .int .i64 lx, .int .i64 ly, .slice (some ⟨gs, 0, none⟩) on oc] := hAd2.2.2.2.1.blk HA3.out.2 (by
          intro hm
          simp only [List.mem_cons, Option.mem_toList] at hm
          rcases hm with h | h | h
          · exact N4.out h.symm
          · exact hgw h
          · exact N5.out h)
        have hst := Adds.step (k := S) (pc := (fun m => #[v0, v1, v2, v3, v4, v5, v6, v7, v8, v9, v10, v11, v12, v13, v14, v15, v16, v17, v18, v19, v20, .slice (some ⟨gL, 0, none⟩) 1 capL, .int .i64 m, .int .i64 bud, v24])) (by simp only [show mk + (S : Int) + 1 = mk + ((S + 1 : Nat) : Int) by omega]) H3.out H4.out H6.out H7.out hAd2
        have HT3 := Lib.hid hT3
        have HV3 := Lib.hid hV3
        have HST2 := Lib.hid hst
        clear hAd hAd2 hT3 hV3 hst
        go_wp2_with fail
        go_roundw
        case rel =>
          have hr2 : ∃ r' : Nat, Value.int .i64 ((r : Int) + 1) = .int .i64 (r' : Int) ∧ r' ≤ on ∧ Laid P gL B n (fun m => #[v0, v1, v2, v3, v4, v5, v6, v7, v8, v9, v10, v11, v12, v13, v14, v15, v16, v17, v18, v19, v20, .slice (some ⟨gL, 0, none⟩) 1 capL, .int .i64 m, .int .i64 bud, v24]) lcs ov xs mk w1 w1.heap.size #[.bool true, .int .i64 0, .int .i64 (N : Int), .int .i64 (K : Int), .int .i64 lx, .int .i64 ly, .slice (some ⟨gs, 0, none⟩) on oc] (copies L lx ly K p ++ copiesY L X ly q ++ (L.take r').map (fun o => o.moved X Y)) w3 ∧ Blk w3 qb 58 #[.int .i64 X, .int .i64 Y] := by
            refine ⟨r + 1, by go_num, by omega, ⟨?_, HV3.out⟩, HT3.out⟩
            have h8 := HST2.out
            have e1 : copies L lx ly K p ++ copiesY L X ly q ++ (L.take (r + 1)).map (fun o => o.moved X Y) = (copies L lx ly K p ++ copiesY L X ly q ++ (L.take r).map (fun o => o.moved X Y)) ++ [o.moved X Y] := by rw [HTK.out]; simp
            rw [e1, ocells_append, ocells_one, List.length_append, ES.out]
            exact h8
          first | exact hr2 | ((repeat apply Exists.intro); exact ⟨hr2, rfl⟩)
        case measure => simp [intOf]; omega
      · have hA2 : Laid P gL B n (fun m => #[v0, v1, v2, v3, v4, v5, v6, v7, v8, v9, v10, v11, v12, v13, v14, v15, v16, v17, v18, v19, v20, .slice (some ⟨gL, 0, none⟩) 1 capL, .int .i64 m, .int .i64 bud, v24]) lcs ov xs mk w1 w1.heap.size #[.bool true, .int .i64 0, .int .i64 (N : Int), .int .i64 (K : Int), .int .i64 lx, .int .i64 ly, .slice op on oc] (copies L lx ly K p ++ copiesY L ((p : Int) * lx) ly (q + 1)) wr := by
          have h9 := HA3.out
          rw [List.take_of_length_le (by have := HNO.out; omega)] at h9
          rw [copiesY, EX.out, EY.out, ← List.append_assoc]
          exact h9
        have HA4 := Lib.hid hA2
        clear hA2
        go_wp2_with fail
        go_roundw
        case rel =>
          have hr2 : ∃ q' : Nat, Value.int .i64 ((q : Int) + 1) = .int .i64 (q' : Int) ∧ q' ≤ K ∧ Laid P gL B n (fun m => #[v0, v1, v2, v3, v4, v5, v6, v7, v8, v9, v10, v11, v12, v13, v14, v15, v16, v17, v18, v19, v20, .slice (some ⟨gL, 0, none⟩) 1 capL, .int .i64 m, .int .i64 bud, v24]) lcs ov xs mk w1 w1.heap.size #[.bool true, .int .i64 0, .int .i64 (N : Int), .int .i64 (K : Int), .int .i64 lx, .int .i64 ly, .slice op on oc] (copies L lx ly K p ++ copiesY L ((p : Int) * lx) ly q') wr := ⟨q + 1, by go_num, by omega, HA4.out⟩
          first | exact hr2 | ((repeat apply Exists.intro); exact ⟨hr2, rfl⟩)
        case measure => simp [intOf]; omega
    · have e : q = K := by omega
      have hA2 := HA.out
      rw [e] at hA2
      have HA2 := Lib.hid hA2
      have HE := Lib.hid e
      have hqK : K ≤ q := by omega
      clear hA2 e HA
      go_wp2_with fail
      go_roundw
      case rel =>
        have hr2 : ∃ p' : Nat, Value.int .i64 ((p : Int) + 1) = .int .i64 (p' : Int) ∧ p' ≤ N ∧ Laid P gL B n (fun m => #[v0, v1, v2, v3, v4, v5, v6, v7, v8, v9, v10, v11, v12, v13, v14, v15, v16, v17, v18, v19, v20, .slice (some ⟨gL, 0, none⟩) 1 capL, .int .i64 m, .int .i64 bud, v24]) lcs ov xs mk w1 w1.heap.size #[.bool true, .int .i64 0, .int .i64 (N : Int), .int .i64 (K : Int), .int .i64 lx, .int .i64 ly, .slice op on oc] (copies L lx ly K p') wr := ⟨p + 1, by go_num, by omega, HA2.out⟩
        first | exact hr2 | ((repeat apply Exists.intro); exact ⟨hr2, rfl⟩)
      case measure => simp [intOf]; omega
  · have e : p = N := by omega
    subst e
    go_wp2_with fail
    go_ret
    exact ⟨rfl, HA.out.1.fromP O1.out⟩
end Go.Proofs.YtfajckkbinbpiaaGreatDoor
