/- Walk: the statement's function. -/
import Derived.Deep.AppendLies
import Derived.Deep.CutBlock
import Derived.Deep.DeepCutAuto
import Derived.Deep.RegionLaw
import Derived.LoopTactic
import Derived.OwnWalk
import Derived.Test.YtfajckkbinbpiaaGreatDoorN09
import Derived.Test.YtfajckkbinbpiaaGreatDoorN27
import Derived.Test.YtfajckkbinbpiaaGreatDoorN29
import Derived.Test.YtfajckkbinbpiaaGreatDoorN34
import Derived.Test.YtfajckkbinbpiaaGreatDoorN45
import Derived.Test.YtfajckkbinbpiaaGreatDoorN46
import Derived.Test.YtfajckkbinbpiaaGreatDoorN48
namespace Go.Proofs.YtfajckkbinbpiaaGreatDoor
set_option maxRecDepth 100000
set_option maxHeartbeats 32000000
set_option linter.unusedVariables false
set_option linter.unusedSimpArgs false
open Go.RowKit Go.Sort
theorem PartsRd.pred : ∀ {m : Nat} {w : World} {v : Value}, PartsRd (m + 1) w v → PartsRd m w v
  | 0, _, _, h => h.len
  | m + 1, _, _, h => by
    obtain ⟨p, n, cap, rfl, hn, h⟩ := h
    refine ⟨p, n, cap, rfl, hn, fun h0 => ?_⟩
    obtain ⟨b, off, rfl, h1, h2⟩ := h h0
    refine ⟨b, off, rfl, h1, fun k hk => ?_⟩
    obtain ⟨dk, k0, x0, y0, c0, d0, e0, f0, r0, L, P, h3, h4, h5, h6⟩ := h2 k hk
    exact ⟨dk, k0, x0, y0, c0, d0, e0, f0, r0, L, P, h3, h4, h5, h6.pred⟩
theorem PartsRd.one {m : Nat} {w : World} {v : Value} : PartsRd (m + 1) w v → PartsRd 1 w v := by
  induction m with
  | zero => exact id
  | succ m ih => exact fun h => ih h.pred
structure ObjOut (B : Nat) (v : Value) (n : Nat) (ol : List Obj2) (W : World) : Prop where
  own : W.ownsRow B 65 11 v n (ol.flatMap oCells)
  len : ol.length = n
  sh : ∀ o ∈ ol, ShAt v.ownBlock.toList W o.1.2 o.2
  sm : ∀ o ∈ ol, SmSh o.1.2
theorem ObjOut.below {B C n : Nat} {v : Value} {ol : List Obj2} {W W' : World} (h : ObjOut B v n ol W) (hb : Below C W W') (hC : W.heap.size ≤ C) : ObjOut B v n ol W' :=
  ⟨own_below h.own hb hC, h.len, fun o ho => (h.sh o ho).below hb hC, h.sm⟩
theorem ObjOut.put {B n g c' : Nat} {v : Value} {ol : List Obj2} {ob : Obj2} {W W' : World} (h : ObjOut B v n ol W) (hg : W.grownBy W' v.ownBlock)
    (hw : W'.ownsRow B 65 11 (.slice (some ⟨g, 0, none⟩) (n + 1) c') (n + 1) (ol.flatMap oCells ++ oCells ob)) (ha : v.ownBlock = some g ∨ g = W.heap.size) (ho : ShAt v.ownBlock.toList W ob.1.2 ob.2) (hs : SmSh ob.1.2) : ObjOut B (.slice (some ⟨g, 0, none⟩) (n + 1) c') (n + 1) (ol ++ [ob]) W' := by
  have hmv : ∀ {s : Geo.Sh} {L : Value}, ShAt v.ownBlock.toList W s L → ShAt (Value.slice (some ⟨g, 0, none⟩) (n + 1) c').ownBlock.toList W' s L := fun hp =>
    hp.to hg.size (fun b hb hlt => hg.block b hlt (fun e => hb (by rw [← e]; simp))) (fun b hb hlt hm => by
      simp [Value.ownBlock] at hm
      subst hm
      rcases ha with h2 | h2
      · rw [h2] at hb; simp at hb
      · omega)
  refine ⟨by simpa using hw, by simp [h.len], fun o ho2 => ?_, fun o ho2 => ?_⟩
  · rcases List.mem_append.1 ho2 with h2 | h2
    · exact hmv (h.sh o h2)
    · simp only [List.mem_singleton] at h2
      subst h2; exact hmv ho
  · rcases List.mem_append.1 ho2 with h2 | h2
    · exact h.sm o h2
    · simp only [List.mem_singleton] at h2
      subst h2; exact hs
theorem ObjOut.objs {B n : Nat} {v : Value} {ol : List Obj2} {W : World} (h : ObjOut B v n ol W) : ObjsAt [] W v ol := by
  have hl := h.len
  have ho := h.own
  subst hl
  exact ObjsAt.of_own ho (fun b hb => by simp at hb) (fun o ho => (h.sh o ho).to (Nat.le_refl _) (fun _ _ _ => rfl) (fun b _ _ hm => by simp at hm))
theorem topflat_c (v0 : Value) (X Y P W H D : Int) (w : World) (hP : PartsRd 14 w v0) :
    Calls Tryz.prog 6 #[v0, .agg #[.int .i64 X, .int .i64 Y, .int .i64 P, .int .i64 W, .int .i64 H, .int .i64 D]] w fun e w' => e = .returned (.bool true) ∧ Below w.heap.size w w' := by
  obtain ⟨pp, np, cp, rfl, hnp⟩ := hP.len
  have HP := Lib.hid hP
  have CAW := Lib.hid awake_c
  obtain ⟨i48, hi48, hz0, hz1, hz2⟩ := info_parts info48
  have HI := Lib.hid (And.intro hi48 (And.intro hz0 (And.intro hz1 hz2)))
  have hZ : Hid ((Value.agg #[.bool false, .int .i64 0, .int .i64 0, .int .i64 0, .int .i64 0, .int .i64 0, .int .i64 0, .int .i64 0, .int .i64 0, .slice none 0 0, .slice none 0 0]).cells.size = 11) := Lib.hid (by kernel_rfl)
  clear hi48 hz0 hz1 hz2
  clear hP
  go_enter Tryz.func6, Tryz.ntmps6
  go_wp2_with fail
  refine (small21 _ _ (HP.out.below (by exact blw) (Nat.le_refl _))).mono ?_
  rintro e z1 ⟨r, rfl, hb⟩
  have hB1 : Below w.heap.size w z1 := Below.trans (by exact blw) (hb.mono (by first | (simp; done) | (simp; omega)))
  have kv : Blk z1 w.heap.size 27 #[.int .i64 X, .int .i64 Y, .int .i64 P, .int .i64 W, .int .i64 H, .int .i64 D] := Blk.below (by exact bkw) hb (by first | (simp; done) | (simp; omega))
  have HB1 := Lib.hid hB1
  have s1 := hB1.size
  clear hb hB1
  cases r
  · clear kv
    go_wp2_with fail
    refine (CAW.out _).mono ?_
    rintro e z2 ⟨rfl, hb⟩
    have HB2 := Lib.hid (HB1.out.trans (hb.mono s1))
    clear hb
    go_wp2_with fail
    go_ret
    exact ⟨rfl, HB2.out⟩
  have cv := kv.cell
  have lv := kv.lt
  have KV := Lib.hid kv
  clear kv
  go_wp2_with fail
  refine (tame22 X Y P W H D _).mono ?_
  rintro e z2 ⟨X1, Y1, P1, W1, H1, D1, kk, hX, hY, hPP, hW, hH, hD, hm, rfl, hb⟩
  obtain ⟨Wn, rfl⟩ : ∃ n : Nat, W1 = (n : Int) := ⟨W1.toNat, by omega⟩
  obtain ⟨Hn, rfl⟩ : ∃ n : Nat, H1 = (n : Int) := ⟨H1.toNat, by omega⟩
  obtain ⟨dn, rfl⟩ : ∃ n : Nat, D1 = (n : Int) := ⟨D1.toNat, by omega⟩
  have kv2 : Blk z2 w.heap.size 27 #[.int .i64 X, .int .i64 Y, .int .i64 P, .int .i64 W, .int .i64 H, .int .i64 D] := KV.out.below hb lv
  have hB2 : Below w.heap.size w z2 := HB1.out.trans (hb.mono s1)
  have HV := Lib.hid (And.intro hX (And.intro hY (And.intro hPP (And.intro hW (And.intro hH (And.intro hD hm))))))
  have KV2 := Lib.hid kv2
  have HB2 := Lib.hid hB2
  have s2 := hB2.size
  have lv2 := kv2.lt
  have fv2 := kv2.frozen
  clear hb kv2 hB2 hX hY hPP hW hH hD hm cv lv KV
  go_wp2_with (refine wpList_storeBlk rfl 27 (.tmp 3) (.tmp 21) rfl rfl (w.heap.size) #[.int .i64 X1, .int .i64 Y1, .int .i64 P1, .int .i64 (Wn : Int), .int .i64 (Hn : Int), .int .i64 (dn : Int)] (by simp [Act.eval]) (by simp [Act.eval]) 27 #[.int .i64 X, .int .i64 Y, .int .i64 P, .int .i64 W, .int .i64 H, .int .i64 D] (KV2.out) (by kernel_rfl) (by kernel_rfl) (by kernel_rfl) ?_)
  intro w1 hk hg
  have hB3 : Below w.heap.size w w1 := Below.grown HB2.out hg s2 (by intro b e; cases e; omega)
  have HB3 := Lib.hid hB3
  have HK := Lib.hid hk
  have s3 := hB3.size
  clear hk hg hB3 KV2 HB2 lv2 fv2
  go_upto_block 0 with fail
  go_cut [5, 6] (fun v5 v6 wx => ∃ q p c ol, q ≤ 8 ∧ v5 = .slice p q c ∧ ObjOut (w.heap.size + 1) (.slice p q c) q ol wx ∧ Blk wx w.heap.size 27 #[.int .i64 X1, .int .i64 Y1, .int .i64 P1, .int .i64 (Wn : Int), .int .i64 (Hn : Int), .int .i64 (dn : Int)] ∧ Below w.heap.size w wx)
  case first =>
    go_wp2_with fail
    go_loopw [5, 6] (fun v i wr => ∃ q : Nat, i = .int .i64 (q : Int) ∧ q ≤ np ∧ q ≤ 8 ∧ ∃ p c ol, v = .slice p q c ∧ ObjOut (w.heap.size + 1) (.slice p q c) q ol wr ∧ Blk wr w.heap.size 27 #[.int .i64 X1, .int .i64 Y1, .int .i64 P1, .int .i64 (Wn : Int), .int .i64 (Hn : Int), .int .i64 (dn : Int)] ∧ Below w.heap.size w wr) (fun v i wr => np - (intOf i).toNat)
    case atStart => exact ⟨0, rfl, Nat.zero_le _, by omega, none, 0, [], rfl, ⟨World.ownsRow_nil _ _ _ _, rfl, fun o ho => by simp at ho, fun o ho => by simp at ho⟩, HK.out, HB3.out⟩
    case round =>
    obtain ⟨q, rfl, hq, hq8, p, c, ol, rfl, hO, hV, hB⟩ := hrel
    by_cases hlt : q < np
    rotate_left
    · obtain rfl : q = np := by omega
      have HR := Lib.hid (And.intro hO (And.intro hV hB))
      clear hO hV hB
      go_wp2_with fail
      go_meet
      exact ⟨_, p, c, ol, hq8, rfl, HR.out.1, HR.out.2.1, HR.out.2.2⟩
    by_cases hlt8 : q < 8
    rotate_left
    · obtain rfl : q = 8 := by omega
      have HR := Lib.hid (And.intro hO (And.intro hV hB))
      clear hO hV hB
      go_wp2_with fail
      go_meet
      exact ⟨_, p, c, ol, hq8, rfl, HR.out.1, HR.out.2.1, HR.out.2.2⟩
    have d8 : decide ((q : Int) < 8) = true := by simp; omega
    obtain ⟨p', n', cap', e1, _, h1⟩ := HP.out.below hB (Nat.le_refl _)
    injection e1 with e1 e1n e1c
    subst e1 e1n e1c
    obtain ⟨b, off, rfl, lb, h1⟩ := h1 (by omega)
    obtain ⟨dk, k1, x1, y1, cc1, d1, ee1, f1, r1, L1, Q1, hdk0, h2, h3, h4⟩ := h1 q hlt
    have z0 := h2 0 _ rfl
    have z1 := h2 1 _ rfl
    have z2 := h2 2 _ rfl
    have z3 := h2 3 _ rfl
    have z4 := h2 4 _ rfl
    have z5 := h2 5 _ rfl
    have z6 := h2 6 _ rfl
    have z7 := h2 7 _ rfl
    have z8 := h2 8 _ rfl
    have z9 := h2 9 _ rfl
    simp only [Nat.reduceAdd] at z0 z1 z2 z3 z4 z5 z6 z7 z8 z9
    obtain ⟨pp1, np1, cp1, eP1, _⟩ := h4.len
    obtain ⟨pl1, nl1, cl1, eL1, _⟩ := id h3
    subst eP1 eL1
    have hc := tame10 (Value.slice p q c).ownBlock.toList k1 x1 y1 cc1 d1 ee1 f1 r1 _ _ wr h3 h4.one (fun b hb => own_lt hO.own (by simpa using hb))
    unfold shV at hc
    have HC := Lib.hid hc
    have HO := Lib.hid hO
    have HVb := Lib.hid hV
    have HB := Lib.hid hB
    have HD := Lib.hid hdk0
    have sB := hB.size
    clear h1 h2 h3 h4 hO hV hB hc hdk0
    go_wp2_with fail
    refine (HC.out).mono ?_
    rintro e z ⟨cs, rfl, ht, hb⟩
    have HO2 := Lib.hid (HO.out.below hb (Nat.le_refl _))
    have HV2 := Lib.hid (HVb.out.below hb HVb.out.lt)
    have HB2 := Lib.hid (HB.out.trans (hb.mono sB))
    have hdk1 : z.cell? ⟨b, off + q * 11, none⟩ = some (.bool dk) := (World.cell?_of_block (hb.block b lb)).trans HD.out
    have HD2 := Lib.hid hdk1
    have LB2 := Lib.hid (show b < z.heap.size from Nat.lt_of_lt_of_le lb hb.size)
    have sz := HB2.out.size
    clear hb HO HVb HB hdk1 HD z0 z1 z2 z3 z4 z5 z6 z7 z8 z9 HC
    rcases ht with ⟨x, y, r, hx, hy, hr⟩ | ⟨L, ls, hl, hf, hp⟩ | ⟨x, y, cc, dd, r, hx, hy, hc, hd, hr⟩ | ⟨x, y, cc, dd, r, hx, hy, hr⟩ | ⟨x, y, cc, dd, ee, ff, r, hx, hy, hr⟩
    · -- disc
      go_upto_region 11 with fail
      obtain ⟨zz, ezz⟩ : ∃ zz, z.alloc (.cells #[.int .i64 1, .int .i64 x, .int .i64 y, .int .i64 0, .int .i64 0, .int .i64 0, .int .i64 0, .int .i64 r, .slice none 0 0, .slice none 0 0] 62) = zz := ⟨_, rfl⟩
      have kS : Blk zz z.heap.size 62 #[.int .i64 1, .int .i64 x, .int .i64 y, .int .i64 0, .int .i64 0, .int .i64 0, .int .i64 0, .int .i64 r, .slice none 0 0, .slice none 0 0] := by rw [← ezz]; exact Blk.new _ _ _
      have hzz : Below z.heap.size z zz := by rw [← ezz]; exact (Below.refl _ _).alloc (Nat.le_refl _) _
      have hOz : ObjOut (w.heap.size + 1) (.slice p q c) q ol zz := HO2.out.below hzz (Nat.le_refl _)
      have hBz : Below w.heap.size w zz := HB2.out.trans (hzz.mono HB2.out.size)
      have hVz : Blk zz w.heap.size 27 #[.int .i64 X1, .int .i64 Y1, .int .i64 P1, .int .i64 (Wn : Int), .int .i64 (Hn : Int), .int .i64 (dn : Int)] := HV2.out.below hzz HV2.out.lt
      have hdk : zz.cell? ⟨b, off + q * 11, none⟩ = some (.bool dk) := (World.cell?_of_block (hzz.block b LB2.out)).trans HD2.out
      have lbz : b < zz.heap.size := Nat.lt_of_lt_of_le LB2.out hzz.size
      have hshat : ShAt (Value.slice p q c).ownBlock.toList zz (Geo.Sh.disc x y r) (.slice none 0 0) := True.intro
      have hN : ∀ j v, ([.bool dk, .int .i64 1, .int .i64 x, .int .i64 y, .int .i64 0, .int .i64 0, .int .i64 0, .int .i64 0, .int .i64 r, .slice none 0 0, .slice none 0 0] : List Value)[j]? = some v → ((zz.alloc (.cells #[.bool dk, .int .i64 1, .int .i64 x, .int .i64 y, .int .i64 0, .int .i64 0, .int .i64 0, .int .i64 0, .int .i64 r, .slice none 0 0, .slice none 0 0] 65)).drew).cell? ((⟨zz.heap.size, 0, none⟩ : Addr).add j) = some v :=
        World.news_of_block (cs := #[.bool dk, .int .i64 1, .int .i64 x, .int .i64 y, .int .i64 0, .int .i64 0, .int .i64 0, .int .i64 0, .int .i64 r, .slice none 0 0, .slice none 0 0]) (Blk.newAt (w := zz) rfl)
      have hOw : ((zz.alloc (.cells #[.bool dk, .int .i64 1, .int .i64 x, .int .i64 y, .int .i64 0, .int .i64 0, .int .i64 0, .int .i64 0, .int .i64 r, .slice none 0 0, .slice none 0 0] 65)).drew).ownsRow (w.heap.size + 1) 65 11 (.slice p q c) q (ol.flatMap oCells) := World.ownsRow.drew (hOz.own.alloc _)
      have hone : ∀ u ∈ ([.bool dk, .int .i64 1, .int .i64 x, .int .i64 y, .int .i64 0, .int .i64 0, .int .i64 0, .int .i64 0, .int .i64 r, .slice none 0 0, .slice none 0 0] : List Value), u.oneCell' = true := by
        intro u hu
        simp only [List.mem_cons, List.not_mem_nil, or_false] at hu
        rcases hu with rfl | rfl | rfl | rfl | rfl | rfl | rfl | rfl | rfl | rfl | rfl <;> rfl
      have HN := Lib.hid hN
      have HOX := Lib.hid hOw
      have HON := Lib.hid hone
      have HZ := Lib.hid (And.intro hOz (And.intro hBz (And.intro hVz hshat)))
      have cS := kS.cell
      have lS := kS.lt
      have szz := hBz.size
      have m1 : q + 1 ≤ maxLen := by unfold maxLen; omega
      have m2 : (q + 1) * 120 ≤ 140737488355328 := by omega
      have m4 : w.heap.size + 1 ≤ ((zz.alloc (.cells #[.bool dk, .int .i64 1, .int .i64 x, .int .i64 y, .int .i64 0, .int .i64 0, .int .i64 0, .int .i64 0, .int .i64 r, .slice none 0 0, .slice none 0 0] 65)).drew).heap.size := by first | (simp; done) | (simp; omega)
      have MM := Lib.hid (And.intro m1 (And.intro m2 m4))
      have HSM : Hid (SmSh (Geo.Sh.disc x y r)) := Lib.hid (⟨⟨by omega, by omega⟩, ⟨by omega, by omega⟩, by omega, by omega⟩)
      rw [ezz]
      clear ezz kS hzz hOz hBz hVz hN hOw hone m1 m2 m4 hshat HO2 HB2 HV2
      go_region_law (refine step_append_lies _ rfl (.tmp 51) (.tmp 59) 47 rfl (w.heap.size + 1) 65 i48 _ 11 120 Tryz.underlying47 HI.out.1 HI.out.2.1 HI.out.2.2.1 HI.out.2.2.2 hZ.out (by decide) (.slice p q c) q (ol.flatMap oCells) (by simp [Act.eval, Act.put]) HOX.out ⟨zz.heap.size, 0, none⟩ 1 1 [.bool dk, .int .i64 1, .int .i64 x, .int .i64 y, .int .i64 0, .int .i64 0, .int .i64 0, .int .i64 0, .int .i64 r, .slice none 0 0, .slice none 0 0] (by simp [Act.eval, Act.put]) rfl HN.out HON.out (by decide) MM.out.1 MM.out.2.1 MM.out.2.2 _ rfl ?_; intro gn cn zY hown hgrow hat hlt3)
      all_goals
        have hOY : ObjOut (w.heap.size + 1) (.slice (some ⟨gn, 0, none⟩) (q + 1) cn) (q + 1) (ol ++ [((dk, (Geo.Sh.disc x y r)), (.slice none 0 0))]) zY := (HZ.out.1.below (((Below.refl _ _).alloc (Nat.le_refl _) (.cells #[.bool dk, .int .i64 1, .int .i64 x, .int .i64 y, .int .i64 0, .int .i64 0, .int .i64 0, .int .i64 0, .int .i64 r, .slice none 0 0, .slice none 0 0] 65)).drew) (Nat.le_refl _)).put hgrow hown hat (((HZ.out.2.2.2).alloc (.cells #[.bool dk, .int .i64 1, .int .i64 x, .int .i64 y, .int .i64 0, .int .i64 0, .int .i64 0, .int .i64 0, .int .i64 r, .slice none 0 0, .slice none 0 0] 65)).drew) HSM.out
        have hBY : Below w.heap.size w zY := Below.grown ((HZ.out.2.1.alloc szz (.cells #[.bool dk, .int .i64 1, .int .i64 x, .int .i64 y, .int .i64 0, .int .i64 0, .int .i64 0, .int .i64 0, .int .i64 r, .slice none 0 0, .slice none 0 0] 65)).drew) hgrow (by first | (simp; done) | (simp; omega)) (fun b' hb' => by have := own_ge HOX.out hb'; omega)
        have hVY : Blk zY w.heap.size 27 #[.int .i64 X1, .int .i64 Y1, .int .i64 P1, .int .i64 (Wn : Int), .int .i64 (Hn : Int), .int .i64 (dn : Int)] := (HZ.out.2.2.1.alloc (.cells #[.bool dk, .int .i64 1, .int .i64 x, .int .i64 y, .int .i64 0, .int .i64 0, .int .i64 0, .int .i64 0, .int .i64 r, .slice none 0 0, .slice none 0 0] 65)).drew.grown hgrow (fun e => own_blk_ne HOX.out (HZ.out.2.2.1.alloc (.cells #[.bool dk, .int .i64 1, .int .i64 x, .int .i64 y, .int .i64 0, .int .i64 0, .int .i64 0, .int .i64 0, .int .i64 r, .slice none 0 0, .slice none 0 0] 65)).drew (by decide) e.symm)
        have HY := Lib.hid (And.intro hOY (And.intro hVY hBY))
        clear hown hgrow hat hlt3 hOY hBY hVY cS lS
        go_wp2_with fail
        go_roundw
        case rel =>
          have hr2 : ∃ q' : Nat, Value.int .i64 ((q : Int) + 1) = .int .i64 (q' : Int) ∧ q' ≤ np ∧ q' ≤ 8 ∧ ∃ p c ol, Value.slice (some ⟨gn, 0, none⟩) (q + 1) cn = .slice p q' c ∧ ObjOut (w.heap.size + 1) (.slice p q' c) q' ol zY ∧ Blk zY w.heap.size 27 #[.int .i64 X1, .int .i64 Y1, .int .i64 P1, .int .i64 (Wn : Int), .int .i64 (Hn : Int), .int .i64 (dn : Int)] ∧ Below w.heap.size w zY :=
            ⟨q + 1, by go_num, by omega, by omega, some ⟨gn, 0, none⟩, cn, _, rfl, HY.out.1, HY.out.2.1, HY.out.2.2⟩
          first | exact hr2 | ((repeat apply Exists.intro); exact ⟨hr2, rfl⟩)
        case measure => simp [intOf]; omega
    · -- poly
      obtain ⟨lp, lc, eL, _⟩ := id hp
      subst eL
      go_upto_region 11 with fail
      obtain ⟨zz, ezz⟩ : ∃ zz, z.alloc (.cells #[.int .i64 2, .int .i64 0, .int .i64 0, .int .i64 0, .int .i64 0, .int .i64 0, .int .i64 0, .int .i64 0, .slice lp ls.length lc, .slice none 0 0] 62) = zz := ⟨_, rfl⟩
      have kS : Blk zz z.heap.size 62 #[.int .i64 2, .int .i64 0, .int .i64 0, .int .i64 0, .int .i64 0, .int .i64 0, .int .i64 0, .int .i64 0, .slice lp ls.length lc, .slice none 0 0] := by rw [← ezz]; exact Blk.new _ _ _
      have hzz : Below z.heap.size z zz := by rw [← ezz]; exact (Below.refl _ _).alloc (Nat.le_refl _) _
      have hOz : ObjOut (w.heap.size + 1) (.slice p q c) q ol zz := HO2.out.below hzz (Nat.le_refl _)
      have hBz : Below w.heap.size w zz := HB2.out.trans (hzz.mono HB2.out.size)
      have hVz : Blk zz w.heap.size 27 #[.int .i64 X1, .int .i64 Y1, .int .i64 P1, .int .i64 (Wn : Int), .int .i64 (Hn : Int), .int .i64 (dn : Int)] := HV2.out.below hzz HV2.out.lt
      have hdk : zz.cell? ⟨b, off + q * 11, none⟩ = some (.bool dk) := (World.cell?_of_block (hzz.block b LB2.out)).trans HD2.out
      have lbz : b < zz.heap.size := Nat.lt_of_lt_of_le LB2.out hzz.size
      have hshat : ShAt (Value.slice p q c).ownBlock.toList zz (Geo.Sh.poly ls) (.slice lp ls.length lc) := (show PolyAt _ zz _ _ from PolyAt.below hp hzz (Nat.le_refl _))
      have hN : ∀ j v, ([.bool dk, .int .i64 2, .int .i64 0, .int .i64 0, .int .i64 0, .int .i64 0, .int .i64 0, .int .i64 0, .int .i64 0, .slice lp ls.length lc, .slice none 0 0] : List Value)[j]? = some v → ((zz.alloc (.cells #[.bool dk, .int .i64 2, .int .i64 0, .int .i64 0, .int .i64 0, .int .i64 0, .int .i64 0, .int .i64 0, .int .i64 0, .slice lp ls.length lc, .slice none 0 0] 65)).drew).cell? ((⟨zz.heap.size, 0, none⟩ : Addr).add j) = some v :=
        World.news_of_block (cs := #[.bool dk, .int .i64 2, .int .i64 0, .int .i64 0, .int .i64 0, .int .i64 0, .int .i64 0, .int .i64 0, .int .i64 0, .slice lp ls.length lc, .slice none 0 0]) (Blk.newAt (w := zz) rfl)
      have hOw : ((zz.alloc (.cells #[.bool dk, .int .i64 2, .int .i64 0, .int .i64 0, .int .i64 0, .int .i64 0, .int .i64 0, .int .i64 0, .int .i64 0, .slice lp ls.length lc, .slice none 0 0] 65)).drew).ownsRow (w.heap.size + 1) 65 11 (.slice p q c) q (ol.flatMap oCells) := World.ownsRow.drew (hOz.own.alloc _)
      have hone : ∀ u ∈ ([.bool dk, .int .i64 2, .int .i64 0, .int .i64 0, .int .i64 0, .int .i64 0, .int .i64 0, .int .i64 0, .int .i64 0, .slice lp ls.length lc, .slice none 0 0] : List Value), u.oneCell' = true := by
        intro u hu
        simp only [List.mem_cons, List.not_mem_nil, or_false] at hu
        rcases hu with rfl | rfl | rfl | rfl | rfl | rfl | rfl | rfl | rfl | rfl | rfl <;> rfl
      have HN := Lib.hid hN
      have HOX := Lib.hid hOw
      have HON := Lib.hid hone
      have HZ := Lib.hid (And.intro hOz (And.intro hBz (And.intro hVz hshat)))
      have cS := kS.cell
      have lS := kS.lt
      have szz := hBz.size
      have m1 : q + 1 ≤ maxLen := by unfold maxLen; omega
      have m2 : (q + 1) * 120 ≤ 140737488355328 := by omega
      have m4 : w.heap.size + 1 ≤ ((zz.alloc (.cells #[.bool dk, .int .i64 2, .int .i64 0, .int .i64 0, .int .i64 0, .int .i64 0, .int .i64 0, .int .i64 0, .int .i64 0, .slice lp ls.length lc, .slice none 0 0] 65)).drew).heap.size := by first | (simp; done) | (simp; omega)
      have MM := Lib.hid (And.intro m1 (And.intro m2 m4))
      have HSM : Hid (SmSh (Geo.Sh.poly ls)) := Lib.hid (⟨hl, hf⟩)
      rw [ezz]
      clear ezz kS hzz hOz hBz hVz hN hOw hone m1 m2 m4 hshat HO2 HB2 HV2
      go_region_law (refine step_append_lies _ rfl (.tmp 51) (.tmp 59) 47 rfl (w.heap.size + 1) 65 i48 _ 11 120 Tryz.underlying47 HI.out.1 HI.out.2.1 HI.out.2.2.1 HI.out.2.2.2 hZ.out (by decide) (.slice p q c) q (ol.flatMap oCells) (by simp [Act.eval, Act.put]) HOX.out ⟨zz.heap.size, 0, none⟩ 1 1 [.bool dk, .int .i64 2, .int .i64 0, .int .i64 0, .int .i64 0, .int .i64 0, .int .i64 0, .int .i64 0, .int .i64 0, .slice lp ls.length lc, .slice none 0 0] (by simp [Act.eval, Act.put]) rfl HN.out HON.out (by decide) MM.out.1 MM.out.2.1 MM.out.2.2 _ rfl ?_; intro gn cn zY hown hgrow hat hlt3)
      all_goals
        have hOY : ObjOut (w.heap.size + 1) (.slice (some ⟨gn, 0, none⟩) (q + 1) cn) (q + 1) (ol ++ [((dk, (Geo.Sh.poly ls)), (.slice lp ls.length lc))]) zY := (HZ.out.1.below (((Below.refl _ _).alloc (Nat.le_refl _) (.cells #[.bool dk, .int .i64 2, .int .i64 0, .int .i64 0, .int .i64 0, .int .i64 0, .int .i64 0, .int .i64 0, .int .i64 0, .slice lp ls.length lc, .slice none 0 0] 65)).drew) (Nat.le_refl _)).put hgrow hown hat (((HZ.out.2.2.2).alloc (.cells #[.bool dk, .int .i64 2, .int .i64 0, .int .i64 0, .int .i64 0, .int .i64 0, .int .i64 0, .int .i64 0, .int .i64 0, .slice lp ls.length lc, .slice none 0 0] 65)).drew) HSM.out
        have hBY : Below w.heap.size w zY := Below.grown ((HZ.out.2.1.alloc szz (.cells #[.bool dk, .int .i64 2, .int .i64 0, .int .i64 0, .int .i64 0, .int .i64 0, .int .i64 0, .int .i64 0, .int .i64 0, .slice lp ls.length lc, .slice none 0 0] 65)).drew) hgrow (by first | (simp; done) | (simp; omega)) (fun b' hb' => by have := own_ge HOX.out hb'; omega)
        have hVY : Blk zY w.heap.size 27 #[.int .i64 X1, .int .i64 Y1, .int .i64 P1, .int .i64 (Wn : Int), .int .i64 (Hn : Int), .int .i64 (dn : Int)] := (HZ.out.2.2.1.alloc (.cells #[.bool dk, .int .i64 2, .int .i64 0, .int .i64 0, .int .i64 0, .int .i64 0, .int .i64 0, .int .i64 0, .int .i64 0, .slice lp ls.length lc, .slice none 0 0] 65)).drew.grown hgrow (fun e => own_blk_ne HOX.out (HZ.out.2.2.1.alloc (.cells #[.bool dk, .int .i64 2, .int .i64 0, .int .i64 0, .int .i64 0, .int .i64 0, .int .i64 0, .int .i64 0, .int .i64 0, .slice lp ls.length lc, .slice none 0 0] 65)).drew (by decide) e.symm)
        have HY := Lib.hid (And.intro hOY (And.intro hVY hBY))
        clear hown hgrow hat hlt3 hOY hBY hVY cS lS
        go_wp2_with fail
        go_roundw
        case rel =>
          have hr2 : ∃ q' : Nat, Value.int .i64 ((q : Int) + 1) = .int .i64 (q' : Int) ∧ q' ≤ np ∧ q' ≤ 8 ∧ ∃ p c ol, Value.slice (some ⟨gn, 0, none⟩) (q + 1) cn = .slice p q' c ∧ ObjOut (w.heap.size + 1) (.slice p q' c) q' ol zY ∧ Blk zY w.heap.size 27 #[.int .i64 X1, .int .i64 Y1, .int .i64 P1, .int .i64 (Wn : Int), .int .i64 (Hn : Int), .int .i64 (dn : Int)] ∧ Below w.heap.size w zY :=
            ⟨q + 1, by go_num, by omega, by omega, some ⟨gn, 0, none⟩, cn, _, rfl, HY.out.1, HY.out.2.1, HY.out.2.2⟩
          first | exact hr2 | ((repeat apply Exists.intro); exact ⟨hr2, rfl⟩)
        case measure => simp [intOf]; omega
    · -- line
      go_upto_region 11 with fail
      obtain ⟨zz, ezz⟩ : ∃ zz, z.alloc (.cells #[.int .i64 3, .int .i64 x, .int .i64 y, .int .i64 cc, .int .i64 dd, .int .i64 0, .int .i64 0, .int .i64 r, .slice none 0 0, .slice none 0 0] 62) = zz := ⟨_, rfl⟩
      have kS : Blk zz z.heap.size 62 #[.int .i64 3, .int .i64 x, .int .i64 y, .int .i64 cc, .int .i64 dd, .int .i64 0, .int .i64 0, .int .i64 r, .slice none 0 0, .slice none 0 0] := by rw [← ezz]; exact Blk.new _ _ _
      have hzz : Below z.heap.size z zz := by rw [← ezz]; exact (Below.refl _ _).alloc (Nat.le_refl _) _
      have hOz : ObjOut (w.heap.size + 1) (.slice p q c) q ol zz := HO2.out.below hzz (Nat.le_refl _)
      have hBz : Below w.heap.size w zz := HB2.out.trans (hzz.mono HB2.out.size)
      have hVz : Blk zz w.heap.size 27 #[.int .i64 X1, .int .i64 Y1, .int .i64 P1, .int .i64 (Wn : Int), .int .i64 (Hn : Int), .int .i64 (dn : Int)] := HV2.out.below hzz HV2.out.lt
      have hdk : zz.cell? ⟨b, off + q * 11, none⟩ = some (.bool dk) := (World.cell?_of_block (hzz.block b LB2.out)).trans HD2.out
      have lbz : b < zz.heap.size := Nat.lt_of_lt_of_le LB2.out hzz.size
      have hshat : ShAt (Value.slice p q c).ownBlock.toList zz (Geo.Sh.line x y cc dd r) (.slice none 0 0) := True.intro
      have hN : ∀ j v, ([.bool dk, .int .i64 3, .int .i64 x, .int .i64 y, .int .i64 cc, .int .i64 dd, .int .i64 0, .int .i64 0, .int .i64 r, .slice none 0 0, .slice none 0 0] : List Value)[j]? = some v → ((zz.alloc (.cells #[.bool dk, .int .i64 3, .int .i64 x, .int .i64 y, .int .i64 cc, .int .i64 dd, .int .i64 0, .int .i64 0, .int .i64 r, .slice none 0 0, .slice none 0 0] 65)).drew).cell? ((⟨zz.heap.size, 0, none⟩ : Addr).add j) = some v :=
        World.news_of_block (cs := #[.bool dk, .int .i64 3, .int .i64 x, .int .i64 y, .int .i64 cc, .int .i64 dd, .int .i64 0, .int .i64 0, .int .i64 r, .slice none 0 0, .slice none 0 0]) (Blk.newAt (w := zz) rfl)
      have hOw : ((zz.alloc (.cells #[.bool dk, .int .i64 3, .int .i64 x, .int .i64 y, .int .i64 cc, .int .i64 dd, .int .i64 0, .int .i64 0, .int .i64 r, .slice none 0 0, .slice none 0 0] 65)).drew).ownsRow (w.heap.size + 1) 65 11 (.slice p q c) q (ol.flatMap oCells) := World.ownsRow.drew (hOz.own.alloc _)
      have hone : ∀ u ∈ ([.bool dk, .int .i64 3, .int .i64 x, .int .i64 y, .int .i64 cc, .int .i64 dd, .int .i64 0, .int .i64 0, .int .i64 r, .slice none 0 0, .slice none 0 0] : List Value), u.oneCell' = true := by
        intro u hu
        simp only [List.mem_cons, List.not_mem_nil, or_false] at hu
        rcases hu with rfl | rfl | rfl | rfl | rfl | rfl | rfl | rfl | rfl | rfl | rfl <;> rfl
      have HN := Lib.hid hN
      have HOX := Lib.hid hOw
      have HON := Lib.hid hone
      have HZ := Lib.hid (And.intro hOz (And.intro hBz (And.intro hVz hshat)))
      have cS := kS.cell
      have lS := kS.lt
      have szz := hBz.size
      have m1 : q + 1 ≤ maxLen := by unfold maxLen; omega
      have m2 : (q + 1) * 120 ≤ 140737488355328 := by omega
      have m4 : w.heap.size + 1 ≤ ((zz.alloc (.cells #[.bool dk, .int .i64 3, .int .i64 x, .int .i64 y, .int .i64 cc, .int .i64 dd, .int .i64 0, .int .i64 0, .int .i64 r, .slice none 0 0, .slice none 0 0] 65)).drew).heap.size := by first | (simp; done) | (simp; omega)
      have MM := Lib.hid (And.intro m1 (And.intro m2 m4))
      have HSM : Hid (SmSh (Geo.Sh.line x y cc dd r)) := Lib.hid (⟨⟨by omega, by omega⟩, ⟨by omega, by omega⟩, ⟨by omega, by omega⟩, ⟨by omega, by omega⟩, by omega, by omega⟩)
      rw [ezz]
      clear ezz kS hzz hOz hBz hVz hN hOw hone m1 m2 m4 hshat HO2 HB2 HV2
      go_region_law (refine step_append_lies _ rfl (.tmp 51) (.tmp 59) 47 rfl (w.heap.size + 1) 65 i48 _ 11 120 Tryz.underlying47 HI.out.1 HI.out.2.1 HI.out.2.2.1 HI.out.2.2.2 hZ.out (by decide) (.slice p q c) q (ol.flatMap oCells) (by simp [Act.eval, Act.put]) HOX.out ⟨zz.heap.size, 0, none⟩ 1 1 [.bool dk, .int .i64 3, .int .i64 x, .int .i64 y, .int .i64 cc, .int .i64 dd, .int .i64 0, .int .i64 0, .int .i64 r, .slice none 0 0, .slice none 0 0] (by simp [Act.eval, Act.put]) rfl HN.out HON.out (by decide) MM.out.1 MM.out.2.1 MM.out.2.2 _ rfl ?_; intro gn cn zY hown hgrow hat hlt3)
      all_goals
        have hOY : ObjOut (w.heap.size + 1) (.slice (some ⟨gn, 0, none⟩) (q + 1) cn) (q + 1) (ol ++ [((dk, (Geo.Sh.line x y cc dd r)), (.slice none 0 0))]) zY := (HZ.out.1.below (((Below.refl _ _).alloc (Nat.le_refl _) (.cells #[.bool dk, .int .i64 3, .int .i64 x, .int .i64 y, .int .i64 cc, .int .i64 dd, .int .i64 0, .int .i64 0, .int .i64 r, .slice none 0 0, .slice none 0 0] 65)).drew) (Nat.le_refl _)).put hgrow hown hat (((HZ.out.2.2.2).alloc (.cells #[.bool dk, .int .i64 3, .int .i64 x, .int .i64 y, .int .i64 cc, .int .i64 dd, .int .i64 0, .int .i64 0, .int .i64 r, .slice none 0 0, .slice none 0 0] 65)).drew) HSM.out
        have hBY : Below w.heap.size w zY := Below.grown ((HZ.out.2.1.alloc szz (.cells #[.bool dk, .int .i64 3, .int .i64 x, .int .i64 y, .int .i64 cc, .int .i64 dd, .int .i64 0, .int .i64 0, .int .i64 r, .slice none 0 0, .slice none 0 0] 65)).drew) hgrow (by first | (simp; done) | (simp; omega)) (fun b' hb' => by have := own_ge HOX.out hb'; omega)
        have hVY : Blk zY w.heap.size 27 #[.int .i64 X1, .int .i64 Y1, .int .i64 P1, .int .i64 (Wn : Int), .int .i64 (Hn : Int), .int .i64 (dn : Int)] := (HZ.out.2.2.1.alloc (.cells #[.bool dk, .int .i64 3, .int .i64 x, .int .i64 y, .int .i64 cc, .int .i64 dd, .int .i64 0, .int .i64 0, .int .i64 r, .slice none 0 0, .slice none 0 0] 65)).drew.grown hgrow (fun e => own_blk_ne HOX.out (HZ.out.2.2.1.alloc (.cells #[.bool dk, .int .i64 3, .int .i64 x, .int .i64 y, .int .i64 cc, .int .i64 dd, .int .i64 0, .int .i64 0, .int .i64 r, .slice none 0 0, .slice none 0 0] 65)).drew (by decide) e.symm)
        have HY := Lib.hid (And.intro hOY (And.intro hVY hBY))
        clear hown hgrow hat hlt3 hOY hBY hVY cS lS
        go_wp2_with fail
        go_roundw
        case rel =>
          have hr2 : ∃ q' : Nat, Value.int .i64 ((q : Int) + 1) = .int .i64 (q' : Int) ∧ q' ≤ np ∧ q' ≤ 8 ∧ ∃ p c ol, Value.slice (some ⟨gn, 0, none⟩) (q + 1) cn = .slice p q' c ∧ ObjOut (w.heap.size + 1) (.slice p q' c) q' ol zY ∧ Blk zY w.heap.size 27 #[.int .i64 X1, .int .i64 Y1, .int .i64 P1, .int .i64 (Wn : Int), .int .i64 (Hn : Int), .int .i64 (dn : Int)] ∧ Below w.heap.size w zY :=
            ⟨q + 1, by go_num, by omega, by omega, some ⟨gn, 0, none⟩, cn, _, rfl, HY.out.1, HY.out.2.1, HY.out.2.2⟩
          first | exact hr2 | ((repeat apply Exists.intro); exact ⟨hr2, rfl⟩)
        case measure => simp [intOf]; omega
    · -- bar
      go_upto_region 11 with fail
      obtain ⟨zz, ezz⟩ : ∃ zz, z.alloc (.cells #[.int .i64 1, .int .i64 x, .int .i64 y, .int .i64 0, .int .i64 0, .int .i64 0, .int .i64 0, .int .i64 r, .slice none 0 0, .slice none 0 0] 62) = zz := ⟨_, rfl⟩
      have kS : Blk zz z.heap.size 62 #[.int .i64 1, .int .i64 x, .int .i64 y, .int .i64 0, .int .i64 0, .int .i64 0, .int .i64 0, .int .i64 r, .slice none 0 0, .slice none 0 0] := by rw [← ezz]; exact Blk.new _ _ _
      have hzz : Below z.heap.size z zz := by rw [← ezz]; exact (Below.refl _ _).alloc (Nat.le_refl _) _
      have hOz : ObjOut (w.heap.size + 1) (.slice p q c) q ol zz := HO2.out.below hzz (Nat.le_refl _)
      have hBz : Below w.heap.size w zz := HB2.out.trans (hzz.mono HB2.out.size)
      have hVz : Blk zz w.heap.size 27 #[.int .i64 X1, .int .i64 Y1, .int .i64 P1, .int .i64 (Wn : Int), .int .i64 (Hn : Int), .int .i64 (dn : Int)] := HV2.out.below hzz HV2.out.lt
      have hdk : zz.cell? ⟨b, off + q * 11, none⟩ = some (.bool dk) := (World.cell?_of_block (hzz.block b LB2.out)).trans HD2.out
      have lbz : b < zz.heap.size := Nat.lt_of_lt_of_le LB2.out hzz.size
      have hshat : ShAt (Value.slice p q c).ownBlock.toList zz (Geo.Sh.disc x y r) (.slice none 0 0) := True.intro
      have hN : ∀ j v, ([.bool dk, .int .i64 1, .int .i64 x, .int .i64 y, .int .i64 0, .int .i64 0, .int .i64 0, .int .i64 0, .int .i64 r, .slice none 0 0, .slice none 0 0] : List Value)[j]? = some v → ((zz.alloc (.cells #[.bool dk, .int .i64 1, .int .i64 x, .int .i64 y, .int .i64 0, .int .i64 0, .int .i64 0, .int .i64 0, .int .i64 r, .slice none 0 0, .slice none 0 0] 65)).drew).cell? ((⟨zz.heap.size, 0, none⟩ : Addr).add j) = some v :=
        World.news_of_block (cs := #[.bool dk, .int .i64 1, .int .i64 x, .int .i64 y, .int .i64 0, .int .i64 0, .int .i64 0, .int .i64 0, .int .i64 r, .slice none 0 0, .slice none 0 0]) (Blk.newAt (w := zz) rfl)
      have hOw : ((zz.alloc (.cells #[.bool dk, .int .i64 1, .int .i64 x, .int .i64 y, .int .i64 0, .int .i64 0, .int .i64 0, .int .i64 0, .int .i64 r, .slice none 0 0, .slice none 0 0] 65)).drew).ownsRow (w.heap.size + 1) 65 11 (.slice p q c) q (ol.flatMap oCells) := World.ownsRow.drew (hOz.own.alloc _)
      have hone : ∀ u ∈ ([.bool dk, .int .i64 1, .int .i64 x, .int .i64 y, .int .i64 0, .int .i64 0, .int .i64 0, .int .i64 0, .int .i64 r, .slice none 0 0, .slice none 0 0] : List Value), u.oneCell' = true := by
        intro u hu
        simp only [List.mem_cons, List.not_mem_nil, or_false] at hu
        rcases hu with rfl | rfl | rfl | rfl | rfl | rfl | rfl | rfl | rfl | rfl | rfl <;> rfl
      have HN := Lib.hid hN
      have HOX := Lib.hid hOw
      have HON := Lib.hid hone
      have HZ := Lib.hid (And.intro hOz (And.intro hBz (And.intro hVz hshat)))
      have cS := kS.cell
      have lS := kS.lt
      have szz := hBz.size
      have m1 : q + 1 ≤ maxLen := by unfold maxLen; omega
      have m2 : (q + 1) * 120 ≤ 140737488355328 := by omega
      have m4 : w.heap.size + 1 ≤ ((zz.alloc (.cells #[.bool dk, .int .i64 1, .int .i64 x, .int .i64 y, .int .i64 0, .int .i64 0, .int .i64 0, .int .i64 0, .int .i64 r, .slice none 0 0, .slice none 0 0] 65)).drew).heap.size := by first | (simp; done) | (simp; omega)
      have MM := Lib.hid (And.intro m1 (And.intro m2 m4))
      have HSM : Hid (SmSh (Geo.Sh.disc x y r)) := Lib.hid (⟨⟨by omega, by omega⟩, ⟨by omega, by omega⟩, by omega, by omega⟩)
      rw [ezz]
      clear ezz kS hzz hOz hBz hVz hN hOw hone m1 m2 m4 hshat HO2 HB2 HV2
      go_region_law (refine step_append_lies _ rfl (.tmp 51) (.tmp 59) 47 rfl (w.heap.size + 1) 65 i48 _ 11 120 Tryz.underlying47 HI.out.1 HI.out.2.1 HI.out.2.2.1 HI.out.2.2.2 hZ.out (by decide) (.slice p q c) q (ol.flatMap oCells) (by simp [Act.eval, Act.put]) HOX.out ⟨zz.heap.size, 0, none⟩ 1 1 [.bool dk, .int .i64 1, .int .i64 x, .int .i64 y, .int .i64 0, .int .i64 0, .int .i64 0, .int .i64 0, .int .i64 r, .slice none 0 0, .slice none 0 0] (by simp [Act.eval, Act.put]) rfl HN.out HON.out (by decide) MM.out.1 MM.out.2.1 MM.out.2.2 _ rfl ?_; intro gn cn zY hown hgrow hat hlt3)
      all_goals
        have hOY : ObjOut (w.heap.size + 1) (.slice (some ⟨gn, 0, none⟩) (q + 1) cn) (q + 1) (ol ++ [((dk, (Geo.Sh.disc x y r)), (.slice none 0 0))]) zY := (HZ.out.1.below (((Below.refl _ _).alloc (Nat.le_refl _) (.cells #[.bool dk, .int .i64 1, .int .i64 x, .int .i64 y, .int .i64 0, .int .i64 0, .int .i64 0, .int .i64 0, .int .i64 r, .slice none 0 0, .slice none 0 0] 65)).drew) (Nat.le_refl _)).put hgrow hown hat (((HZ.out.2.2.2).alloc (.cells #[.bool dk, .int .i64 1, .int .i64 x, .int .i64 y, .int .i64 0, .int .i64 0, .int .i64 0, .int .i64 0, .int .i64 r, .slice none 0 0, .slice none 0 0] 65)).drew) HSM.out
        have hBY : Below w.heap.size w zY := Below.grown ((HZ.out.2.1.alloc szz (.cells #[.bool dk, .int .i64 1, .int .i64 x, .int .i64 y, .int .i64 0, .int .i64 0, .int .i64 0, .int .i64 0, .int .i64 r, .slice none 0 0, .slice none 0 0] 65)).drew) hgrow (by first | (simp; done) | (simp; omega)) (fun b' hb' => by have := own_ge HOX.out hb'; omega)
        have hVY : Blk zY w.heap.size 27 #[.int .i64 X1, .int .i64 Y1, .int .i64 P1, .int .i64 (Wn : Int), .int .i64 (Hn : Int), .int .i64 (dn : Int)] := (HZ.out.2.2.1.alloc (.cells #[.bool dk, .int .i64 1, .int .i64 x, .int .i64 y, .int .i64 0, .int .i64 0, .int .i64 0, .int .i64 0, .int .i64 r, .slice none 0 0, .slice none 0 0] 65)).drew.grown hgrow (fun e => own_blk_ne HOX.out (HZ.out.2.2.1.alloc (.cells #[.bool dk, .int .i64 1, .int .i64 x, .int .i64 y, .int .i64 0, .int .i64 0, .int .i64 0, .int .i64 0, .int .i64 r, .slice none 0 0, .slice none 0 0] 65)).drew (by decide) e.symm)
        have HY := Lib.hid (And.intro hOY (And.intro hVY hBY))
        clear hown hgrow hat hlt3 hOY hBY hVY cS lS
        go_wp2_with fail
        go_roundw
        case rel =>
          have hr2 : ∃ q' : Nat, Value.int .i64 ((q : Int) + 1) = .int .i64 (q' : Int) ∧ q' ≤ np ∧ q' ≤ 8 ∧ ∃ p c ol, Value.slice (some ⟨gn, 0, none⟩) (q + 1) cn = .slice p q' c ∧ ObjOut (w.heap.size + 1) (.slice p q' c) q' ol zY ∧ Blk zY w.heap.size 27 #[.int .i64 X1, .int .i64 Y1, .int .i64 P1, .int .i64 (Wn : Int), .int .i64 (Hn : Int), .int .i64 (dn : Int)] ∧ Below w.heap.size w zY :=
            ⟨q + 1, by go_num, by omega, by omega, some ⟨gn, 0, none⟩, cn, _, rfl, HY.out.1, HY.out.2.1, HY.out.2.2⟩
          first | exact hr2 | ((repeat apply Exists.intro); exact ⟨hr2, rfl⟩)
        case measure => simp [intOf]; omega
    · -- ring
      go_upto_region 11 with fail
      obtain ⟨zz, ezz⟩ : ∃ zz, z.alloc (.cells #[.int .i64 1, .int .i64 x, .int .i64 y, .int .i64 0, .int .i64 0, .int .i64 0, .int .i64 0, .int .i64 r, .slice none 0 0, .slice none 0 0] 62) = zz := ⟨_, rfl⟩
      have kS : Blk zz z.heap.size 62 #[.int .i64 1, .int .i64 x, .int .i64 y, .int .i64 0, .int .i64 0, .int .i64 0, .int .i64 0, .int .i64 r, .slice none 0 0, .slice none 0 0] := by rw [← ezz]; exact Blk.new _ _ _
      have hzz : Below z.heap.size z zz := by rw [← ezz]; exact (Below.refl _ _).alloc (Nat.le_refl _) _
      have hOz : ObjOut (w.heap.size + 1) (.slice p q c) q ol zz := HO2.out.below hzz (Nat.le_refl _)
      have hBz : Below w.heap.size w zz := HB2.out.trans (hzz.mono HB2.out.size)
      have hVz : Blk zz w.heap.size 27 #[.int .i64 X1, .int .i64 Y1, .int .i64 P1, .int .i64 (Wn : Int), .int .i64 (Hn : Int), .int .i64 (dn : Int)] := HV2.out.below hzz HV2.out.lt
      have hdk : zz.cell? ⟨b, off + q * 11, none⟩ = some (.bool dk) := (World.cell?_of_block (hzz.block b LB2.out)).trans HD2.out
      have lbz : b < zz.heap.size := Nat.lt_of_lt_of_le LB2.out hzz.size
      have hshat : ShAt (Value.slice p q c).ownBlock.toList zz (Geo.Sh.disc x y r) (.slice none 0 0) := True.intro
      have hN : ∀ j v, ([.bool dk, .int .i64 1, .int .i64 x, .int .i64 y, .int .i64 0, .int .i64 0, .int .i64 0, .int .i64 0, .int .i64 r, .slice none 0 0, .slice none 0 0] : List Value)[j]? = some v → ((zz.alloc (.cells #[.bool dk, .int .i64 1, .int .i64 x, .int .i64 y, .int .i64 0, .int .i64 0, .int .i64 0, .int .i64 0, .int .i64 r, .slice none 0 0, .slice none 0 0] 65)).drew).cell? ((⟨zz.heap.size, 0, none⟩ : Addr).add j) = some v :=
        World.news_of_block (cs := #[.bool dk, .int .i64 1, .int .i64 x, .int .i64 y, .int .i64 0, .int .i64 0, .int .i64 0, .int .i64 0, .int .i64 r, .slice none 0 0, .slice none 0 0]) (Blk.newAt (w := zz) rfl)
      have hOw : ((zz.alloc (.cells #[.bool dk, .int .i64 1, .int .i64 x, .int .i64 y, .int .i64 0, .int .i64 0, .int .i64 0, .int .i64 0, .int .i64 r, .slice none 0 0, .slice none 0 0] 65)).drew).ownsRow (w.heap.size + 1) 65 11 (.slice p q c) q (ol.flatMap oCells) := World.ownsRow.drew (hOz.own.alloc _)
      have hone : ∀ u ∈ ([.bool dk, .int .i64 1, .int .i64 x, .int .i64 y, .int .i64 0, .int .i64 0, .int .i64 0, .int .i64 0, .int .i64 r, .slice none 0 0, .slice none 0 0] : List Value), u.oneCell' = true := by
        intro u hu
        simp only [List.mem_cons, List.not_mem_nil, or_false] at hu
        rcases hu with rfl | rfl | rfl | rfl | rfl | rfl | rfl | rfl | rfl | rfl | rfl <;> rfl
      have HN := Lib.hid hN
      have HOX := Lib.hid hOw
      have HON := Lib.hid hone
      have HZ := Lib.hid (And.intro hOz (And.intro hBz (And.intro hVz hshat)))
      have cS := kS.cell
      have lS := kS.lt
      have szz := hBz.size
      have m1 : q + 1 ≤ maxLen := by unfold maxLen; omega
      have m2 : (q + 1) * 120 ≤ 140737488355328 := by omega
      have m4 : w.heap.size + 1 ≤ ((zz.alloc (.cells #[.bool dk, .int .i64 1, .int .i64 x, .int .i64 y, .int .i64 0, .int .i64 0, .int .i64 0, .int .i64 0, .int .i64 r, .slice none 0 0, .slice none 0 0] 65)).drew).heap.size := by first | (simp; done) | (simp; omega)
      have MM := Lib.hid (And.intro m1 (And.intro m2 m4))
      have HSM : Hid (SmSh (Geo.Sh.disc x y r)) := Lib.hid (⟨⟨by omega, by omega⟩, ⟨by omega, by omega⟩, by omega, by omega⟩)
      rw [ezz]
      clear ezz kS hzz hOz hBz hVz hN hOw hone m1 m2 m4 hshat HO2 HB2 HV2
      go_region_law (refine step_append_lies _ rfl (.tmp 51) (.tmp 59) 47 rfl (w.heap.size + 1) 65 i48 _ 11 120 Tryz.underlying47 HI.out.1 HI.out.2.1 HI.out.2.2.1 HI.out.2.2.2 hZ.out (by decide) (.slice p q c) q (ol.flatMap oCells) (by simp [Act.eval, Act.put]) HOX.out ⟨zz.heap.size, 0, none⟩ 1 1 [.bool dk, .int .i64 1, .int .i64 x, .int .i64 y, .int .i64 0, .int .i64 0, .int .i64 0, .int .i64 0, .int .i64 r, .slice none 0 0, .slice none 0 0] (by simp [Act.eval, Act.put]) rfl HN.out HON.out (by decide) MM.out.1 MM.out.2.1 MM.out.2.2 _ rfl ?_; intro gn cn zY hown hgrow hat hlt3)
      all_goals
        have hOY : ObjOut (w.heap.size + 1) (.slice (some ⟨gn, 0, none⟩) (q + 1) cn) (q + 1) (ol ++ [((dk, (Geo.Sh.disc x y r)), (.slice none 0 0))]) zY := (HZ.out.1.below (((Below.refl _ _).alloc (Nat.le_refl _) (.cells #[.bool dk, .int .i64 1, .int .i64 x, .int .i64 y, .int .i64 0, .int .i64 0, .int .i64 0, .int .i64 0, .int .i64 r, .slice none 0 0, .slice none 0 0] 65)).drew) (Nat.le_refl _)).put hgrow hown hat (((HZ.out.2.2.2).alloc (.cells #[.bool dk, .int .i64 1, .int .i64 x, .int .i64 y, .int .i64 0, .int .i64 0, .int .i64 0, .int .i64 0, .int .i64 r, .slice none 0 0, .slice none 0 0] 65)).drew) HSM.out
        have hBY : Below w.heap.size w zY := Below.grown ((HZ.out.2.1.alloc szz (.cells #[.bool dk, .int .i64 1, .int .i64 x, .int .i64 y, .int .i64 0, .int .i64 0, .int .i64 0, .int .i64 0, .int .i64 r, .slice none 0 0, .slice none 0 0] 65)).drew) hgrow (by first | (simp; done) | (simp; omega)) (fun b' hb' => by have := own_ge HOX.out hb'; omega)
        have hVY : Blk zY w.heap.size 27 #[.int .i64 X1, .int .i64 Y1, .int .i64 P1, .int .i64 (Wn : Int), .int .i64 (Hn : Int), .int .i64 (dn : Int)] := (HZ.out.2.2.1.alloc (.cells #[.bool dk, .int .i64 1, .int .i64 x, .int .i64 y, .int .i64 0, .int .i64 0, .int .i64 0, .int .i64 0, .int .i64 r, .slice none 0 0, .slice none 0 0] 65)).drew.grown hgrow (fun e => own_blk_ne HOX.out (HZ.out.2.2.1.alloc (.cells #[.bool dk, .int .i64 1, .int .i64 x, .int .i64 y, .int .i64 0, .int .i64 0, .int .i64 0, .int .i64 0, .int .i64 r, .slice none 0 0, .slice none 0 0] 65)).drew (by decide) e.symm)
        have HY := Lib.hid (And.intro hOY (And.intro hVY hBY))
        clear hown hgrow hat hlt3 hOY hBY hVY cS lS
        go_wp2_with fail
        go_roundw
        case rel =>
          have hr2 : ∃ q' : Nat, Value.int .i64 ((q : Int) + 1) = .int .i64 (q' : Int) ∧ q' ≤ np ∧ q' ≤ 8 ∧ ∃ p c ol, Value.slice (some ⟨gn, 0, none⟩) (q + 1) cn = .slice p q' c ∧ ObjOut (w.heap.size + 1) (.slice p q' c) q' ol zY ∧ Blk zY w.heap.size 27 #[.int .i64 X1, .int .i64 Y1, .int .i64 P1, .int .i64 (Wn : Int), .int .i64 (Hn : Int), .int .i64 (dn : Int)] ∧ Below w.heap.size w zY :=
            ⟨q + 1, by go_num, by omega, by omega, some ⟨gn, 0, none⟩, cn, _, rfl, HY.out.1, HY.out.2.1, HY.out.2.2⟩
          first | exact hr2 | ((repeat apply Exists.intro); exact ⟨hr2, rfl⟩)
        case measure => simp [intOf]; omega
  case rest =>
  obtain ⟨q, p, c, ol, hq8, rfl, hO, hV, hB⟩ := hcut
  have hobj := hO.objs
  have hsm := hO.sm
  have hlen := hO.len
  obtain ⟨hX, hY, hPP, hW, hH, hD, hm⟩ := HV.out
  have hWP := mul_bounds (a := (Wn : Int)) (b := P1) (A := 8) (B := 32) (by omega) (by omega) (by omega) (by omega)
  have hHP := mul_bounds (a := (Hn : Int)) (b := P1) (A := 8) (B := 32) (by omega) (by omega) (by omega) (by omega)
  have hvok : VOk X1 Y1 P1 (Wn : Int) (Hn : Int) (dn : Int) kk := ⟨by omega, by omega, by omega, by omega, by omega, by omega, by omega, by omega, by omega, by omega, hD, hm⟩
  have h8 : Wn * Hn ≤ 64 := Nat.mul_le_mul (show Wn ≤ 8 by omega) (show Hn ≤ 8 by omega)
  have hcov := fun w' h => covers_c X1 Y1 P1 kk Wn Hn dn (.slice p q c) ol w' hvok h8 h (by omega) (fun o ho => (hsm o ho).ok)
  have HCOV := Lib.hid hcov
  have HVOK := Lib.hid hvok
  have HOB := Lib.hid hobj
  have HSM := Lib.hid hsm
  have HLEN := Lib.hid hlen
  have HVW := Lib.hid hV
  have HBW0 := Lib.hid hB
  have cv := hV.cell
  have lv := hV.lt
  have sB0 := hB.size
  have hd3 : dn = 0 ∨ dn = 1 ∨ dn = 2 ∨ dn = 3 := by omega
  clear hobj hsm hlen hvok hcov hV hB hO hWP hHP hm hD
  go_wp2_with fail
  refine (HCOV.out _ HOB.out).mono ?_
  rintro e u ⟨acc, gv, cvp, rfl, hal, hown, hb, hex⟩
  have hBu : Below w.heap.size w u := HBW0.out.trans (hb.mono sB0)
  have hVu := HVW.out.below hb lv
  have hOu := HOB.out.below hb (Nat.le_refl _)
  have lgv := own_lt hown rfl
  have HBU := Lib.hid hBu
  have HVU := Lib.hid hVu
  have HOU := Lib.hid hOu
  have HOWN := Lib.hid hown
  have HEX := Lib.hid hex
  have HAL := Lib.hid hal
  obtain ⟨N, eN⟩ : ∃ N, acc.length = N := ⟨_, rfl⟩
  have EN := Lib.hid eN
  rw [eN]
  have hN64 : N ≤ 64 := by omega
  have hNWH : N = Wn * Hn := by omega
  have HNWH := Lib.hid hNWH
  have su := hBu.size
  have lvu := hVu.lt
  clear hb hBu hVu hOu hown hex hal eN cv lv HCOV HOB HVW HBW0 hNWH
  go_wp2_with fail
  go_loopw [10] (fun i wr => ∃ i0 : Nat, i = .int .i64 (i0 : Int) ∧ i0 ≤ N ∧ Below u.heap.size u wr) (fun i wr => N - (intOf i).toNat)
  case atStart => exact ⟨0, rfl, Nat.zero_le _, Below.refl _ _⟩
  case round =>
  obtain ⟨i0, rfl, hi, hBw⟩ := hrel
  by_cases hlt : i0 < N
  rotate_left
  · obtain rfl : i0 = N := by omega
    have HBW := Lib.hid (HBU.out.trans (hBw.mono su))
    clear hBw
    go_wp2_with fail
    refine (CAW.out _).mono ?_
    rintro e z ⟨rfl, hb⟩
    have HBZ := Lib.hid (HBW.out.trans (hb.mono HBW.out.size))
    clear hb
    go_wp2_with fail
    go_ret
    exact ⟨rfl, HBZ.out⟩
  obtain ⟨x, ex⟩ : ∃ x, i0 % Wn = x := ⟨_, rfl⟩
  obtain ⟨y, ey⟩ : ∃ y, i0 / Wn = y := ⟨_, rfl⟩
  have hxW : x < Wn := by rw [← ex]; exact Nat.mod_lt _ (by omega)
  have hyH : y < Hn := by
    rw [← ey]
    have := HNWH.out
    exact Nat.div_lt_of_lt_mul (by omega)
  have tm2 : ((i0 : Int)) % (Wn : Int) = (x : Int) := by rw [← ex]; simp
  have td2 : ((i0 : Int)) / (Wn : Int) = (y : Int) := by rw [← ey]; simp
  have tm : ((i0 : Int)).tmod (Wn : Int) = (x : Int) := by rw [Int.tmod_eq_emod_of_nonneg (by omega)]; exact tm2
  have td : ((i0 : Int)).tdiv (Wn : Int) = (y : Int) := by rw [Int.tdiv_eq_ediv_of_nonneg (by omega)]; exact td2
  have hW0 : ((Wn : Int) == 0) = false := by simp; omega
  have hW1 : ¬ (Wn : Int) = 0 := by omega
  have hW2 : ¬ Wn = 0 := by omega
  have sy : IntKind.i64.wrap (y : Int) = (y : Int) := IntWalk.i64_in _ (by omega)
  have sx : IntKind.i64.wrap (x : Int) = (x : Int) := IntWalk.i64_in _ (by omega)
  have hpx := fun w => refpixel_g X1 Y1 P1 Wn Hn dn kk x y w HVOK.out (by omega) (by omega) (by omega) (by omega)
  have gx := mul_bounds (a := (x : Int)) (b := P1) (A := 8) (B := 32) (by omega) (by omega) (by omega) (by omega)
  have gy := mul_bounds (a := (Hn : Int) - 1 - (y : Int)) (b := P1) (A := 8) (B := 32) (by omega) (by omega) (by omega) (by omega)
  have hpxB : pxB X1 Y1 P1 Hn x y = ⟨X1 + (x : Int) * P1, Y1 + ((Hn : Int) - 1 - (y : Int)) * P1, X1 + (x : Int) * P1 + P1, Y1 + ((Hn : Int) - 1 - (y : Int)) * P1 + P1⟩ := rfl
  obtain ⟨A, eA⟩ : ∃ A, X1 + (x : Int) * P1 = A := ⟨_, rfl⟩
  obtain ⟨B, eB⟩ : ∃ B, Y1 + ((Hn : Int) - 1 - (y : Int)) * P1 = B := ⟨_, rfl⟩
  have hA0 : -1000 ≤ A ∧ A ≤ 1000 := by omega
  have hB0 : -1000 ≤ B ∧ B ≤ 1000 := by omega
  rw [eA, eB] at hpx hpxB
  have hflat : (∀ o ∈ ol, o.1.2.cls ⟨A, B, A + P1, B + P1⟩ ≠ 1) → acc[i0]'(by rw [EN.out]; exact hlt) = if Geo.phas (ol.map (·.1)) (A + 1, B + 1) then (4 ^ dn, 4 ^ dn) else (0, 0) := by
    intro hf
    obtain ⟨ai, ai', ha1, ha2⟩ := HEX.out i0 (by have := HNWH.out; omega) (by rw [EN.out]; exact hlt)
    have hp := px_at X1 Y1 P1 Wn Hn i0 (by rw [pxs_len]; have := HNWH.out; omega)
    rw [ex, ey, hpxB] at hp
    rw [hp] at ha2
    have hin := px_in HVOK.out (x := (x : Int)) (y := (y : Int)) (by omega) (by omega) (by omega) (by omega)
    rw [hpxB] at hin
    obtain ⟨h1, h2, h3⟩ := hin
    have hrow : (rowB X1 Y1 P1 Wn Hn (y : Int)).Ok ∧ (-536870912 ≤ (rowB X1 Y1 P1 Wn Hn (y : Int)).x0 ∧ -536870912 ≤ (rowB X1 Y1 P1 Wn Hn (y : Int)).y0 ∧ (rowB X1 Y1 P1 Wn Hn (y : Int)).x1 ≤ 536870912 ∧ (rowB X1 Y1 P1 Wn Hn (y : Int)).y1 ≤ 536870912) := by
      have g1 := mul_bounds (a := (Wn : Int) - 1) (b := P1) (A := 8) (B := 32) (by omega) (by omega) (by omega) (by omega)
      have gy2 := gy
      simp only [rowB, pxB, Geo.Bx.Ok, Int.zero_mul]
      omega
    exact flat_cov (fun o ho => (HSM.out o ho).ok) h1 h2 h3 hrow.1 (by simp only []; omega) hrow.2 ha1 ha2 hf
  have HFL := Lib.hid hflat
  have CP := Lib.hid hpx
  have hKS : ∀ w', Below wr.heap.size wr w' → w'.cell? ⟨w.heap.size, 0, none⟩ = some (.int .i64 X1) ∧ w'.cell? ⟨w.heap.size, 1, none⟩ = some (.int .i64 Y1) ∧ w'.cell? ⟨w.heap.size, 2, none⟩ = some (.int .i64 P1) ∧ w'.cell? ⟨w.heap.size, 3, none⟩ = some (.int .i64 (Wn : Int)) ∧ w'.cell? ⟨w.heap.size, 4, none⟩ = some (.int .i64 (Hn : Int)) ∧ w'.cell? ⟨w.heap.size, 5, none⟩ = some (.int .i64 (dn : Int)) ∧ Below wr.heap.size wr w' := fun w' hb =>
    have k := (HVU.out.below hBw lvu).below hb (by have := hBw.size; omega)
    ⟨k.cell 0, k.cell 1, k.cell 2, k.cell 3, k.cell 4, k.cell 5, hb⟩
  have HKS := Lib.hid hKS
  have HBW := Lib.hid hBw
  have lvr : w.heap.size < wr.heap.size := by have := hBw.size; omega
  have sw := hBw.size
  obtain ⟨v0, v1, v2, v3, v4, v5, _⟩ := hKS _ (Below.refl _ _)
  clear hKS hBw ex ey hpx hpxB eA eB hflat gx gy
  go_upto_region 18 with fail
  go_cut [11, 12] (fun pA eE wx => ∃ G, pA = .pointer (some ⟨G, 0, none⟩) ∧ eE = .bool true ∧ Blk wx G 70 #[.int .i64 A, .int .i64 B, .int .i64 (A + P1), .int .i64 (B + P1)] ∧ Below wr.heap.size wr wx ∧ wr.heap.size ≤ G)
  case first =>
    go_region_held3 (fun w' => w'.cell? ⟨w.heap.size, 0, none⟩ = some (.int .i64 X1) ∧ w'.cell? ⟨w.heap.size, 1, none⟩ = some (.int .i64 Y1) ∧ w'.cell? ⟨w.heap.size, 2, none⟩ = some (.int .i64 P1) ∧ w'.cell? ⟨w.heap.size, 3, none⟩ = some (.int .i64 (Wn : Int)) ∧ w'.cell? ⟨w.heap.size, 4, none⟩ = some (.int .i64 (Hn : Int)) ∧ w'.cell? ⟨w.heap.size, 5, none⟩ = some (.int .i64 (dn : Int)) ∧ Below wr.heap.size wr w')
      (exact HKS.out _ (by exact blw))
      (first | (go_at_call 21; (with_reducible refine (CP.out _).mono ?_); rintro e zX ⟨rfl, hb⟩; have onX : Below wr.heap.size wr zX := Below.trans (by exact blw) (hb.mono (by first | (simp; done) | (simp; omega))); have sX := onX.size; (try have kA := Blk.below (show Blk ((wr.alloc (.cells #[.int .i64 0, .int .i64 0, .int .i64 0, .int .i64 0] 70)).drew) wr.heap.size 70 #[.int .i64 0, .int .i64 0, .int .i64 0, .int .i64 0] from (Blk.newAt rfl).drew) hb (by simp)); (try have cA := kA.cell); (try have fA := kA.frozen); (try have lA := kA.lt); clear hb))
    all_goals
      go_wp2_with fail
      go_meet
      first
      | exact ⟨zX.heap.size, rfl, rfl, Blk.newAt rfl, by exact blw, sX⟩
      | exact ⟨wr.heap.size, rfl, rfl, (((kA.set_ 0 _ rfl).set_ 1 _ rfl).set_ 2 _ rfl).set_ 3 _ rfl, by exact blw, Nat.le_refl _⟩
  case rest =>
  obtain ⟨G, rfl, rfl, kG, hBc, hG⟩ := hcut
  obtain ⟨WD, eWD⟩ : ∃ W, wc = W := ⟨_, rfl⟩
  rw [eWD] at kG hBc
  rw [eWD]
  have KG := Lib.hid kG
  have hBD : Below u.heap.size u WD := HBW.out.trans (hBc.mono HBW.out.size)
  have HBD := Lib.hid hBD
  have sD := hBD.size
  have lGD := kG.lt
  have LGV : gv < WD.heap.size := by omega
  clear eWD kG hBc v0 v1 v2 v3 v4 v5 HKS hBD tm td tm2 td2
  go_wp2_with fail
  go_loopw [13, 14] (fun f j wz => ∃ j0 : Nat, j = .int .i64 (j0 : Int) ∧ j0 ≤ q ∧ (∃ F : Bool, f = .bool F ∧ (F = true → ∀ t (ht : t < ol.length), t < j0 → (ol[t]).1.2.cls ⟨A, B, A + P1, B + P1⟩ ≠ 1)) ∧ Below WD.heap.size WD wz) (fun f j wz => q - (intOf j).toNat)
  case atStart => exact ⟨0, rfl, Nat.zero_le _, ⟨true, rfl, fun _ t _ h => by omega⟩, Below.refl _ _⟩
  case round =>
  obtain ⟨j0, rfl, hj, ⟨F, rfl, hF⟩, hBz⟩ := hrel
  have kG := KG.out.below hBz lGD
  by_cases hltj : j0 < q
  · have hjl : j0 < ol.length := by rw [HLEN.out]; exact hltj
    have hBuz : Below u.heap.size u wr := HBD.out.trans (hBz.mono sD)
    obtain ⟨ob, ocap, kd, ox, oy, oc, od, orr, lp, ln, lc, e1, _, lb, eS, q0, q1, q2, q3, q4, q5, q6, q7, q8, q9, q10⟩ := (HOU.out.below hBuz (Nat.le_refl _)).at j0 hjl
    rw [HLEN.out] at e1
    injection e1 with e1 e1n e1c
    subst e1 e1c
    clear e1n
    have hsh := (HOU.out.below hBuz (Nat.le_refl _)).2 _ (List.getElem_mem hjl)
    have hcr := fun w (h : ShAt [] w (ol[j0]).1.2 (ol[j0]).2) => rClass_c A B (A + P1) (B + P1) [] (ol[j0]).1.2 (ol[j0]).2 w (HSM.out _ (List.getElem_mem hjl)) h (by omega) (by omega) (by omega) (by omega) (by omega) (by omega) (by omega) (by omega) (by omega) (by omega)
    rw [eS] at hcr
    obtain ⟨V, eV⟩ : ∃ V, (ol[j0]).1.2.cls ⟨A, B, A + P1, B + P1⟩ = V := ⟨_, rfl⟩
    rw [eV] at hcr
    have hstep : V ≠ 1 → (∀ t (ht : t < ol.length), t < j0 → (ol[t]).1.2.cls ⟨A, B, A + P1, B + P1⟩ ≠ 1) → ∀ t (ht : t < ol.length), t < j0 + 1 → (ol[t]).1.2.cls ⟨A, B, A + P1, B + P1⟩ ≠ 1 := by
      intro hv h t ht ht2
      rcases Nat.lt_or_ge t j0 with h9 | h9
      · exact h t ht h9
      · obtain rfl : t = j0 := by omega
        rw [eV]; exact hv
    have HST := Lib.hid hstep
    have HC := Lib.hid hcr
    have HSH := Lib.hid hsh
    have HF := Lib.hid hF
    have HBZ := Lib.hid hBz
    have sz := hBz.size
    have hji : (j0 : Int) < (q : Int) := by omega
    cases F
    · clear q0 q1 q2 q3 q4 q5 q6 q7 q8 q9 q10 hcr hsh eS eV hstep hF hBz kG hBuz HST HC HSH
      go_wp2_with fail
      go_quiet (fail)
      obtain ⟨wy, ewy⟩ : ∃ W, wr.drew = W := ⟨_, rfl⟩
      clear ewy
      go_wp2_with fail
      go_roundw
      case rel =>
        exact ⟨j0 + 1, by go_num, by omega, ⟨false, rfl, fun h => by cases h⟩, by have hb := HBZ.out; exact blw⟩
      case measure => simp [intOf]; omega
    · have lk := kG.lt
      have y0 := cell_regrown (show wr.cell? ⟨G, 0, none⟩ = some (.int .i64 A) from kG.cell 0)
      have y1 := cell_regrown (show wr.cell? ⟨G, 1, none⟩ = some (.int .i64 B) from kG.cell 1)
      have y2 := cell_regrown (show wr.cell? ⟨G, 2, none⟩ = some (.int .i64 (A + P1)) from kG.cell 2)
      have y3 := cell_regrown (show wr.cell? ⟨G, 3, none⟩ = some (.int .i64 (B + P1)) from kG.cell 3)
      have x0 := cell_regrown q0
      have x1 := cell_regrown q1
      have x2 := cell_regrown q2
      have x3 := cell_regrown q3
      have x4 := cell_regrown q4
      have x5 := cell_regrown q5
      have x6 := cell_regrown q6
      have x7 := cell_regrown q7
      have x8 := cell_regrown q8
      have x9 := cell_regrown q9
      have x10 := cell_regrown q10
      have m1 : ∀ d' os, Calls Tryz.prog 22 #[.agg #[.int .i64 kd, .int .i64 ox, .int .i64 oy, .int .i64 oc, .int .i64 od, .int .i64 0, .int .i64 0, .int .i64 orr, .slice lp ln lc, .slice none 0 0], .agg #[.int .i64 A, .int .i64 B, .int .i64 (A + P1), .int .i64 (B + P1)]] (Go.Sort.grow (redrawn wr d') os) fun e w'' => e = .returned (.int .i64 V) ∧ ∃ p : Regrown, w'' = Go.Sort.grow (redrawn wr p.d) p.os := fun d' os => Calls.regrown_of (HC.out _ (HSH.out.below (below_regrown _ _ _) (Nat.le_refl _)))
      have M1 := Lib.hid m1
      clear m1 q0 q1 q2 q3 q4 q5 q6 q7 q8 q9 q10 hcr hsh eS eV hstep hF hBz kG hBuz
      by_cases hV : V = 1
      · have dV : (V != 1) = false := by simp [hV]
        clear hV
        go_wp2_with fail
        refine wp_region_quiet_below (by kernel_rfl) (by kernel_rfl) ?_
        repeat (any_goals (first | go_big_quiet_step (first | (with_reducible exact M1.out _ _)) | quiet_step (first | (with_reducible exact M1.out _ _))))
        refine wpQuiet_nil ?_
        intro w1 hw'
        have hb : Below wr.heap.size wr w1 := by obtain ⟨p, rfl⟩ := hw'; exact below_regrown _ _ _
        have HB9 := Lib.hid (HBZ.out.trans (hb.mono sz))
        clear hw' hb
        go_wp2_with fail
        go_roundw
        case rel =>
          have hr2 : ∃ j' : Nat, Value.int .i64 ((j0 : Int) + 1) = .int .i64 (j' : Int) ∧ j' ≤ q ∧ (∃ F : Bool, Value.bool false = .bool F ∧ (F = true → ∀ t (ht : t < ol.length), t < j' → (ol[t]).1.2.cls ⟨A, B, A + P1, B + P1⟩ ≠ 1)) ∧ Below WD.heap.size WD w1 := ⟨j0 + 1, by go_num, by omega, ⟨false, rfl, fun h => by cases h⟩, HB9.out⟩
          first | exact hr2 | ((repeat apply Exists.intro); exact ⟨hr2, rfl⟩)
        case measure => simp [intOf]; omega
      · have dV : (V != 1) = true := by simp [hV]
        have HFN := Lib.hid (HST.out hV (HF.out rfl))
        clear hV HF HST
        go_wp2_with fail
        refine wp_region_quiet_below (by kernel_rfl) (by kernel_rfl) ?_
        repeat (any_goals (first | go_big_quiet_step (first | (with_reducible exact M1.out _ _)) | quiet_step (first | (with_reducible exact M1.out _ _))))
        refine wpQuiet_nil ?_
        intro w1 hw'
        have hb : Below wr.heap.size wr w1 := by obtain ⟨p, rfl⟩ := hw'; exact below_regrown _ _ _
        have HB9 := Lib.hid (HBZ.out.trans (hb.mono sz))
        clear hw' hb
        go_wp2_with fail
        go_roundw
        case rel =>
          have hr2 : ∃ j' : Nat, Value.int .i64 ((j0 : Int) + 1) = .int .i64 (j' : Int) ∧ j' ≤ q ∧ (∃ F : Bool, Value.bool true = .bool F ∧ (F = true → ∀ t (ht : t < ol.length), t < j' → (ol[t]).1.2.cls ⟨A, B, A + P1, B + P1⟩ ≠ 1)) ∧ Below WD.heap.size WD w1 := ⟨j0 + 1, by go_num, by omega, ⟨true, rfl, fun _ => HFN.out⟩, HB9.out⟩
          first | exact hr2 | ((repeat apply Exists.intro); exact ⟨hr2, rfl⟩)
        case measure => simp [intOf]; omega
  obtain rfl : j0 = q := by omega
  have hF2 : F = true → ∀ o ∈ ol, o.1.2.cls ⟨A, B, A + P1, B + P1⟩ ≠ 1 := fun h o ho => by
    obtain ⟨t, ht, rfl⟩ := List.getElem_of_mem ho
    exact hF h t ht (by rw [← HLEN.out]; exact ht)
  have HF2 := Lib.hid hF2
  have hBuz : Below u.heap.size u wr := HBD.out.trans (hBz.mono sD)
  have HBUZ := Lib.hid hBuz
  have KGZ := Lib.hid kG
  have kV := HVU.out.below hBuz lvu
  have cV := kV.cell
  have lV := kV.lt
  obtain ⟨NN, eNN⟩ : ∃ NN : Int, (4 : Int) ^ dn = NN := ⟨_, rfl⟩
  clear hF hBz kG hF2 hBuz kV
  go_upto_region 24 with fail
  go_cut [15] (fun v wx => v = .int .i64 NN ∧ wx = wr)
  case first =>
    rcases hd3 with rfl | rfl | rfl | rfl
    all_goals
      go_wp2_with fail
      go_meet
      exact ⟨by rw [← eNN]; rfl, rfl⟩
  case rest =>
  obtain ⟨rfl, rfl⟩ := hcut
  have n1 : 1 ≤ NN := by rw [← eNN]; rcases hd3 with rfl | rfl | rfl | rfl <;> decide
  clear cV lV
  cases F
  · clear HF2 eNN
    go_wp2_with fail
    go_quiet (fail)
    obtain ⟨wy, ewy⟩ : ∃ W, wc.drew = W := ⟨_, rfl⟩
    clear ewy
    go_wp2_with fail
    go_roundw
    case rel => exact ⟨i0 + 1, by go_num, by omega, by have hb := HBUZ.out; exact blw⟩
    case measure => simp [intOf]; omega
  · have hcc := HFL.out (HF2.out rfl)
    rw [eNN] at hcc
    have hoz := own_below HOWN.out HBUZ.out (Nat.le_refl _)
    have lgz : gv < wc.heap.size := by have := HBUZ.out.size; omega
    have hcell : ∀ t u', t < 2 → ([.int .i64 (acc[i0]'(by rw [EN.out]; exact hlt)).1, .int .i64 (acc[i0]'(by rw [EN.out]; exact hlt)).2] : List Value)[t]? = some u' → wc.cell? ⟨gv, i0 * 2 + t, none⟩ = some u' := by
      intro t u' ht hu
      rw [hoz.cellAt (i0 * 2 + t) (by rw [EN.out]; omega)]
      rw [show covC2 acc = acc.flatMap (fun c : Int × Int => [Value.int .i64 c.1, .int .i64 c.2]) from rfl]
      rw [cells_at (fun c : Int × Int => [Value.int .i64 c.1, .int .i64 c.2]) 2 acc (fun _ _ => rfl) i0 (by rw [EN.out]; exact hlt) t ht]
      exact hu
    have c0 := hcell 0 _ (by omega) rfl
    have c1 := hcell 1 _ (by omega) rfl
    simp only [Nat.add_zero] at c0
    obtain ⟨T, eT⟩ : ∃ T, Geo.phas (ol.map (·.1)) (A + 1, B + 1) = T := ⟨_, rfl⟩
    have hin := fun w => in_one A B (A + P1) (B + P1) P1 w rfl rfl (by omega) (by omega) (by omega) (by omega) (by omega) (by omega)
    have hph := fun w h => rpilehas_c (A + 1) (B + 1) [] (.slice p j0 c) ol w h HSM.out (by rw [HLEN.out]; omega) (by omega) (by omega) (by omega) (by omega)
    rw [eT] at hph hcc
    have HIN := Lib.hid hin
    have HPH := Lib.hid hph
    have HOZ := Lib.hid (HOU.out.below HBUZ.out (Nat.le_refl _))
    have y0 := cell_regrown (show wc.cell? ⟨G, 0, none⟩ = some (.int .i64 A) from KGZ.out.cell 0)
    have y1 := cell_regrown (show wc.cell? ⟨G, 1, none⟩ = some (.int .i64 B) from KGZ.out.cell 1)
    have y2 := cell_regrown (show wc.cell? ⟨G, 2, none⟩ = some (.int .i64 (A + P1)) from KGZ.out.cell 2)
    have y3 := cell_regrown (show wc.cell? ⟨G, 3, none⟩ = some (.int .i64 (B + P1)) from KGZ.out.cell 3)
    have lk := KGZ.out.lt
    have m1 : ∀ d' os, Calls Tryz.prog 24 #[.agg #[.int .i64 A, .int .i64 B, .int .i64 (A + P1), .int .i64 (B + P1)], .int .i64 1, .int .i64 1] (Go.Sort.grow (redrawn wc d') os) fun e w'' => e = .returned (.agg #[.int .i64 (A + 1), .int .i64 (B + 1)]) ∧ ∃ p : Regrown, w'' = Go.Sort.grow (redrawn wc p.d) p.os := fun d' os => Calls.regrown_of (HIN.out _)
    have m2 : ∀ d' os, Calls Tryz.prog 23 #[.slice p j0 c, .agg #[.int .i64 (A + 1), .int .i64 (B + 1)]] (Go.Sort.grow (redrawn wc d') os) fun e w'' => e = .returned (.bool T) ∧ ∃ p : Regrown, w'' = Go.Sort.grow (redrawn wc p.d) p.os := fun d' os => Calls.regrown_of (HPH.out _ (HOZ.out.below (below_regrown _ _ _) (Nat.le_refl _)))
    have M1 := Lib.hid m1
    have M2 := Lib.hid m2
    have hii : (i0 : Int) < (N : Int) := by omega
    have szc := HBUZ.out.size
    have g1 : (NN != NN) = false := by simp
    have g2 : (NN != 0) = true := by simp; omega
    have g3 : (NN == NN) = true := by simp
    have g4 : ((0 : Int) == NN) = false := by simp; omega
    clear m1 m2 hin hph hoz hcell eT eNN
    cases T
    · rw [if_neg (by decide)] at hcc
      rw [hcc] at c0 c1
      have z0 := cell_regrown c0
      have z1 := cell_regrown c1
      clear c0 c1 hcc
      go_wp2_with fail
      refine wp_region_quiet_below (by kernel_rfl) (by kernel_rfl) ?_
      repeat (any_goals (first | go_big_quiet_step (first | (with_reducible exact M1.out _ _) | (with_reducible exact M2.out _ _)) | quiet_step (first | (with_reducible exact M1.out _ _) | (with_reducible exact M2.out _ _))))
      refine wpQuiet_nil ?_
      intro w1 hw'
      have hb : Below wc.heap.size wc w1 := by obtain ⟨p, rfl⟩ := hw'; exact below_regrown _ _ _
      have HB9 := Lib.hid (HBUZ.out.trans (hb.mono szc))
      clear hw' hb
      go_wp2_with fail
      go_roundw
      case rel =>
        have hr2 : ∃ i' : Nat, Value.int .i64 ((i0 : Int) + 1) = .int .i64 (i' : Int) ∧ i' ≤ N ∧ Below u.heap.size u w1 := ⟨i0 + 1, by go_num, by omega, HB9.out⟩
        first | exact hr2 | ((repeat apply Exists.intro); exact ⟨hr2, rfl⟩)
      case measure => simp [intOf]; omega
    · rw [if_pos rfl] at hcc
      rw [hcc] at c0 c1
      have z0 := cell_regrown c0
      have z1 := cell_regrown c1
      clear c0 c1 hcc
      go_wp2_with fail
      refine wp_region_quiet_below (by kernel_rfl) (by kernel_rfl) ?_
      repeat (any_goals (first | go_big_quiet_step (first | (with_reducible exact M1.out _ _) | (with_reducible exact M2.out _ _)) | quiet_step (first | (with_reducible exact M1.out _ _) | (with_reducible exact M2.out _ _))))
      refine wpQuiet_nil ?_
      intro w1 hw'
      have hb : Below wc.heap.size wc w1 := by obtain ⟨p, rfl⟩ := hw'; exact below_regrown _ _ _
      have HB9 := Lib.hid (HBUZ.out.trans (hb.mono szc))
      clear hw' hb
      go_wp2_with fail
      go_roundw
      case rel =>
        have hr2 : ∃ i' : Nat, Value.int .i64 ((i0 : Int) + 1) = .int .i64 (i' : Int) ∧ i' ≤ N ∧ Below u.heap.size u w1 := ⟨i0 + 1, by go_num, by omega, HB9.out⟩
        first | exact hr2 | ((repeat apply Exists.intro); exact ⟨hr2, rfl⟩)
      case measure => simp [intOf]; omega
end Go.Proofs.YtfajckkbinbpiaaGreatDoor
