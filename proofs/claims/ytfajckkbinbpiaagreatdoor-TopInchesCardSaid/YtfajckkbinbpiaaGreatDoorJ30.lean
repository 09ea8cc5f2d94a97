/- Walk: the group of what is near a box. -/
import Derived.Deep.AppendLies
import Derived.Deep.RegionLaw
import Derived.LoopTactic
import Derived.Test.YtfajckkbinbpiaaGreatDoorJ25
import Derived.Test.YtfajckkbinbpiaaGreatDoorJ29
namespace Go.Proofs.YtfajckkbinbpiaaGreatDoor
set_option maxRecDepth 100000
set_option maxHeartbeats 32000000
set_option linter.unusedVariables false
set_option linter.unusedSimpArgs false
open Go.RowKit
theorem own_own_ne3 {w : World} {B e s n B' e' s' n' b : Nat} {v v' : Value} {xs xs' : List Value} (h : w.ownsRow B e s v n xs) (h' : w.ownsRow B' e' s' v' n' xs') (hne : e ≠ e') (hb : v.ownBlock = some b) : v'.ownBlock ≠ some b := by
  intro hb'
  rcases h.2 with ⟨h1, _⟩ | ⟨g, cap, cur, h1, _, h2, _⟩
  · rw [h1] at hb; cases hb
  · rw [h1] at hb
    simp [Value.ownBlock] at hb
    subst hb
    rcases h'.2 with ⟨h3, _⟩ | ⟨g', cap', cur', h3, _, h4, _⟩
    · rw [h3] at hb'; cases hb'
    · rw [h3] at hb'
      simp [Value.ownBlock] at hb'
      subst hb'
      rw [h2] at h4
      injection h4 with h4
      injection h4 with h4 h5
      exact hne h5
def near2 (l : List Ent2) (b : Geo.Bx) : List Ent2 := l.filter fun e => !Geo.apart e.1.2 b
theorem near2_map (l : List Ent2) (b : Geo.Bx) : (near2 l b).map (·.1) = Geo.nearTo (l.map (·.1)) b := by
  unfold near2 Geo.nearTo
  rw [List.filter_map]
  rfl
theorem near2_len (l : List Ent2) (b : Geo.Bx) : (near2 l b).length ≤ l.length := List.length_filter_le _ _
theorem near2_mem {l : List Ent2} {b : Geo.Bx} {e : Ent2} (h : e ∈ near2 l b) : e ∈ l := (List.mem_filter.1 h).1
theorem near2_succ (l : List Ent2) (b : Geo.Bx) (k : Nat) (h : k < l.length) : near2 (l.take (k + 1)) b = near2 (l.take k) b ++ (if Geo.apart l[k].1.2 b = true then [] else [l[k]]) := by
  rw [List.take_succ_eq_append_getElem h]
  unfold near2
  rw [List.filter_append]
  congr 1
  by_cases ha : Geo.apart l[k].1.2 b = true
  · simp [ha]
  · simp [ha]
def gO (l : List Ent2) : List Value := (l.map Ent2.obj).flatMap oCells
def gE (l : List Ent2) : List Value := l.flatMap eCells
theorem gO_add (l : List Ent2) (e : Ent2) : gO (l ++ [e]) = gO l ++ oCells e.obj := by simp [gO]
theorem gE_add (l : List Ent2) (e : Ent2) : gE (l ++ [e]) = gE l ++ eCells e := by simp [gE]
theorem obj_one (dk : Bool) (kd x y p_ q r : Int) (lp : Option Addr) (ln lc : Nat) : ∀ u ∈ ([.bool dk, .int .i64 kd, .int .i64 x, .int .i64 y, .int .i64 p_, .int .i64 q, .int .i64 0, .int .i64 0, .int .i64 r, .slice lp ln lc, .slice none 0 0] : List Value), u.oneCell' = true := by
  intro u hu
  simp only [List.mem_cons, List.not_mem_nil, or_false] at hu
  rcases hu with rfl | rfl | rfl | rfl | rfl | rfl | rfl | rfl | rfl | rfl | rfl <;> rfl
theorem ext_one (f0 f1 f2 f3 : Int) : ∀ u ∈ ([.int .i64 f0, .int .i64 f1, .int .i64 f2, .int .i64 f3, .bool false] : List Value), u.oneCell' = true := by
  intro u hu
  simp only [List.mem_cons, List.not_mem_nil, or_false] at hu
  rcases hu with rfl | rfl | rfl | rfl | rfl <;> rfl
structure Lay (w : World) (H R : Nat) (ys : List Ent2) (wr : World) : Prop where
  rows : ∃ p1 c1 p2 c2, Blk wr R 169 #[.slice p1 ys.length c1, .slice p2 ys.length c2] ∧ wr.ownsRow H 65 11 (.slice p1 ys.length c1) ys.length (gO ys) ∧ wr.ownsRow H 224 5 (.slice p2 ys.length c2) ys.length (gE ys)
  below : Below H w wr
theorem GroupAt.of_own {S : List Nat} {w : World} {H : Nat} {v1 v2 : Value} {l : List Ent2} (h1 : w.ownsRow H 65 11 v1 l.length (gO l)) (h2 : w.ownsRow H 224 5 v2 l.length (gE l)) (hS : ∀ b ∈ S, b < H) (hs : ∀ e ∈ l, ShAt S w e.1.1.2 e.2) : GroupAt S w v1 v2 l := by
  refine ⟨ObjsAt.of_own (e := 65) (B := H) (by rw [List.length_map]; exact h1) hS ?_, RowAt.of_own h2 hS⟩
  intro x hx
  obtain ⟨e, he, rfl⟩ := List.mem_map.1 hx
  exact hs e he
theorem gnear_c (S : List Nat) (v1 v2 : Value) (xs : List Ent2) (a b c d : Int) (w : World) (a_0 : -536870912 ≤ a) (a_1 : a ≤ 536870912) (b_0 : -536870912 ≤ b) (b_1 : b ≤ 536870912) (c_0 : -536870912 ≤ c) (c_1 : c ≤ 536870912) (d_0 : -536870912 ≤ d) (d_1 : d ≤ 536870912) (ac : a ≤ c) (bd : b ≤ d) (hG : GroupAt S w v1 v2 xs) (hS : ∀ b ∈ S, b < w.heap.size) (hl : xs.length ≤ 100000) (hx : ∀ e ∈ xs, e.1.2.Ok) :
    Calls Tryz.prog 74 #[.agg #[v1, v2], .agg #[.int .i64 a, .int .i64 b, .int .i64 c, .int .i64 d]] w fun e w' => ∃ u1 u2, e = .returned (.agg #[u1, u2]) ∧ GroupAt S w' u1 u2 (near2 xs ⟨a, b, c, d⟩) ∧ Below w.heap.size w w' := by
  obtain ⟨n, en⟩ : ∃ n, xs.length = n := ⟨_, rfl⟩
  obtain ⟨p1, cap1, rfl⟩ := hG.1.1.len
  obtain ⟨p2, cap2, rfl⟩ := hG.2.len
  rw [List.length_map] at hG ⊢
  rw [en] at hl hG ⊢
  have HL := Lib.hid en
  have HG := Lib.hid hG
  have HX := Lib.hid hx
  have HS := Lib.hid hS
  have n1 := fun x y z t w h1 h2 => apart_c x y z t a b c d w h1 h2 ac bd
  have C1 := Lib.hid n1
  clear en hG hx n1 hS
  obtain ⟨i48, hi48, hz0, hz1, hz2⟩ := info_parts info48
  have HI := Lib.hid (And.intro hi48 (And.intro hz0 (And.intro hz1 hz2)))
  have hZ : Hid ((Value.agg #[.bool false, .int .i64 0, .int .i64 0, .int .i64 0, .int .i64 0, .int .i64 0, .int .i64 0, .int .i64 0, .int .i64 0, .slice none 0 0, .slice none 0 0]).cells.size = 11) := Lib.hid (by kernel_rfl)
  obtain ⟨i251, hi251, he0, he1, he2⟩ := info_parts info251
  have HJ := Lib.hid (And.intro hi251 (And.intro he0 (And.intro he1 he2)))
  have hY : Hid ((Value.agg #[.int .i64 0, .int .i64 0, .int .i64 0, .int .i64 0, .bool false]).cells.size = 5) := Lib.hid (by kernel_rfl)
  clear hi48 hz0 hz1 hz2 hi251 he0 he1 he2
  go_enter Tryz.func74, Tryz.ntmps74
  go_wp2_with fail
  obtain ⟨u0, eu⟩ : ∃ u, (((w.alloc (.cells #[.slice p1 n cap1, .slice p2 n cap2] 169)).alloc (.cells #[.int .i64 a, .int .i64 b, .int .i64 c, .int .i64 d] 70)).alloc (.cells #[.slice none 0 0, .slice none 0 0] 169)).alloc (.cells #[.slice none 0 0, .slice none 0 0] 169) = u := ⟨_, rfl⟩
  have B0 : Below w.heap.size w u0 := by rw [← eu]; exact blw
  have kG : Blk u0 w.heap.size 169 #[.slice p1 n cap1, .slice p2 n cap2] := by rw [← eu]; exact bkw
  have kB : Blk u0 (w.heap.size + 1) 70 #[.int .i64 a, .int .i64 b, .int .i64 c, .int .i64 d] := by rw [← eu]; exact bkw
  have kR : Blk u0 (w.heap.size + 1 + 1) 169 #[.slice none 0 0, .slice none 0 0] := by rw [← eu]; exact bkw
  have kr : Blk u0 (w.heap.size + 1 + 1 + 1) 169 #[.slice none 0 0, .slice none 0 0] := by rw [← eu]; exact bkw
  have KK := Lib.hid (And.intro kG (And.intro kB (And.intro kR (And.intro kr B0))))
  have cG := kG.cell
  have lG := kG.lt
  rw [eu]
  clear eu B0 kG kB kR kr
  go_loopw [11] (fun i wr => ∃ k : Nat, i = .int .i64 (k : Int) ∧ k ≤ n ∧ Lay w w.heap.size (w.heap.size + 1 + 1 + 1) (near2 (xs.take k) ⟨a, b, c, d⟩) wr ∧ Blk wr w.heap.size 169 #[.slice p1 n cap1, .slice p2 n cap2] ∧ Blk wr (w.heap.size + 1) 70 #[.int .i64 a, .int .i64 b, .int .i64 c, .int .i64 d] ∧ Blk wr (w.heap.size + 1 + 1) 169 #[.slice none 0 0, .slice none 0 0]) (fun i wr => n - (intOf i).toNat)
  case atStart => exact ⟨0, rfl, Nat.zero_le _, ⟨⟨none, 0, none, 0, KK.out.2.2.2.1, World.ownsRow_nil _ _ _ _, World.ownsRow_nil _ _ _ _⟩, KK.out.2.2.2.2⟩, KK.out.1, KK.out.2.1, KK.out.2.2.1⟩
  case round =>
  obtain ⟨k, rfl, hk, ⟨⟨s1, d1, s2, d2, jr, o1, o2⟩, hB⟩, jG, jB, jR⟩ := hrel
  clear KK cG lG
  by_cases hlt : k < n
  · have hkl : k < xs.length := by rw [HL.out]; exact hlt
    have hG2 := HG.out.below hB (Nat.le_refl _)
    obtain ⟨b2, cp2, e2, _, lb2, e0, e1, e2_, e3, e4⟩ := hG2.2.ext k hkl
    rw [HL.out] at e2
    injection e2 with e2 _ e2'
    subst e2 e2'
    obtain ⟨b1, cp1, kd, x, y, p_, q, r, lp, ln, lc, eo, _, lb1, hsh, q0, q1, q2, q3, q4, q5, q6, q7, q8, q9, q10⟩ := hG2.1.at k (by rw [List.length_map]; exact hkl)
    rw [List.length_map, HL.out] at eo
    injection eo with eo _ eo'
    subst eo eo'
    obtain ⟨m, em⟩ : ∃ m, (near2 (xs.take k) ⟨a, b, c, d⟩).length = m := ⟨_, rfl⟩
    have hmk : m ≤ n := by
      rw [← em]
      have h8 := near2_len (xs.take k) ⟨a, b, c, d⟩
      rw [List.length_take] at h8
      omega
    have hst := near2_succ xs ⟨a, b, c, d⟩ k hkl
    have hok := HX.out _ (List.getElem_mem hkl)
    have ex : (xs.map Ent2.obj)[k]'(by rw [List.length_map]; exact hkl) = (xs[k]).obj := by simp
    rw [ex] at hsh q0
    obtain ⟨E, eE⟩ : ∃ E, xs[k] = E := ⟨_, rfl⟩
    rw [eE] at hst hok hsh q0 e0 e1 e2_ e3
    have hoc : oCells E.obj = [.bool E.obj.1.1, .int .i64 kd, .int .i64 x, .int .i64 y, .int .i64 p_, .int .i64 q, .int .i64 0, .int .i64 0, .int .i64 r, .slice lp ln lc, .slice none 0 0] := by unfold oCells; rw [hsh]
    have hec : eCells E = [.int .i64 E.1.2.x0, .int .i64 E.1.2.y0, .int .i64 E.1.2.x1, .int .i64 E.1.2.y1, .bool false] := rfl
    obtain ⟨T, eT⟩ : ∃ T, Geo.apart E.1.2 ⟨a, b, c, d⟩ = T := ⟨_, rfl⟩
    rw [eT] at hst
    have hap := fun w => C1.out E.1.2.x0 E.1.2.y0 E.1.2.x1 E.1.2.y1 w hok.1 hok.2
    obtain ⟨f0, ef0⟩ : ∃ f, E.1.2.x0 = f := ⟨_, rfl⟩
    obtain ⟨f1, ef1⟩ : ∃ f, E.1.2.y0 = f := ⟨_, rfl⟩
    obtain ⟨f2, ef2⟩ : ∃ f, E.1.2.x1 = f := ⟨_, rfl⟩
    obtain ⟨f3, ef3⟩ : ∃ f, E.1.2.y1 = f := ⟨_, rfl⟩
    have eT' : Geo.apart ⟨f0, f1, f2, f3⟩ ⟨a, b, c, d⟩ = T := by rw [← eT, ← ef0, ← ef1, ← ef2, ← ef3]
    rw [ef0, ef1, ef2, ef3] at hap hec
    rw [ef0] at e0
    rw [ef1] at e1
    rw [ef2] at e2_
    rw [ef3] at e3
    rw [eT'] at hap
    obtain ⟨dk, edk⟩ : ∃ f, E.obj.1.1 = f := ⟨_, rfl⟩
    rw [edk] at q0 hoc
    rw [em] at jr o1 o2
    have HAP := Lib.hid hap
    have HST := Lib.hid hst
    have HOC := Lib.hid hoc
    have HEC := Lib.hid hec
    have EM := Lib.hid em
    have JR := Lib.hid jr
    have JG := Lib.hid jG
    have JB := Lib.hid jB
    have JR2 := Lib.hid jR
    have O1 := Lib.hid o1
    have O2 := Lib.hid o2
    have HB := Lib.hid hB
    have lw := hB.size
    have lr := jr.lt
    have lR := jR.lt
    have n1 : ¬ w.heap.size + 1 + 1 + 1 = wr.heap.size := by omega
    have cG := jG.cell
    have lG := jG.lt
    have cB := jB.cell
    have lB := jB.lt
    clear hG2 hst hok ex hsh eE hoc hec eT hap ef0 ef1 ef2 ef3 eT' edk em jr jG jB jR o1 o2 hB
    go_wp2_with fail
    refine (HAP.out _).mono ?_
    rintro e w1 ⟨rfl, hb⟩
    have hbw : Below wr.heap.size wr w1 := ((Below.refl _ _).alloc (Nat.le_refl _) (.cells #[.int .i64 f0, .int .i64 f1, .int .i64 f2, .int .i64 f3, .bool false] 224)).trans (hb.mono (by first | (simp; done) | (simp; omega)))
    have kE : Blk w1 wr.heap.size 224 #[.int .i64 f0, .int .i64 f1, .int .i64 f2, .int .i64 f3, .bool false] := (Blk.newAt (w := wr) rfl).below hb (by simp)
    have j1 := JR.out.below hbw JR.out.lt
    have j2 := JG.out.below hbw JG.out.lt
    have j3 := JB.out.below hbw JB.out.lt
    have j4 := JR2.out.below hbw JR2.out.lt
    have oo1 := own_below O1.out hbw (Nat.le_refl _)
    have oo2 := own_below O2.out hbw (Nat.le_refl _)
    have hB1 := HB.out.trans (hbw.mono lw)
    cases T
    · have e5 : near2 (xs.take (k + 1)) ⟨a, b, c, d⟩ = near2 (xs.take k) ⟨a, b, c, d⟩ ++ [E] := by rw [HST.out]; simp
      have E5 := Lib.hid e5
      have cE := kE.cell
      have lE := kE.lt
      have cG1 := j2.cell
      have lG1 := j2.lt
      have cR1 := j1.cell
      have fR1 := j1.frozen
      have lR1 := j1.lt
      have lb1' : b1 < w1.heap.size := Nat.lt_of_lt_of_le lb1 hbw.size
      have x0 := ((bcell hbw).1 _ _ lb1).trans q0
      have x1 := ((bcell hbw).1 _ _ lb1).trans q1
      have x2 := ((bcell hbw).1 _ _ lb1).trans q2
      have x3 := ((bcell hbw).1 _ _ lb1).trans q3
      have x4 := ((bcell hbw).1 _ _ lb1).trans q4
      have x5 := ((bcell hbw).1 _ _ lb1).trans q5
      have x6 := ((bcell hbw).1 _ _ lb1).trans q6
      have x7 := ((bcell hbw).1 _ _ lb1).trans q7
      have x8 := ((bcell hbw).1 _ _ lb1).trans q8
      have x9 := ((bcell hbw).1 _ _ lb1).trans q9
      have x10 := ((bcell hbw).1 _ _ lb1).trans q10
      have hN : ∀ j v, ([.bool dk, .int .i64 kd, .int .i64 x, .int .i64 y, .int .i64 p_, .int .i64 q, .int .i64 0, .int .i64 0, .int .i64 r, .slice lp ln lc, .slice none 0 0] : List Value)[j]? = some v → ((w1.alloc (.cells #[.bool dk, .int .i64 kd, .int .i64 x, .int .i64 y, .int .i64 p_, .int .i64 q, .int .i64 0, .int .i64 0, .int .i64 r, .slice lp ln lc, .slice none 0 0] 65)).drew).cell? ((⟨w1.heap.size, 0, none⟩ : Addr).add j) = some v :=
        World.news_of_block (cs := #[.bool dk, .int .i64 kd, .int .i64 x, .int .i64 y, .int .i64 p_, .int .i64 q, .int .i64 0, .int .i64 0, .int .i64 r, .slice lp ln lc, .slice none 0 0]) (Blk.newAt (w := w1) rfl)
      have hO : ((w1.alloc (.cells #[.bool dk, .int .i64 kd, .int .i64 x, .int .i64 y, .int .i64 p_, .int .i64 q, .int .i64 0, .int .i64 0, .int .i64 r, .slice lp ln lc, .slice none 0 0] 65)).drew).ownsRow w.heap.size 65 11 (.slice s1 m d1) m (gO (near2 (xs.take k) ⟨a, b, c, d⟩)) := World.ownsRow.drew (oo1.alloc _)
      have HN := Lib.hid hN
      have HOX := Lib.hid hO
      have HON := Lib.hid (obj_one dk kd x y p_ q r lp ln lc)
      have K1 := Lib.hid j1
      have K2 := Lib.hid j2
      have K3 := Lib.hid j3
      have K4 := Lib.hid j4
      have KE := Lib.hid kE
      have P2 := Lib.hid oo2
      have HB1 := Lib.hid hB1
      have hw1 := hB1.size
      have m1 : m + 1 ≤ maxLen := by unfold maxLen; omega
      have m2 : (m + 1) * 120 ≤ 140737488355328 := by omega
      have m3 : (m + 1) * 40 ≤ 140737488355328 := by omega
      have m4 : w.heap.size ≤ ((w1.alloc (.cells #[.bool dk, .int .i64 kd, .int .i64 x, .int .i64 y, .int .i64 p_, .int .i64 q, .int .i64 0, .int .i64 0, .int .i64 r, .slice lp ln lc, .slice none 0 0] 65)).drew).heap.size := by first | (simp; done) | (simp; omega)
      have MM := Lib.hid (And.intro m1 (And.intro m2 (And.intro m3 m4)))
      clear hb hbw hN hO j1 j2 j3 j4 kE oo1 oo2 hB1 e5 q0 q1 q2 q3 q4 q5 q6 q7 q8 q9 q10 e0 e1 e2_ e3 e4 cG lG cB lB lr lR m1 m2 m3 m4 JR JG JB JR2 O1 O2 HB HAP HST
      go_wp2_with fail
      go_region_law (refine step_append_lies _ rfl (.tmp 26) (.tmp 32) 47 rfl w.heap.size 65 i48 _ 11 120 Tryz.underlying47 HI.out.1 HI.out.2.1 HI.out.2.2.1 HI.out.2.2.2 hZ.out (by decide) (.slice s1 m d1) m (gO (near2 (xs.take k) ⟨a, b, c, d⟩)) (by simp [Act.eval, Act.put]) HOX.out ⟨w1.heap.size, 0, none⟩ 1 1 [.bool dk, .int .i64 kd, .int .i64 x, .int .i64 y, .int .i64 p_, .int .i64 q, .int .i64 0, .int .i64 0, .int .i64 r, .slice lp ln lc, .slice none 0 0] (by simp [Act.eval, Act.put]) rfl HN.out HON.out (by decide) MM.out.1 MM.out.2.1 MM.out.2.2.2 _ rfl ?_; intro q_ cq w3 hown hgrow hat hlt3; have r3 := (K1.out.alloc (.cells #[.bool dk, .int .i64 kd, .int .i64 x, .int .i64 y, .int .i64 p_, .int .i64 q, .int .i64 0, .int .i64 0, .int .i64 r, .slice lp ln lc, .slice none 0 0] 65)).drew.grown hgrow (fun e => own_blk_ne HOX.out (K1.out.alloc (.cells #[.bool dk, .int .i64 kd, .int .i64 x, .int .i64 y, .int .i64 p_, .int .i64 q, .int .i64 0, .int .i64 0, .int .i64 r, .slice lp ln lc, .slice none 0 0] 65)).drew (by decide) e.symm); have c3 := r3.cell; have fz3 := r3.frozen; have l3 := r3.lt)
      all_goals
        obtain ⟨xw, exw⟩ : ∃ x, w3.setCell ⟨w.heap.size + 1 + 1 + 1, 0, none⟩ (.slice (some ⟨q_, 0, none⟩) (m + 1) cq) = x := ⟨_, rfl⟩
        have rx : Blk xw (w.heap.size + 1 + 1 + 1) 169 #[.slice (some ⟨q_, 0, none⟩) (m + 1) cq, .slice s2 m d2] := by rw [← exw]; exact r3.set_ 0 _ rfl
        have gx : Blk xw w.heap.size 169 #[.slice (some ⟨b1, 0, none⟩) n cap1, .slice (some ⟨b2, 0, none⟩) n cap2] := by rw [← exw]; exact ((K2.out.alloc (.cells #[.bool dk, .int .i64 kd, .int .i64 x, .int .i64 y, .int .i64 p_, .int .i64 q, .int .i64 0, .int .i64 0, .int .i64 r, .slice lp ln lc, .slice none 0 0] 65)).drew.grown hgrow (fun e => own_blk_ne HOX.out (K2.out.alloc (.cells #[.bool dk, .int .i64 kd, .int .i64 x, .int .i64 y, .int .i64 p_, .int .i64 q, .int .i64 0, .int .i64 0, .int .i64 r, .slice lp ln lc, .slice none 0 0] 65)).drew (by decide) e.symm)).far (by simp; omega) _
        have bxx : Blk xw (w.heap.size + 1) 70 #[.int .i64 a, .int .i64 b, .int .i64 c, .int .i64 d] := by rw [← exw]; exact ((K3.out.alloc (.cells #[.bool dk, .int .i64 kd, .int .i64 x, .int .i64 y, .int .i64 p_, .int .i64 q, .int .i64 0, .int .i64 0, .int .i64 r, .slice lp ln lc, .slice none 0 0] 65)).drew.grown hgrow (fun e => own_blk_ne HOX.out (K3.out.alloc (.cells #[.bool dk, .int .i64 kd, .int .i64 x, .int .i64 y, .int .i64 p_, .int .i64 q, .int .i64 0, .int .i64 0, .int .i64 r, .slice lp ln lc, .slice none 0 0] 65)).drew (by decide) e.symm)).far (by simp) _
        have zx : Blk xw (w.heap.size + 1 + 1) 169 #[.slice none 0 0, .slice none 0 0] := by rw [← exw]; exact ((K4.out.alloc (.cells #[.bool dk, .int .i64 kd, .int .i64 x, .int .i64 y, .int .i64 p_, .int .i64 q, .int .i64 0, .int .i64 0, .int .i64 r, .slice lp ln lc, .slice none 0 0] 65)).drew.grown hgrow (fun e => own_blk_ne HOX.out (K4.out.alloc (.cells #[.bool dk, .int .i64 kd, .int .i64 x, .int .i64 y, .int .i64 p_, .int .i64 q, .int .i64 0, .int .i64 0, .int .i64 r, .slice lp ln lc, .slice none 0 0] 65)).drew (by decide) e.symm)).far (by simp) _
        have ex_ : Blk xw wr.heap.size 224 #[.int .i64 f0, .int .i64 f1, .int .i64 f2, .int .i64 f3, .bool false] := by rw [← exw]; exact ((KE.out.alloc (.cells #[.bool dk, .int .i64 kd, .int .i64 x, .int .i64 y, .int .i64 p_, .int .i64 q, .int .i64 0, .int .i64 0, .int .i64 r, .slice lp ln lc, .slice none 0 0] 65)).drew.grown hgrow (fun e => own_blk_ne HOX.out (KE.out.alloc (.cells #[.bool dk, .int .i64 kd, .int .i64 x, .int .i64 y, .int .i64 p_, .int .i64 q, .int .i64 0, .int .i64 0, .int .i64 r, .slice lp ln lc, .slice none 0 0] 65)).drew (by decide) e.symm)).far (by simp; omega) _
        have o1x : xw.ownsRow w.heap.size 65 11 (.slice (some ⟨q_, 0, none⟩) (m + 1) cq) (m + 1) (gO (near2 (xs.take k) ⟨a, b, c, d⟩) ++ [.bool dk, .int .i64 kd, .int .i64 x, .int .i64 y, .int .i64 p_, .int .i64 q, .int .i64 0, .int .i64 0, .int .i64 r, .slice lp ln lc, .slice none 0 0]) := by
          rw [← exw]
          exact ((Only.refl [w.heap.size + 1 + 1 + 1] w3).setCell (by simp) _).own hown (fun b' hb' hm' => by simp at hm'; subst hm'; exact own_blk_ne hown r3 (by decide) hb')
        have o2x : xw.ownsRow w.heap.size 224 5 (.slice s2 m d2) m (gE (near2 (xs.take k) ⟨a, b, c, d⟩)) := by
          have h1 : ((w1.alloc (.cells #[.bool dk, .int .i64 kd, .int .i64 x, .int .i64 y, .int .i64 p_, .int .i64 q, .int .i64 0, .int .i64 0, .int .i64 r, .slice lp ln lc, .slice none 0 0] 65)).drew).ownsRow w.heap.size 224 5 (.slice s2 m d2) m (gE (near2 (xs.take k) ⟨a, b, c, d⟩)) := World.ownsRow.drew (P2.out.alloc _)
          have h2 : w3.ownsRow w.heap.size 224 5 (.slice s2 m d2) m (gE (near2 (xs.take k) ⟨a, b, c, d⟩)) := own_same h1 (fun b' hb' => hgrow.block b' (own_lt h1 hb') (fun e => own_own_ne3 h1 HOX.out (by decide) hb' e.symm))
          rw [← exw]
          exact ((Only.refl [w.heap.size + 1 + 1 + 1] w3).setCell (by simp) _).own h2 (fun b' hb' hm' => by simp at hm'; subst hm'; exact own_blk_ne h2 r3 (by decide) hb')
        have hb3 : Below w.heap.size w w3 := Below.grown ((HB1.out.alloc hw1 (.cells #[.bool dk, .int .i64 kd, .int .i64 x, .int .i64 y, .int .i64 p_, .int .i64 q, .int .i64 0, .int .i64 0, .int .i64 r, .slice lp ln lc, .slice none 0 0] 65)).drew) hgrow (by first | (simp; done) | (simp; omega)) (fun b' hb' => own_ge HOX.out hb')
        have hbx : Below w.heap.size w xw := by rw [← exw]; exact hb3.setCell (by simp; omega) _
        have sx := hbx.size
        have hN2 : ∀ j v, ([.int .i64 f0, .int .i64 f1, .int .i64 f2, .int .i64 f3, .bool false] : List Value)[j]? = some v → (xw.alloc (.cells #[.int .i64 f0, .int .i64 f1, .int .i64 f2, .int .i64 f3, .bool false] 224)).cell? ((⟨xw.heap.size, 0, none⟩ : Addr).add j) = some v :=
          World.news_of_block (cs := #[.int .i64 f0, .int .i64 f1, .int .i64 f2, .int .i64 f3, .bool false]) (Blk.newAt (w := xw) rfl)
        have hO2 : (xw.alloc (.cells #[.int .i64 f0, .int .i64 f1, .int .i64 f2, .int .i64 f3, .bool false] 224)).ownsRow w.heap.size 224 5 (.slice s2 m d2) m (gE (near2 (xs.take k) ⟨a, b, c, d⟩)) := o2x.alloc _
        have HN2 := Lib.hid hN2
        have HO2X := Lib.hid hO2
        have cR2 := rx.cell
        have fR2 := rx.frozen
        have lR2 := rx.lt
        have cE2 := ex_.cell
        have lE2 := ex_.lt
        have RX := Lib.hid rx
        have GX := Lib.hid (And.intro gx (And.intro bxx zx))
        have OX := Lib.hid o1x
        have HBX := Lib.hid hbx
        have hew := Lib.hid (ext_one f0 f1 f2 f3)
        have m5 : w.heap.size ≤ (xw.alloc (.cells #[.int .i64 f0, .int .i64 f1, .int .i64 f2, .int .i64 f3, .bool false] 224)).heap.size := by simp; omega
        rw [exw]
        clear exw rx gx bxx zx ex_ o1x o2x hb3 hbx hN2 hO2 r3 c3 fz3 l3 hown hgrow hat hlt3 cE lE cG1 lG1 cR1 fR1 lR1 x0 x1 x2 x3 x4 x5 x6 x7 x8 x9 x10
        go_wp2_with (at_builtin; refine wpList_append_lies _ rfl (.tmp 36) (.tmp 38) 167 rfl w.heap.size 224 i251 _ 5 40 Tryz.underlying167 HJ.out.1 HJ.out.2.1 HJ.out.2.2.1 HJ.out.2.2.2 hY.out (by decide) (.slice s2 m d2) m (gE (near2 (xs.take k) ⟨a, b, c, d⟩)) (by simp [Act.eval]) HO2X.out ⟨xw.heap.size, 0, none⟩ 1 1 [.int .i64 f0, .int .i64 f1, .int .i64 f2, .int .i64 f3, .bool false] (by simp [Act.eval]) rfl HN2.out hew.out (by decide) MM.out.1 MM.out.2.2.1 m5 _ rfl ?_)
        intro q2_ cq2 w4 hown2 hgrow2 hat2 hlt4
        have r4 := (RX.out.alloc (.cells #[.int .i64 f0, .int .i64 f1, .int .i64 f2, .int .i64 f3, .bool false] 224)).grown hgrow2 (fun e => own_blk_ne HO2X.out (RX.out.alloc (.cells #[.int .i64 f0, .int .i64 f1, .int .i64 f2, .int .i64 f3, .bool false] 224)) (by decide) e.symm)
        have g4 := (GX.out.1.alloc (.cells #[.int .i64 f0, .int .i64 f1, .int .i64 f2, .int .i64 f3, .bool false] 224)).grown hgrow2 (fun e => own_blk_ne HO2X.out (GX.out.1.alloc (.cells #[.int .i64 f0, .int .i64 f1, .int .i64 f2, .int .i64 f3, .bool false] 224)) (by decide) e.symm)
        have b4 := (GX.out.2.1.alloc (.cells #[.int .i64 f0, .int .i64 f1, .int .i64 f2, .int .i64 f3, .bool false] 224)).grown hgrow2 (fun e => own_blk_ne HO2X.out (GX.out.2.1.alloc (.cells #[.int .i64 f0, .int .i64 f1, .int .i64 f2, .int .i64 f3, .bool false] 224)) (by decide) e.symm)
        have z4 := (GX.out.2.2.alloc (.cells #[.int .i64 f0, .int .i64 f1, .int .i64 f2, .int .i64 f3, .bool false] 224)).grown hgrow2 (fun e => own_blk_ne HO2X.out (GX.out.2.2.alloc (.cells #[.int .i64 f0, .int .i64 f1, .int .i64 f2, .int .i64 f3, .bool false] 224)) (by decide) e.symm)
        have h1 : (xw.alloc (.cells #[.int .i64 f0, .int .i64 f1, .int .i64 f2, .int .i64 f3, .bool false] 224)).ownsRow w.heap.size 65 11 (.slice (some ⟨q_, 0, none⟩) (m + 1) cq) (m + 1) (gO (near2 (xs.take k) ⟨a, b, c, d⟩) ++ [.bool dk, .int .i64 kd, .int .i64 x, .int .i64 y, .int .i64 p_, .int .i64 q, .int .i64 0, .int .i64 0, .int .i64 r, .slice lp ln lc, .slice none 0 0]) := OX.out.alloc _
        have h2 : w4.ownsRow w.heap.size 65 11 (.slice (some ⟨q_, 0, none⟩) (m + 1) cq) (m + 1) (gO (near2 (xs.take k) ⟨a, b, c, d⟩) ++ [.bool dk, .int .i64 kd, .int .i64 x, .int .i64 y, .int .i64 p_, .int .i64 q, .int .i64 0, .int .i64 0, .int .i64 r, .slice lp ln lc, .slice none 0 0]) := own_same h1 (fun b' hb' => hgrow2.block b' (own_lt h1 hb') (fun e => own_own_ne3 h1 HO2X.out (by decide) hb' e.symm))
        have hb4 : Below w.heap.size w w4 := Below.grown (HBX.out.alloc sx (.cells #[.int .i64 f0, .int .i64 f1, .int .i64 f2, .int .i64 f3, .bool false] 224)) hgrow2 (by first | (simp; done) | (simp; omega)) (fun b' hb' => own_ge HO2X.out hb')
        have c4 := r4.cell
        have fz4 := r4.frozen
        have l4 := r4.lt
        have R4 := Lib.hid r4
        have G4 := Lib.hid (And.intro g4 (And.intro b4 z4))
        have P1 := Lib.hid h2
        have P2' := Lib.hid hown2
        have HB4 := Lib.hid hb4
        have s4 := hb4.size
        clear r4 g4 b4 z4 h1 h2 hb4 hown2 hgrow2 hat2 hlt4 cR2 fR2 lR2 cE2 lE2
        go_wp2_with fail
        have OF : Only [w.heap.size + 1 + 1 + 1] w4 (w4.setCell ⟨w.heap.size + 1 + 1 + 1, 1, none⟩ (.slice (some ⟨q2_, 0, none⟩) (m + 1) cq2)) := (Only.refl _ _).setCell (by simp) _
        have HL2 : Hid (Lay w w.heap.size (w.heap.size + 1 + 1 + 1) (near2 (xs.take (k + 1)) ⟨a, b, c, d⟩) (w4.setCell ⟨w.heap.size + 1 + 1 + 1, 1, none⟩ (.slice (some ⟨q2_, 0, none⟩) (m + 1) cq2))) := by
          refine Lib.hid ⟨⟨some ⟨q_, 0, none⟩, cq, some ⟨q2_, 0, none⟩, cq2, ?_, ?_, ?_⟩, HB4.out.setCell (by simp; omega) _⟩
          · rw [E5.out, List.length_append, EM.out]
            exact R4.out.set_ 1 _ rfl
          · rw [E5.out, List.length_append, EM.out, gO_add, HOC.out]
            exact OF.own P1.out (fun b' hb' hm' => by simp at hm'; subst hm'; exact own_blk_ne P1.out R4.out (by decide) hb')
          · rw [E5.out, List.length_append, EM.out, gE_add, HEC.out]
            exact OF.own P2'.out (fun b' hb' hm' => by simp at hm'; subst hm'; exact own_blk_ne P2'.out R4.out (by decide) hb')
        have HK := Lib.hid (And.intro (G4.out.1.far (p := ⟨w.heap.size + 1 + 1 + 1, 1, none⟩) (by simp; omega) (.slice (some ⟨q2_, 0, none⟩) (m + 1) cq2)) (And.intro (G4.out.2.1.far (p := ⟨w.heap.size + 1 + 1 + 1, 1, none⟩) (by simp) (.slice (some ⟨q2_, 0, none⟩) (m + 1) cq2)) (G4.out.2.2.far (p := ⟨w.heap.size + 1 + 1 + 1, 1, none⟩) (by simp) (.slice (some ⟨q2_, 0, none⟩) (m + 1) cq2))))
        clear OF
        go_roundw
        case rel =>
          have hr2 : ∃ k' : Nat, Value.int .i64 ((k : Int) + 1) = .int .i64 (k' : Int) ∧ k' ≤ n ∧ Lay w w.heap.size (w.heap.size + 1 + 1 + 1) (near2 (xs.take k') ⟨a, b, c, d⟩) (w4.setCell ⟨w.heap.size + 1 + 1 + 1, 1, none⟩ (.slice (some ⟨q2_, 0, none⟩) (m + 1) cq2)) ∧ Blk (w4.setCell ⟨w.heap.size + 1 + 1 + 1, 1, none⟩ (.slice (some ⟨q2_, 0, none⟩) (m + 1) cq2)) w.heap.size 169 #[.slice (some ⟨b1, 0, none⟩) n cap1, .slice (some ⟨b2, 0, none⟩) n cap2] ∧ Blk (w4.setCell ⟨w.heap.size + 1 + 1 + 1, 1, none⟩ (.slice (some ⟨q2_, 0, none⟩) (m + 1) cq2)) (w.heap.size + 1) 70 #[.int .i64 a, .int .i64 b, .int .i64 c, .int .i64 d] ∧ Blk (w4.setCell ⟨w.heap.size + 1 + 1 + 1, 1, none⟩ (.slice (some ⟨q2_, 0, none⟩) (m + 1) cq2)) (w.heap.size + 1 + 1) 169 #[.slice none 0 0, .slice none 0 0] := ⟨k + 1, by go_num, by omega, HL2.out, HK.out⟩
          first | exact hr2 | ((repeat apply Exists.intro); exact ⟨hr2, rfl⟩)
        case measure => simp [intOf]; omega
    · have e5 : near2 (xs.take (k + 1)) ⟨a, b, c, d⟩ = near2 (xs.take k) ⟨a, b, c, d⟩ := by rw [HST.out]; simp
      have HL2 : Hid (Lay w w.heap.size (w.heap.size + 1 + 1 + 1) (near2 (xs.take (k + 1)) ⟨a, b, c, d⟩) w1) := Lib.hid ⟨⟨s1, d1, s2, d2, by rw [e5, EM.out]; exact j1, by rw [e5, EM.out]; exact oo1, by rw [e5, EM.out]; exact oo2⟩, hB1⟩
      have HK := Lib.hid (And.intro j2 (And.intro j3 j4))
      clear hb hbw kE j1 j2 j3 j4 oo1 oo2 hB1 e5
      go_wp2_with fail
      go_roundw
      case rel =>
        have hr2 : ∃ k' : Nat, Value.int .i64 ((k : Int) + 1) = .int .i64 (k' : Int) ∧ k' ≤ n ∧ Lay w w.heap.size (w.heap.size + 1 + 1 + 1) (near2 (xs.take k') ⟨a, b, c, d⟩) w1 ∧ Blk w1 w.heap.size 169 #[.slice (some ⟨b1, 0, none⟩) n cap1, .slice (some ⟨b2, 0, none⟩) n cap2] ∧ Blk w1 (w.heap.size + 1) 70 #[.int .i64 a, .int .i64 b, .int .i64 c, .int .i64 d] ∧ Blk w1 (w.heap.size + 1 + 1) 169 #[.slice none 0 0, .slice none 0 0] := ⟨k + 1, by go_num, by omega, HL2.out, HK.out⟩
        first | exact hr2 | ((repeat apply Exists.intro); exact ⟨hr2, rfl⟩)
      case measure => simp [intOf]; omega
  · have e : k = n := by omega
    subst e
    have e5 : near2 (xs.take k) ⟨a, b, c, d⟩ = near2 xs ⟨a, b, c, d⟩ := by rw [List.take_of_length_le (by rw [HL.out]; omega)]
    rw [e5] at jr o1 o2
    obtain ⟨Y, eY⟩ : ∃ Y, near2 xs ⟨a, b, c, d⟩ = Y := ⟨_, rfl⟩
    rw [eY] at jr o1 o2
    have EY := Lib.hid eY
    have hsh : ∀ e ∈ Y, ShAt S w e.1.1.2 e.2 := fun e he => by
      rw [← eY] at he
      exact HG.out.1.2 _ (List.mem_map.2 ⟨e, near2_mem he, rfl⟩)
    have HSH := Lib.hid hsh
    have JR := Lib.hid jr
    have JR2 := Lib.hid jR
    have O1 := Lib.hid o1
    have O2 := Lib.hid o2
    have HB := Lib.hid hB
    have cr := jr.cell
    have lr := jr.lt
    have cR := jR.cell
    have fR := jR.frozen
    have lR := jR.lt
    have cG := jG.cell
    have lG := jG.lt
    have lw := hB.size
    clear e5 eY hsh jr jR jG jB o1 o2 hB
    go_wp2_with fail
    have OF : Only [w.heap.size + 1 + 1] wr ((wr.setCell ⟨w.heap.size + 1 + 1, 0, none⟩ (.slice s1 Y.length d1)).setCell ⟨w.heap.size + 1 + 1, 1, none⟩ (.slice s2 Y.length d2)) := ((Only.refl _ _).setCell (by simp) _).setCell (by simp) _
    have hBF : Below w.heap.size w ((wr.setCell ⟨w.heap.size + 1 + 1, 0, none⟩ (.slice s1 Y.length d1)).setCell ⟨w.heap.size + 1 + 1, 1, none⟩ (.slice s2 Y.length d2)) := (HB.out.setCell (by simp; omega) _).setCell (by simp; omega) _
    refine bodyPost_ret (results_cell_row (t := 169) Tryz.results74 _ _ (w.heap.size + 1 + 1) #[.slice s1 Y.length d1, .slice s2 Y.length d2] (0, 0) _ (by rfl) ?_ Tryz.underlying169 rfl (by kernel_rfl)) rfl ⟨_, _, rfl, ?_, hBF⟩
    · exact (JR2.out.set_ 0 _ rfl).set_ 1 _ rfl
    · rw [EY.out]
      refine GroupAt.of_own (H := w.heap.size) (OF.own O1.out ?_) (OF.own O2.out ?_) HS.out (fun e he => (HSH.out e he).below hBF (Nat.le_refl _))
      · intro b' hb' hm'; simp at hm'; subst hm'; exact own_blk_ne O1.out JR2.out (by decide) hb'
      · intro b' hb' hm'; simp at hm'; subst hm'; exact own_blk_ne O2.out JR2.out (by decide) hb'
end Go.Proofs.YtfajckkbinbpiaaGreatDoor
