/- Walks: package plot: an object is added to the file. Walks: package plot: a disc is added, moved. Objects added one behind the other. A struct stored into a part of a block that is known: the walk goes on in a world of which the block is known, and that all else is as it was. Walks: package plot: an aperture is defined. -/
import Derived.Deep.AppendLies
import Derived.Deep.Cut
import Derived.Deep.CutRange
import Derived.Deep.MidRow
import Derived.Deep.RegionHeld3
import Derived.Deep.RegionLaw
import Derived.StillTailTactics
import Derived.Test.YtfajckkbinbpiaaGreatDoorJ01
import Derived.Test.YtfajckkbinbpiaaGreatDoorJ02
import Derived.Test.YtfajckkbinbpiaaGreatDoorJ07
import Derived.Test.YtfajckkbinbpiaaGreatDoorJ08
namespace Go.Proofs.YtfajckkbinbpiaaGreatDoor
set_option maxRecDepth 100000
set_option maxHeartbeats 32000000
set_option linter.unusedVariables false
set_option linter.unusedSimpArgs false
open Go.RowKit
theorem info48 : (Tryz.prog.info? 65).map (fun i => (i.zero, i.size, i.bytes)) = some (some (.agg #[.bool false, .int .i64 0, .int .i64 0, .int .i64 0, .int .i64 0, .int .i64 0, .int .i64 0, .int .i64 0, .int .i64 0, .slice none 0 0, .slice none 0 0]), 11, 120) := by kernel_rfl
def Added (P gL off B n : Nat) (pc lcs : Array Value) (ov : Value) (ys : List Value) (g cap : Nat) (w w' : World) : Prop :=
  Blk w' P 159 pc ∧ Blk w' gL 162 (lcs.setIfInBounds off (.slice (some ⟨g, 0, none⟩) (n + 1) cap)) ∧ w'.ownsRow B 65 11 (.slice (some ⟨g, 0, none⟩) (n + 1) cap) (n + 1) ys ∧ Only (P :: gL :: ov.ownBlock.toList) w w' ∧ (ov.ownBlock = some g ∨ w.heap.size ≤ g)
theorem add_arm {P gL off B n g cap : Nat} {pc lcs : Array Value} {ov : Value} {xs OB : List Value} {w u w3 : World} {z : Array Value} (hz : z = #[.bool false, .int .i64 0, .int .i64 0, .int .i64 0, .int .i64 0, .int .i64 0, .int .i64 0, .int .i64 0, .int .i64 0, .slice none 0 0, .slice none 0 0]) (u1 : Blk u P 159 pc) (u2 : Blk u gL 162 lcs) (u4 : u.ownsRow B 65 11 ov n xs) (u5 : Only [P, gL] w u) (ho : lcs[off]? = some ov)
    (hown : w3.ownsRow B 65 11 (.slice (some ⟨g, 0, none⟩) (n + 1) cap) (n + 1) (xs ++ [.bool false, .int .i64 0, .int .i64 0, .int .i64 0, .int .i64 0, .int .i64 0, .int .i64 0, .int .i64 0, .int .i64 0, .slice none 0 0, .slice none 0 0])) (hgrow : ((u.alloc (.cells z 65)).drew).grownBy w3 ov.ownBlock) (hat : ov.ownBlock = some g ∨ g = ((u.alloc (.cells z 65)).drew).heap.size) (hOB : OB.length = 11) (h1 : ∀ v ∈ OB, v.oneCell' = true) :
    (w3.cell? ⟨gL, off, none⟩ = some ov ∧ w3.frozen? ⟨gL, off, none⟩ = false ∧ g ≠ gL) ∧ (∀ j, j < 11 → w3.cell? ⟨g, n * 11 + j, none⟩ = [.bool false, .int .i64 0, .int .i64 0, .int .i64 0, .int .i64 0, .int .i64 0, .int .i64 0, .int .i64 0, .int .i64 0, .slice none 0 0, .slice none 0 0][j]?) ∧ (∀ j, w3.frozen? ⟨g, n * 11 + j, none⟩ = false) ∧
    Added P gL off B n pc lcs ov (xs ++ OB) g cap w ((w3.setCells g (n * 11) OB).setCell ⟨gL, off, none⟩ (.slice (some ⟨g, 0, none⟩) (n + 1) cap)) ∧
    Added P gL off B n pc lcs ov (xs ++ OB) g cap w ((w3.setCell ⟨gL, off, none⟩ (.slice (some ⟨g, 0, none⟩) (n + 1) cap)).setCells g (n * 11) OB) := by
  subst hz
  have hPL : P ≠ gL := u1.ne_ u2 (by decide)
  have v1 := (u1.alloc (.cells #[.bool false, .int .i64 0, .int .i64 0, .int .i64 0, .int .i64 0, .int .i64 0, .int .i64 0, .int .i64 0, .int .i64 0, .slice none 0 0, .slice none 0 0] 65)).drew
  have v2 := (u2.alloc (.cells #[.bool false, .int .i64 0, .int .i64 0, .int .i64 0, .int .i64 0, .int .i64 0, .int .i64 0, .int .i64 0, .int .i64 0, .slice none 0 0, .slice none 0 0] 65)).drew
  have v4 : ((u.alloc (.cells #[.bool false, .int .i64 0, .int .i64 0, .int .i64 0, .int .i64 0, .int .i64 0, .int .i64 0, .int .i64 0, .int .i64 0, .slice none 0 0, .slice none 0 0] 65)).drew).ownsRow B 65 11 ov n xs := (u4.alloc _).drew
  have kP3 := v1.grown hgrow (Ne.symm (own_blk_ne v4 v1 (by decide)))
  have kL3 := v2.grown hgrow (Ne.symm (own_blk_ne v4 v2 (by decide)))
  have ngP : g ≠ P := fun e => own_blk_ne hown kP3 (by decide) (by rw [← e]; rfl)
  have ngL : g ≠ gL := fun e => own_blk_ne hown kL3 (by decide) (by rw [← e]; rfl)
  have hO3 : Only (P :: gL :: ov.ownBlock.toList) w w3 :=
    (((u5.mono (by intro b hb; simp at hb ⊢; rcases hb with h | h; exact .inl h; exact .inr (.inl h))).alloc (.cells #[.bool false, .int .i64 0, .int .i64 0, .int .i64 0, .int .i64 0, .int .i64 0, .int .i64 0, .int .i64 0, .int .i64 0, .slice none 0 0, .slice none 0 0] 65)).drew).grown hgrow (by intro b hb; left; rw [hb]; simp)
  have hgw : g ∈ (P :: gL :: ov.ownBlock.toList) ∨ w.heap.size ≤ g := by
    rcases hat with h | h
    · left; rw [h]; simp
    · right; rw [h]; have := u5.size; simp; omega
  have hat' : ov.ownBlock = some g ∨ w.heap.size ≤ g := by
    rcases hat with h | h
    · exact .inl h
    · right; rw [h]; have := u5.size; simp; omega
  have hxl : xs.length = n * 11 := u4.1
  have key : ∀ w' : World, w'.ownsRow B 65 11 (.slice (some ⟨g, 0, none⟩) (n + 1) cap) (n + 1) (xs ++ [.bool false, .int .i64 0, .int .i64 0, .int .i64 0, .int .i64 0, .int .i64 0, .int .i64 0, .int .i64 0, .int .i64 0, .slice none 0 0, .slice none 0 0]) → (w'.setCells g (n * 11) OB).ownsRow B 65 11 (.slice (some ⟨g, 0, none⟩) (n + 1) cap) (n + 1) (xs ++ OB) ∧ w'.grownBy (w'.setCells g (n * 11) OB) (some g) := fun w' h => by
    obtain ⟨h3, h4⟩ := own_setCells OB (n * 11) w' _ h
    have := setAt_end xs [.bool false, .int .i64 0, .int .i64 0, .int .i64 0, .int .i64 0, .int .i64 0, .int .i64 0, .int .i64 0, .int .i64 0, .slice none 0 0, .slice none 0 0] OB [] (by rw [hOB]; rfl)
    simp only [List.append_nil, List.length_nil, Nat.add_zero, hxl] at this
    rw [this] at h3
    exact ⟨h3, h4⟩
  refine ⟨⟨(kL3.cell off).trans ho, kL3.frozen off, ngL⟩, ?_, fun j => hown.frozenAt _, ?_, ?_⟩
  · intro j hj
    rw [hown.cellAt _ (by omega), List.getElem?_append_right (by omega), hxl]
    congr 1
    omega
  · obtain ⟨hown4, hgrow4⟩ := key w3 hown
    have kP4 := kP3.grown hgrow4 (by simpa using Ne.symm ngP)
    have kL4 := kL3.grown hgrow4 (by simpa using Ne.symm ngL)
    exact ⟨kP4.far (by simpa using hPL) _, kL4.set_ off _ rfl, own_far hown4 (by simpa [Value.ownBlock] using ngL) _,
      ((hO3.grown hgrow4 (by intro b hb; injection hb with hb; subst hb; exact hgw)).setCell (by simp) _), hat'⟩
  · have kP5 := kP3.far (p := ⟨gL, off, none⟩) (by simpa using hPL) (.slice (some ⟨g, 0, none⟩) (n + 1) cap)
    have kL5 := kL3.set_ off (.slice (some ⟨g, 0, none⟩) (n + 1) cap) rfl
    have hown5 := own_far hown (p := ⟨gL, off, none⟩) (by simpa [Value.ownBlock] using ngL) (.slice (some ⟨g, 0, none⟩) (n + 1) cap)
    obtain ⟨hown6, hgrow6⟩ := key _ hown5
    exact ⟨kP5.grown hgrow6 (by simpa using Ne.symm ngP), kL5.grown hgrow6 (by simpa using Ne.symm ngL), hown6,
      ((hO3.setCell (by simp) _).grown hgrow6 (by intro b hb; injection hb with hb; subst hb; exact hgw)), hat'⟩
theorem add_1 (P gL capL B n : Nat) (mk bud k x y r : Int) (dk : Bool) (lp : Option Addr) (ln lc : Nat) {v0 v1 v2 v3 v4 v5 v6 v7 v8 v9 v10 v11 v12 v13 v14 v15 v16 v17 v18 v19 v20 v24 : Value} (ov : Value) (lcs : Array Value) (xs : List Value) (w : World)
    (hP : Blk w P 159 #[v0, v1, v2, v3, v4, v5, v6, v7, v8, v9, v10, v11, v12, v13, v14, v15, v16, v17, v18, v19, v20, .slice (some ⟨gL, 0, none⟩) 1 capL, .int .i64 mk, .int .i64 bud, v24]) (hL : Blk w gL 162 lcs) (ho : lcs[6]? = some ov) (hov : w.ownsRow B 65 11 ov n xs) (hm0 : 0 ≤ mk) (hm1 : mk < bud) (hm2 : bud ≤ 100000) (hn : n ≤ 100000) (hB : B ≤ w.heap.size)
    (hok : Calls Tryz.prog 171 #[.agg #[.int .i64 k, .int .i64 x, .int .i64 y, .int .i64 0, .int .i64 0, .int .i64 0, .int .i64 0, .int .i64 r, .slice lp ln lc, .slice none 0 0]] (w.alloc (.cells #[.int .i64 k, .int .i64 x, .int .i64 y, .int .i64 0, .int .i64 0, .int .i64 0, .int .i64 0, .int .i64 r, .slice lp ln lc, .slice none 0 0] 62)) fun e w' => e = .returned (.bool true) ∧ Below (w.heap.size + 1) (w.alloc (.cells #[.int .i64 k, .int .i64 x, .int .i64 y, .int .i64 0, .int .i64 0, .int .i64 0, .int .i64 0, .int .i64 r, .slice lp ln lc, .slice none 0 0] 62)) w') :
    Calls Tryz.prog 161 #[.pointer (some ⟨P, 0, none⟩), .bool dk, .agg #[.int .i64 k, .int .i64 x, .int .i64 y, .int .i64 0, .int .i64 0, .int .i64 0, .int .i64 0, .int .i64 r, .slice lp ln lc, .slice none 0 0]] w fun e w' => ∃ g cap, e = .returned (.int .i64 0) ∧ Added P gL 6 B n #[v0, v1, v2, v3, v4, v5, v6, v7, v8, v9, v10, v11, v12, v13, v14, v15, v16, v17, v18, v19, v20, .slice (some ⟨gL, 0, none⟩) 1 capL, .int .i64 (mk + 1), .int .i64 bud, v24] lcs ov (xs ++ [.bool dk, .int .i64 k, .int .i64 x, .int .i64 y, .int .i64 0, .int .i64 0, .int .i64 0, .int .i64 0, .int .i64 r, .slice lp ln lc, .slice none 0 0]) g cap w w' := by
  obtain ⟨op, oc, rfl⟩ := own_form hov
  have hne := hP.ne_ hL (by decide)
  have lL := hL.lt
  have l := hP.lt
  have c := hP.cell
  have f := hP.frozen
  have HOK := Lib.hid hok
  have HP := Lib.hid hP
  have HL := Lib.hid hL
  have HO := Lib.hid ho
  have HOV := Lib.hid hov
  have HB := Lib.hid hB
  clear hok hP hL ho hov hB
  go_enter Tryz.func161, Tryz.ntmps161
  go_wp2_with fail
  refine (HOK.out).mono ?_
  rintro e w1 ⟨rfl, hb⟩
  have k1 := (HP.out.alloc (.cells #[.int .i64 k, .int .i64 x, .int .i64 y, .int .i64 0, .int .i64 0, .int .i64 0, .int .i64 0, .int .i64 r, .slice lp ln lc, .slice none 0 0] 62)).below hb (by omega)
  have k2 := (HL.out.alloc (.cells #[.int .i64 k, .int .i64 x, .int .i64 y, .int .i64 0, .int .i64 0, .int .i64 0, .int .i64 0, .int .i64 r, .slice lp ln lc, .slice none 0 0] 62)).below hb (by omega)
  have k3 : Blk w1 w.heap.size 62 #[.int .i64 k, .int .i64 x, .int .i64 y, .int .i64 0, .int .i64 0, .int .i64 0, .int .i64 0, .int .i64 r, .slice lp ln lc, .slice none 0 0] := (Blk.new w 62 #[.int .i64 k, .int .i64 x, .int .i64 y, .int .i64 0, .int .i64 0, .int .i64 0, .int .i64 0, .int .i64 r, .slice lp ln lc, .slice none 0 0]).below hb (by omega)
  have hov1 : w1.ownsRow B 65 11 (.slice op n oc) n xs := own_below (HOV.out.alloc (.cells #[.int .i64 k, .int .i64 x, .int .i64 y, .int .i64 0, .int .i64 0, .int .i64 0, .int .i64 0, .int .i64 r, .slice lp ln lc, .slice none 0 0] 62)) hb (by simp)
  have hO1 : Only [P, gL] w w1 := ((Only.refl _ _).alloc _).below hb (by omega)
  have c1 := k1.cell
  have f1 := k1.frozen
  have l1 := k1.lt
  have cO : w1.cell? ⟨gL, 6, none⟩ = some (.slice op n oc) := (k2.cell 6).trans HO.out
  have fO : w1.frozen? ⟨gL, 6, none⟩ = false := k2.frozen 6
  have lO := k2.lt
  have c3 := k3.cell
  have f3 := k3.frozen
  have l3 := k3.lt
  have HK1 := Lib.hid k1
  have HK2 := Lib.hid k2
  have HK3 := Lib.hid k3
  have HOV1 := Lib.hid hov1
  have HO1 := Lib.hid hO1
  have d1 : decide (bud ≤ mk) = false := by simp; omega
  clear k1 k2 k3 hb c f hov1 hO1
  go_wp2_with fail
  go_region
  go_wp2_with fail
  go_region
  go_wp2_with fail
  obtain ⟨u, eu⟩ : ∃ u, (w1.setCell ⟨P, 22, none⟩ (.int .i64 (mk + 1))).drew.drew = u := ⟨_, rfl⟩
  have u1 : Blk u P 159 #[v0, v1, v2, v3, v4, v5, v6, v7, v8, v9, v10, v11, v12, v13, v14, v15, v16, v17, v18, v19, v20, .slice (some ⟨gL, 0, none⟩) 1 capL, .int .i64 (mk + 1), .int .i64 bud, v24] := by rw [← eu]; exact (HK1.out.set_ 22 _ rfl).drew.drew
  have u2 : Blk u gL 162 lcs := by rw [← eu]; exact (HK2.out.far (by simpa using Ne.symm hne) _).drew.drew
  have u3 : Blk u w.heap.size 62 #[.int .i64 k, .int .i64 x, .int .i64 y, .int .i64 0, .int .i64 0, .int .i64 0, .int .i64 0, .int .i64 r, .slice lp ln lc, .slice none 0 0] := by rw [← eu]; exact (HK3.out.far (by simp; omega) _).drew.drew
  have u4 : u.ownsRow B 65 11 (.slice op n oc) n xs := by
    rw [← eu]
    exact (own_far HOV1.out (by have := own_blk_ne HOV1.out HK1.out (by decide); simpa using this) _).drew.drew
  have u5 : Only [P, gL] w u := by rw [← eu]; exact ((HO1.out.setCell (by simp) _).drew).drew
  have us : w1.heap.size ≤ u.heap.size := by rw [← eu]; simp
  rw [eu]
  clear eu
  have cO : u.cell? ⟨gL, 6, none⟩ = some (.slice op n oc) := (u2.cell 6).trans HO.out
  have fO : u.frozen? ⟨gL, 6, none⟩ = false := u2.frozen 6
  have lO := u2.lt
  have c3 := u3.cell
  have f3 := u3.frozen
  have l3 := u3.lt
  have hown0 : ((u.alloc (.cells #[.bool false, .int .i64 0, .int .i64 0, .int .i64 0, .int .i64 0, .int .i64 0, .int .i64 0, .int .i64 0, .int .i64 0, .slice none 0 0, .slice none 0 0] 65)).drew).ownsRow B 65 11 (.slice op n oc) n xs := (u4.alloc _).drew
  have hN : ∀ j v, ([.bool false, .int .i64 0, .int .i64 0, .int .i64 0, .int .i64 0, .int .i64 0, .int .i64 0, .int .i64 0, .int .i64 0, .slice none 0 0, .slice none 0 0] : List Value)[j]? = some v → ((u.alloc (.cells #[.bool false, .int .i64 0, .int .i64 0, .int .i64 0, .int .i64 0, .int .i64 0, .int .i64 0, .int .i64 0, .int .i64 0, .slice none 0 0, .slice none 0 0] 65)).drew).cell? ((⟨u.heap.size, 0, none⟩ : Addr).add j) = some v :=
    World.news_of_block (cs := #[.bool false, .int .i64 0, .int .i64 0, .int .i64 0, .int .i64 0, .int .i64 0, .int .i64 0, .int .i64 0, .int .i64 0, .slice none 0 0, .slice none 0 0]) (Blk.newAt (w := u) rfl)
  have hO : ∀ v ∈ ([.bool false, .int .i64 0, .int .i64 0, .int .i64 0, .int .i64 0, .int .i64 0, .int .i64 0, .int .i64 0, .int .i64 0, .slice none 0 0, .slice none 0 0] : List Value), v.oneCell' = true := by
    intro v hv
    simp only [List.mem_cons, List.not_mem_nil, or_false] at hv
    rcases hv with rfl | rfl | rfl | rfl | rfl | rfl | rfl | rfl | rfl | rfl | rfl <;> rfl
  have hO2 : ∀ v ∈ ([.bool dk, .int .i64 k, .int .i64 x, .int .i64 y, .int .i64 0, .int .i64 0, .int .i64 0, .int .i64 0, .int .i64 r, .slice lp ln lc, .slice none 0 0] : List Value), v.oneCell' = true := by
    intro v hv
    simp only [List.mem_cons, List.not_mem_nil, or_false] at hv
    rcases hv with rfl | rfl | rfl | rfl | rfl | rfl | rfl | rfl | rfl | rfl | rfl <;> rfl
  have hcl : n + 1 ≤ maxLen ∧ (n + 1) * 120 ≤ 140737488355328 := by unfold maxLen; omega
  have hsz : B ≤ ((u.alloc (.cells #[.bool false, .int .i64 0, .int .i64 0, .int .i64 0, .int .i64 0, .int .i64 0, .int .i64 0, .int .i64 0, .int .i64 0, .slice none 0 0, .slice none 0 0] 65)).drew).heap.size := by have := HB.out; simp; omega
  obtain ⟨i48, hi48, hz0, hz1, hz2⟩ := info_parts info48
  have HI := Lib.hid (And.intro hi48 (And.intro hz0 (And.intro hz1 hz2)))
  have hZ : Hid ((Value.agg #[.bool false, .int .i64 0, .int .i64 0, .int .i64 0, .int .i64 0, .int .i64 0, .int .i64 0, .int .i64 0, .int .i64 0, .slice none 0 0, .slice none 0 0]).cells.size = 11) := Lib.hid (by kernel_rfl)
  have HU1 := Lib.hid u1
  have HU2 := Lib.hid u2
  have HU4 := Lib.hid u4
  have HU5 := Lib.hid u5
  have HOWN := Lib.hid hown0
  have HN := Lib.hid hN
  have HOO := Lib.hid hO
  have HOO2 := Lib.hid hO2
  have HCL := Lib.hid hcl
  have HSZ := Lib.hid hsz
  clear u1 u2 u3 u4 u5 hown0 hN hO hO2 hcl hsz hi48 hz0 hz1 hz2 c1 f1 l1
  have hnn : (n : Int) < (n : Int) + 1 := by omega
  go_region_law (refine step_append_lies _ rfl (.tmp 41) (.tmp 46) 47 rfl B 65 i48 _ 11 120 Tryz.underlying47 HI.out.1 HI.out.2.1 HI.out.2.2.1 HI.out.2.2.2 hZ.out (by decide) (.slice op n oc) n xs (by simp [Act.eval, Act.put]) HOWN.out ⟨u.heap.size, 0, none⟩ 1 1 [.bool false, .int .i64 0, .int .i64 0, .int .i64 0, .int .i64 0, .int .i64 0, .int .i64 0, .int .i64 0, .int .i64 0, .slice none 0 0, .slice none 0 0] (by simp [Act.eval, Act.put]) rfl HN.out HOO.out (by decide) HCL.out.1 HCL.out.2 HSZ.out _ rfl ?_; intro g cap w3 hown hgrow hat hlt; obtain ⟨⟨cO3, fO3, ngL⟩, q, fq, hA4, hA5⟩ := add_arm (OB := [.bool dk, .int .i64 k, .int .i64 x, .int .i64 y, .int .i64 0, .int .i64 0, .int .i64 0, .int .i64 0, .int .i64 r, .slice lp ln lc, .slice none 0 0]) rfl HU1.out HU2.out HU4.out HU5.out HO.out hown hgrow hat rfl HOO2.out; simp only [World.setCells, Nat.add_assoc, Nat.reduceAdd] at hA4 hA5; have HA4 := Lib.hid hA4; have HA5 := Lib.hid hA5; have q0 := q 0 (by decide); have q1 := q 1 (by decide); have q2 := q 2 (by decide); have q3 := q 3 (by decide); have q4 := q 4 (by decide); have q5 := q 5 (by decide); have q6 := q 6 (by decide); have q7 := q 7 (by decide); have q8 := q 8 (by decide); have q9 := q 9 (by decide); have q10 := q 10 (by decide); simp only [List.getElem?_cons_zero, List.getElem?_cons_succ, Nat.add_zero] at q0 q1 q2 q3 q4 q5 q6 q7 q8 q9 q10; have f0 : w3.frozen? ⟨g, n * 11, none⟩ = false := fq 0; clear q hown hgrow hat hA4 hA5)
  all_goals
    go_wp2_with fail
    go_ret
    refine ⟨g, cap, rfl, ?_⟩
    first | (with_reducible exact HA4.out) | (with_reducible exact HA5.out)
theorem Added.from {P gL off B n : Nat} {pc lcs : Array Value} {ov : Value} {ys : List Value} {g cap : Nat} {w u w' : World} (h : Added P gL off B n pc lcs ov ys g cap u w') (hu : Only [] w u) : Added P gL off B n pc lcs ov ys g cap w w' :=
  ⟨h.1, h.2.1, h.2.2.1, (hu.mono (by simp)).trans h.2.2.2.1, h.2.2.2.2.imp id (fun h => Nat.le_trans hu.size h)⟩
def Adds (P gL off B n : Nat) (pc : Int → Array Value) (lcs : Array Value) (ov : Value) (xs : List Value) (mk : Int) (w : World) (k : Nat) (zs : List Value) (wr : World) : Prop :=
  ∃ ov' lcs', Blk wr P 159 (pc (mk + (k : Int))) ∧ Blk wr gL 162 lcs' ∧ lcs'[off]? = some ov' ∧ (k = 0 ∧ lcs' = lcs ∧ ov' = ov ∨ lcs' = lcs.setIfInBounds off ov' ∧ 0 < k) ∧ wr.ownsRow B 65 11 ov' (n + k) (xs ++ zs) ∧ Only (P :: gL :: ov.ownBlock.toList) w wr ∧
    (ov'.ownBlock = ov.ownBlock ∨ ∃ g, ov'.ownBlock = some g ∧ w.heap.size ≤ g)
section
variable {P gL off B n : Nat} {pc : Int → Array Value} {lcs : Array Value} {ov : Value} {xs : List Value} {mk : Int} {w : World}
theorem Adds.start (hP : Blk w P 159 (pc mk)) (hL : Blk w gL 162 lcs) (ho : lcs[off]? = some ov) (hov : w.ownsRow B 65 11 ov n xs) : Adds P gL off B n pc lcs ov xs mk w 0 [] w :=
  ⟨ov, lcs, by simpa using hP, hL, ho, .inl ⟨rfl, rfl, rfl⟩, by simpa using hov, Only.refl _ _, .inl rfl⟩
theorem Adds.only {wr wr' : World} {k : Nat} {zs : List Value} (h : Adds P gL off B n pc lcs ov xs mk w k zs wr) (hw : Only [] wr wr') : Adds P gL off B n pc lcs ov xs mk w k zs wr' := by
  obtain ⟨ov', lcs', h1, h2, h3, h4, h5, h6, h7⟩ := h
  exact ⟨ov', lcs', hw.blk h1 (by simp), hw.blk h2 (by simp), h3, h4, hw.own h5 (by simp), h6.trans (hw.mono (by simp)), h7⟩
theorem Adds.step {wr w' : World} {k : Nat} {zs ys : List Value} {ov' : Value} {lcs' : Array Value} {g cap : Nat} (hpc : pc (mk + (k : Int) + 1) = pc (mk + ((k + 1 : Nat) : Int))) (h3 : lcs'[off]? = some ov') (h4 : k = 0 ∧ lcs' = lcs ∧ ov' = ov ∨ lcs' = lcs.setIfInBounds off ov' ∧ 0 < k) (h6 : Only (P :: gL :: ov.ownBlock.toList) w wr)
    (h7 : ov'.ownBlock = ov.ownBlock ∨ ∃ g, ov'.ownBlock = some g ∧ w.heap.size ≤ g) (hA : Added P gL off B (n + k) (pc (mk + (k : Int) + 1)) lcs' ov' ((xs ++ zs) ++ ys) g cap wr w') :
    Adds P gL off B n pc lcs ov xs mk w (k + 1) (zs ++ ys) w' := by
  obtain ⟨a1, a2, a3, a4, a5⟩ := hA
  refine ⟨.slice (some ⟨g, 0, none⟩) (n + k + 1) cap, lcs'.setIfInBounds off (.slice (some ⟨g, 0, none⟩) (n + k + 1) cap), by rw [← hpc]; exact a1, a2, ?_, ?_, ?_, ?_, ?_⟩
  · obtain ⟨h, _⟩ := Array.getElem?_eq_some_iff.1 h3
    simp [h]
  · right
    refine ⟨?_, by omega⟩
    rcases h4 with ⟨_, rfl, _⟩ | ⟨h4, _⟩
    · rfl
    · rw [h4]; simp
  · rw [← List.append_assoc, ← Nat.add_assoc]; exact a3
  · refine h6.then_ a4 ?_
    intro b hb
    simp only [List.mem_cons, Option.mem_toList] at hb ⊢
    rcases hb with rfl | rfl | hb
    · simp
    · simp
    · rcases h7 with h7 | ⟨g', h7, h8⟩
      · left; right; right; rw [← h7]; exact hb
      · right; rw [h7] at hb; cases hb; exact h8
  · rcases a5 with a5 | a5
    · rcases h7 with h7 | ⟨g', h7, h8⟩
      · left; rw [← h7, a5]; rfl
      · right; exact ⟨g', by rw [← h7, a5]; rfl, h8⟩
    · right; exact ⟨g, rfl, Nat.le_trans h6.size a5⟩
theorem Adds.from_ {u wr : World} {k : Nat} {zs : List Value} (h : Adds P gL off B n pc lcs ov xs mk u k zs wr) (hu : Only [] w u) : Adds P gL off B n pc lcs ov xs mk w k zs wr := by
  obtain ⟨ov', lcs', h1, h2, h3, h4, h5, h6, h7⟩ := h
  exact ⟨ov', lcs', h1, h2, h3, h4, h5, (hu.mono (by simp)).trans h6, h7.imp id (fun ⟨g, h8, h9⟩ => ⟨g, h8, Nat.le_trans hu.size h9⟩)⟩
theorem Adds.turnP {wr w' : World} {k : Nat} {zs : List Value} {pc' : Int → Array Value} (h : Adds P gL off B n pc lcs ov xs mk w k zs wr) (hP' : Blk w' P 159 (pc' (mk + (k : Int)))) (hw : Only [P] wr w') : Adds P gL off B n pc' lcs ov xs mk w k zs w' := by
  obtain ⟨ov', lcs', h1, h2, h3, h4, h5, h6, h7⟩ := h
  have hne := h1.ne_ h2 (by decide)
  have hno := own_blk_ne h5 h1 (by decide)
  exact ⟨ov', lcs', hP', hw.blk h2 (by simpa using Ne.symm hne), h3, h4, hw.own h5 (fun b hb hm => by simp at hm; subst hm; exact hno hb), h6.trans (hw.mono (by simp)), h7⟩
theorem Adds.one {w' : World} {ys : List Value} {g cap : Nat} (hP : Blk w P 159 (pc mk)) (hL : Blk w gL 162 lcs) (ho : lcs[off]? = some ov) (hov : w.ownsRow B 65 11 ov n xs) (hA : Added P gL off B n (pc (mk + 1)) lcs ov (xs ++ ys) g cap w w') : Adds P gL off B n pc lcs ov xs mk w 1 ys w' := by
  have := Adds.step (k := 0) (zs := []) (pc := pc) (mk := mk) (w := w) (wr := w) (w' := w') (ys := ys) (g := g) (cap := cap) (n := n) (lcs := lcs) (ov := ov) (xs := xs) (lcs' := lcs) (ov' := ov) (by simp) ho (.inl ⟨rfl, rfl, rfl⟩) (Only.refl _ _) (.inl rfl) (by simpa using hA)
  simpa using this
theorem Adds.apart {wr : World} {k : Nat} {zs : List Value} (h : Adds P gL off B n pc lcs ov xs mk w k zs wr) {sv : Value} {ns : Nat} {ys : List Value} (hP : Blk w P 159 (pc mk)) (hL : Blk w gL 162 lcs) (hs : w.ownsRow B 65 11 sv ns ys) (hd : ∀ b, sv.ownBlock = some b → ov.ownBlock ≠ some b) : wr.ownsRow B 65 11 sv ns ys := by
  obtain ⟨ov', lcs', h1, h2, h3, h4, h5, h6, h7⟩ := h
  refine h6.own hs fun b hb hm => ?_
  simp only [List.mem_cons, Option.mem_toList] at hm
  rcases hm with rfl | rfl | hm
  · exact own_blk_ne hs hP (by decide) hb
  · exact own_blk_ne hs hL (by decide) hb
  · exact hd b hb hm
end
def splice (old : Array Value) : Nat → List Value → Array Value
  | _, [] => old
  | o, v :: r => splice (old.setIfInBounds o v) (o + 1) r
theorem blk_setCells {g : Nat} {t : TypeId} : ∀ (vs : List Value) (o : Nat) (w : World) (old : Array Value), Blk w g t old → Blk (w.setCells g o vs) g t (splice old o vs) ∧ w.grownBy (w.setCells g o vs) (some g)
  | [], _, w, _, h => ⟨h, World.grownBy.refl _ _⟩
  | v :: r, o, w, old, h => by
    obtain ⟨h3, h4⟩ := blk_setCells r (o + 1) (w.setCell ⟨g, o, none⟩ v) _ (h.set_ o v rfl)
    have h5 : w.grownBy (w.setCell ⟨g, o, none⟩ v) (some g) := ⟨rfl, rfl, rfl, by simp, fun k _ hk => Below.heap_setCell w ⟨g, o, none⟩ v k (fun e => hk (by simp [e]))⟩
    exact ⟨h3, h5.trans h4⟩
theorem wpList_storeMid {ops : Array Oper} {rest : List Oper} {o : Oper} {a : Act} {w : World} {Q : Exit → Act → World → Prop} (hgd : o.guard = none) (ty : TypeId) (x y : Operand) (ho : o.op = .store ty x y)
    (hd : o.dst = none) (g off : Nat) (cells : Array Value) (hx : a.eval x = .pointer (some ⟨g, off, none⟩)) (hy : a.eval y = .agg cells)
    (t : TypeId) (old new : Array Value) (hg : Blk w g t old) (hnew : splice old off cells.toList = new) (hi : (Tryz.prog.info? ty).map (·.size) = some cells.size)
    (hsz : off + cells.size ≤ old.size) (h1 : cells.all (·.oneCell') = true)
    (h : ∀ w1, Blk w1 g t new → w.grownBy w1 (some g) → wpList Tryz.prog ops Q rest a w1) : wpList Tryz.prog ops Q (o :: rest) a w := by
  refine wpList_store_mid hgd ty x y ho g off cells hx hy (fun j hj => ⟨?_, hg.frozen _⟩) hi h1 ?_
  · rw [hg.cell, Array.getElem?_eq_getElem (by omega)]; rfl
  · rw [hd]
    obtain ⟨h3, h4⟩ := blk_setCells cells.toList off w old hg
    rw [hnew] at h3
    exact h _ h3 h4
theorem Only.cell {S : List Nat} {w w' : World} (h : Only S w w') {p : Addr} (hl : p.block < w.heap.size) (hn : p.block ∉ S) : w'.cell? p = w.cell? p := World.cell?_of_block (w := w) (h.block p.block hl hn)
theorem Only.cell0 {w w' : World} (h : Only [] w w') {p : Addr} (hl : p.block < w.heap.size) {u : Value} (hu : w.cell? p = some u) : w'.cell? p = some u := (h.cell hl (by simp)).trans hu
end Go.Proofs.YtfajckkbinbpiaaGreatDoor
