/- Walks: a reader takes a byte. -/
import Derived.Test.YtfajckkbinbpiaaGreatDoorJ05
namespace Go.Proofs.YtfajckkbinbpiaaGreatDoor
set_option maxRecDepth 100000
set_option maxHeartbeats 32000000
set_option linter.unusedVariables false
set_option linter.unusedSimpArgs false
open Go.RowKit
theorem RdIs.below {w w' : World} {B g : Nat} {r : Rd} (h : RdIs w B g r) (hb : Below w.heap.size w w') : RdIs w' B g r := by
  obtain ⟨wv, tv, hk, hw, ht, hle⟩ := h
  exact ⟨wv, tv, hk.below hb hk.lt, own_below hw hb (Nat.le_refl _), own_below ht hb (Nat.le_refl _), hle⟩
theorem take_nl {r : Rd} {c : UInt8} {i : Nat} (h : c.toNat = 13 ∨ c.toNat = 10) : take r c i = .ok r := by
  unfold take
  rw [if_pos]
  rcases h with h | h
  · left; exact UInt8.toNat_inj.1 h
  · right; exact UInt8.toNat_inj.1 h
theorem not_nl {c : UInt8} (h : ¬ (c.toNat = 13 ∨ c.toNat = 10)) : ¬ (c = 13 ∨ c = 10) := by
  intro h'; apply h; rcases h' with rfl | rfl
  · left; rfl
  · right; rfl
theorem in_range {c : UInt8} (h : ¬ (c.toNat < 32 ∨ 126 < c.toNat)) : ¬ (c < 32 ∨ 126 < c) := by
  intro h'; apply h; rcases h' with h' | h'
  · left; exact UInt8.lt_iff_toNat_lt.1 h'
  · right; exact UInt8.lt_iff_toNat_lt.1 h'
theorem take_bad {r : Rd} {c : UInt8} {i : Nat} (h0 : ¬ (c.toNat = 13 ∨ c.toNat = 10)) (h : c.toNat < 32 ∨ 126 < c.toNat) : take r c i = .error 2 := by
  unfold take
  rw [if_neg (not_nl h0), if_pos]
  rcases h with h | h
  · left; exact UInt8.lt_iff_toNat_lt.2 h
  · right; exact UInt8.lt_iff_toNat_lt.2 h
theorem take_star {r : Rd} {c : UInt8} {i : Nat} (h : c.toNat = 42) : take r c i = if r.text = [] then .error 2 else .ok ⟨r.words ++ [⟨r.at_, r.group, r.inner == 0, r.text⟩], [], r.at_, r.group, if r.group then r.inner + 1 else r.inner⟩ := by
  unfold take
  rw [if_neg (not_nl (by omega)), if_neg (in_range (by omega)), if_pos (UInt8.toNat_inj.1 h)]
theorem take_pct {r : Rd} {c : UInt8} {i : Nat} (h : c.toNat = 37) : take r c i = if r.text ≠ [] ∨ (r.group = true ∧ r.inner = 0) then .error 2 else .ok ⟨r.words, r.text, r.at_, !r.group, 0⟩ := by
  unfold take
  rw [if_neg (not_nl (by omega)), if_neg (in_range (by omega)), if_neg (by rintro rfl; simp at h), if_pos (UInt8.toNat_inj.1 h)]
theorem take_plain {r : Rd} {c : UInt8} {i : Nat} (h0 : ¬ (c.toNat < 32 ∨ 126 < c.toNat)) (h1 : c.toNat ≠ 42) (h2 : c.toNat ≠ 37) : take r c i = if r.text = [] ∧ r.words.length = 20000 then .error 6
  else if r.text.length = 10000 then .error 6
  else .ok ⟨r.words, r.text ++ [c], if r.text = [] then i else r.at_, r.group, r.inner⟩ := by
  unfold take
  rw [if_neg (not_nl (by omega)), if_neg (in_range h0), if_neg (by rintro rfl; exact h1 rfl), if_neg (by rintro rfl; exact h2 rfl)]
theorem end_no (B g : Nat) (r : Rd) (w : World) (h : RdIs w B g r) (hne : r.text = []) :
    Calls Tryz.prog 144 #[.pointer (some ⟨g, 0, none⟩)] w fun e w' => e = .returned (.int .i64 2) ∧ Below w.heap.size w w' := by
  obtain ⟨wv, tv, hk, hw, ht, hle⟩ := h
  rw [hne] at ht
  have c0 := hk.cell
  obtain ⟨A, cap, rfl⟩ : ∃ A cap, tv = .slice A 0 cap := by
    rcases ht.2 with ⟨rfl, _⟩ | ⟨g', cap, cur, rfl, _⟩
    · exact ⟨none, 0, rfl⟩
    · exact ⟨_, cap, rfl⟩
  clear ht hw
  go_enter Tryz.func144, Tryz.ntmps144
  go_wp2_with fail
  go_ret
  exact ⟨rfl, by go_grown⟩
def Took (B g : Nat) (r : Rd) (c : UInt8) (i : Nat) (w : World) (e : Ending) (w' : World) : Prop :=
  ((∃ r', take r c i = .ok r' ∧ e = .returned (.int .i64 0) ∧ RdIs w' B g r') ∨ (∃ x : Nat, take r c i = .error x ∧ e = .returned (.int .i64 (x : Int)))) ∧ Below B w w' ∧ B ≤ w'.heap.size
theorem tk_nl (B g : Nat) (r : Rd) (c : UInt8) (i : Nat) (w : World) (h : RdIs w B g r) (hok : r.Ok) (hB : B ≤ w.heap.size) (hi : i ≤ 1000000) (hc : c.toNat = 13 ∨ c.toNat = 10) :
    Calls Tryz.prog 92 #[.pointer (some ⟨g, 0, none⟩), .int .u8 (c.toNat : Int), .int .i64 (i : Int)] w (Took B g r c i w) := by
  have hT := take_nl (r := r) (i := i) hc
  have fin : ∀ w', Below w.heap.size w w' → Took B g r c i w (.returned (.int .i64 0)) w' := fun w' hb => ⟨.inl ⟨r, hT, rfl, h.below hb⟩, hb.mono hB, Nat.le_trans hB hb.size⟩
  have FIN := Lib.hid fin
  obtain ⟨n, en⟩ : ∃ n, c.toNat = n := ⟨_, rfl⟩
  rw [en] at hc ⊢
  clear fin hT h hok
  rcases hc with rfl | rfl
  · go_enter Tryz.func92, Tryz.ntmps92
    go_wp2_with fail
    go_ret
    exact FIN.out _ (by go_grown)
  · go_enter Tryz.func92, Tryz.ntmps92
    go_wp2_with fail
    go_ret
    exact FIN.out _ (by go_grown)
theorem tk_bad (B g : Nat) (r : Rd) (c : UInt8) (i : Nat) (w : World) (h : RdIs w B g r) (hok : r.Ok) (hB : B ≤ w.heap.size) (hi : i ≤ 1000000) (h0 : ¬ (c.toNat = 13 ∨ c.toNat = 10)) (hc : c.toNat < 32 ∨ 126 < c.toNat) :
    Calls Tryz.prog 92 #[.pointer (some ⟨g, 0, none⟩), .int .u8 (c.toNat : Int), .int .i64 (i : Int)] w (Took B g r c i w) := by
  have hT := take_bad (r := r) (i := i) h0 hc
  have fin : ∀ w', Below w.heap.size w w' → Took B g r c i w (.returned (.int .i64 2)) w' := fun w' hb => ⟨.inr ⟨2, hT, rfl⟩, hb.mono hB, Nat.le_trans hB hb.size⟩
  have FIN := Lib.hid fin
  obtain ⟨n, en⟩ : ∃ n, c.toNat = n := ⟨_, rfl⟩
  rw [en] at hc h0 ⊢
  clear fin hT h hok
  have d1 : ((n : Int) == 13) = false := by simp; omega
  have d2 : ((n : Int) == 10) = false := by simp; omega
  rcases hc with hc | hc
  · have d3 : decide ((n : Int) < 32) = true := by simp; omega
    go_enter Tryz.func92, Tryz.ntmps92
    go_wp2_with fail
    go_ret
    exact FIN.out _ (by go_grown)
  · have d3 : decide ((n : Int) < 32) = false := by simp; omega
    have d4 : decide (126 < (n : Int)) = true := by simp; omega
    go_enter Tryz.func92, Tryz.ntmps92
    go_wp2_with fail
    go_ret
    exact FIN.out _ (by go_grown)
theorem tk_star (B g : Nat) (r : Rd) (c : UInt8) (i : Nat) (w : World) (h : RdIs w B g r) (hok : r.Ok) (hB : B ≤ w.heap.size) (hi : i ≤ 1000000) (hc : c.toNat = 42) :
    Calls Tryz.prog 92 #[.pointer (some ⟨g, 0, none⟩), .int .u8 (c.toNat : Int), .int .i64 (i : Int)] w (Took B g r c i w) := by
  have hT := take_star (r := r) (i := i) hc
  rw [hc]
  by_cases hne : r.text = []
  · rw [if_pos hne] at hT
    have fin : ∀ w', Below w.heap.size w w' → Took B g r c i w (.returned (.int .i64 2)) w' := fun w' hb => ⟨.inr ⟨2, hT, rfl⟩, hb.mono hB, Nat.le_trans hB hb.size⟩
    have FIN := Lib.hid fin
    have hE := end_no B g r w h hne
    have HE := Lib.hid hE
    clear fin hT h hE hok hne
    go_enter Tryz.func92, Tryz.ntmps92
    go_wp2_with fail
    refine HE.out.mono ?_
    rintro e w1 ⟨rfl, hb⟩
    go_wp2_with fail
    go_ret
    exact FIN.out _ hb
  · rw [if_neg hne] at hT
    have fin : ∀ w', Below B w w' → RdIs w' B g ⟨r.words ++ [⟨r.at_, r.group, r.inner == 0, r.text⟩], [], r.at_, r.group, if r.group then r.inner + 1 else r.inner⟩ → Took B g r c i w (.returned (.int .i64 0)) w' := fun w' hb hr => ⟨.inl ⟨_, hT, rfl, hr⟩, hb, Nat.le_trans hB hb.size⟩
    have FIN := Lib.hid fin
    obtain ⟨wv, tv, ha⟩ := h
    have hE := end_yes B g r wv tv w ha hne hok hB
    have HE := Lib.hid hE
    clear fin hT ha hE hok hne
    go_enter Tryz.func92, Tryz.ntmps92
    go_wp2_with fail
    refine HE.out.mono ?_
    rintro e w1 ⟨rfl, hb, hr⟩
    have HR := Lib.hid hr
    clear hr
    go_wp2_with fail
    go_ret
    exact FIN.out _ hb HR.out
theorem tk_pct (B g : Nat) (r : Rd) (c : UInt8) (i : Nat) (w : World) (h : RdIs w B g r) (hok : r.Ok) (hB : B ≤ w.heap.size) (hi : i ≤ 1000000) (hc : c.toNat = 37) :
    Calls Tryz.prog 92 #[.pointer (some ⟨g, 0, none⟩), .int .u8 (c.toNat : Int), .int .i64 (i : Int)] w (Took B g r c i w) := by
  have hT := take_pct (r := r) (i := i) hc
  rw [hc]
  obtain ⟨wv, tv, hk, hws, hts, hle⟩ := h
  obtain ⟨wds, txt, at_, grp, inn⟩ := r
  obtain ⟨b1, b2, b3, b4, b5, b6⟩ := hok
  simp only at hk hws hts b1 b2 b3 b4 b5 b6 hT ⊢
  have c0 := hk.cell
  have f0 := hk.frozen
  have l0 := hk.lt
  obtain ⟨A, cap, rfl⟩ : ∃ A cap, tv = .slice A txt.length cap := by
    rcases hts.2 with ⟨rfl, h0⟩ | ⟨g', cap, cur, rfl, _⟩
    · exact ⟨none, 0, by rw [h0]⟩
    · exact ⟨_, cap, rfl⟩
  by_cases h1 : txt = []
  · have e1 : txt.length = 0 := by rw [h1]; rfl
    rw [e1] at c0 hk hts
    by_cases h2 : grp = true ∧ inn = 0
    · rw [if_pos (.inr h2)] at hT
      have fin : ∀ w', Below w.heap.size w w' → Took B g ⟨wds, txt, at_, grp, inn⟩ c i w (.returned (.int .i64 2)) w' := fun w' hb => ⟨.inr ⟨2, hT, rfl⟩, hb.mono hB, Nat.le_trans hB hb.size⟩
      have FIN := Lib.hid fin
      obtain ⟨rfl, rfl⟩ := h2
      clear fin hT hk hws hts h1 e1 b2 b6
      go_enter Tryz.func92, Tryz.ntmps92
      go_wp2_with fail
      go_ret
      exact FIN.out _ (by go_grown)
    · rw [if_neg (by rintro (h3 | h3); exact h3 h1; exact h2 h3)] at hT
      have fin : Took B g ⟨wds, txt, at_, grp, inn⟩ c i w (.returned (.int .i64 0)) ((w.setCell ⟨g, 3, none⟩ (.bool (!grp))).setCell ⟨g, 4, none⟩ (.int .i64 0)) := by
        refine ⟨.inl ⟨_, hT, rfl, wv, .slice A 0 cap, ?_, ?_, ?_, hle⟩, ?_, ?_⟩
        · exact (hk.set_ 3 _ rfl).set_ 4 _ rfl
        · exact own_far (own_far hws (own_blk_ne hws hk (by decide)) _) (own_blk_ne hws hk (by decide)) _
        · rw [e1]; exact own_far (own_far hts (own_blk_ne hts hk (by decide)) _) (own_blk_ne hts hk (by decide)) _
        · exact Below.setCell (Below.setCell (Below.refl _ _) hle _) hle _
        · simpa using hB
      have FIN := Lib.hid fin
      clear fin hT hk hws hts h1 e1 b2
      rcases grp with _ | _
      · clear b6 h2
        go_enter Tryz.func92, Tryz.ntmps92
        go_wp2_with fail
        go_ret
        exact FIN.out
      · have h3 : ((inn : Int) == 0) = false := by simp; intro h4; exact h2 ⟨rfl, h4⟩
        clear h2 b6
        go_enter Tryz.func92, Tryz.ntmps92
        go_wp2_with fail
        go_ret
        exact FIN.out
  · rw [if_pos (.inl h1)] at hT
    have fin : ∀ w', Below w.heap.size w w' → Took B g ⟨wds, txt, at_, grp, inn⟩ c i w (.returned (.int .i64 2)) w' := fun w' hb => ⟨.inr ⟨2, hT, rfl⟩, hb.mono hB, Nat.le_trans hB hb.size⟩
    have FIN := Lib.hid fin
    have e1 : decide (0 < (txt.length : Int)) = true := by have := List.length_pos_iff.2 h1; simp; omega
    have e2 : 0 < txt.length := List.length_pos_iff.2 h1
    clear fin hT hk hws hts h1 b2 b6
    go_enter Tryz.func92, Tryz.ntmps92
    go_wp2_with fail
    go_ret
    exact FIN.out _ (by go_grown)
theorem take_post {B g n m i inn a a' : Nat} {grp : Bool} {wds : List Wd} {txt : List UInt8} {c : UInt8} {A : Option Addr} {cap g2 cap2 : Nat} {wv : Value} {w W w1 : World} (en : c.toNat = n) (em : txt.length = m)
    (hT : take ⟨wds, txt, a, grp, inn⟩ c i = .ok ⟨wds, txt ++ [c], a', grp, inn⟩) (hk : Blk W g 203 #[wv, .slice A m cap, .int .i64 (a' : Int), .bool grp, .int .i64 (inn : Int)])
    (hws : W.ownsRow B 146 4 wv wds.length (wcells wds)) (hts : W.ownsRow B 5 1 (.slice A m cap) m (tcells txt)) (hb : Below B w W) (hB : B ≤ W.heap.size) (hle : B ≤ g)
    (hown : w1.ownsRow B 5 1 (.slice (some ⟨g2, 0, none⟩) (m + 1) cap2) (m + 1) (tcells txt ++ [.int .u8 (n : Int)])) (hgrow : (W.alloc (.cells #[.int .u8 (n : Int)] 5)).grownBy w1 (Value.slice A m cap).ownBlock) :
    Took B g ⟨wds, txt, a, grp, inn⟩ c i w (.returned (.int .i64 0)) (w1.setCell ⟨g, 1, none⟩ (.slice (some ⟨g2, 0, none⟩) (m + 1) cap2)) := by
  have hne : (Value.slice A m cap).ownBlock ≠ some g := own_blk_ne hts hk (by decide)
  have hk1 : Blk w1 g 203 _ := (hk.alloc (.cells #[.int .u8 (n : Int)] 5)).grown hgrow (fun e => hne e.symm)
  have hws1 := (hws.alloc (.cells #[.int .u8 (n : Int)] 5)).kept hgrow (own_own_ne hws hts (by decide))
  have hb1 : Below B w w1 := Below.grown (Below.alloc hb hB _) hgrow (Nat.le_trans hB (by simp)) (fun k hk => (hts.lt k hk).1)
  have hs1 : B ≤ w1.heap.size := Nat.le_trans (Nat.le_trans hB (by simp)) hgrow.size
  refine ⟨.inl ⟨_, hT, rfl, wv, .slice (some ⟨g2, 0, none⟩) (m + 1) cap2, ?_, ?_, ?_, hle⟩, Below.setCell hb1 hle _, by simpa using hs1⟩
  · exact hk1.set_ 1 _ rfl
  · exact own_far hws1 (own_blk_ne hws1 hk1 (by decide)) _
  · have h2 := own_far hown (p := ⟨g, 1, none⟩) (own_blk_ne hown hk1 (by decide)) (.slice (some ⟨g2, 0, none⟩) (m + 1) cap2)
    have e1 : (txt ++ [c]).length = m + 1 := by simp [em]
    have e2 : tcells (txt ++ [c]) = tcells txt ++ [.int .u8 (n : Int)] := by rw [tcells_append]; simp [tcells, en]
    show World.ownsRow _ B 5 1 _ (txt ++ [c]).length (tcells (txt ++ [c]))
    rw [e1, e2]
    exact h2
theorem tk_lim1 (B g : Nat) (r : Rd) (c : UInt8) (i : Nat) (w : World) (h : RdIs w B g r) (hok : r.Ok) (hB : B ≤ w.heap.size) (hi : i ≤ 1000000) (h0 : ¬ (c.toNat < 32 ∨ 126 < c.toNat)) (h1 : c.toNat ≠ 42) (h2 : c.toNat ≠ 37) (hte : r.text = []) (hwe : r.words.length = 20000) :
    Calls Tryz.prog 92 #[.pointer (some ⟨g, 0, none⟩), .int .u8 (c.toNat : Int), .int .i64 (i : Int)] w (Took B g r c i w) := by
  have hT := take_plain (r := r) (i := i) h0 h1 h2
  rw [if_pos ⟨hte, hwe⟩] at hT
  obtain ⟨m, hm⟩ : ∃ m, r.text.length = m := ⟨_, rfl⟩
  have em : 0 = m := by rw [← hm, hte]; rfl
  obtain ⟨n, en⟩ : ∃ n, c.toNat = n := ⟨_, rfl⟩
  rw [en] at h0 h1 h2 ⊢
  have d1 : ((n : Int) == 13) = false := by simp; omega
  have d2 : ((n : Int) == 10) = false := by simp; omega
  have d3 : decide ((n : Int) < 32) = false := by simp; omega
  have d4 : decide (126 < (n : Int)) = false := by simp; omega
  have d5 : ((n : Int) == 42) = false := by simp; omega
  have d6 : ((n : Int) == 37) = false := by simp; omega
  clear h0 h1 h2
  obtain ⟨wv, tv, hk, hws, hts, hle⟩ := h
  obtain ⟨wds, txt, at_, grp, inn⟩ := r
  obtain ⟨b1, b2, b3, b4, b5, b6⟩ := hok
  simp only at hk hws hts b1 b2 b3 b4 b5 b6 hT hm ⊢
  obtain ⟨A, cap, rfl⟩ : ∃ A cap, tv = .slice A m cap := by
    rcases hts.2 with ⟨rfl, h0⟩ | ⟨g', cap, cur, rfl, _⟩
    · exact ⟨none, 0, by rw [← h0, hm]⟩
    · exact ⟨_, cap, by rw [hm]⟩
  obtain ⟨l, el⟩ : ∃ l, wds.length = l := ⟨_, rfl⟩
  obtain ⟨wA, wcap, rfl⟩ : ∃ A cap, wv = .slice A l cap := by
    rcases hws.2 with ⟨rfl, h0⟩ | ⟨g', cap, cur, rfl, _⟩
    · exact ⟨none, 0, by rw [← h0, el]⟩
    · exact ⟨_, cap, by rw [el]⟩
  rw [hm] at hts
  clear b6
  have ew : 20000 = l := by rw [← el]; exact hwe.symm
  clear hte hwe
  subst em ew
  have fin : ∀ w', Below w.heap.size w w' → Took B g ⟨wds, txt, at_, grp, inn⟩ c i w (.returned (.int .i64 6)) w' := fun w' hb => ⟨.inr ⟨6, hT, rfl⟩, hb.mono hB, Nat.le_trans hB hb.size⟩
  have FIN := Lib.hid fin
  have c0 := hk.cell
  clear fin hT hk hws hts b2
  go_enter Tryz.func92, Tryz.ntmps92
  go_wp2_with fail
  go_ret
  exact FIN.out _ (by go_grown)
theorem tk_lim2 (B g : Nat) (r : Rd) (c : UInt8) (i : Nat) (w : World) (h : RdIs w B g r) (hok : r.Ok) (hB : B ≤ w.heap.size) (hi : i ≤ 1000000) (h0 : ¬ (c.toNat < 32 ∨ 126 < c.toNat)) (h1 : c.toNat ≠ 42) (h2 : c.toNat ≠ 37) (hle1 : r.text.length = 10000) :
    Calls Tryz.prog 92 #[.pointer (some ⟨g, 0, none⟩), .int .u8 (c.toNat : Int), .int .i64 (i : Int)] w (Took B g r c i w) := by
  have hT := take_plain (r := r) (i := i) h0 h1 h2
  rw [if_neg (fun h => by have := h.1; rw [this] at hle1; simp at hle1), if_pos hle1] at hT
  obtain ⟨m, hm⟩ : ∃ m, r.text.length = m := ⟨_, rfl⟩
  have em : 10000 = m := by rw [← hm, hle1]
  obtain ⟨n, en⟩ : ∃ n, c.toNat = n := ⟨_, rfl⟩
  rw [en] at h0 h1 h2 ⊢
  have d1 : ((n : Int) == 13) = false := by simp; omega
  have d2 : ((n : Int) == 10) = false := by simp; omega
  have d3 : decide ((n : Int) < 32) = false := by simp; omega
  have d4 : decide (126 < (n : Int)) = false := by simp; omega
  have d5 : ((n : Int) == 42) = false := by simp; omega
  have d6 : ((n : Int) == 37) = false := by simp; omega
  clear h0 h1 h2
  obtain ⟨wv, tv, hk, hws, hts, hle⟩ := h
  obtain ⟨wds, txt, at_, grp, inn⟩ := r
  obtain ⟨b1, b2, b3, b4, b5, b6⟩ := hok
  simp only at hk hws hts b1 b2 b3 b4 b5 b6 hT hm ⊢
  obtain ⟨A, cap, rfl⟩ : ∃ A cap, tv = .slice A m cap := by
    rcases hts.2 with ⟨rfl, h0⟩ | ⟨g', cap, cur, rfl, _⟩
    · exact ⟨none, 0, by rw [← h0, hm]⟩
    · exact ⟨_, cap, by rw [hm]⟩
  obtain ⟨l, el⟩ : ∃ l, wds.length = l := ⟨_, rfl⟩
  obtain ⟨wA, wcap, rfl⟩ : ∃ A cap, wv = .slice A l cap := by
    rcases hws.2 with ⟨rfl, h0⟩ | ⟨g', cap, cur, rfl, _⟩
    · exact ⟨none, 0, by rw [← h0, el]⟩
    · exact ⟨_, cap, by rw [el]⟩
  rw [hm] at hts
  clear b6
  clear hle1
  subst em
  have fin : ∀ w', Below w.heap.size w w' → Took B g ⟨wds, txt, at_, grp, inn⟩ c i w (.returned (.int .i64 6)) w' := fun w' hb => ⟨.inr ⟨6, hT, rfl⟩, hb.mono hB, Nat.le_trans hB hb.size⟩
  have FIN := Lib.hid fin
  have c0 := hk.cell
  clear fin hT hk hws hts b2
  go_enter Tryz.func92, Tryz.ntmps92
  go_wp2_with fail
  go_ret
  exact FIN.out _ (by go_grown)
theorem tk_first (B g : Nat) (r : Rd) (c : UInt8) (i : Nat) (w : World) (h : RdIs w B g r) (hok : r.Ok) (hB : B ≤ w.heap.size) (hi : i ≤ 1000000) (h0 : ¬ (c.toNat < 32 ∨ 126 < c.toNat)) (h1 : c.toNat ≠ 42) (h2 : c.toNat ≠ 37) (hte : r.text = []) (hwe : r.words.length ≠ 20000) :
    Calls Tryz.prog 92 #[.pointer (some ⟨g, 0, none⟩), .int .u8 (c.toNat : Int), .int .i64 (i : Int)] w (Took B g r c i w) := by
  have hT := take_plain (r := r) (i := i) h0 h1 h2
  rw [if_neg (fun h => hwe h.2), if_neg (by rw [hte]; simp), if_pos hte] at hT
  obtain ⟨m, hm⟩ : ∃ m, r.text.length = m := ⟨_, rfl⟩
  have em : 0 = m := by rw [← hm, hte]; rfl
  obtain ⟨n, en⟩ : ∃ n, c.toNat = n := ⟨_, rfl⟩
  rw [en] at h0 h1 h2 ⊢
  have d1 : ((n : Int) == 13) = false := by simp; omega
  have d2 : ((n : Int) == 10) = false := by simp; omega
  have d3 : decide ((n : Int) < 32) = false := by simp; omega
  have d4 : decide (126 < (n : Int)) = false := by simp; omega
  have d5 : ((n : Int) == 42) = false := by simp; omega
  have d6 : ((n : Int) == 37) = false := by simp; omega
  clear h0 h1 h2
  obtain ⟨wv, tv, hk, hws, hts, hle⟩ := h
  obtain ⟨wds, txt, at_, grp, inn⟩ := r
  obtain ⟨b1, b2, b3, b4, b5, b6⟩ := hok
  simp only at hk hws hts b1 b2 b3 b4 b5 b6 hT hm ⊢
  obtain ⟨A, cap, rfl⟩ : ∃ A cap, tv = .slice A m cap := by
    rcases hts.2 with ⟨rfl, h0⟩ | ⟨g', cap, cur, rfl, _⟩
    · exact ⟨none, 0, by rw [← h0, hm]⟩
    · exact ⟨_, cap, by rw [hm]⟩
  obtain ⟨l, el⟩ : ∃ l, wds.length = l := ⟨_, rfl⟩
  obtain ⟨wA, wcap, rfl⟩ : ∃ A cap, wv = .slice A l cap := by
    rcases hws.2 with ⟨rfl, h0⟩ | ⟨g', cap, cur, rfl, _⟩
    · exact ⟨none, 0, by rw [← h0, el]⟩
    · exact ⟨_, cap, by rw [el]⟩
  rw [hm] at hts
  clear b6
  have el' : l ≠ 20000 := by rw [← el]; exact hwe
  have e3 : ((l : Int) == 20000) = false := by simp; omega
  have hkW := hk.set_ 2 (.int .i64 (i : Int)) rfl
  have hwsW := own_far hws (p := ⟨g, 2, none⟩) (own_blk_ne hws hk (by decide)) (.int .i64 (i : Int))
  have htsW := own_far hts (p := ⟨g, 2, none⟩) (own_blk_ne hts hk (by decide)) (.int .i64 (i : Int))
  have hbW : Below B w (w.setCell ⟨g, 2, none⟩ (.int .i64 (i : Int))) := Below.setCell (Below.refl _ _) hle _
  have hBW : B ≤ (w.setCell ⟨g, 2, none⟩ (.int .i64 (i : Int))).heap.size := by simpa using hB
  clear hte hwe
  subst em
  obtain ⟨i5, hi5, hz0, hz1, hz2⟩ := info_parts info5
  have HI := Lib.hid (And.intro hi5 (And.intro hz0 (And.intro hz1 hz2)))
  clear hi5 hz0 hz1 hz2
  have b8 : 0 + 1 ≤ maxLen := by unfold maxLen; omega
  have b9 : (0 + 1) * 1 ≤ 140737488355328 := by omega
  have fin := fun g2 cap2 w1 => take_post (w1 := w1) (g2 := g2) (cap2 := cap2) en hm hT hkW hwsW htsW hbW hBW hle
  have hNE := Lib.hid (own_blk_ne htsW hkW (by decide))
  have ha : ∀ o, ((w.setCell ⟨g, 2, none⟩ (.int .i64 (i : Int))).alloc o).ownsRow B 5 1 (.slice A 0 cap) 0 (tcells txt) := fun o => htsW.alloc o
  have hka : ∀ o, Blk ((w.setCell ⟨g, 2, none⟩ (.int .i64 (i : Int))).alloc o) g 203 _ := fun o => hkW.alloc o
  have hs : ∀ o, B ≤ ((w.setCell ⟨g, 2, none⟩ (.int .i64 (i : Int))).alloc o).heap.size := fun o => Nat.le_trans hBW (by simp)
  have hN : ∀ j u, [.int .u8 (n : Int)][j]? = some u → ((w.setCell ⟨g, 2, none⟩ (.int .i64 (i : Int))).alloc (.cells #[.int .u8 (n : Int)] 5)).cell? ((⟨(w.setCell ⟨g, 2, none⟩ (.int .i64 (i : Int))).heap.size, 0, none⟩ : Addr).add j) = some u :=
    World.news_of_block (cs := #[.int .u8 (n : Int)]) (Blk.newAt (w := (w.setCell ⟨g, 2, none⟩ (.int .i64 (i : Int)))) (by first | rfl | simp))
  have hO : ∀ u ∈ ([.int .u8 (n : Int)] : List Value), u.oneCell' = true := by
    intro u hu
    simp only [List.mem_cons, List.not_mem_nil, or_false] at hu
    subst hu; rfl
  have FIN := Lib.hid fin
  have HA := Lib.hid ha
  have HK := Lib.hid hka
  have HS := Lib.hid hs
  have HN := Lib.hid hN
  have HO := Lib.hid hO
  have c0 := hk.cell
  have f0 := hk.frozen
  have l0 := hk.lt
  clear fin ha hka hs hN hO hkW hwsW htsW hbW hBW hk hws hts hT b2
  go_enter Tryz.func92, Tryz.ntmps92
  go_wp2_with (at_builtin; refine wpList_append_lies _ rfl (.tmp 85) (.tmp 87) 35 rfl B 5 i5 _ 1 1 Tryz.underlying35 HI.out.1 HI.out.2.1 HI.out.2.2.1 HI.out.2.2.2 rfl (by decide) (.slice A 0 cap) 0 (tcells txt) (by simp [Act.eval]) (HA.out _) ⟨(w.setCell ⟨g, 2, none⟩ (.int .i64 (i : Int))).heap.size, 0, none⟩ 1 1 [.int .u8 (n : Int)] (by simp [Act.eval]) rfl HN.out HO.out (by decide) b8 b9 (HS.out _) _ rfl ?_)
  intro g2 cap2 w1 hown hgrow hat hlt
  have hk1 := (HK.out _).grown hgrow (fun e => hNE.out e.symm)
  have c1 := hk1.cell
  have f1 := hk1.frozen
  have l1 := hk1.lt
  have hP := FIN.out g2 cap2 w1 hown hgrow
  clear hown hgrow hat
  go_wp2_with fail
  go_ret
  exact hP
theorem tk_more (B g : Nat) (r : Rd) (c : UInt8) (i : Nat) (w : World) (h : RdIs w B g r) (hok : r.Ok) (hB : B ≤ w.heap.size) (hi : i ≤ 1000000) (h0 : ¬ (c.toNat < 32 ∨ 126 < c.toNat)) (h1 : c.toNat ≠ 42) (h2 : c.toNat ≠ 37) (hte : r.text ≠ []) (hle1 : r.text.length ≠ 10000) :
    Calls Tryz.prog 92 #[.pointer (some ⟨g, 0, none⟩), .int .u8 (c.toNat : Int), .int .i64 (i : Int)] w (Took B g r c i w) := by
  have hT := take_plain (r := r) (i := i) h0 h1 h2
  rw [if_neg (fun h => hte h.1), if_neg hle1, if_neg hte] at hT
  obtain ⟨m, hm⟩ : ∃ m, r.text.length = m := ⟨_, rfl⟩
  have em : 0 < m := by rw [← hm]; exact List.length_pos_iff.2 hte
  rw [hm] at hle1
  obtain ⟨n, en⟩ : ∃ n, c.toNat = n := ⟨_, rfl⟩
  rw [en] at h0 h1 h2 ⊢
  have d1 : ((n : Int) == 13) = false := by simp; omega
  have d2 : ((n : Int) == 10) = false := by simp; omega
  have d3 : decide ((n : Int) < 32) = false := by simp; omega
  have d4 : decide (126 < (n : Int)) = false := by simp; omega
  have d5 : ((n : Int) == 42) = false := by simp; omega
  have d6 : ((n : Int) == 37) = false := by simp; omega
  clear h0 h1 h2
  obtain ⟨wv, tv, hk, hws, hts, hle⟩ := h
  obtain ⟨wds, txt, at_, grp, inn⟩ := r
  obtain ⟨b1, b2, b3, b4, b5, b6⟩ := hok
  simp only at hk hws hts b1 b2 b3 b4 b5 b6 hT hm ⊢
  obtain ⟨A, cap, rfl⟩ : ∃ A cap, tv = .slice A m cap := by
    rcases hts.2 with ⟨rfl, h0⟩ | ⟨g', cap, cur, rfl, _⟩
    · exact ⟨none, 0, by rw [← h0, hm]⟩
    · exact ⟨_, cap, by rw [hm]⟩
  obtain ⟨l, el⟩ : ∃ l, wds.length = l := ⟨_, rfl⟩
  obtain ⟨wA, wcap, rfl⟩ : ∃ A cap, wv = .slice A l cap := by
    rcases hws.2 with ⟨rfl, h0⟩ | ⟨g', cap, cur, rfl, _⟩
    · exact ⟨none, 0, by rw [← h0, el]⟩
    · exact ⟨_, cap, by rw [el]⟩
  rw [hm] at hts
  clear b6
  have e3 : ((m : Int) == 0) = false := by simp; omega
  have e4 : ((m : Int) == 10000) = false := by simp; omega
  have hkW := hk
  have hwsW := hws
  have htsW := hts
  have hbW : Below B w w := Below.refl _ _
  have hBW := hB
  clear hte hle1
  obtain ⟨i5, hi5, hz0, hz1, hz2⟩ := info_parts info5
  have HI := Lib.hid (And.intro hi5 (And.intro hz0 (And.intro hz1 hz2)))
  clear hi5 hz0 hz1 hz2
  have b8 : m + 1 ≤ maxLen := by unfold maxLen; omega
  have b9 : (m + 1) * 1 ≤ 140737488355328 := by omega
  have fin := fun g2 cap2 w1 => take_post (w1 := w1) (g2 := g2) (cap2 := cap2) en hm hT hkW hwsW htsW hbW hBW hle
  have hNE := Lib.hid (own_blk_ne htsW hkW (by decide))
  have ha : ∀ o, (w.alloc o).ownsRow B 5 1 (.slice A m cap) m (tcells txt) := fun o => htsW.alloc o
  have hka : ∀ o, Blk (w.alloc o) g 203 _ := fun o => hkW.alloc o
  have hs : ∀ o, B ≤ (w.alloc o).heap.size := fun o => Nat.le_trans hBW (by simp)
  have hN : ∀ j u, [.int .u8 (n : Int)][j]? = some u → (w.alloc (.cells #[.int .u8 (n : Int)] 5)).cell? ((⟨w.heap.size, 0, none⟩ : Addr).add j) = some u :=
    World.news_of_block (cs := #[.int .u8 (n : Int)]) (Blk.newAt (w := w) (by first | rfl | simp))
  have hO : ∀ u ∈ ([.int .u8 (n : Int)] : List Value), u.oneCell' = true := by
    intro u hu
    simp only [List.mem_cons, List.not_mem_nil, or_false] at hu
    subst hu; rfl
  have FIN := Lib.hid fin
  have HA := Lib.hid ha
  have HK := Lib.hid hka
  have HS := Lib.hid hs
  have HN := Lib.hid hN
  have HO := Lib.hid hO
  have c0 := hk.cell
  have f0 := hk.frozen
  have l0 := hk.lt
  clear fin ha hka hs hN hO hkW hwsW htsW hbW hBW hk hws hts hT b2 em
  go_enter Tryz.func92, Tryz.ntmps92
  go_wp2_with (at_builtin; refine wpList_append_lies _ rfl (.tmp 85) (.tmp 87) 35 rfl B 5 i5 _ 1 1 Tryz.underlying35 HI.out.1 HI.out.2.1 HI.out.2.2.1 HI.out.2.2.2 rfl (by decide) (.slice A m cap) m (tcells txt) (by simp [Act.eval]) (HA.out _) ⟨w.heap.size, 0, none⟩ 1 1 [.int .u8 (n : Int)] (by simp [Act.eval]) rfl HN.out HO.out (by decide) b8 b9 (HS.out _) _ rfl ?_)
  intro g2 cap2 w1 hown hgrow hat hlt
  have hk1 := (HK.out _).grown hgrow (fun e => hNE.out e.symm)
  have c1 := hk1.cell
  have f1 := hk1.frozen
  have l1 := hk1.lt
  have hP := FIN.out g2 cap2 w1 hown hgrow
  clear hown hgrow hat
  go_wp2_with fail
  go_ret
  exact hP
theorem take_c (B g : Nat) (r : Rd) (c : UInt8) (i : Nat) (w : World) (h : RdIs w B g r) (hok : r.Ok) (hB : B ≤ w.heap.size) (hi : i ≤ 1000000) :
    Calls Tryz.prog 92 #[.pointer (some ⟨g, 0, none⟩), .int .u8 (c.toNat : Int), .int .i64 (i : Int)] w (Took B g r c i w) := by
  by_cases hn : c.toNat = 13 ∨ c.toNat = 10
  · exact tk_nl B g r c i w h hok hB hi hn
  by_cases hb : c.toNat < 32 ∨ 126 < c.toNat
  · exact tk_bad B g r c i w h hok hB hi hn hb
  by_cases h1 : c.toNat = 42
  · exact tk_star B g r c i w h hok hB hi h1
  by_cases h2 : c.toNat = 37
  · exact tk_pct B g r c i w h hok hB hi h2
  by_cases hte : r.text = []
  · by_cases hwe : r.words.length = 20000
    · exact tk_lim1 B g r c i w h hok hB hi hb h1 h2 hte hwe
    · exact tk_first B g r c i w h hok hB hi hb h1 h2 hte hwe
  · by_cases hl : r.text.length = 10000
    · exact tk_lim2 B g r c i w h hok hB hi hb h1 h2 hl
    · exact tk_more B g r c i w h hok hB hi hb h1 h2 hte hl
end Go.Proofs.YtfajckkbinbpiaaGreatDoor
