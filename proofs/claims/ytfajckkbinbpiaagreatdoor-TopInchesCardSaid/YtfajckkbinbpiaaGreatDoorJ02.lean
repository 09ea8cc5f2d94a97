/- Walks: digits, counts, codes and decimal numbers. Walks: discs that may be, and turns that move. -/
import Derived.Laws.ResultCell
import Derived.Outline
import Derived.Test.YtfajckkbinbpiaaGreatDoorJ01
namespace Go.Proofs.YtfajckkbinbpiaaGreatDoor
set_option maxRecDepth 100000
set_option maxHeartbeats 32000000
set_option linter.unusedVariables false
set_option linter.unusedSimpArgs false
open Go.RowKit
def NoDigit (r : List UInt8) : Prop := ∀ c, r.head? = some c → c.toNat < 48 ∨ 57 < c.toNat
theorem at_front (d r : List UInt8) (k : Nat) (h : k < d.length) : (d ++ r)[k]? = some d[k] := by rw [List.getElem?_append_left h, List.getElem?_eq_getElem h]
theorem at_behind (d r : List UInt8) : (d ++ r)[d.length]? = r.head? := by rw [List.getElem?_append_right (Nat.le_refl _), Nat.sub_self, List.head?_eq_getElem?]
theorem digits_c (d r : List UInt8) (w : World) (hl : (d ++ r).length ≤ 1000000) (hd : Digits d) (hr : NoDigit r) :
    Calls Tryz.prog 195 #[.string (bs (d ++ r))] w fun e w' => e = .returned (.int .i64 (d.length : Int)) ∧ w = w' := by
  obtain ⟨N, eN⟩ : ∃ N, (d ++ r).length = N := ⟨_, rfl⟩
  have hsz : (bs (d ++ r)).size = N := by rw [bs_size, eN]
  obtain ⟨M, eM⟩ : ∃ M, d.length = M := ⟨_, rfl⟩
  have hMN : M ≤ N := by rw [← eN, ← eM, List.length_append]; omega
  have hAt := fun k c h w => bs_at (d ++ r) k c h w
  have HAt := Lib.hid hAt
  have HD := Lib.hid hd
  have HR := Lib.hid hr
  have HM := Lib.hid eM
  have HN := Lib.hid eN
  obtain ⟨S, eS⟩ : ∃ x, bs (d ++ r) = x := ⟨_, rfl⟩
  rw [eS] at hsz HAt ⊢
  rw [eN] at hl
  rw [eM]
  clear hAt hd hr eM eN eS
  go_enter Tryz.func195, Tryz.ntmps195
  go_wp2
  go_loop [3] (fun i => ∃ k : Nat, k ≤ M ∧ i = .int .i64 (k : Int)) (fun i => N - (intOf i).toNat)
  case atStart => exact ⟨0, by omega, rfl⟩
  case round =>
  obtain ⟨k, hk, rfl⟩ := hrel
  by_cases hkM : k < M
  · have hkd : k < d.length := by have := HM.out; omega
    have hx := HAt.out k d[k] (at_front d r k hkd)
    have hdg := digits_get HD.out k hkd
    obtain ⟨c, ec⟩ : ∃ c, d[k].toNat = c := ⟨_, rfl⟩
    rw [ec] at hx hdg
    have r1 : decide ((k : Int) < (N : Int)) = true := by simp; omega
    have r2 : decide (48 ≤ (c : Int)) = true := by simp; omega
    have r3 : decide ((c : Int) ≤ 57) = true := by simp; omega
    have r4 : (k : Int) < (N : Int) := by omega
    clear ec
    go_wp2
    go_round
    case rel => exact ⟨k + 1, by omega, by go_num⟩
    case measure => simp [intOf]; omega
  · obtain rfl : M = k := by omega
    by_cases hMN' : M < N
    · have hb := at_behind d r
      rw [HM.out] at hb
      have hlt : M < (d ++ r).length := by have := HN.out; omega
      rw [List.getElem?_eq_getElem hlt] at hb
      have hx := HAt.out M _ (List.getElem?_eq_getElem hlt)
      have hnd := HR.out _ hb.symm
      obtain ⟨c, ec⟩ : ∃ c, ((d ++ r)[M]).toNat = c := ⟨_, rfl⟩
      rw [ec] at hx hnd
      have r1 : decide ((M : Int) < (N : Int)) = true := by simp; omega
      have r4 : (M : Int) < (N : Int) := by omega
      clear ec hb
      rcases hnd with hnd | hnd
      · have r2 : decide (48 ≤ (c : Int)) = false := by simp; omega
        go_wp2
        go_ret
        exact ⟨rfl, rfl⟩
      · have r2 : decide (48 ≤ (c : Int)) = true := by simp; omega
        have r3 : decide ((c : Int) ≤ 57) = false := by simp; omega
        go_wp2
        go_ret
        exact ⟨rfl, rfl⟩
    · have r1 : decide ((M : Int) < (N : Int)) = false := by simp; omega
      go_wp2
      go_ret
      exact ⟨rfl, rfl⟩
theorem digits_all (d : List UInt8) (w : World) (hl : d.length ≤ 1000000) (hd : Digits d) :
    Calls Tryz.prog 195 #[.string (bs d)] w fun e w' => e = .returned (.int .i64 (d.length : Int)) ∧ w = w' := by
  have h := digits_c d [] w (by simpa using hl) hd (by intro c h; simp at h)
  rw [List.append_nil] at h
  exact h
theorem count_c (d : List UInt8) (w : World) (h1 : 1 ≤ d.length) (h4 : d.length ≤ 4) (hd : Digits d) :
    Calls Tryz.prog 154 #[.string (bs d)] w fun e w' => e = .returned (.tuple #[.int .i64 (numV d : Int), .bool true]) ∧ w = w' := by
  have hg := fun w => digits_all d w (by omega) hd
  obtain ⟨N, eN⟩ : ∃ N, d.length = N := ⟨_, rfl⟩
  have hsz : (bs d).size = N := by rw [bs_size, eN]
  have hAt := fun k c h w => bs_at d k c h w
  have HAt := Lib.hid hAt
  have HD := Lib.hid hd
  have HN := Lib.hid eN
  have HMM := Lib.hid (fun k => numV_le (d.take k) (digits_take hd k) (by rw [List.length_take]; omega))
  obtain ⟨S, eS⟩ : ∃ x, bs d = x := ⟨_, rfl⟩
  rw [eS] at hsz HAt hg ⊢
  rw [eN] at h1 h4 hg
  have HG := Lib.hid hg
  have q1 : decide ((N : Int) < 1) = false := by simp; omega
  have q2 : decide (4 < (N : Int)) = false := by simp; omega
  clear hAt hd eN eS hg
  go_enter Tryz.func154, Tryz.ntmps154
  go_wp2_with (go_at_call 195; refine (HG.out _).mono ?_; rintro e w' ⟨rfl, rfl⟩)
  go_loop [4, 23] (fun v i => ∃ k : Nat, k ≤ N ∧ i = .int .i64 (k : Int) ∧ v = .int .i64 (numV (d.take k) : Int)) (fun _ i => N - (intOf i).toNat)
  case atStart => exact ⟨0, by omega, rfl, rfl⟩
  case round =>
  obtain ⟨k, hk, rfl, rfl⟩ := hrel
  by_cases hkN : k < N
  · have r1 : decide ((k : Int) < (N : Int)) = true := by simp; omega
    have r2 : (k : Int) < (N : Int) := by omega
    have hkl : k < d.length := by have := HN.out; omega
    have hx := HAt.out k d[k] (List.getElem?_eq_getElem hkl)
    have hdg := digits_get HD.out k hkl
    have hnx := numV_take d k hkl
    have hbd := HMM.out k
    obtain ⟨c, ec⟩ : ∃ c, d[k].toNat = c := ⟨_, rfl⟩
    rw [ec] at hx hdg hnx
    obtain ⟨u, eu⟩ : ∃ u, numV (d.take k) = u := ⟨_, rfl⟩
    rw [eu] at hnx hbd ⊢
    have hs48 := sub48 c hdg.1 hdg.2
    have HX := Lib.hid hnx
    have b1 : (c : Int) ≤ 57 := by omega
    have b2 : 48 ≤ (c : Int) := by omega
    have b3 : (u : Int) ≤ 999999 := by omega
    clear hnx ec eu hdg hbd
    go_wp2
    go_round
    case rel => exact ⟨k + 1, by omega, by go_num, by rw [HX.out]; simp; try omega⟩
    case measure => simp [intOf]; omega
  · obtain rfl : N = k := by omega
    have htk : d.take N = d := List.take_of_length_le (by rw [HN.out]; exact Nat.le_refl _)
    rw [htk]
    go_wp2
    go_ret2
    exact ⟨rfl, rfl⟩
theorem code_c (d : List UInt8) (w : World) (h2 : 2 ≤ d.length) (h4 : d.length ≤ 4) (hd : Digits d) (hz : d.head? ≠ some 48) :
    Calls Tryz.prog 98 #[.string (bs d)] w fun e w' => e = .returned (.tuple #[.int .i64 (numV d : Int), .bool true]) ∧ w = w' := by
  have hg := fun w => count_c d w (by omega) h4 hd
  have h1 : 0 < d.length := by omega
  obtain ⟨c0, hc0, hx0⟩ : ∃ c0 : Nat, ¬ c0 = 48 ∧ ∀ h : 0 < (bs d).size, ((bs d)[0]'h).toNat = c0 := ⟨d[0].toNat, by
    intro e
    apply hz
    rw [List.head?_eq_getElem?, List.getElem?_eq_getElem h1]
    exact congrArg some (UInt8.toNat_inj.1 e), fun h => bs_head d d[0] (by rw [List.head?_eq_getElem?]; exact List.getElem?_eq_getElem h1) h⟩
  obtain ⟨N, eN⟩ : ∃ N, d.length = N := ⟨_, rfl⟩
  have hsz : (bs d).size = N := by rw [bs_size, eN]
  obtain ⟨S, eS⟩ : ∃ x, bs d = x := ⟨_, rfl⟩
  obtain ⟨V, eV⟩ : ∃ v, numV d = v := ⟨_, rfl⟩
  rw [eV] at hg ⊢
  rw [eS] at hsz hg hx0 ⊢
  rw [eN] at h1 h2 h4
  have HG := Lib.hid hg
  have q1 : decide ((N : Int) < 2) = false := by simp; omega
  have q2 : ((c0 : Int) == 48) = false := by simp; omega
  clear hd eN eS hg hz eV
  go_enter Tryz.func98, Tryz.ntmps98
  go_wp2_with (go_at_call 154; refine (HG.out _).mono ?_; rintro e w' ⟨rfl, rfl⟩)
  go_ret2
  exact ⟨rfl, rfl⟩
theorem ddigits_c (d r : List UInt8) (w : World) (hl : (d ++ r).length ≤ 1000000) (hd : Digits d) (hr : NoDigit r) (h6 : d.length ≤ 6) :
    Calls Tryz.prog 197 #[.string (bs (d ++ r))] w fun e w' => e = .returned (.tuple #[.int .i64 (numV d : Int), .int .i64 (d.length : Int)]) ∧ w = w' := by
  obtain ⟨N, eN⟩ : ∃ N, (d ++ r).length = N := ⟨_, rfl⟩
  have hsz : (bs (d ++ r)).size = N := by rw [bs_size, eN]
  obtain ⟨M, eM⟩ : ∃ M, d.length = M := ⟨_, rfl⟩
  have hMN : M ≤ N := by rw [← eN, ← eM, List.length_append]; omega
  have hAt := fun k c h w => bs_at (d ++ r) k c h w
  have HAt := Lib.hid hAt
  have HD := Lib.hid hd
  have HR := Lib.hid hr
  have HM := Lib.hid eM
  have HN := Lib.hid eN
  obtain ⟨S, eS⟩ : ∃ x, bs (d ++ r) = x := ⟨_, rfl⟩
  rw [eS] at hsz HAt ⊢
  rw [eN] at hl
  have HMM := Lib.hid (fun k => numV_le (d.take k) (digits_take hd k) (by rw [List.length_take]; omega))
  rw [eM] at h6 ⊢
  clear hAt hd hr eM eN eS
  go_enter Tryz.func197, Tryz.ntmps197
  go_wp2
  go_loop [4, 5] (fun v i => ∃ k : Nat, k ≤ M ∧ i = .int .i64 (k : Int) ∧ v = .int .i64 (numV (d.take k) : Int)) (fun _ i => N - (intOf i).toNat)
  case atStart => exact ⟨0, by omega, rfl, rfl⟩
  case round =>
  obtain ⟨k, hk, rfl, rfl⟩ := hrel
  by_cases hkM : k < M
  · have hkd : k < d.length := by have := HM.out; omega
    have hx := HAt.out k d[k] (at_front d r k hkd)
    have hdg := digits_get HD.out k hkd
    have hnx := numV_take d k hkd
    have hbd := HMM.out k
    obtain ⟨c, ec⟩ : ∃ c, d[k].toNat = c := ⟨_, rfl⟩
    rw [ec] at hx hdg hnx
    obtain ⟨u, eu⟩ : ∃ u, numV (d.take k) = u := ⟨_, rfl⟩
    rw [eu] at hnx hbd ⊢
    have hs48 := sub48 c hdg.1 hdg.2
    have HX := Lib.hid hnx
    have b1 : (c : Int) ≤ 57 := by omega
    have b2 : 48 ≤ (c : Int) := by omega
    have b3 : (u : Int) ≤ 999999 := by omega
    have r1 : decide ((k : Int) < (N : Int)) = true := by simp; omega
    have r2 : decide (48 ≤ (c : Int)) = true := by simp; omega
    have r3 : decide ((c : Int) ≤ 57) = true := by simp; omega
    have r4 : (k : Int) < (N : Int) := by omega
    have r5 : decide ((k : Int) < 6) = true := by simp; omega
    clear hnx ec eu hdg hbd
    go_wp2
    go_round
    case rel => exact ⟨k + 1, by omega, by go_num, by rw [HX.out]; simp; try omega⟩
    case measure => simp [intOf]; omega
  · obtain rfl : M = k := by omega
    have htk : d.take M = d := List.take_of_length_le (by rw [HM.out]; exact Nat.le_refl _)
    rw [htk]
    by_cases hMN' : M < N
    · have hb := at_behind d r
      rw [HM.out] at hb
      have hlt : M < (d ++ r).length := by have := HN.out; omega
      rw [List.getElem?_eq_getElem hlt] at hb
      have hx := HAt.out M _ (List.getElem?_eq_getElem hlt)
      have hnd := HR.out _ hb.symm
      obtain ⟨c, ec⟩ : ∃ c, ((d ++ r)[M]).toNat = c := ⟨_, rfl⟩
      rw [ec] at hx hnd
      have r1 : decide ((M : Int) < (N : Int)) = true := by simp; omega
      have r4 : (M : Int) < (N : Int) := by omega
      clear ec hb htk
      by_cases h66 : M < 6
      · have r5 : decide ((M : Int) < 6) = true := by simp; omega
        rcases hnd with hnd | hnd
        · have r2 : decide (48 ≤ (c : Int)) = false := by simp; omega
          go_wp2
          go_ret2
          exact ⟨rfl, rfl⟩
        · have r2 : decide (48 ≤ (c : Int)) = true := by simp; omega
          have r3 : decide ((c : Int) ≤ 57) = false := by simp; omega
          go_wp2
          go_ret2
          exact ⟨rfl, rfl⟩
      · have r5 : decide ((M : Int) < 6) = false := by simp; omega
        go_wp2
        go_ret2
        exact ⟨rfl, rfl⟩
    · have r1 : decide ((M : Int) < (N : Int)) = false := by simp; omega
      clear htk
      go_wp2
      go_ret2
      exact ⟨rfl, rfl⟩
theorem parse_int (d : List UInt8) (w : World) (h1 : 0 < d.length) (h6 : d.length ≤ 6) (hd : Digits d) :
    Calls Tryz.prog 152 #[.string (bs d)] w fun e w' => e = .returned (.tuple #[.int .i64 ((numV d * 1000000 : Nat) : Int), .bool true]) ∧ w = w' := by
  have hg := fun w => ddigits_c d [] w (by simp; omega) hd (by intro c h; simp at h) h6
  simp only [List.append_nil] at hg
  have hne : (bs d).toList.isEmpty = false := by
    rw [bs_toList]
    cases d with
    | nil => simp at h1
    | cons a l => rfl
  obtain ⟨c0, hc0, hx0⟩ : ∃ c0 : Nat, (48 ≤ c0 ∧ c0 ≤ 57) ∧ ∀ h : 0 < (bs d).size, ((bs d)[0]'h).toNat = c0 := ⟨d[0].toNat, digits_get hd 0 h1, fun h => bs_head d d[0] (by rw [List.head?_eq_getElem?]; exact List.getElem?_eq_getElem h1) h⟩
  have hle := numV_le d hd h6
  have p1 : ((c0 : Int) == 43) = false := by simp; omega
  have p2 : ((c0 : Int) == 45) = false := by simp; omega
  have x1 : (bs d).extract d.length d.length = bs [] := by rw [bs_drop]; simp
  obtain ⟨E, eE, hE⟩ : ∃ E, bs [] = E ∧ E.toList.isEmpty = true := ⟨_, rfl, by rw [bs_toList]; rfl⟩
  obtain ⟨N, eN⟩ : ∃ N, d.length = N := ⟨_, rfl⟩
  have hsz : (bs d).size = N := by rw [bs_size, eN]
  obtain ⟨S, eS⟩ : ∃ x, bs d = x := ⟨_, rfl⟩
  obtain ⟨V, eV⟩ : ∃ v, numV d = v := ⟨_, rfl⟩
  rw [eV] at hg hle ⊢
  rw [eS] at hsz hg hx0 hne x1 ⊢
  rw [eN] at h1 h6 x1 hg
  rw [eE] at x1
  have HG := Lib.hid hg
  have q1 : ((N : Int) == 0) = false := by simp; omega
  have e2 : ((V * 1000000 : Nat) : Int) = (V : Int) * 1000000 := by omega
  rw [e2]
  clear hd eN eS hg eV eE e2
  go_enter Tryz.func152, Tryz.ntmps152
  go_wp2_with (go_at_call 197; refine (HG.out _).mono ?_; rintro e w' ⟨rfl, rfl⟩)
  go_ret2
  exact ⟨rfl, rfl⟩
abbrev discV (x y r : Int) : Value := .agg #[.int .i64 1, .int .i64 x, .int .i64 y, .int .i64 0, .int .i64 0, .int .i64 0, .int .i64 0, .int .i64 r, .slice none 0 0, .slice none 0 0]
abbrev discC (x y r : Int) : Array Value := #[.int .i64 1, .int .i64 x, .int .i64 y, .int .i64 0, .int .i64 0, .int .i64 0, .int .i64 0, .int .i64 r, .slice none 0 0, .slice none 0 0]
theorem near_c (x y : Int) (w : World) (x0 : -536870912 ≤ x) (x1 : x ≤ 536870912) (y0 : -536870912 ≤ y) (y1 : y ≤ 536870912) :
    Calls Tryz.prog 243 #[.agg #[.int .i64 x, .int .i64 y]] w fun e w' => e = .returned (.bool true) ∧ Below w.heap.size w w' := by
  go_enter Tryz.func243, Tryz.ntmps243
  go_wp2
  go_ret
  exact ⟨rfl, by go_grown⟩
theorem width_c (r : Int) (w : World) (r0 : 1 ≤ r) (r1 : r ≤ 536870912) :
    Calls Tryz.prog 244 #[.int .i64 r] w fun e w' => e = .returned (.bool true) ∧ Below w.heap.size w w' := by
  go_enter Tryz.func244, Tryz.ntmps244
  go_wp2
  go_ret
  exact ⟨rfl, by go_grown⟩
theorem bare_disc (x y r : Int) (w : World) :
    Calls Tryz.prog 242 #[.agg #[.int .i64 1, .int .i64 x, .int .i64 y, .int .i64 0, .int .i64 0, .int .i64 0, .int .i64 0, .int .i64 r, .slice none 0 0, .slice none 0 0]] w fun e w' => e = .returned (.bool true) ∧ Below w.heap.size w w' := by
  go_enter Tryz.func242, Tryz.ntmps242
  go_wp2
  go_ret
  exact ⟨rfl, by go_grown⟩
theorem valid_disc (x y r : Int) (p B : Nat) (w : World) (x0 : -536870912 ≤ x) (x1 : x ≤ 536870912) (y0 : -536870912 ≤ y) (y1 : y ≤ 536870912) (r0 : 1 ≤ r) (r1 : r ≤ 536870912)
    (hc : w.cell? ⟨p, 0, none⟩ = some (.int .i64 1000)) (hf : w.frozen? ⟨p, 0, none⟩ = false) (hB : B ≤ w.heap.size) (hp : B ≤ p) :
    Calls Tryz.prog 210 #[.agg #[.int .i64 1, .int .i64 x, .int .i64 y, .int .i64 0, .int .i64 0, .int .i64 0, .int .i64 0, .int .i64 r, .slice none 0 0, .slice none 0 0], .int .i64 0, .pointer (some ⟨p, 0, none⟩)] w fun e w' => e = .returned (.bool true) ∧ Below B w w' := by
  have hpl := blk_of_cell hc
  go_enter Tryz.func210, Tryz.ntmps210
  go_wp2_with fail
  refine (bare_disc _ _ _ _).mono ?_
  rintro e w1 ⟨rfl, hb⟩
  have hB1 : Below B w w1 := Below.trans (by exact blw) (hb.mono (by first | omega | (simp; done) | (simp; omega)))
  have k1_0 : Blk w1 (w.heap.size) 62 #[.int .i64 1, .int .i64 x, .int .i64 y, .int .i64 0, .int .i64 0, .int .i64 0, .int .i64 0, .int .i64 r, .slice none 0 0, .slice none 0 0] := Blk.below (by exact bkw) hb (by first | omega | (simp; done) | (simp; omega))
  have c1_0 := k1_0.cell
  have f1_0 := k1_0.frozen
  have l1_0 := k1_0.lt
  have l1 := hB1.size
  clear hb
  clear hc hf
  as_aux_lemma =>
    go_wp2_with fail
    refine (near_c _ _ _ (by omega) (by omega) (by omega) (by omega)).mono ?_
    rintro e w2 ⟨rfl, hb⟩
    have hB2 : Below B w w2 := Below.trans (by exact blw) (hb.mono (by first | omega | (simp; done) | (simp; omega)))
    have k2_0 : Blk w2 (w.heap.size) 62 #[.int .i64 1, .int .i64 x, .int .i64 y, .int .i64 0, .int .i64 0, .int .i64 0, .int .i64 0, .int .i64 r, .slice none 0 0, .slice none 0 0] := Blk.below (by exact bkw) hb (by first | omega | (simp; done) | (simp; omega))
    have c2_0 := k2_0.cell
    have f2_0 := k2_0.frozen
    have l2_0 := k2_0.lt
    have l2 := hB2.size
    clear hb
    clear k1_0 c1_0 f1_0 l1_0
    as_aux_lemma =>
      go_wp2_with fail
      refine (width_c _ _ (by omega) (by omega)).mono ?_
      rintro e w3 ⟨rfl, hb⟩
      have hB3 : Below B w w3 := Below.trans (by exact blw) (hb.mono (by first | omega | (simp; done) | (simp; omega)))
      have l3 := hB3.size
      clear hb
      as_aux_lemma =>
        go_wp2_with fail
        go_ret
        exact ⟨rfl, hB3⟩
theorem ok_disc (x y r : Int) (w : World) (x0 : -536870912 ≤ x) (x1 : x ≤ 536870912) (y0 : -536870912 ≤ y) (y1 : y ≤ 536870912) (r0 : 1 ≤ r) (r1 : r ≤ 536870912) :
    Calls Tryz.prog 171 #[.agg #[.int .i64 1, .int .i64 x, .int .i64 y, .int .i64 0, .int .i64 0, .int .i64 0, .int .i64 0, .int .i64 r, .slice none 0 0, .slice none 0 0]] w fun e w' => e = .returned (.bool true) ∧ Below w.heap.size w w' := by
  go_enter Tryz.func171, Tryz.ntmps171
  go_wp2_with fail
  refine (valid_disc _ _ _ _ w.heap.size _ x0 x1 y0 y1 r0 r1 (by simp) (by simp) (by simp; omega) (by omega)).mono ?_
  rintro e w1 ⟨rfl, hb⟩
  have hB : Below w.heap.size w w1 := Below.trans (by exact blw) hb
  go_wp2_with fail
  go_ret
  exact ⟨rfl, hB⟩
theorem quarters_c (w : World) : Calls Tryz.prog 335 #[.int .i64 0] w fun e w' => e = .returned (.int .i64 0) ∧ w = w' := by
  have b0 : bits .and .i64 0 3 = 0 := by kernel_rfl
  go_enter Tryz.func335, Tryz.ntmps335
  go_wp2
  go_ret
  exact ⟨rfl, rfl⟩
theorem pt_c (x y a b : Int) (w : World) (x0 : -536870912 ≤ x) (x1 : x ≤ 536870912) (y0 : -536870912 ≤ y) (y1 : y ≤ 536870912) (a0 : -536870912 ≤ a) (a1 : a ≤ 536870912) (b0 : -536870912 ≤ b) (b1 : b ≤ 536870912) :
    Calls Tryz.prog 281 #[.agg #[.int .i64 x, .int .i64 y], .agg #[.bool false, .bool false, .int .i64 0, .int .i64 a, .int .i64 b]] w fun e w' => e = .returned (.agg #[.int .i64 (x + a), .int .i64 (y + b)]) ∧ Below w.heap.size w w' := by
  go_enter Tryz.func281, Tryz.ntmps281
  go_wp2_with fail
  go_quiet (fail)
  go_wp2_with (go_at_call 335; refine (quarters_c _).mono ?_; rintro e w' ⟨rfl, rfl⟩)
  exact bodyPost_ret (v := .agg #[.int .i64 (x + a), .int .i64 (y + b)]) (by simp [results, Tryz.results281, go_sem]) rfl ⟨rfl, by exact blw⟩
theorem apply_disc (x y r a b : Int) (w : World) (x0 : -536870912 ≤ x) (x1 : x ≤ 536870912) (y0 : -536870912 ≤ y) (y1 : y ≤ 536870912) (a0 : -536870912 ≤ a) (a1 : a ≤ 536870912) (b0 : -536870912 ≤ b) (b1 : b ≤ 536870912) :
    Calls Tryz.prog 241 #[.agg #[.int .i64 1, .int .i64 x, .int .i64 y, .int .i64 0, .int .i64 0, .int .i64 0, .int .i64 0, .int .i64 r, .slice none 0 0, .slice none 0 0], .agg #[.bool false, .bool false, .int .i64 0, .int .i64 a, .int .i64 b]] w fun e w' => e = .returned (discV (x + a) (y + b) r) ∧ Below w.heap.size w w' := by
  go_enter Tryz.func241, Tryz.ntmps241
  go_wp2_with fail
  refine (pt_c _ _ _ _ _ x0 x1 y0 y1 a0 a1 b0 b1).mono ?_
  rintro e w1 ⟨rfl, hb⟩
  have hB1 : Below w.heap.size w w1 := Below.trans (by exact blw) (hb.mono (by first | omega | (simp; done) | (simp; omega)))
  have k1_0 : Blk w1 (w.heap.size + 1 + 1 + 1) 62 #[.int .i64 1, .int .i64 0, .int .i64 0, .int .i64 0, .int .i64 0, .int .i64 0, .int .i64 0, .int .i64 r, .slice none 0 0, .slice none 0 0] := Blk.below (by exact bkw) hb (by first | omega | (simp; done) | (simp; omega))
  have k1_1 : Blk w1 (w.heap.size + 1 + 1) 62 #[.int .i64 0, .int .i64 0, .int .i64 0, .int .i64 0, .int .i64 0, .int .i64 0, .int .i64 0, .int .i64 0, .slice none 0 0, .slice none 0 0] := Blk.below (by exact bkw) hb (by first | omega | (simp; done) | (simp; omega))
  have c1_0 := k1_0.cell
  have f1_0 := k1_0.frozen
  have l1_0 := k1_0.lt
  have c1_1 := k1_1.cell
  have f1_1 := k1_1.frozen
  have l1_1 := k1_1.lt
  have l1 := hB1.size
  clear hb
  go_wp2_with fail
  refine bodyPost_ret (results_cell_row (t := 62) Tryz.results241 _ _ (w.heap.size + 1 + 1) (discC (x + a) (y + b) r) (0, 0) _ (by rfl) ?_ Tryz.underlying62 rfl (by kernel_rfl)) rfl ⟨rfl, ?_⟩
  · unfold Blk at k1_1
    simp [World.setCell, Array.getElem?_modify, k1_1, discC]
  · exact blw
theorem results_row_tmp {fn : Func} {p u : Tmp} {ty : TypeId} (h : fn.results = #[.cell p ty, .tmp u]) (tmps : Array Value) (w : World) (g : Nat) (cs : Array Value)
    (hp : tmps.getD p undef = .pointer (some ⟨g, 0, none⟩)) (hl : (loadVar ty ⟨g, 0, none⟩).run Tryz.prog w = .ok (.agg cs) w) :
    (results fn tmps).run Tryz.prog w = .ok (.tuple #[.agg cs, tmps.getD u undef]) w := by
  rw [results_cell_tmp h, hp]
  simp [asAddr, hl]
theorem Apply_disc (x y r a b : Int) (w : World) (x0 : -536870912 ≤ x) (x1 : x ≤ 536870912) (y0 : -536870912 ≤ y) (y1 : y ≤ 536870912) (r0 : 1 ≤ r) (r1 : r ≤ 536870912) (a0 : -536870912 ≤ a) (a1 : a ≤ 536870912) (b0 : -536870912 ≤ b) (b1 : b ≤ 536870912)
    (s0 : -536870912 ≤ x + a) (s1 : x + a ≤ 536870912) (t0 : -536870912 ≤ y + b) (t1 : y + b ≤ 536870912) :
    Calls Tryz.prog 209 #[.agg #[.int .i64 1, .int .i64 x, .int .i64 y, .int .i64 0, .int .i64 0, .int .i64 0, .int .i64 0, .int .i64 r, .slice none 0 0, .slice none 0 0], .agg #[.bool false, .bool false, .int .i64 0, .int .i64 a, .int .i64 b]] w fun e w' => e = .returned (.tuple #[discV (x + a) (y + b) r, .bool true]) ∧ Below w.heap.size w w' := by
  obtain ⟨X, eX⟩ : ∃ X, x + a = X := ⟨_, rfl⟩
  obtain ⟨Y, eY⟩ : ∃ Y, y + b = Y := ⟨_, rfl⟩
  have ca := fun w => apply_disc x y r a b w x0 x1 y0 y1 a0 a1 b0 b1
  rw [eX] at s0 s1 ca ⊢
  rw [eY] at t0 t1 ca ⊢
  have CA := Lib.hid ca
  clear eX eY ca
  go_enter Tryz.func209, Tryz.ntmps209
  go_wp2_with fail
  refine (ok_disc _ _ _ _ x0 x1 y0 y1 r0 r1).mono ?_
  rintro e w1 ⟨rfl, hb⟩
  have hB1 : Below w.heap.size w w1 := Below.trans (by exact blw) (hb.mono (by first | omega | (simp; done) | (simp; omega)))
  have k1_0 : Blk w1 (w.heap.size) 62 #[.int .i64 1, .int .i64 x, .int .i64 y, .int .i64 0, .int .i64 0, .int .i64 0, .int .i64 0, .int .i64 r, .slice none 0 0, .slice none 0 0] := Blk.below (by exact bkw) hb (by first | omega | (simp; done) | (simp; omega))
  have k1_1 : Blk w1 (w.heap.size + 1) 157 #[.bool false, .bool false, .int .i64 0, .int .i64 a, .int .i64 b] := Blk.below (by exact bkw) hb (by first | omega | (simp; done) | (simp; omega))
  have k1_2 : Blk w1 (w.heap.size + 1 + 1) 62 #[.int .i64 0, .int .i64 0, .int .i64 0, .int .i64 0, .int .i64 0, .int .i64 0, .int .i64 0, .int .i64 0, .slice none 0 0, .slice none 0 0] := Blk.below (by exact bkw) hb (by first | omega | (simp; done) | (simp; omega))
  have c1_0 := k1_0.cell
  have f1_0 := k1_0.frozen
  have l1_0 := k1_0.lt
  have c1_1 := k1_1.cell
  have f1_1 := k1_1.frozen
  have l1_1 := k1_1.lt
  have c1_2 := k1_2.cell
  have f1_2 := k1_2.frozen
  have l1_2 := k1_2.lt
  have l1 := hB1.size
  clear hb
  go_wp2_with fail
  refine (CA.out _).mono ?_
  rintro e w2 ⟨rfl, hb⟩
  have hB2 : Below w.heap.size w w2 := Below.trans (by exact blw) (hb.mono (by first | omega | (simp; done) | (simp; omega)))
  have k2_0 : Blk w2 (w.heap.size + 1 + 1) 62 #[.int .i64 0, .int .i64 0, .int .i64 0, .int .i64 0, .int .i64 0, .int .i64 0, .int .i64 0, .int .i64 0, .slice none 0 0, .slice none 0 0] := Blk.below (by exact bkw) hb (by first | omega | (simp; done) | (simp; omega))
  have c2_0 := k2_0.cell
  have f2_0 := k2_0.frozen
  have l2_0 := k2_0.lt
  have l2 := hB2.size
  clear hb k1_0 k1_1 k1_2 c1_0 c1_1 c1_2 f1_0 f1_1 f1_2
  go_wp2_with fail
  refine (ok_disc _ _ _ _ s0 s1 t0 t1 r0 r1).mono ?_
  rintro e w3 ⟨rfl, hb⟩
  have hB3 : Below w.heap.size w w3 := Below.trans (by exact blw) (hb.mono (by first | omega | (simp; done) | (simp; omega)))
  have k3_0 : Blk w3 (w.heap.size + 1 + 1) 62 #[.int .i64 0, .int .i64 0, .int .i64 0, .int .i64 0, .int .i64 0, .int .i64 0, .int .i64 0, .int .i64 0, .slice none 0 0, .slice none 0 0] := Blk.below (by exact bkw) hb (by first | omega | (simp; done) | (simp; omega))
  have k3_1 : Blk w3 (w2.heap.size) 62 (discC X Y r) := Blk.below (by exact bkw) hb (by first | omega | (simp; done) | (simp; omega))
  have c3_0 := k3_0.cell
  have f3_0 := k3_0.frozen
  have l3_0 := k3_0.lt
  have c3_1 := k3_1.cell
  have f3_1 := k3_1.frozen
  have l3_1 := k3_1.lt
  have l3 := hB3.size
  clear hb k2_0 c2_0 f2_0
  go_wp2_with fail
  refine bodyPost_ret (results_row_tmp Tryz.results209 _ _ (w.heap.size + 1 + 1) (discC X Y r) (by rfl) (run_loadVar_row _ _ 62 62 _ (0, 0) _ ?_ Tryz.underlying62 rfl (by kernel_rfl))) rfl ⟨rfl, ?_⟩
  · unfold Blk at k3_0
    simp [World.setCell, Array.getElem?_modify, k3_0, discC]
  · exact blw
end Go.Proofs.YtfajckkbinbpiaaGreatDoor
