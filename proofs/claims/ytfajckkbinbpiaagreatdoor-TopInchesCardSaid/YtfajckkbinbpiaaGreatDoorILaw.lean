/- Walk: a number as digits. Walk: a number of up to eight digits as it is written; its digits are one text. The plain law of the statement: a drawing in inches and the same in millimetres draw the same. Walk: images compared. -/
import Derived.Test.YtfajckkbinbpiaaGreatDoorJ02
import Derived.Test.YtfajckkbinbpiaaGreatDoorIAux
import Derived.Test.YtfajckkbinbpiaaGreatDoorIPf
import Derived.Test.YtfajckkbinbpiaaGreatDoorJ26
import Derived.Lib.SlBytesRow
namespace Go.Proofs.YtfajckkbinbpiaaGreatDoor
open Go.RowKit
set_option linter.unusedVariables false
set_option linter.unusedSimpArgs false

theorem numV_cons (c : UInt8) (d : List UInt8) : numV (c :: d) = (c.toNat - 48) * 10 ^ d.length + numV d := by
  suffices H : ∀ (l : List UInt8) (a : Nat), l.foldl (fun v c => v * 10 + (c.toNat - 48)) a = a * 10 ^ l.length + numV l by
    have := H d (c.toNat - 48)
    rw [← this]
    simp [numV]
  intro l
  induction l with
  | nil => intro a; simp [numV]
  | cons e l ih =>
    intro a
    have h1 := ih (a * 10 + (e.toNat - 48))
    have h2 := ih (e.toNat - 48)
    rw [List.foldl_cons, h1, show numV (e :: l) = l.foldl (fun v c => v * 10 + (c.toNat - 48)) (e.toNat - 48) by simp [numV], h2, List.length_cons, Nat.pow_succ]
    rw [Nat.add_mul, Nat.mul_assoc a 10, Nat.mul_comm 10]
    omega
/-- The digit of a number below ten. -/
def digB (k : Nat) : UInt8 := (48 + k).toUInt8
theorem digB_nat : ∀ k, k < 10 → (digB k).toNat = 48 + k := by decide
theorem digB_at : ∀ k, k < 10 → ({ data := #[48, 49, 50, 51, 52, 53, 54, 55, 56, 57] } : ByteArray).extract k (k + 1) = bs [digB k] := by
  intro k hk
  have : k = 0 ∨ k = 1 ∨ k = 2 ∨ k = 3 ∨ k = 4 ∨ k = 5 ∨ k = 6 ∨ k = 7 ∨ k = 8 ∨ k = 9 := by omega
  rcases this with rfl | rfl | rfl | rfl | rfl | rfl | rfl | rfl | rfl | rfl <;> rfl
/-- What stands behind a text while it is made: of n, m is still to come. -/
def NumIs (n : Nat) (m : Nat) (d : List UInt8) : Prop := Digits d ∧ m * 10 ^ d.length + numV d = n ∧ d.length ≤ 6 ∧ (d.length ≤ 1 ∨ 10 ^ (d.length - 1) ≤ n)
theorem numIs_start (n : Nat) : NumIs n n [] := ⟨by intro c h; simp at h, by simp [numV], by simp, by simp⟩
theorem numIs_step {n m : Nat} {d : List UInt8} (h : NumIs n m d) (hn : n < 1000000) (hm : 0 < m ∨ d.length < 1) : NumIs n (m / 10) (digB (m % 10) :: d) := by
  obtain ⟨h1, h2, h3, h4⟩ := h
  have hk : m % 10 < 10 := Nat.mod_lt _ (by decide)
  have hb := digB_nat _ hk
  refine ⟨?_, ?_, ?_, ?_⟩
  · intro c hc
    rcases List.mem_cons.1 hc with rfl | hc
    · omega
    · exact h1 c hc
  · rw [numV_cons, hb, List.length_cons, Nat.pow_succ]
    have e : m = 10 * (m / 10) + m % 10 := (Nat.div_add_mod m 10).symm
    have e2 : m * 10 ^ d.length = (m / 10) * (10 ^ d.length * 10) + (m % 10) * 10 ^ d.length := by
      conv => lhs; rw [e]
      rw [Nat.add_mul, Nat.mul_comm 10 (m / 10), Nat.mul_assoc, Nat.mul_comm 10]
    rw [show 48 + m % 10 - 48 = m % 10 by omega]
    omega
  · rw [List.length_cons]
    rcases hm with hm | hm
    · have : 10 ^ d.length ≤ m * 10 ^ d.length := Nat.le_mul_of_pos_left _ hm
      have hlt : 10 ^ d.length < 10 ^ 6 := by omega
      have := (Nat.pow_lt_pow_iff_right (by decide : 1 < 10)).1 hlt
      omega
    · omega
  · rw [List.length_cons]
    rcases hm with hm | hm
    · have : 10 ^ d.length ≤ m * 10 ^ d.length := Nat.le_mul_of_pos_left _ hm
      right
      rw [Nat.add_sub_cancel]
      omega
    · left; omega
set_option maxRecDepth 100000 in
set_option maxHeartbeats 2000000 in
theorem num_c (n : Nat) (w : World) (hn : n < 1000000) : Calls Tryz.prog 7 #[.int .i64 (n : Int), .int .i64 1] w fun e w' => (∃ d, e = .returned (.string (bs d)) ∧ Digits d ∧ numV d = n ∧ 0 < d.length ∧ d.length ≤ 6 ∧ (d.length ≤ 1 ∨ 10 ^ (d.length - 1) ≤ n)) ∧ w = w' := by
  have start := numIs_start n
  have ST := Lib.hid start
  clear start
  go_enter Tryz.func7, Tryz.ntmps7
  go_wp2_with fail
  go_loop [0, 5] (fun a s => ∃ (m : Nat) (d : List UInt8), a = .int .i64 (m : Int) ∧ s = .string (bs d) ∧ m ≤ n ∧ NumIs n m d) (fun a s => (intOf a).toNat + (match s with | .string b => 1 - b.size | _ => 0))
  case atStart => exact ⟨n, [], rfl, rfl, Nat.le_refl _, ST.out⟩
  case round =>
  obtain ⟨m, d, rfl, rfl, hm, hd⟩ := hrel
  have HD := Lib.hid hd
  have hl6 := hd.2.2.1
  obtain ⟨L, eL⟩ : ∃ L, d.length = L := ⟨_, rfl⟩
  have hsz : (bs d).size = L := by rw [bs_size, eL]
  clear hd
  by_cases hgo : 0 < m ∨ L < 1
  · have hnx := numIs_step HD.out hn (by rw [eL]; exact hgo)
    obtain ⟨k, ek⟩ : ∃ k, m % 10 = k := ⟨_, rfl⟩
    have hk : k < 10 := by omega
    rw [ek] at hnx
    have hat := digB_at k hk
    obtain ⟨E, eE⟩ : ∃ x, bs [digB k] = x := ⟨_, rfl⟩
    rw [eE] at hat
    obtain ⟨S, eS⟩ : ∃ x, bs d = x := ⟨_, rfl⟩
    obtain ⟨S2, eS2⟩ : ∃ x, bs ([digB k] ++ d) = x := ⟨_, rfl⟩
    have ha := fun w => add_lit [digB k] d E S2 eE eS2 (by simp) (by omega) w
    rw [eS] at ha hsz ⊢
    have hfix : E ++ S = S2 := by rw [← eE, ← eS, ← eS2]; exact bs_app _ _
    have HFX := Lib.hid hfix
    have hsz2 : S2.size = L + 1 := by rw [← eS2, bs_size]; simp; omega
    have e1 : ((m : Int) % 10) = (k : Int) := by omega
    have e3 : ((m : Int) / 10) = ((m / 10 : Nat) : Int) := by omega
    obtain ⟨q, eq⟩ : ∃ q, m / 10 = q := ⟨_, rfl⟩
    have hq : q ≤ m := by omega
    have hq2 : 0 < m → q < m := by omega
    rw [eq] at hnx e3
    have HN := Lib.hid hnx
    have HS2 := Lib.hid eS2
    have kz : (k : Int) ≤ 9 := by omega
    have hk2 : k ≤ k + 1 := by omega
    clear hnx eE eS eS2 HD eL hfix
    rcases Nat.eq_zero_or_pos m with h0 | hpos
    · have HAT := Lib.hid hat
      obtain rfl : q = 0 := by omega
      obtain rfl : k = 0 := by omega
      subst h0
      have hl1 : L < 1 := by omega
      have p2 : decide ((L : Int) < 1) = true := by simp; omega
      have HZ := Lib.hid hsz
      have HZ2 := Lib.hid hsz2
      clear e1 e3 ek eq ha hat hgo hsz2
      go_wp2_with fail
      go_round
      case rel => exact ⟨0, digB 0 :: d, rfl, by rw [HAT.out, HFX.out, ← HS2.out]; rfl, by omega, HN.out⟩
      case measure =>
        have h1 := HAT.out
        have h2 := HFX.out
        simp only [intOf, h1, h2]
        simp [HZ.out, HZ2.out]
        omega
    · clear ek eq
      have p1 : decide (0 < (m : Int)) = true := by simp; omega
      go_wp2_with fail
      go_round
      case rel => exact ⟨q, digB k :: d, rfl, by rw [← HS2.out]; rfl, by omega, HN.out⟩
      case measure => have := hq2 hpos; simp [intOf, hsz, hsz2]; omega
  · have p1 : decide (0 < (m : Int)) = false := by simp; omega
    have p2 : decide ((L : Int) < 1) = false := by simp; omega
    have hfin : ∃ d', Ending.returned (.string (bs d)) = .returned (.string (bs d')) ∧ Digits d' ∧ numV d' = n ∧ 0 < d'.length ∧ d'.length ≤ 6 ∧ (d'.length ≤ 1 ∨ 10 ^ (d'.length - 1) ≤ n) := by
      obtain ⟨h1, h2, h3⟩ := HD.out
      refine ⟨d, rfl, h1, ?_, by omega, h3⟩
      obtain rfl : m = 0 := by omega
      omega
    have HF := Lib.hid hfin
    clear hfin HD eL
    go_wp2_with fail
    go_ret
    exact ⟨HF.out, rfl⟩
end Go.Proofs.YtfajckkbinbpiaaGreatDoor
namespace Go.Proofs.YtfajckkbinbpiaaGreatDoor
open Go.RowKit
set_option linter.unusedVariables false
set_option linter.unusedSimpArgs false

/-- What stands behind a text while it is made: of n, m is still to come. -/
def NumIs8 (n : Nat) (m : Nat) (d : List UInt8) : Prop := Digits d ∧ m * 10 ^ d.length + numV d = n ∧ d.length ≤ 8 ∧ (d.length ≤ 1 ∨ 10 ^ (d.length - 1) ≤ n)
theorem numIs8_start (n : Nat) : NumIs8 n n [] := ⟨by intro c h; simp at h, by simp [numV], by simp, by simp⟩
theorem numIs8_step {n m : Nat} {d : List UInt8} (h : NumIs8 n m d) (hn : n < 100000000) (hm : 0 < m ∨ d.length < 1) : NumIs8 n (m / 10) (digB (m % 10) :: d) := by
  obtain ⟨h1, h2, h3, h4⟩ := h
  have hk : m % 10 < 10 := Nat.mod_lt _ (by decide)
  have hb := digB_nat _ hk
  refine ⟨?_, ?_, ?_, ?_⟩
  · intro c hc
    rcases List.mem_cons.1 hc with rfl | hc
    · omega
    · exact h1 c hc
  · rw [numV_cons, hb, List.length_cons, Nat.pow_succ]
    have e : m = 10 * (m / 10) + m % 10 := (Nat.div_add_mod m 10).symm
    have e2 : m * 10 ^ d.length = (m / 10) * (10 ^ d.length * 10) + (m % 10) * 10 ^ d.length := by
      conv => lhs; rw [e]
      rw [Nat.add_mul, Nat.mul_comm 10 (m / 10), Nat.mul_assoc, Nat.mul_comm 10]
    rw [show 48 + m % 10 - 48 = m % 10 by omega]
    omega
  · rw [List.length_cons]
    rcases hm with hm | hm
    · have : 10 ^ d.length ≤ m * 10 ^ d.length := Nat.le_mul_of_pos_left _ hm
      have hlt : 10 ^ d.length < 10 ^ 8 := by omega
      have := (Nat.pow_lt_pow_iff_right (by decide : 1 < 10)).1 hlt
      omega
    · omega
  · rw [List.length_cons]
    rcases hm with hm | hm
    · have : 10 ^ d.length ≤ m * 10 ^ d.length := Nat.le_mul_of_pos_left _ hm
      right
      rw [Nat.add_sub_cancel]
      omega
    · left; omega
set_option maxRecDepth 100000 in
set_option maxHeartbeats 2000000 in
theorem num8_c (n : Nat) (w : World) (hn : n < 100000000) : Calls Tryz.prog 7 #[.int .i64 (n : Int), .int .i64 1] w fun e w' => (∃ d, e = .returned (.string (bs d)) ∧ Digits d ∧ numV d = n ∧ 0 < d.length ∧ d.length ≤ 8 ∧ (d.length ≤ 1 ∨ 10 ^ (d.length - 1) ≤ n)) ∧ w = w' := by
  have start := numIs8_start n
  have ST := Lib.hid start
  clear start
  go_enter Tryz.func7, Tryz.ntmps7
  go_wp2_with fail
  go_loop [0, 5] (fun a s => ∃ (m : Nat) (d : List UInt8), a = .int .i64 (m : Int) ∧ s = .string (bs d) ∧ m ≤ n ∧ NumIs8 n m d) (fun a s => (intOf a).toNat + (match s with | .string b => 1 - b.size | _ => 0))
  case atStart => exact ⟨n, [], rfl, rfl, Nat.le_refl _, ST.out⟩
  case round =>
  obtain ⟨m, d, rfl, rfl, hm, hd⟩ := hrel
  have HD := Lib.hid hd
  have hl6 := hd.2.2.1
  obtain ⟨L, eL⟩ : ∃ L, d.length = L := ⟨_, rfl⟩
  have hsz : (bs d).size = L := by rw [bs_size, eL]
  clear hd
  by_cases hgo : 0 < m ∨ L < 1
  · have hnx := numIs8_step HD.out hn (by rw [eL]; exact hgo)
    obtain ⟨k, ek⟩ : ∃ k, m % 10 = k := ⟨_, rfl⟩
    have hk : k < 10 := by omega
    rw [ek] at hnx
    have hat := digB_at k hk
    obtain ⟨E, eE⟩ : ∃ x, bs [digB k] = x := ⟨_, rfl⟩
    rw [eE] at hat
    obtain ⟨S, eS⟩ : ∃ x, bs d = x := ⟨_, rfl⟩
    obtain ⟨S2, eS2⟩ : ∃ x, bs ([digB k] ++ d) = x := ⟨_, rfl⟩
    have ha := fun w => add_lit [digB k] d E S2 eE eS2 (by simp) (by omega) w
    rw [eS] at ha hsz ⊢
    have hfix : E ++ S = S2 := by rw [← eE, ← eS, ← eS2]; exact bs_app _ _
    have HFX := Lib.hid hfix
    have hsz2 : S2.size = L + 1 := by rw [← eS2, bs_size]; simp; omega
    have e1 : ((m : Int) % 10) = (k : Int) := by omega
    have e3 : ((m : Int) / 10) = ((m / 10 : Nat) : Int) := by omega
    obtain ⟨q, eq⟩ : ∃ q, m / 10 = q := ⟨_, rfl⟩
    have hq : q ≤ m := by omega
    have hq2 : 0 < m → q < m := by omega
    rw [eq] at hnx e3
    have HN := Lib.hid hnx
    have HS2 := Lib.hid eS2
    have kz : (k : Int) ≤ 9 := by omega
    have hk2 : k ≤ k + 1 := by omega
    clear hnx eE eS eS2 HD eL hfix
    rcases Nat.eq_zero_or_pos m with h0 | hpos
    · have HAT := Lib.hid hat
      obtain rfl : q = 0 := by omega
      obtain rfl : k = 0 := by omega
      subst h0
      have hl1 : L < 1 := by omega
      have p2 : decide ((L : Int) < 1) = true := by simp; omega
      have HZ := Lib.hid hsz
      have HZ2 := Lib.hid hsz2
      clear e1 e3 ek eq ha hat hgo hsz2
      go_wp2_with fail
      go_round
      case rel => exact ⟨0, digB 0 :: d, rfl, by rw [HAT.out, HFX.out, ← HS2.out]; rfl, by omega, HN.out⟩
      case measure =>
        have h1 := HAT.out
        have h2 := HFX.out
        simp only [intOf, h1, h2]
        simp [HZ.out, HZ2.out]
        omega
    · clear ek eq
      have p1 : decide (0 < (m : Int)) = true := by simp; omega
      go_wp2_with fail
      go_round
      case rel => exact ⟨q, digB k :: d, rfl, by rw [← HS2.out]; rfl, by omega, HN.out⟩
      case measure => have := hq2 hpos; simp [intOf, hsz, hsz2]; omega
  · have p1 : decide (0 < (m : Int)) = false := by simp; omega
    have p2 : decide ((L : Int) < 1) = false := by simp; omega
    have hfin : ∃ d', Ending.returned (.string (bs d)) = .returned (.string (bs d')) ∧ Digits d' ∧ numV d' = n ∧ 0 < d'.length ∧ d'.length ≤ 8 ∧ (d'.length ≤ 1 ∨ 10 ^ (d'.length - 1) ≤ n) := by
      obtain ⟨h1, h2, h3⟩ := HD.out
      refine ⟨d, rfl, h1, ?_, by omega, h3⟩
      obtain rfl : m = 0 := by omega
      omega
    have HF := Lib.hid hfin
    clear hfin HD eL
    go_wp2_with fail
    go_ret
    exact ⟨HF.out, rfl⟩

theorem numV_inj8 : ∀ (a b : List UInt8), Digits a → Digits b → a.length = b.length → numV a = numV b → a = b
  | [], [], _, _, _, _ => rfl
  | [], _ :: _, _, _, h, _ => by simp at h
  | _ :: _, [], _, _, h, _ => by simp at h
  | x :: a, y :: b, ha, hb, h, e => by
    have hl : a.length = b.length := by simpa using h
    have ha' : Digits a := fun c hc => ha c (by simp [hc])
    have hb' : Digits b := fun c hc => hb c (by simp [hc])
    have h1 := numV_lt a ha'
    have h2 := numV_lt b hb'
    rw [numV_cons, numV_cons, hl] at e
    rw [hl] at h1
    have hx := ha x (by simp)
    have hy := hb y (by simp)
    have hp : 0 < 10 ^ b.length := Nat.pow_pos (by decide)
    have e1 : x.toNat - 48 = y.toNat - 48 := by
      have q1 : ((x.toNat - 48) * 10 ^ b.length + numV a) / 10 ^ b.length = x.toNat - 48 := by
        rw [Nat.mul_comm, Nat.mul_add_div hp, Nat.div_eq_of_lt h1, Nat.add_zero]
      have q2 : ((y.toNat - 48) * 10 ^ b.length + numV b) / 10 ^ b.length = y.toNat - 48 := by
        rw [Nat.mul_comm, Nat.mul_add_div hp, Nat.div_eq_of_lt h2, Nat.add_zero]
      rw [← q1, ← q2, e]
    have e2 : x = y := UInt8.toNat_inj.1 (by omega)
    subst e2
    rw [numV_inj8 a b ha' hb' hl (by omega)]

/-- The digits of a number as Num writes them. -/
def Canon8 (n : Nat) (d : List UInt8) : Prop := Digits d ∧ numV d = n ∧ 0 < d.length ∧ d.length ≤ 8 ∧ (d.length ≤ 1 ∨ 10 ^ (d.length - 1) ≤ n)
theorem canon8_len {n : Nat} {a b : List UInt8} (ha : Canon8 n a) (hb : Canon8 n b) : ¬ a.length < b.length := by
  intro h
  have h1 := numV_lt a ha.1
  rw [ha.2.1] at h1
  rcases hb.2.2.2.2 with h2 | h2
  · have := ha.2.2.1; omega
  · have : 10 ^ a.length ≤ 10 ^ (b.length - 1) := Nat.pow_le_pow_right (by decide) (by omega)
    omega
theorem canon8_unique {n : Nat} {a b : List UInt8} (ha : Canon8 n a) (hb : Canon8 n b) : a = b := by
  have h1 := canon8_len ha hb
  have h2 := canon8_len hb ha
  exact numV_inj8 a b ha.1 hb.1 (by omega) (by rw [ha.2.1, hb.2.1])
open Classical in
noncomputable def numD8 (n : Nat) : List UInt8 := if h : ∃ d, Canon8 n d then Classical.choose h else []
theorem numD8_eq {n : Nat} {d : List UInt8} (h : Canon8 n d) : numD8 n = d := by
  unfold numD8
  have he : ∃ d, Canon8 n d := ⟨d, h⟩
  rw [dif_pos he]
  exact canon8_unique (Classical.choose_spec he) h
theorem num8_d (n : Nat) (w : World) (hn : n < 100000000) : Calls Tryz.prog 7 #[.int .i64 (n : Int), .int .i64 1] w fun e w' => (e = .returned (.string (bs (numD8 n))) ∧ Canon8 n (numD8 n)) ∧ w = w' := by
  refine (num8_c n w hn).mono ?_
  rintro e w' ⟨⟨d, rfl, h1, h2, h3, h4, h5⟩, rfl⟩
  have hc : Canon8 n d := ⟨h1, h2, h3, h4, h5⟩
  rw [numD8_eq hc]
  exact ⟨⟨rfl, hc⟩, rfl⟩
theorem canon8_ex : ∀ n, n < 100000000 → ∃ d, Canon8 n d := by
  intro n
  induction n using Nat.strongRecOn with
  | _ n ih =>
    intro hn
    by_cases h : n < 10
    · have hb := digB_nat n h
      refine ⟨[digB n], ?_, ?_, by simp, by simp, by simp⟩
      · intro c hc; simp at hc; subst hc; omega
      · simp [numV, hb]
    · obtain ⟨d, h1, h2, h3, h4, h5⟩ := ih (n / 10) (by omega) (by omega)
      have hb := digB_nat (n % 10) (Nat.mod_lt _ (by decide))
      have hl : d.length ≤ 7 := by
        rcases h5 with h5 | h5
        · omega
        · have hlt : 10 ^ (d.length - 1) < 10 ^ 7 := by
            have : n / 10 < 10000000 := by omega
            omega
          have := (Nat.pow_lt_pow_iff_right (by decide : 1 < 10)).1 hlt
          omega
      refine ⟨d ++ [digB (n % 10)], ?_, ?_, by simp, by simp; omega, ?_⟩
      · intro c hc
        rcases List.mem_append.1 hc with hc | hc
        · exact h1 c hc
        · simp at hc; subst hc; omega
      · rw [numV_snoc, h2, hb]; omega
      · right
        rw [List.length_append, List.length_singleton, Nat.add_sub_cancel]
        have e : 10 ^ d.length = 10 ^ (d.length - 1) * 10 := by rw [← Nat.pow_succ]; congr 1; omega
        rw [e]
        rcases h5 with h5 | h5
        · have : d.length - 1 = 0 := by omega
          rw [this]; omega
        · omega
theorem canon8_numD8 (n : Nat) (hn : n < 100000000) : Canon8 n (numD8 n) := by
  obtain ⟨d, h⟩ := canon8_ex n hn
  rw [numD8_eq h]; exact h
end Go.Proofs.YtfajckkbinbpiaaGreatDoor
namespace Go.Proofs.YtfajckkbinbpiaaGreatDoor
open Go.RowKit
set_option linter.unusedVariables false
set_option linter.unusedSimpArgs false

/-- A number of the row as the statement reads it. -/
structure Itm where
  k : Nat
  x : Nat
  y : Nat
def itmOf (e : Int) : Itm := ⟨(e % 4).toNat, ((e / 256) % 4096).toNat, ((e / 16777216) % 4096).toNat⟩
def Itm.Ok (i : Itm) : Prop := i.k ≤ 3 ∧ i.x ≤ 4095 ∧ i.y ≤ 4095
theorem itmOf_ok (e : Int) : (itmOf e).Ok := by unfold Itm.Ok itmOf; simp only; omega
def Md.f : Md → Nat
  | .inch => 1
  | .mm => 2540
noncomputable def grI (m : Md) (i : Itm) : Gr := if i.k = 1 then .op2 (numD8 (m.f * i.x)) (numD8 (m.f * i.y)) else if i.k = 2 then .op3 (numD8 (m.f * i.x)) (numD8 (m.f * i.y)) else .op1 (numD8 (m.f * i.x)) (numD8 (m.f * i.y))
def Md.head : Md → List Gr
  | .inch => [.fs, .inch, .adi, .d10]
  | .mm => [.fs6, .mo, .adm, .d10]
noncomputable def gsI (m : Md) (l : List Itm) : List Gr := m.head ++ l.map (grI m) ++ [.m02]
theorem canon_fits (m : Md) (x : Nat) (hx : x ≤ 4095) : m.Fits (numD8 (m.f * x)) ∧ m.co (numD8 (m.f * x)) = 25400 * (x : Int) := by
  cases m
  · have hc := canon8_numD8 (Md.f .inch * x) (by show 1 * x < _; omega)
    obtain ⟨h1, h2, h3, h4, h5⟩ := hc
    have e : Md.f .inch * x = x := by show 1 * x = x; omega
    rw [e] at h1 h2 h3 h4 h5 ⊢
    refine ⟨⟨h1, h3, ?_, by omega⟩, by show ((numV (numD8 x) * 25400 : Nat) : Int) = 25400 * (x : Int); rw [h2]; omega⟩
    rcases h5 with h5 | h5
    · omega
    · have hlt : 10 ^ ((numD8 x).length - 1) < 10 ^ 4 := by
        have : x < 10 ^ 4 := by omega
        omega
      have := (Nat.pow_lt_pow_iff_right (by decide : 1 < 10)).1 hlt
      omega
  · have hc := canon8_numD8 (Md.f .mm * x) (by show 2540 * x < _; omega)
    obtain ⟨h1, h2, h3, h4, h5⟩ := hc
    have e : Md.f .mm * x = 2540 * x := rfl
    rw [e] at h1 h2 h3 h4 h5 ⊢
    exact ⟨⟨h1, h3, h4, by omega⟩, by show (numV (numD8 (2540 * x)) : Int) * 10 = 25400 * (x : Int); rw [h2]; omega⟩
theorem grI_ok (m : Md) (i : Itm) (h : i.Ok) : (grI m i).Ok := by
  obtain ⟨_, hx, hy⟩ := h
  have g : ∀ x, x ≤ 4095 → Digits (numD8 (m.f * x)) ∧ 0 < (numD8 (m.f * x)).length ∧ (numD8 (m.f * x)).length ≤ 8 ∧ numV (numD8 (m.f * x)) ≤ 53687091 := fun x hx => by
    have hb : m.f * x < 100000000 := by cases m; show 1 * x < _; omega; show 2540 * x < _; omega
    have hv : m.f * x ≤ 53687091 := by cases m; show 1 * x ≤ _; omega; show 2540 * x ≤ _; omega
    obtain ⟨h1, h2, h3, h4, _⟩ := canon8_numD8 (m.f * x) hb
    exact ⟨h1, h3, h4, by omega⟩
  unfold grI
  split
  · exact ⟨g _ hx, g _ hy⟩
  · split
    · exact ⟨g _ hx, g _ hy⟩
    · exact ⟨g _ hx, g _ hy⟩
theorem gsI_ok (m : Md) (l : List Itm) (h : ∀ i ∈ l, i.Ok) : ∀ g ∈ gsI m l, g.Ok := by
  intro g hg
  unfold gsI at hg
  simp only [List.mem_append, List.mem_map, List.mem_cons, List.not_mem_nil, or_false] at hg
  rcases hg with (hg | ⟨i, hi, rfl⟩) | rfl
  · cases m <;> (simp only [Md.head, List.mem_cons, List.not_mem_nil, or_false] at hg; rcases hg with rfl | rfl | rfl | rfl <;> trivial)
  · exact grI_ok m i (h i hi)
  · trivial
theorem gsI_len (m : Md) (l : List Itm) : (gsI m l).length = l.length + 5 := by unfold gsI; cases m <;> simp [Md.head] <;> omega
/-- What is drawn, from a place on. -/
def drawI : Int → Int → List Itm → List IOb
  | _, _, [] => []
  | x, y, i :: r => (if i.k = 1 then [] else if i.k = 2 then [.disc (25400 * (i.x : Int)) (25400 * (i.y : Int))] else [.line x y (25400 * (i.x : Int)) (25400 * (i.y : Int))]) ++ drawI (25400 * (i.x : Int)) (25400 * (i.y : Int)) r
theorem drawI_len : ∀ (l : List Itm) (x y : Int), (drawI x y l).length ≤ l.length
  | [], _, _ => by simp [drawI]
  | i :: r, x, y => by
    have h := drawI_len r (25400 * (i.x : Int)) (25400 * (i.y : Int))
    unfold drawI
    split
    · simp; omega
    · split <;> simp <;> omega
def IOb.In : IOb → Prop
  | .disc x y => (0 ≤ x ∧ x ≤ 230000000) ∧ (0 ≤ y ∧ y ≤ 230000000)
  | .line x y a b => (0 ≤ x ∧ x ≤ 230000000) ∧ (0 ≤ y ∧ y ≤ 230000000) ∧ (0 ≤ a ∧ a ≤ 230000000) ∧ (0 ≤ b ∧ b ≤ 230000000)
theorem drawI_in : ∀ (l : List Itm) (x y : Int), (∀ i ∈ l, i.Ok) → (0 ≤ x ∧ x ≤ 230000000) → (0 ≤ y ∧ y ≤ 230000000) → ∀ o ∈ drawI x y l, o.In
  | [], _, _, _, _, _, o, ho => by simp [drawI] at ho
  | i :: r, x, y, h, hx, hy, o, ho => by
    obtain ⟨_, h1, h2⟩ := h i (by simp)
    have ih := drawI_in r (25400 * (i.x : Int)) (25400 * (i.y : Int)) (fun j hj => h j (by simp [hj])) (by omega) (by omega)
    unfold drawI at ho
    rcases List.mem_append.1 ho with ho | ho
    · split at ho
      · simp at ho
      · split at ho
        · simp only [List.mem_cons, List.not_mem_nil, or_false] at ho
          subst ho
          exact ⟨by omega, by omega⟩
        · simp only [List.mem_cons, List.not_mem_nil, or_false] at ho
          subst ho
          exact ⟨hx, hy, by omega, by omega⟩
    · exact ih o ho
theorem runs_ops (m : Md) : ∀ (l : List Itm) (x y : Int) (obs : List IOb), (∀ i ∈ l, i.Ok) → (0 ≤ x ∧ x ≤ 230000000) → (0 ≤ y ∧ y ≤ 230000000) → obs.length + l.length < 100 → ∃ x' y', ISt.Runs m ⟨4, x, y, obs, false⟩ (l.map (grI m) ++ [.m02]) ⟨4, x', y', obs ++ drawI x y l, true⟩
  | [], x, y, obs, _, _, _, _ => ⟨x, y, by simp only [List.map_nil, List.nil_append, drawI, List.append_nil]; exact .cons ⟨rfl, rfl⟩ .nil⟩
  | i :: r, x, y, obs, h, hx, hy, hl => by
    obtain ⟨hk, h1, h2⟩ := h i (by simp)
    obtain ⟨fa, ea⟩ := canon_fits m i.x h1
    obtain ⟨fb, eb⟩ := canon_fits m i.y h2
    have hr : ∀ j ∈ r, j.Ok := fun j hj => h j (by simp [hj])
    simp only [List.length_cons] at hl
    rw [List.map_cons, List.cons_append]
    unfold grI
    by_cases k1 : i.k = 1
    · obtain ⟨x', y', hR⟩ := runs_ops m r (25400 * (i.x : Int)) (25400 * (i.y : Int)) obs hr (by omega) (by omega) (by omega)
      refine ⟨x', y', ?_⟩
      rw [if_pos k1, drawI, if_pos k1, List.nil_append]
      refine .cons ⟨⟨rfl, rfl⟩, ⟨fa, fb⟩, by show obs.length < 100; omega, hx, hy⟩ ?_
      simp only [ISt.act, ea, eb]
      exact hR
    · by_cases k2 : i.k = 2
      · obtain ⟨x', y', hR⟩ := runs_ops m r (25400 * (i.x : Int)) (25400 * (i.y : Int)) (obs ++ [.disc (25400 * (i.x : Int)) (25400 * (i.y : Int))]) hr (by omega) (by omega) (by simp; omega)
        refine ⟨x', y', ?_⟩
        rw [if_neg k1, if_pos k2, drawI, if_neg k1, if_pos k2, ← List.append_assoc]
        refine .cons ⟨⟨rfl, rfl⟩, ⟨fa, fb⟩, by show obs.length < 100; omega, hx, hy⟩ ?_
        simp only [ISt.act, ea, eb]
        exact hR
      · obtain ⟨x', y', hR⟩ := runs_ops m r (25400 * (i.x : Int)) (25400 * (i.y : Int)) (obs ++ [.line x y (25400 * (i.x : Int)) (25400 * (i.y : Int))]) hr (by omega) (by omega) (by simp; omega)
        refine ⟨x', y', ?_⟩
        rw [if_neg k1, if_neg k2, drawI, if_neg k1, if_neg k2, ← List.append_assoc]
        refine .cons ⟨⟨rfl, rfl⟩, ⟨fa, fb⟩, by show obs.length < 100; omega, hx, hy⟩ ?_
        simp only [ISt.act, ea, eb]
        exact hR
theorem runs_I (m : Md) (l : List Itm) (h : ∀ i ∈ l, i.Ok) (hl : l.length ≤ 20) : ∃ t, ISt.start.Runs m (gsI m l) t ∧ t.ended = true ∧ t.objs = drawI 0 0 l := by
  obtain ⟨x', y', hR⟩ := runs_ops m l 0 0 [] h (by omega) (by omega) (by simp; omega)
  rw [List.nil_append] at hR
  refine ⟨⟨4, x', y', drawI 0 0 l, true⟩, ?_, rfl, rfl⟩
  unfold gsI
  rw [List.append_assoc]
  cases m
  · exact .cons ⟨rfl, rfl⟩ (.cons ⟨rfl, rfl⟩ (.cons ⟨rfl, rfl⟩ (.cons rfl hR)))
  · exact .cons ⟨rfl, rfl⟩ (.cons ⟨rfl, rfl⟩ (.cons ⟨rfl, rfl⟩ (.cons rfl hR)))
/-- The file of a text: what it draws is the same in both units. -/
theorem inches_file (m : Md) (l : List Itm) (h : ∀ i ∈ l, i.Ok) (hl : l.length ≤ 20) (w : World) :
    Calls Tryz.prog 13 #[.string (bs (texts (gsI m l))), .int .i64 300] w fun e w' => ∃ v0, e = .returned (.tuple #[v0, .int .i64 0, .int .i64 0]) ∧ w'.ownsRow w.heap.size 65 11 v0 (drawI 0 0 l).length (iocells (drawI 0 0 l)) ∧ Below w.heap.size w w' := by
  obtain ⟨t, hr, he, ht⟩ := runs_I m l h hl
  have hf := file_i m (gsI m l) t (gsI_ok m l h) hr he (by rw [gsI_len]; omega) (by intro e; have := gsI_len m l; rw [e] at this; simp at this) w
  rw [ht] at hf
  exact hf
end Go.Proofs.YtfajckkbinbpiaaGreatDoor
namespace Go.Proofs.YtfajckkbinbpiaaGreatDoor
open Go.RowKit
set_option linter.unusedVariables false
set_option linter.unusedSimpArgs false

theorem pix_at {w : World} {B : Nat} {g N c : Nat} {f : Nat → Int × Int} (h : w.ownsRow B 5 1 (.slice (some ⟨g, 0, none⟩) N c) N (pixB f N)) (i : Nat) (hi : i < N) : w.cell? ⟨g, 0 + i, none⟩ = some (.int .u8 (((List.range N).map fun m => Mx.byteOf (f m).1 (f m).2).getD i 0)) := by
  rw [Nat.zero_add, h.cellAt i (by omega)]
  simp [pixB, List.getD, hi]
set_option maxRecDepth 100000 in
set_option maxHeartbeats 4000000 in
theorem same_i (a h : Int) (g1 c1 g2 c2 N B1 B2 : Nat) (f : Nat → Int × Int) (w : World) (h1 : w.ownsRow B1 5 1 (.slice (some ⟨g1, 0, none⟩) N c1) N (pixB f N)) (h2 : w.ownsRow B2 5 1 (.slice (some ⟨g2, 0, none⟩) N c2) N (pixB f N)) :
    Calls Tryz.prog 10 #[.agg #[.int .i64 a, .int .i64 h, .bool true, .slice (some ⟨g1, 0, none⟩) N c1], .agg #[.int .i64 a, .int .i64 h, .bool true, .slice (some ⟨g2, 0, none⟩) N c2]] w fun e w' => e = .returned (.bool true) ∧ Below w.heap.size w w' := by
  have H1 := Lib.hid h1
  have H2 := Lib.hid h2
  obtain ⟨u, eu⟩ : ∃ u, (w.alloc (.cells #[.int .i64 a, .int .i64 h, .bool true, .slice (some ⟨g1, 0, none⟩) N c1] 37)).alloc (.cells #[.int .i64 a, .int .i64 h, .bool true, .slice (some ⟨g2, 0, none⟩) N c2] 37) = u := ⟨_, rfl⟩
  have B0 : Below w.heap.size w u := by rw [← eu]; (repeat' (first | (with_reducible exact Below.refl _ _) | (with_reducible assumption) | (with_reducible refine below_drewN ?_ _) | (with_reducible refine Below.drew ?_) | (with_reducible refine Below.alloc ?_ ?_ _) | (with_reducible refine Below.setCell ?_ ?_ _) | omega | (simp; done) | (simp; omega)))
  have k1 : Blk u w.heap.size 37 #[.int .i64 a, .int .i64 h, .bool true, .slice (some ⟨g1, 0, none⟩) N c1] := by rw [← eu]; (repeat' (first | (with_reducible assumption) | (with_reducible exact Blk.new _ _ _) | (exact Blk.newAt (by first | rfl | (simp; done) | omega)) | (with_reducible refine Blk.drewN ?_ _) | (with_reducible refine Blk.drew ?_) | (with_reducible refine Blk.alloc ?_ _) | (with_reducible apply Blk.set_) | (with_reducible refine Blk.far ?_ ?_ _) | rfl | omega | (simp; done) | (simp; omega)))
  have k2 : Blk u (w.heap.size + 1) 37 #[.int .i64 a, .int .i64 h, .bool true, .slice (some ⟨g2, 0, none⟩) N c2] := by rw [← eu]; (repeat' (first | (with_reducible assumption) | (with_reducible exact Blk.new _ _ _) | (exact Blk.newAt (by first | rfl | (simp; done) | omega)) | (with_reducible refine Blk.drewN ?_ _) | (with_reducible refine Blk.drew ?_) | (with_reducible refine Blk.alloc ?_ _) | (with_reducible apply Blk.set_) | (with_reducible refine Blk.far ?_ ?_ _) | rfl | omega | (simp; done) | (simp; omega)))
  obtain ⟨S, eS⟩ : ∃ S, strOfNums ((List.range N).map fun m => Mx.byteOf (f m).1 (f m).2) = S := ⟨_, rfl⟩
  have o1 := own_below h1 B0 (Nat.le_refl _)
  have o2 := own_below h2 B0 (Nat.le_refl _)
  have q1 : (convert 35 9 (.slice (some ⟨g1, 0, none⟩) N c1)).run Tryz.prog u = .ok (.string S) u := by rw [← eS]; exact run_convert_bytes_arg (P := Tryz.prog) u 35 5 Tryz.underlying35 Tryz.underlying5 g1 0 N c1 _ (by simp) (fun i hi => pix_at o1 i hi) 9 Tryz.underlying9
  have q2 : (convert 35 9 (.slice (some ⟨g2, 0, none⟩) N c2)).run Tryz.prog u = .ok (.string S) u := by rw [← eS]; exact run_convert_bytes_arg (P := Tryz.prog) u 35 5 Tryz.underlying35 Tryz.underlying5 g2 0 N c2 _ (by simp) (fun i hi => pix_at o2 i hi) 9 Tryz.underlying9
  have c1' := k1.cell
  have l1 := k1.lt
  have c2' := k2.cell
  have l2 := k2.lt
  have HB := Lib.hid B0
  have hSS : (S.toList == S.toList) = true := by simp
  clear k1 k2 o1 o2 h1 h2 eS B0 c1' l1 c2' l2
  subst eu
  go_enter Tryz.func10, Tryz.ntmps10
  go_wp2_with fail
  go_ret
  exact ⟨rfl, HB.out⟩
set_option maxRecDepth 100000 in
set_option maxHeartbeats 4000000 in
theorem same_none (w : World) : Calls Tryz.prog 10 #[.agg #[.int .i64 0, .int .i64 0, .bool false, .slice none 0 0], .agg #[.int .i64 0, .int .i64 0, .bool false, .slice none 0 0]] w fun e w' => e = .returned (.bool true) ∧ Below w.heap.size w w' := by
  have q1 : ∀ u, (convert 35 9 (.slice none 0 0)).run Tryz.prog u = .ok (.string ByteArray.empty) u := fun u => run_convert_bytes_nil (P := Tryz.prog) u 35 5 Tryz.underlying35 Tryz.underlying5 0 0 9 Tryz.underlying9
  go_enter Tryz.func10, Tryz.ntmps10
  go_wp2_with fail
  go_ret
  exact ⟨rfl, by (repeat' (first | (with_reducible exact Below.refl _ _) | (with_reducible assumption) | (with_reducible refine below_drewN ?_ _) | (with_reducible refine Below.drew ?_) | (with_reducible refine Below.alloc ?_ ?_ _) | (with_reducible refine Below.setCell ?_ ?_ _) | omega | (simp; done) | (simp; omega)))⟩
end Go.Proofs.YtfajckkbinbpiaaGreatDoor
