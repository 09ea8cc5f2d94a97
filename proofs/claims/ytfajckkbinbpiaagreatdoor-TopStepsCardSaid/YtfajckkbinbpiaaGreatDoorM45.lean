/- Walk: a number as digits. The digits of a number, as they are written: they are one. -/
import Derived.Test.YtfajckkbinbpiaaGreatDoorM02
namespace Go.Proofs.YtfajckkbinbpiaaGreatDoor
open Go.RowKit
set_option linter.unusedVariables false
set_option linter.unusedSimpArgs false

theorem numV_cons (c : UInt8) (d : List UInt8) : numV (c :: d) = (c.toNat - 48) * 10 ^ d.length + numV d := by
  suffices H : ∀ (l : List UInt8) (a : Nat), l.foldl (fun v c => v * 10 + (c.toNat - 48)) a = a * 10 ^ l.length + numV l by
    have := H d (c.toNat - 48)
    rw [← this]
    simp [numV]
  intro l
  induction l with
  | nil => intro a; simp [numV]
  | cons e l ih =>
    intro a
    have h1 := ih (a * 10 + (e.toNat - 48))
    have h2 := ih (e.toNat - 48)
    rw [List.foldl_cons, h1, show numV (e :: l) = l.foldl (fun v c => v * 10 + (c.toNat - 48)) (e.toNat - 48) by simp [numV], h2, List.length_cons, Nat.pow_succ]
    rw [Nat.add_mul, Nat.mul_assoc a 10, Nat.mul_comm 10]
    omega
/-- The digit of a number below ten. -/
def digB (k : Nat) : UInt8 := (48 + k).toUInt8
theorem digB_nat : ∀ k, k < 10 → (digB k).toNat = 48 + k := by decide
theorem digB_at : ∀ k, k < 10 → ({ data := #[48, 49, 50, 51, 52, 53, 54, 55, 56, 57] } : ByteArray).extract k (k + 1) = bs [digB k] := by
  intro k hk
  have : k = 0 ∨ k = 1 ∨ k = 2 ∨ k = 3 ∨ k = 4 ∨ k = 5 ∨ k = 6 ∨ k = 7 ∨ k = 8 ∨ k = 9 := by omega
  rcases this with rfl | rfl | rfl | rfl | rfl | rfl | rfl | rfl | rfl | rfl <;> rfl
/-- What stands behind a text while it is made: of n, m is still to come. -/
def NumIs (n : Nat) (m : Nat) (d : List UInt8) : Prop := Digits d ∧ m * 10 ^ d.length + numV d = n ∧ d.length ≤ 6 ∧ (d.length ≤ 1 ∨ 10 ^ (d.length - 1) ≤ n)
theorem numIs_start (n : Nat) : NumIs n n [] := ⟨by intro c h; simp at h, by simp [numV], by simp, by simp⟩
theorem numIs_step {n m : Nat} {d : List UInt8} (h : NumIs n m d) (hn : n < 1000000) (hm : 0 < m ∨ d.length < 1) : NumIs n (m / 10) (digB (m % 10) :: d) := by
  obtain ⟨h1, h2, h3, h4⟩ := h
  have hk : m % 10 < 10 := Nat.mod_lt _ (by decide)
  have hb := digB_nat _ hk
  refine ⟨?_, ?_, ?_, ?_⟩
  · intro c hc
    rcases List.mem_cons.1 hc with rfl | hc
    · omega
    · exact h1 c hc
  · rw [numV_cons, hb, List.length_cons, Nat.pow_succ]
    have e : m = 10 * (m / 10) + m % 10 := (Nat.div_add_mod m 10).symm
    have e2 : m * 10 ^ d.length = (m / 10) * (10 ^ d.length * 10) + (m % 10) * 10 ^ d.length := by
      conv => lhs; rw [e]
      rw [Nat.add_mul, Nat.mul_comm 10 (m / 10), Nat.mul_assoc, Nat.mul_comm 10]
    rw [show 48 + m % 10 - 48 = m % 10 by omega]
    omega
  · rw [List.length_cons]
    rcases hm with hm | hm
    · have : 10 ^ d.length ≤ m * 10 ^ d.length := Nat.le_mul_of_pos_left _ hm
      have hlt : 10 ^ d.length < 10 ^ 6 := by omega
      have := (Nat.pow_lt_pow_iff_right (by decide : 1 < 10)).1 hlt
      omega
    · omega
  · rw [List.length_cons]
    rcases hm with hm | hm
    · have : 10 ^ d.length ≤ m * 10 ^ d.length := Nat.le_mul_of_pos_left _ hm
      right
      rw [Nat.add_sub_cancel]
      omega
    · left; omega
set_option maxRecDepth 100000 in
set_option maxHeartbeats 2000000 in
theorem num_c (n : Nat) (w : World) (hn : n < 1000000) : Calls Tryz.prog 7 #[.int .i64 (n : Int), .int .i64 1] w fun e w' => (∃ d, e = .returned (.string (bs d)) ∧ Digits d ∧ numV d = n ∧ 0 < d.length ∧ d.length ≤ 6 ∧ (d.length ≤ 1 ∨ 10 ^ (d.length - 1) ≤ n)) ∧ w = w' := by
  have start := numIs_start n
  have ST := Lib.hid start
  clear start
  go_enter Tryz.func7, Tryz.ntmps7
  go_wp2_with fail
  go_loop [0, 5] (fun a s => ∃ (m : Nat) (d : List UInt8), a = .int .i64 (m : Int) ∧ s = .string (bs d) ∧ m ≤ n ∧ NumIs n m d) (fun a s => (intOf a).toNat + (match s with | .string b => 1 - b.size | _ => 0))
  case atStart => exact ⟨n, [], rfl, rfl, Nat.le_refl _, ST.out⟩
  case round =>
  obtain ⟨m, d, rfl, rfl, hm, hd⟩ := hrel
  have HD := Lib.hid hd
  have hl6 := hd.2.2.1
  obtain ⟨L, eL⟩ : ∃ L, d.length = L := ⟨_, rfl⟩
  have hsz : (bs d).size = L := by rw [bs_size, eL]
  clear hd
  by_cases hgo : 0 < m ∨ L < 1
  · have hnx := numIs_step HD.out hn (by rw [eL]; exact hgo)
    obtain ⟨k, ek⟩ : ∃ k, m % 10 = k := ⟨_, rfl⟩
    have hk : k < 10 := by omega
    rw [ek] at hnx
    have hat := digB_at k hk
    obtain ⟨E, eE⟩ : ∃ x, bs [digB k] = x := ⟨_, rfl⟩
    rw [eE] at hat
    obtain ⟨S, eS⟩ : ∃ x, bs d = x := ⟨_, rfl⟩
    obtain ⟨S2, eS2⟩ : ∃ x, bs ([digB k] ++ d) = x := ⟨_, rfl⟩
    have ha := fun w => add_lit [digB k] d E S2 eE eS2 (by simp) (by omega) w
    rw [eS] at ha hsz ⊢
    have hfix : E ++ S = S2 := by rw [← eE, ← eS, ← eS2]; exact bs_app _ _
    have HFX := Lib.hid hfix
    have hsz2 : S2.size = L + 1 := by rw [← eS2, bs_size]; simp; omega
    have e1 : ((m : Int) % 10) = (k : Int) := by omega
    have e3 : ((m : Int) / 10) = ((m / 10 : Nat) : Int) := by omega
    obtain ⟨q, eq⟩ : ∃ q, m / 10 = q := ⟨_, rfl⟩
    have hq : q ≤ m := by omega
    have hq2 : 0 < m → q < m := by omega
    rw [eq] at hnx e3
    have HN := Lib.hid hnx
    have HS2 := Lib.hid eS2
    have kz : (k : Int) ≤ 9 := by omega
    have hk2 : k ≤ k + 1 := by omega
    clear hnx eE eS eS2 HD eL hfix
    rcases Nat.eq_zero_or_pos m with h0 | hpos
    · have HAT := Lib.hid hat
      obtain rfl : q = 0 := by omega
      obtain rfl : k = 0 := by omega
      subst h0
      have hl1 : L < 1 := by omega
      have p2 : decide ((L : Int) < 1) = true := by simp; omega
      have HZ := Lib.hid hsz
      have HZ2 := Lib.hid hsz2
      clear e1 e3 ek eq ha hat hgo hsz2
      go_wp2_with fail
      go_round
      case rel => exact ⟨0, digB 0 :: d, rfl, by rw [HAT.out, HFX.out, ← HS2.out]; rfl, by omega, HN.out⟩
      case measure =>
        have h1 := HAT.out
        have h2 := HFX.out
        simp only [intOf, h1, h2]
        simp [HZ.out, HZ2.out]
        omega
    · clear ek eq
      have p1 : decide (0 < (m : Int)) = true := by simp; omega
      go_wp2_with fail
      go_round
      case rel => exact ⟨q, digB k :: d, rfl, by rw [← HS2.out]; rfl, by omega, HN.out⟩
      case measure => have := hq2 hpos; simp [intOf, hsz, hsz2]; omega
  · have p1 : decide (0 < (m : Int)) = false := by simp; omega
    have p2 : decide ((L : Int) < 1) = false := by simp; omega
    have hfin : ∃ d', Ending.returned (.string (bs d)) = .returned (.string (bs d')) ∧ Digits d' ∧ numV d' = n ∧ 0 < d'.length ∧ d'.length ≤ 6 ∧ (d'.length ≤ 1 ∨ 10 ^ (d'.length - 1) ≤ n) := by
      obtain ⟨h1, h2, h3⟩ := HD.out
      refine ⟨d, rfl, h1, ?_, by omega, h3⟩
      obtain rfl : m = 0 := by omega
      omega
    have HF := Lib.hid hfin
    clear hfin HD eL
    go_wp2_with fail
    go_ret
    exact ⟨HF.out, rfl⟩
end Go.Proofs.YtfajckkbinbpiaaGreatDoor
namespace Go.Proofs.YtfajckkbinbpiaaGreatDoor
open Go.RowKit
set_option linter.unusedVariables false
set_option linter.unusedSimpArgs false

/-- The digits of a number as Num writes them. -/
def Canon (n : Nat) (d : List UInt8) : Prop := Digits d ∧ numV d = n ∧ 0 < d.length ∧ d.length ≤ 6 ∧ (d.length ≤ 1 ∨ 10 ^ (d.length - 1) ≤ n)
theorem numV_inj : ∀ (a b : List UInt8), Digits a → Digits b → a.length = b.length → numV a = numV b → a = b
  | [], [], _, _, _, _ => rfl
  | [], _ :: _, _, _, h, _ => by simp at h
  | _ :: _, [], _, _, h, _ => by simp at h
  | x :: a, y :: b, ha, hb, h, e => by
    have hl : a.length = b.length := by simpa using h
    have ha' : Digits a := fun c hc => ha c (by simp [hc])
    have hb' : Digits b := fun c hc => hb c (by simp [hc])
    have h1 := numV_lt a ha'
    have h2 := numV_lt b hb'
    rw [numV_cons, numV_cons, hl] at e
    rw [hl] at h1
    have hx := ha x (by simp)
    have hy := hb y (by simp)
    have hp : 0 < 10 ^ b.length := Nat.pow_pos (by decide)
    have e1 : x.toNat - 48 = y.toNat - 48 := by
      have q1 : ((x.toNat - 48) * 10 ^ b.length + numV a) / 10 ^ b.length = x.toNat - 48 := by
        rw [Nat.mul_comm, Nat.mul_add_div hp, Nat.div_eq_of_lt h1, Nat.add_zero]
      have q2 : ((y.toNat - 48) * 10 ^ b.length + numV b) / 10 ^ b.length = y.toNat - 48 := by
        rw [Nat.mul_comm, Nat.mul_add_div hp, Nat.div_eq_of_lt h2, Nat.add_zero]
      rw [← q1, ← q2, e]
    have e2 : x = y := UInt8.toNat_inj.1 (by omega)
    subst e2
    rw [numV_inj a b ha' hb' hl (by omega)]
theorem canon_len {n : Nat} {a b : List UInt8} (ha : Canon n a) (hb : Canon n b) : ¬ a.length < b.length := by
  intro h
  have h1 := numV_lt a ha.1
  rw [ha.2.1] at h1
  rcases hb.2.2.2.2 with h2 | h2
  · have := ha.2.2.1; omega
  · have : 10 ^ a.length ≤ 10 ^ (b.length - 1) := Nat.pow_le_pow_right (by decide) (by omega)
    omega
theorem canon_unique {n : Nat} {a b : List UInt8} (ha : Canon n a) (hb : Canon n b) : a = b := by
  have h1 := canon_len ha hb
  have h2 := canon_len hb ha
  exact numV_inj a b ha.1 hb.1 (by omega) (by rw [ha.2.1, hb.2.1])
open Classical in
noncomputable def numD (n : Nat) : List UInt8 := if h : ∃ d, Canon n d then Classical.choose h else []
theorem numD_eq {n : Nat} {d : List UInt8} (h : Canon n d) : numD n = d := by
  unfold numD
  have he : ∃ d, Canon n d := ⟨d, h⟩
  rw [dif_pos he]
  exact canon_unique (Classical.choose_spec he) h
theorem num_d (n : Nat) (w : World) (hn : n < 1000000) : Calls Tryz.prog 7 #[.int .i64 (n : Int), .int .i64 1] w fun e w' => (e = .returned (.string (bs (numD n))) ∧ Canon n (numD n)) ∧ w = w' := by
  refine (num_c n w hn).mono ?_
  rintro e w' ⟨⟨d, rfl, h1, h2, h3, h4, h5⟩, rfl⟩
  have hc : Canon n d := ⟨h1, h2, h3, h4, h5⟩
  rw [numD_eq hc]
  exact ⟨⟨rfl, hc⟩, rfl⟩
theorem canon_ex : ∀ n, n < 1000000 → ∃ d, Canon n d := by
  intro n
  induction n using Nat.strongRecOn with
  | _ n ih =>
    intro hn
    by_cases h : n < 10
    · have hb := digB_nat n h
      refine ⟨[digB n], ?_, ?_, by simp, by simp, by simp⟩
      · intro c hc; simp at hc; subst hc; omega
      · simp [numV, hb]
    · obtain ⟨d, h1, h2, h3, h4, h5⟩ := ih (n / 10) (by omega) (by omega)
      have hb := digB_nat (n % 10) (Nat.mod_lt _ (by decide))
      have hl : d.length ≤ 5 := by
        rcases h5 with h5 | h5
        · omega
        · have hlt : 10 ^ (d.length - 1) < 10 ^ 5 := by
            have : n / 10 < 100000 := by omega
            omega
          have := (Nat.pow_lt_pow_iff_right (by decide : 1 < 10)).1 hlt
          omega
      refine ⟨d ++ [digB (n % 10)], ?_, ?_, by simp, by simp; omega, ?_⟩
      · intro c hc
        rcases List.mem_append.1 hc with hc | hc
        · exact h1 c hc
        · simp at hc; subst hc; omega
      · rw [numV_snoc, h2, hb]; omega
      · right
        rw [List.length_append, List.length_singleton, Nat.add_sub_cancel]
        have e : 10 ^ d.length = 10 ^ (d.length - 1) * 10 := by rw [← Nat.pow_succ]; congr 1; omega
        rw [e]
        rcases h5 with h5 | h5
        · have : d.length - 1 = 0 := by omega
          rw [this]; omega
        · omega
theorem canon_numD (n : Nat) (hn : n < 1000000) : Canon n (numD n) := by
  obtain ⟨d, h⟩ := canon_ex n hn
  rw [numD_eq h]; exact h
/-- A number below ten is one digit. -/
theorem canon_one {n : Nat} {d : List UInt8} (h : Canon n d) (hn : n < 10) : ∃ c, d = [c] ∧ 48 ≤ c.toNat ∧ c.toNat ≤ 57 ∧ c.toNat - 48 = n := by
  obtain ⟨h1, h2, h3, h4, h5⟩ := h
  have hl : d.length = 1 := by
    rcases h5 with h5 | h5
    · omega
    · by_cases h : d.length ≤ 1
      · omega
      · have : 10 ^ 1 ≤ 10 ^ (d.length - 1) := Nat.pow_le_pow_right (by decide) (by omega)
        omega
  match d, hl with
  | [c], _ =>
    have hc := h1 c (by simp)
    exact ⟨c, rfl, hc.1, hc.2, by simpa [numV] using h2⟩
end Go.Proofs.YtfajckkbinbpiaaGreatDoor
