/- A walk: heliographlaw14.WordBounds returns true. -/
import Derived.Test.YtgbkanbahclnhaaWordSame
import Derived.Test.YtgbkanbahclnhaaWordBoundsLaw
import Derived.Laws.Concat
namespace Go.Proofs.Ytgbkanbahclnhaa
open Go.RowKit
set_option linter.unusedVariables false

theorem mask (j : Nat) (hj : j ≤ 62) (m : Int) (hm : (BitVec.ofInt 64 m).toNat = 2 ^ j - 1) (n : Int) : bits .and .i64 n m = n % (2 ^ j : Nat) := by
  have key : (BitVec.ofInt 64 n &&& BitVec.ofInt 64 m).toNat = (n % ((2 ^ 64 : Nat) : Int)).toNat % 2 ^ j := by
    rw [BitVec.toNat_and, BitVec.toNat_ofInt, hm, Nat.and_two_pow_sub_one_eq_mod]
  show IntKind.i64.wrap ((BitVec.ofInt 64 n &&& BitVec.ofInt 64 m).toNat : Nat) = n % (2 ^ j : Nat)
  have hd : (2 ^ j : Nat) ∣ 2 ^ 64 := Nat.pow_dvd_pow 2 (by omega)
  have hp : 0 < 2 ^ j := Nat.two_pow_pos j
  have hlt : 2 ^ j ≤ 2 ^ 62 := Nat.pow_le_pow_right (by decide) hj
  have h0 : 0 ≤ n % ((2 ^ 64 : Nat) : Int) := Int.emod_nonneg _ (by decide)
  have e : (((n % ((2 ^ 64 : Nat) : Int)).toNat % 2 ^ j : Nat) : Int) = n % ((2 ^ j : Nat) : Int) := by
    rw [Int.natCast_emod, Int.toNat_of_nonneg h0]
    exact Int.emod_emod_of_dvd _ (by exact_mod_cast hd)
  rw [key, e, IntKind.wrap_i64]
  have h1 : 0 ≤ n % ((2 ^ j : Nat) : Int) := Int.emod_nonneg _ (by omega)
  have h2 : n % ((2 ^ j : Nat) : Int) < ((2 ^ j : Nat) : Int) := Int.emod_lt_of_pos _ (by omega)
  omega
theorem mask1 (n : Int) : bits .and .i64 n 1 = n % 2 := mask 1 (by decide) 1 (by decide) n
theorem M31 (n : Int) : bits .and .i64 n 31 = n % 32 := mask 5 (by decide) 31 (by decide) n
/-- A row of N bytes of which k have been written, those of l. -/
def part (l : List UInt8) (N k : Nat) : List Value := tcells (l.take k) ++ List.replicate (N - k) (.int .u8 0)
theorem part_zero (l : List UInt8) (N : Nat) : part l N 0 = List.replicate N (.int .u8 0) := by simp [part, tcells]
theorem part_all (l : List UInt8) (N : Nat) (h : l.length = N) : part l N N = tcells l := by subst h; simp [part]
theorem part_at (l : List UInt8) (N k : Nat) (h : l.length = N) (hk : k < N) : (part l N k)[k]? = some (.int .u8 0) := by
  unfold part
  have e1 : (tcells (l.take k)).length = k := by simp [tcells]; omega
  rw [List.getElem?_append_right (by omega), e1, Nat.sub_self, List.getElem?_replicate, if_pos (by omega)]
theorem part_set (l : List UInt8) (N k : Nat) (c : UInt8) (h : l.length = N) (hk : k < N) (hc : l[k]? = some c) : (part l N k).set k (.int .u8 (c.toNat : Int)) = part l N (k + 1) := by
  unfold part
  have e1 : (tcells (l.take k)).length = k := by simp [tcells]; omega
  rw [List.set_append_right _ _ (by omega), e1, Nat.sub_self]
  rw [show N - k = (N - (k + 1)) + 1 by omega, List.replicate_succ]
  simp only [List.set_cons_zero]
  rw [List.take_add_one, hc]
  simp [tcells]
theorem bs_append (a b : List UInt8) : bs a ++ bs b = bs (a ++ b) := by
  apply ByteArray.ext
  simp [bs]

set_option maxRecDepth 100000 in
set_option maxHeartbeats 4000000 in
theorem bounds_c (n k : Int) (w : World) : Calls Try.prog 3 #[.int .i64 n, .int .i64 k] w fun e w' => e = .returned (.bool true) ∧ Below w.heap.size w w' := by
  have mn : bits .and .i64 n 31 = n % 32 := M31 n
  have mk : bits .and .i64 k 31 = k % 32 := M31 k
  obtain ⟨N, eN, N0, N1⟩ : ∃ N : Nat, 9990 + n % 32 = (N : Int) ∧ 9990 ≤ N ∧ N ≤ 10021 := ⟨(9990 + n % 32).toNat, by omega, by omega, by omega⟩
  obtain ⟨K, eK, K0, K1⟩ : ∃ N : Nat, 19990 + k % 32 = (N : Int) ∧ 19990 ≤ N ∧ N ≤ 20021 := ⟨(19990 + k % 32).toNat, by omega, by omega, by omega⟩
  have xn : 0 ≤ n % 32 ∧ n % 32 < 32 := by omega
  have xk : 0 ≤ k % 32 ∧ k % 32 < 32 := by omega
  obtain ⟨xn0, xn1⟩ := xn
  obtain ⟨xk0, xk1⟩ := xk
  obtain ⟨i5, hi5, hz0, hz1, hz2⟩ := info_parts info5
  have HI := Lib.hid (And.intro hi5 (And.intro hz0 (And.intro hz1 hz2)))
  have b5 : i5.bytes * N ≤ 281474976710656 := by rw [hz2]; omega
  have b5' : i5.bytes * (2 * K) ≤ 281474976710656 := by rw [hz2]; omega
  have b6 : N ≤ maxLen := by unfold maxLen; omega
  have b6' : 2 * K ≤ maxLen := by unfold maxLen; omega
  have HB := Lib.hid (And.intro b5 (And.intro b5' (And.intro b6 b6')))
  clear hi5 hz0 hz1 hz2 b5 b5' b6 b6'
  go_enter Try.func3, Try.ntmps3
  go_wp2_with (refine wpList_make_full _ rfl (.tmp 21) (.tmp 21) 22 rfl w.heap.size 5 i5 (.int .u8 0) 1 Try.underlying22 HI.out.1 HI.out.2.1 HI.out.2.2.1 .i64 .i64 (N : Int) (N : Int) N (by simp [Act.eval]) (by simp [Act.eval]) rfl rfl HB.out.1 HB.out.2.2.1 (Nat.le_refl _) ?_)
  intro w1 hown1 hgr1
  have hl1 : w.heap.size < w1.heap.size := (hown1.lt w.heap.size rfl).2
  have hB1 : Below w.heap.size w w1 := Below.grown (Below.refl _ _) hgr1 (Nat.le_refl _) (by simp)
  rw [toList_madeCells_one, ← part_zero (List.replicate N 120)] at hown1
  clear hgr1 mn mk eN eK xn0 xn1 xk0 xk1
  go_wp2_with fail
  go_loopw [25] (fun i wr => ∃ j : Nat, i = .int .i64 (j : Int) ∧ j ≤ N ∧ wr.ownsRow w.heap.size 5 1 (.slice (some ⟨w.heap.size, 0, none⟩) N N) N (part (List.replicate N 120) N j) ∧ Below w.heap.size w wr) (fun i _ => N - (intOf i).toNat)
  case atStart => exact ⟨0, rfl, by omega, hown1, hB1⟩
  case round =>
  obtain ⟨j, rfl, hj, hown, hB⟩ := hrel
  clear hown1 hB1 hl1
  have hlt : w.heap.size < wr.heap.size := (hown.lt w.heap.size rfl).2
  by_cases hjN : j < N
  · have d1 : decide ((j : Int) < (N : Int)) = true := by simp; omega
    have hj' : (j : Int) < (N : Int) := by omega
    have hc : wr.cell? ⟨w.heap.size, j, none⟩ = some (.int .u8 0) := by rw [hown.cellAt j (by omega)]; exact part_at _ _ _ (by simp) hjN
    have hf := hown.frozenAt j
    have hst := (hown.stored j (.int .u8 120)).1
    rw [show (Value.int .u8 120) = .int .u8 (((120 : UInt8).toNat : Nat) : Int) from rfl, part_set _ _ _ 120 (by simp) hjN (by rw [List.getElem?_replicate, if_pos hjN])] at hst
    have HST := Lib.hid hst
    clear hst hown HI HB
    as_aux_lemma =>
    go_wp2_with fail
    go_roundw
    case rel => exact ⟨j + 1, by simp, by omega, HST.out, Below.setCell hB (Nat.le_refl _) _⟩
    case measure => simp [intOf]; omega
  obtain rfl : N = j := by omega
  have d1 : decide ((N : Int) < (N : Int)) = false := by simp
  rw [part_all _ _ (by simp)] at hown
  have HA := Lib.hid hown
  have lB := hB.size
  clear hown hj hjN
  as_aux_lemma =>
  go_wp2_with (refine wpList_make_full _ rfl (.tmp 33) (.tmp 33) 22 rfl wr.heap.size 5 i5 (.int .u8 0) 1 Try.underlying22 HI.out.1 HI.out.2.1 HI.out.2.2.1 .i64 .i64 (2 * (K : Int)) (2 * (K : Int)) (2 * K) (by simp [Act.eval]) (by simp [Act.eval]) (by omega) (by omega) HB.out.2.1 HB.out.2.2.2 (Nat.le_refl _) ?_)
  intro w1 hown1 hgr1
  have hl1 : wr.heap.size < w1.heap.size := (hown1.lt wr.heap.size rfl).2
  have hB1 : Below wr.heap.size wr w1 := Below.grown (Below.refl _ _) hgr1 (Nat.le_refl _) (by simp)
  obtain ⟨M, eM⟩ : ∃ M, 2 * K = M := ⟨_, rfl⟩
  have eM' : 2 * (K : Int) = (M : Int) := by omega
  rw [toList_madeCells_one, ← part_zero (pairs K), eM] at hown1
  have HM := Lib.hid eM
  obtain ⟨G, eG⟩ : ∃ G, wr.heap.size = G := ⟨_, rfl⟩
  rw [eG] at hown1 hB1 hl1
  have M0 : M ≤ 40042 := by omega
  clear hgr1 HB HI
  have f0 : ∀ w, (Instr.index 9 (.string { data := #[120, 42] }) (.int .i64 0)).run Try.prog w = .ok (.int .u8 120) w := fun _ => by kernel_rfl
  have f1 : ∀ w, (Instr.index 9 (.string { data := #[120, 42] }) (.int .i64 1)).run Try.prog w = .ok (.int .u8 42) w := fun _ => by kernel_rfl
  go_wp2_with fail
  go_loopw [37] (fun i wx => ∃ j : Nat, i = .int .i64 (j : Int) ∧ j ≤ M ∧ wx.ownsRow G 5 1 (.slice (some ⟨G, 0, none⟩) M M) M (part (pairs K) M j) ∧ Below G wr wx) (fun i _ => M - (intOf i).toNat)
  case atStart => exact ⟨0, rfl, by omega, hown1, hB1⟩
  case round =>
  obtain ⟨j, rfl, hj, hown, hBx⟩ := hrel
  clear hown1 hB1 hl1
  have hlt : G < wr.heap.size := (hown.lt G rfl).2
  by_cases hjM : j < M
  · have d2 : decide ((j : Int) < (M : Int)) = true := by simp; omega
    have hj' : (j : Int) < (M : Int) := by omega
    have hc : wr.cell? ⟨G, j, none⟩ = some (.int .u8 0) := by rw [hown.cellAt j (by omega)]; exact part_at _ _ _ (by rw [pairs_length, HM.out]) hjM
    have hf := hown.frozenAt j
    have hm := mask1 (j : Int)
    have hpa := pairs_at K j (by rw [HM.out]; exact hjM)
    rcases Nat.mod_two_eq_zero_or_one j with hp | hp
    · have hm0 : bits .and .i64 (j : Int) 1 = 0 := by omega
      rw [if_pos hp] at hpa
      have hst := (hown.stored j (.int .u8 120)).1
      rw [show (Value.int .u8 120) = .int .u8 (((120 : UInt8).toNat : Nat) : Int) from rfl, part_set _ _ _ 120 (by rw [pairs_length, HM.out]) hjM hpa] at hst
      have HST := Lib.hid hst
      clear hst hown hm hpa hp HA
      as_aux_lemma =>
      go_wp2_with fail
      go_roundw
      case rel => exact ⟨j + 1, by simp, by omega, HST.out, Below.setCell hBx (Nat.le_refl _) _⟩
      case measure => simp [intOf]; omega
    · have hm0 : bits .and .i64 (j : Int) 1 = 1 := by omega
      rw [if_neg (by omega)] at hpa
      have hst := (hown.stored j (.int .u8 42)).1
      rw [show (Value.int .u8 42) = .int .u8 (((42 : UInt8).toNat : Nat) : Int) from rfl, part_set _ _ _ 42 (by rw [pairs_length, HM.out]) hjM hpa] at hst
      have HST := Lib.hid hst
      clear hst hown hm hpa hp HA
      as_aux_lemma =>
      go_wp2_with fail
      go_roundw
      case rel => exact ⟨j + 1, by simp, by omega, HST.out, Below.setCell hBx (Nat.le_refl _) _⟩
      case measure => simp [intOf]; omega
  obtain rfl : M = j := by omega
  have d2 : decide ((M : Int) < (M : Int)) = false := by simp
  rw [part_all _ _ (by rw [pairs_length, HM.out])] at hown
  have hb2 : Below w.heap.size w wr := hB.trans (hBx.mono (by omega))
  have hA2 : wr.ownsRow w.heap.size 5 1 (.slice (some ⟨w.heap.size, 0, none⟩) N N) N (tcells (List.replicate N 120)) := own_below HA.out hBx (by omega)
  have hl2 : G ≤ wr.heap.size := by omega
  have hBG := Lib.hid hown
  clear hBx HA hown hB hj hjM f0 f1
  obtain ⟨S1, eS1⟩ : ∃ x, bs (List.replicate N 120) = x := ⟨_, rfl⟩
  obtain ⟨S2, eS2⟩ : ∃ x, bs (List.replicate N 120 ++ [42]) = x := ⟨_, rfl⟩
  obtain ⟨T2, eT2⟩ : ∃ x, bs (pairs K) = x := ⟨_, rfl⟩
  have hz1 : S1.size = N := by rw [← eS1, bs_size]; simp
  have hcv1 : (convert 22 9 (.slice (some ⟨w.heap.size, 0, none⟩) N N)).run Try.prog wr = .ok (.string S1) wr := by
    have := conv_text (l := List.replicate N 120) (cap := N) (g := w.heap.size) (B := w.heap.size) (w := wr) (by rw [List.length_replicate]; exact hA2)
    rw [List.length_replicate, eS1] at this
    exact this
  have hadd : ∀ w, (Op.stringOp .add S1 { data := #[42] }).run Try.prog w = .ok (.string S2) w := by
    intro w
    rw [run_string_add_sum w S1 _ (by rw [hz1]; show N + 1 ≤ _; omega)]
    rw [← eS1, ← eS2]
    rw [← bs_append]
    rfl
  have c1 : ∀ w, Calls Try.prog 12 #[.string S2] w (WordsIs (List.replicate N 120 ++ [42]) w) := by intro w; rw [← eS2]; exact words_c _ w (by simp; omega)
  have c2 : ∀ w, Calls Try.prog 12 #[.string T2] w (WordsIs (pairs K) w) := by intro w; rw [← eT2]; exact words_c _ w (by rw [pairs_length]; omega)
  have hC1 := Lib.hid c1
  have hC2 := Lib.hid c2
  have HT2 := Lib.hid eT2
  have HS1 := Lib.hid eS1
  clear c1 c2 eT2 eS1 eS2 hA2
  as_aux_lemma =>
  go_wp2_with fail
  refine (hC1.out wr).mono ?_
  rintro e w4 hW
  have hW4 := hW
  clear hW hcv1 hadd
  by_cases hN : N ≤ 10000
  · obtain ⟨a, el⟩ := long_ok N (by omega) hN
    unfold WordsIs at hW4
    rw [el] at hW4
    obtain ⟨v1, rfl, hv1, hb4⟩ := hW4
    obtain ⟨q, cap1, rfl, -, hq⟩ := hv1.form (by simp)
    have hcell := row_cell hv1 rfl (k := 0) (by simp) 3 (by decide)
    have hcell' : w4.cell? ⟨q, 3, none⟩ = some (.string S1) := by rw [show (0 * 4 + 3 : Nat) = 3 by rfl] at hcell; rw [hcell, ← HS1.out]; rfl
    have hB4 : Below w.heap.size w w4 := hb2.trans (hb4.mono hb2.size)
    have hb4own := own_below hBG.out hb4 (Nat.le_refl _)
    have n1 : decide (10000 < (N : Int)) = false := by simp; omega
    have n2 : decide ((N : Int) ≤ 10000) = true := by simp; omega
    clear hv1 hcell hb4 el hBG HS1 hC1
    as_aux_lemma =>
    have hcv2 : (convert 22 9 (.slice (some ⟨G, 0, none⟩) M M)).run Try.prog w4 = .ok (.string T2) w4 := by
      have := conv_text (l := pairs K) (cap := M) (g := G) (B := G) (w := w4) (by rw [pairs_length, HM.out]; exact hb4own)
      rw [pairs_length, HM.out, HT2.out] at this
      exact this
    go_wp2_with fail
    refine (hC2.out w4).mono ?_
    rintro e w5 hW
    have hW5 := hW
    clear hW hcv2
    by_cases hK : K ≤ 20000
    · obtain ⟨l, el, ll⟩ := many_ok K hK
      unfold WordsIs at hW5
      rw [el] at hW5
      obtain ⟨v2, rfl, hv2, hb5⟩ := hW5
      rw [ll] at hv2
      obtain ⟨A2, cap2, rfl⟩ : ∃ A cap, v2 = .slice A K cap := by
        rcases hv2.2 with ⟨rfl, h0⟩ | ⟨g', cap, cur, rfl, _⟩
        · omega
        · exact ⟨_, cap, rfl⟩
      have hB5 : Below w.heap.size w w5 := hB4.trans (hb5.mono hB4.size)
      have hcell5 := (hb5.cell (p := ⟨q, 3, none⟩) (by exact hq)).trans hcell'
      have k1 : decide (20000 < (K : Int)) = false := by simp; omega
      have k2 : decide ((K : Int) ≤ 20000) = true := by simp; omega
      clear hv2 hb5 el ll hb4own HT2 hC2 HM
      as_aux_lemma =>
      go_wp2_with fail
      refine (awake14 _).mono ?_
      rintro e w6 ⟨rfl, hb⟩
      have hB6 : Below w.heap.size w w6 := hB5.trans (hb.mono hB5.size)
      go_wp2_with fail
      go_ret
      exact ⟨rfl, hB6⟩
    · have hno := many_no K (by omega) (by omega)
      unfold WordsIs at hW5
      rw [hno] at hW5
      obtain ⟨v2, rfl, hv2, hb5⟩ := hW5
      obtain ⟨A2, cap2, rfl⟩ : ∃ A cap, v2 = .slice A 0 cap := by
        rcases hv2.2 with ⟨rfl, h0⟩ | ⟨g', cap, cur, rfl, _⟩
        · exact ⟨none, 0, rfl⟩
        · exact ⟨_, cap, rfl⟩
      have hB5 : Below w.heap.size w w5 := hB4.trans (hb5.mono hB4.size)
      have hcell5 := (hb5.cell (p := ⟨q, 3, none⟩) (by exact hq)).trans hcell'
      have k1 : decide (20000 < (K : Int)) = true := by simp; omega
      have k2 : decide ((K : Int) ≤ 20000) = false := by simp; omega
      clear hv2 hb5 hno hb4own HT2 hC2 HM
      as_aux_lemma =>
      go_wp2_with fail
      refine (awake14 _).mono ?_
      rintro e w6 ⟨rfl, hb⟩
      have hB6 : Below w.heap.size w w6 := hB5.trans (hb.mono hB5.size)
      go_wp2_with fail
      go_ret
      exact ⟨rfl, hB6⟩
  · have hno := long_no N (by omega) (by omega)
    unfold WordsIs at hW4
    rw [hno] at hW4
    obtain ⟨v1, rfl, hv1, hb4⟩ := hW4
    obtain ⟨A1, cap1, rfl⟩ : ∃ A cap, v1 = .slice A 0 cap := by
      rcases hv1.2 with ⟨rfl, h0⟩ | ⟨g', cap, cur, rfl, _⟩
      · exact ⟨none, 0, rfl⟩
      · exact ⟨_, cap, rfl⟩
    have hB4 : Below w.heap.size w w4 := hb2.trans (hb4.mono hb2.size)
    have hb4own := own_below hBG.out hb4 (Nat.le_refl _)
    have n1 : decide (10000 < (N : Int)) = true := by simp; omega
    have n2 : decide ((N : Int) ≤ 10000) = false := by simp; omega
    clear hv1 hb4 hno hBG HS1 hC1
    as_aux_lemma =>
    have hcv2 : (convert 22 9 (.slice (some ⟨G, 0, none⟩) M M)).run Try.prog w4 = .ok (.string T2) w4 := by
      have := conv_text (l := pairs K) (cap := M) (g := G) (B := G) (w := w4) (by rw [pairs_length, HM.out]; exact hb4own)
      rw [pairs_length, HM.out, HT2.out] at this
      exact this
    go_wp2_with fail
    refine (hC2.out w4).mono ?_
    rintro e w5 hW
    have hW5 := hW
    clear hW hcv2
    by_cases hK : K ≤ 20000
    · obtain ⟨l, el, ll⟩ := many_ok K hK
      unfold WordsIs at hW5
      rw [el] at hW5
      obtain ⟨v2, rfl, hv2, hb5⟩ := hW5
      rw [ll] at hv2
      obtain ⟨A2, cap2, rfl⟩ : ∃ A cap, v2 = .slice A K cap := by
        rcases hv2.2 with ⟨rfl, h0⟩ | ⟨g', cap, cur, rfl, _⟩
        · omega
        · exact ⟨_, cap, rfl⟩
      have hB5 : Below w.heap.size w w5 := hB4.trans (hb5.mono hB4.size)
      have k1 : decide (20000 < (K : Int)) = false := by simp; omega
      have k2 : decide ((K : Int) ≤ 20000) = true := by simp; omega
      clear hv2 hb5 el ll hb4own HT2 hC2 HM
      as_aux_lemma =>
      go_wp2_with fail
      refine (awake14 _).mono ?_
      rintro e w6 ⟨rfl, hb⟩
      have hB6 : Below w.heap.size w w6 := hB5.trans (hb.mono hB5.size)
      go_wp2_with fail
      go_ret
      exact ⟨rfl, hB6⟩
    · have hno := many_no K (by omega) (by omega)
      unfold WordsIs at hW5
      rw [hno] at hW5
      obtain ⟨v2, rfl, hv2, hb5⟩ := hW5
      obtain ⟨A2, cap2, rfl⟩ : ∃ A cap, v2 = .slice A 0 cap := by
        rcases hv2.2 with ⟨rfl, h0⟩ | ⟨g', cap, cur, rfl, _⟩
        · exact ⟨none, 0, rfl⟩
        · exact ⟨_, cap, rfl⟩
      have hB5 : Below w.heap.size w w5 := hB4.trans (hb5.mono hB4.size)
      have k1 : decide (20000 < (K : Int)) = true := by simp; omega
      have k2 : decide ((K : Int) ≤ 20000) = false := by simp; omega
      clear hv2 hb5 hno hb4own HT2 hC2 HM
      as_aux_lemma =>
      go_wp2_with fail
      refine (awake14 _).mono ?_
      rintro e w6 ⟨rfl, hb⟩
      have hB6 : Below w.heap.size w w6 := hB5.trans (hb.mono hB5.size)
      go_wp2_with fail
      go_ret
      exact ⟨rfl, hB6⟩
end Go.Proofs.Ytgbkanbahclnhaa
