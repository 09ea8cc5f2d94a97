/- A walk: heliographlaw14.WordLines returns true. -/
import Derived.Test.YtgbkanbahclnhaaWordLinesLaw
import Derived.Test.YtgbkanbahclnhaaWordTame
import Derived.Test.YtgbkanbahclnhaaWordSame
namespace Go.Proofs.Ytgbkanbahclnhaa
open Go.RowKit
set_option linter.unusedVariables false

theorem mask_ (j : Nat) (hj : j ≤ 62) (m : Int) (hm : (BitVec.ofInt 64 m).toNat = 2 ^ j - 1) (n : Int) : bits .and .i64 n m = n % (2 ^ j : Nat) := by
  have key : (BitVec.ofInt 64 n &&& BitVec.ofInt 64 m).toNat = (n % ((2 ^ 64 : Nat) : Int)).toNat % 2 ^ j := by
    rw [BitVec.toNat_and, BitVec.toNat_ofInt, hm, Nat.and_two_pow_sub_one_eq_mod]
  show IntKind.i64.wrap ((BitVec.ofInt 64 n &&& BitVec.ofInt 64 m).toNat : Nat) = n % (2 ^ j : Nat)
  have hd : (2 ^ j : Nat) ∣ 2 ^ 64 := Nat.pow_dvd_pow 2 (by omega)
  have hp : 0 < 2 ^ j := Nat.two_pow_pos j
  have hlt : 2 ^ j ≤ 2 ^ 62 := Nat.pow_le_pow_right (by decide) hj
  have h0 : 0 ≤ n % ((2 ^ 64 : Nat) : Int) := Int.emod_nonneg _ (by decide)
  have e : (((n % ((2 ^ 64 : Nat) : Int)).toNat % 2 ^ j : Nat) : Int) = n % ((2 ^ j : Nat) : Int) := by
    rw [Int.natCast_emod, Int.toNat_of_nonneg h0]
    exact Int.emod_emod_of_dvd _ (by exact_mod_cast hd)
  rw [key, e, IntKind.wrap_i64]
  have h1 : 0 ≤ n % ((2 ^ j : Nat) : Int) := Int.emod_nonneg _ (by omega)
  have h2 : n % ((2 ^ j : Nat) : Int) < ((2 ^ j : Nat) : Int) := Int.emod_lt_of_pos _ (by omega)
  omega
theorem mask65535 (n : Int) : bits .and .i64 n 65535 = n % 65536 := mask_ 16 (by decide) 65535 (by decide) n
theorem mask255 (n : Int) : bits .and .i64 n 255 = n % 256 := mask_ 8 (by decide) 255 (by decide) n

theorem bs_take (m : List UInt8) (p : Nat) : (bs m).extract 0 p = bs (m.take p) := by
  apply ByteArray.ext
  simp [bs]
theorem bs_drop (m : List UInt8) (p : Nat) : (bs m).extract p m.length = bs (m.drop p) := by
  apply ByteArray.ext
  simp only [bs, ByteArray.data_extract, List.extract_toArray, List.extract_eq_take_drop]
  rw [List.take_of_length_le (by rw [List.length_drop]; omega)]
theorem own_len' {w : World} {B : Nat} {e : TypeId} {size n : Nat} {v : Value} {xs : List Value} (h : w.ownsRow B e size v n xs) : n ≤ 9223372036854775807 := by
  rcases h.2 with ⟨_, h0⟩ | ⟨g, cap, cur, _, _, _, hn, hm, _⟩
  · omega
  · unfold maxLen at hm; omega
theorem bs_head (t : List UInt8) (c : UInt8) (hc : t.head? = some c) (h : 0 < (bs t).size) : ((bs t)[0]'h).toNat = c.toNat := by
  cases t with
  | nil => simp at hc
  | cons d t => simp at hc; subst hc; rfl
def NL (l : List UInt8) : Prop := l = [10] ∨ l = [13, 10] ∨ l = [13]
theorem nl_is {l : List UInt8} (h : NL l) : ∀ c ∈ l, c = 13 ∨ c = 10 := by rcases h with rfl | rfl | rfl <;> decide
theorem nl_len {l : List UInt8} (h : NL l) : l.length ≤ 2 := by rcases h with rfl | rfl | rfl <;> decide
theorem nl_at (j : Nat) (hj : j < 3) : ∃ l, NL l ∧ (#[.string { data := #[10] }, .string { data := #[13, 10] }, .string { data := #[13] }] : Array Value)[j]? = some (.string (bs l)) := by
  obtain rfl | rfl | rfl : j = 0 ∨ j = 1 ∨ j = 2 := by omega
  · exact ⟨[10], .inl rfl, rfl⟩
  · exact ⟨[13, 10], .inr (.inl rfl), rfl⟩
  · exact ⟨[13], .inr (.inr rfl), rfl⟩

set_option maxRecDepth 100000 in
set_option maxHeartbeats 8000000 in
theorem wordlines_c (s : List UInt8) (A : Option Addr) (len cap : Nat) (w : World) (hs : s.length ≤ 9223372036854775807) (hlen : len ≤ 9223372036854775807)
    (hA : ∀ j, j < len → ∃ ad z, A = some ad ∧ ad.block < w.heap.size ∧ w.cell? (ad.add j) = some (.int .i64 z)) :
    Calls Try.prog 5 #[.string (bs s), .slice A len cap] w fun e w' => e = .returned (.bool true) ∧ Below w.heap.size w w' := by
  have HA := Lib.hid hA
  clear hA
  obtain ⟨N, eN⟩ : ∃ N, s.length = N := ⟨_, rfl⟩
  have hsz : (bs s).size = N := by rw [bs_size, eN]
  rw [eN] at hs
  have tm := fun w => tame_c s w (by omega)
  obtain ⟨b, eb⟩ : ∃ b, bs s = b := ⟨_, rfl⟩
  rw [eb] at hsz tm ⊢
  have TM := Lib.hid tm
  clear eb tm
  by_cases hlong : 600 < N
  · have d0 : decide (600 < (N : Int)) = true := by simp; omega
    go_enter Try.func5, Try.ntmps5
    go_wp2_with fail
    refine (awake14 _).mono ?_
    rintro e w6 ⟨rfl, hb⟩
    go_wp2_with fail
    go_ret
    exact ⟨rfl, hb⟩
  have d0 : decide (600 < (N : Int)) = false := by simp; omega
  go_enter Try.func5, Try.ntmps5
  go_wp2_with fail
  refine (TM.out _).mono ?_
  rintro e w1 ⟨l, rfl, hl, hb⟩
  have hB1 : Below w.heap.size w w1 := hb
  clear hb
  go_wp2_with fail
  go_loopw [5, 6] (fun t i wr => ∃ (k : Nat) (m : List UInt8), i = .int .i64 (k : Int) ∧ t = .string (bs m) ∧ k ≤ 20 ∧ m.length ≤ 400 + 2 * k ∧ Grown l m ∧ Below w.heap.size w wr) (fun _ i _ => 20 - (intOf i).toNat)
  case atStart => exact ⟨0, l, rfl, rfl, by omega, by omega, Grown.refl l, hB1⟩
  case round =>
  obtain ⟨k, m, rfl, rfl, hk, hm, hgr, hB⟩ := hrel
  have lB := hB.size
  by_cases hk1 : k < len ∧ k < 20
  · obtain ⟨hk1, hk2⟩ := hk1
    have d1 : decide ((k : Int) < (len : Int)) = true := by simp; omega
    have d2 : decide ((k : Int) < 20) = true := by simp; omega
    have d3 : (k : Int) < (len : Int) := by omega
    obtain ⟨ad, z, rfl, had, hcell⟩ := HA.out k hk1
    have hb1 : (ad.add k).block < w.heap.size := by unfold Addr.add; split <;> exact had
    have q := (hB.cell hb1).trans hcell
    obtain ⟨S, eS⟩ : ∃ y, bs m = y := ⟨_, rfl⟩
    obtain ⟨M, eM⟩ : ∃ y, m.length = y := ⟨_, rfl⟩
    have hSs : S.size = M := by rw [← eS, bs_size, eM]
    have hM : M ≤ 440 := by omega
    rw [eS]
    have e0 : ((M : Int) + 1 == 0) = false := by simp; omega
    obtain ⟨v, hv, ev⟩ : ∃ v : Nat, v < 65536 ∧ bits .and .i64 z 65535 = (v : Int) := ⟨(z % 65536).toNat, by omega, by rw [mask65535]; omega⟩
    obtain ⟨p, hp, ep⟩ : ∃ p : Nat, p ≤ M ∧ (v : Int) % ((M : Int) + 1) = (p : Int) := ⟨v % (M + 1), by have := Nat.mod_lt v (show M + 1 > 0 by omega); omega, by rw [Int.natCast_emod]; rfl⟩
    obtain ⟨j, hj, ej⟩ : ∃ j : Nat, j < 3 ∧ (bits .and .i64 (z / 65536) 255).tmod 3 = (j : Int) := ⟨((z / 65536) % 256 % 3).toNat, by omega, by rw [mask255, Int.tmod_eq_emod_of_nonneg (by omega)]; omega⟩
    obtain ⟨nl, hnl, hnt⟩ := nl_at j hj
    obtain ⟨E, eE⟩ : ∃ y, bs nl = y := ⟨_, rfl⟩
    rw [eE] at hnt
    obtain ⟨S1, eS1⟩ : ∃ y, bs (m.take p) = y := ⟨_, rfl⟩
    obtain ⟨S2, eS2⟩ : ∃ y, bs (m.drop p) = y := ⟨_, rfl⟩
    obtain ⟨S3, eS3⟩ : ∃ y, bs (m.take p ++ nl) = y := ⟨_, rfl⟩
    obtain ⟨S4, eS4⟩ : ∃ y, bs (m.take p ++ nl ++ m.drop p) = y := ⟨_, rfl⟩
    have x1 : S.extract 0 p = S1 := by rw [← eS, ← eS1]; exact bs_take m p
    have x2 : S.extract p M = S2 := by rw [← eS, ← eS2, ← eM]; exact bs_drop m p
    have ha1 := fun w => add_lit (m.take p) nl S1 S3 eS1 eS3 (by rw [List.length_take]; omega) (by have := nl_len hnl; omega) w
    rw [eE] at ha1
    have ha2 := fun w => add_lit (m.take p ++ nl) (m.drop p) S3 S4 eS3 eS4 (by rw [List.length_append, List.length_take]; have := nl_len hnl; omega) (by rw [List.length_drop]; omega) w
    rw [eS2] at ha2
    have hcj : ∀ (wx : World), (wx.alloc (.cells #[.string { data := #[10] }, .string { data := #[13, 10] }, .string { data := #[13] }] 9)).cell? ⟨wx.heap.size, j, none⟩ = some (.string E) := fun wx => by rw [Blk.cell (Blk.new _ _ _)]; exact hnt
    have hq : ∀ o, (wr.alloc o).cell? (ad.add k) = some (.int .i64 z) := fun o => ((Below.alloc (Below.refl _ wr) (Nat.le_refl _) o).cell (by omega)).trans q
    go_upto_region 9 with (fail)
    have HGR := Lib.hid hgr
    have HNL := Lib.hid (nl_is hnl)
    have ES4 := Lib.hid eS4
    have hlen4 : (m.take p ++ nl ++ m.drop p).length ≤ 400 + 2 * (k + 1) := by
      rw [List.length_append, List.length_append, List.length_take, List.length_drop]; have := nl_len hnl; omega
    have HL4 := Lib.hid hlen4
    clear hgr hnl eS4 hlen4 eS eM eE hnt eS1 eS2 eS3
    go_region
    go_wp2_with fail
    go_roundw
    case rel => exact ⟨k + 1, _, by simp, by rw [ES4.out], by omega, HL4.out, HGR.out.put nl HNL.out p, by (repeat' (first | (with_reducible exact Below.refl _ _) | (with_reducible assumption) | (with_reducible refine below_drewN ?_ _) | (with_reducible refine Below.drew ?_) | (with_reducible refine Below.alloc ?_ ?_ _) | (with_reducible refine Below.setCell ?_ ?_ _) | omega | (simp; done) | (simp; omega)))⟩
    case measure => simp [intOf]; omega
  · by_cases hk1' : k < len
    · have d1 : decide ((k : Int) < (len : Int)) = true := by simp; omega
      have d2 : decide ((k : Int) < 20) = false := by simp; omega
      obtain ⟨S, eS⟩ : ∃ y, bs m = y := ⟨_, rfl⟩
      obtain ⟨T, eT⟩ : ∃ y, bs l = y := ⟨_, rfl⟩
      obtain ⟨M, eM⟩ : ∃ y, m.length = y := ⟨_, rfl⟩
      have hSs : S.size = M := by rw [← eS, bs_size, eM]
      have hg2 := words_grown hgr (by omega)
      have c1 := fun w => words_c l w (by omega)
      have c2 := fun w => words_c m w (by omega)
      unfold WordsIs at c1 c2
      have hx0 := fun j c h w => bs_at m j c h w
      rw [eS] at c2 hx0
      rw [eT] at c1
      rw [eS, eT]
      obtain ⟨W1, eW1⟩ : ∃ x, words l = x := ⟨_, rfl⟩
      obtain ⟨W2, eW2⟩ : ∃ x, words m = x := ⟨_, rfl⟩
      rw [eW1] at c1 hg2
      rw [eW2] at c2 hg2
      obtain ⟨ws, a1, e1⟩ := W1
      obtain ⟨vs, a2, e2⟩ := W2
      simp only at c1 c2 hg2
      obtain ⟨he, hal⟩ := hg2
      subst he
      have C1 := Lib.hid c1
      have C2 := Lib.hid c2
      have HX0 := Lib.hid hx0
      have HAL := Lib.hid hal
      have EM := Lib.hid eM
      clear c1 c2 hx0 hal eM eS eT eW1 eW2 hgr hk1
      go_wp2_with fail
      refine (C1.out _).mono ?_
      rintro e w2 ⟨v1, rfl, hv1, hb⟩
      have hB2 : Below w.heap.size w w2 := hB.trans (hb.mono hB.size)
      have HV1 := Lib.hid hv1
      clear hb hv1
      go_wp2_with fail
      refine (C2.out _).mono ?_
      rintro e w3 ⟨v2, rfl, hv2, hb⟩
      have hB3 : Below w.heap.size w w3 := hB2.trans (hb.mono hB2.size)
      have HV1' := Lib.hid (own_below HV1.out hb (Nat.le_refl _))
      have HV2 := Lib.hid hv2
      clear hb hv2 HV1 C1 C2 hB2
      obtain ⟨n, en⟩ : ∃ n, ws.length = n := ⟨_, rfl⟩
      have en2 : vs.length = n := by rw [← HAL.out.1, en]
      have hn := own_len' HV1'.out
      rw [en] at hn
      have U1 := HV1'.out
      have U2 := HV2.out
      rw [en] at U1
      rw [en2] at U2
      by_cases h0 : n = 0
      · subst h0
        obtain ⟨A1, q1, rfl⟩ : ∃ A cap, v1 = .slice A 0 cap := by
          rcases U1.2 with ⟨rfl, _⟩ | ⟨g', cap, cur, rfl, _⟩
          · exact ⟨none, 0, rfl⟩
          · exact ⟨_, cap, rfl⟩
        obtain ⟨A2, q2, rfl⟩ : ∃ A cap, v2 = .slice A 0 cap := by
          rcases U2.2 with ⟨rfl, _⟩ | ⟨g', cap, cur, rfl, _⟩
          · exact ⟨none, 0, rfl⟩
          · exact ⟨_, cap, rfl⟩
        clear U1 U2 HV1' HV2 en en2
        go_wp2_with fail
        refine wp_loop_rounds 1 ?_
        rw [rounds_succ]
        go_wp2_with fail
        refine (awake14 _).mono ?_
        rintro e w6 ⟨rfl, hb⟩
        have hB6 : Below w.heap.size w w6 := hB3.trans (hb.mono hB3.size)
        go_wp2_with fail
        go_ret
        exact ⟨rfl, hB6⟩
      obtain ⟨g1, q1, rfl, -, b1⟩ := U1.form (by omega)
      obtain ⟨g2, q2, rfl, -, b2⟩ := U2.form (by omega)
      have UU1 := Lib.hid U1
      have UU2 := Lib.hid U2
      have EN1 := Lib.hid en
      have EN2 := Lib.hid en2
      clear U1 U2 HV1' HV2 en en2
      go_wp2_with fail
      go_loopw [14] (fun i wx => ∃ k : Nat, i = .int .i64 (k : Int) ∧ k ≤ n ∧ Below w3.heap.size w3 wx) (fun i _ => n - (intOf i).toNat)
      case atStart => exact ⟨0, rfl, by omega, Below.refl _ _⟩
      case round =>
      obtain ⟨k2, rfl, hk2, hBx⟩ := hrel
      by_cases hkn : k2 < n
      · have p1 : decide ((k2 : Int) < (n : Int)) = true := by simp; omega
        have p2 : (k2 : Int) < (n : Int) := by omega
        have en := EN1.out
        have en2 := EN2.out
        have hkw : k2 < ws.length := by omega
        have hkv : k2 < vs.length := by omega
        obtain ⟨d, ed⟩ : ∃ d, ws[k2] = d := ⟨_, rfl⟩
        obtain ⟨d2, ed2⟩ : ∃ d, vs[k2] = d := ⟨_, rfl⟩
        have ha := HAL.out.2 k2 d d2 (by rw [← ed]; exact List.getElem?_eq_getElem _) (by rw [← ed2]; exact List.getElem?_eq_getElem _)
        have f := fun j hj => row_cell UU1.out en.symm hkw j hj
        have f' := fun j hj => row_cell UU2.out en2.symm hkv j hj
        rw [ed] at f
        rw [ed2] at f'
        obtain ⟨at1, ex, fi, t⟩ := d
        obtain ⟨at2, ex2, fi2, t2⟩ := d2
        unfold Alike at ha
        simp only at ha
        obtain ⟨rfl, rfl, rfl, hle, hne, hhd⟩ := ha
        have x0 := f 0 (by decide); have x1 := f 1 (by decide); have x2 := f 2 (by decide); have x3 := f 3 (by decide)
        have y0 := f' 0 (by decide); have y1 := f' 1 (by decide); have y2 := f' 2 (by decide); have y3 := f' 3 (by decide)
        simp only [Wd.cells, Nat.add_zero, List.getElem?_cons_zero, List.getElem?_cons_succ] at x0 x1 x2 x3 y0 y1 y2 y3
        obtain ⟨c, hc⟩ : ∃ c, t2.head? = some c := by cases t2 with
          | nil => exact absurd rfl hne
          | cons c l => exact ⟨c, rfl⟩
        rw [hc] at hhd
        have i1 := HX0.out at2 c hhd
        have i2 := fun h => bs_head t2 c hc h
        have hat : at2 < M := by
          have := (List.getElem?_eq_some_iff.1 hhd).1
          have := EM.out
          omega
        have hL : (bs t2).size = t2.length := bs_size t2
        obtain ⟨X, eX⟩ : ∃ y, bs t2 = y := ⟨_, rfl⟩
        obtain ⟨L, eL⟩ : ∃ y, t2.length = y := ⟨_, rfl⟩
        have hL1 : 0 < L := by rw [← eL]; exact List.length_pos_iff.2 hne
        rw [eX, eL] at hL
        rw [eX] at i2 x3 y3
        obtain ⟨cn, ecn⟩ : ∃ n, c.toNat = n := ⟨_, rfl⟩
        rw [ecn] at i1 i2
        have r1 : decide ((at2 : Int) < (at1 : Int)) = false := by simp; omega
        have r2 : decide ((M : Int) ≤ (at2 : Int)) = false := by simp; omega
        have r1n : decide (at2 < at1) = false := by simp; omega
        have r2n : decide (M ≤ at2) = false := by simp; omega
        have r3 : ((L : Int) == 0) = false := by simp; omega
        clear f f' ed ed2 hkw hkv en en2 hc hhd ecn eX eL hne
        obtain ⟨o, eo⟩ : ∃ o, k2 * 4 = o := ⟨_, rfl⟩
        rw [eo] at x0 x1 x2 x3 y0 y1 y2 y3
        have lx := hBx.size
        have z0 := (hBx.cell (p := ⟨g1, o, none⟩) b1).trans x0
        have z1 := (hBx.cell (p := ⟨g1, o + 1, none⟩) b1).trans x1
        have z2 := (hBx.cell (p := ⟨g1, o + 2, none⟩) b1).trans x2
        have z3 := (hBx.cell (p := ⟨g1, o + 3, none⟩) b1).trans x3
        have v0 := (hBx.cell (p := ⟨g2, o, none⟩) b2).trans y0
        have v1 := (hBx.cell (p := ⟨g2, o + 1, none⟩) b2).trans y1
        have v2 := (hBx.cell (p := ⟨g2, o + 2, none⟩) b2).trans y2
        have v3 := (hBx.cell (p := ⟨g2, o + 3, none⟩) b2).trans y3
        go_upto_region 17 with (fail)
        go_cut [15, 16] (fun pa pb wy => ∃ a b, pa = .pointer (some ⟨a, 0, none⟩) ∧ pb = .pointer (some ⟨b, 0, none⟩) ∧ Blk wy a 28 #[.int .i64 (at1 : Int), .bool ex2, .bool fi2, .string X] ∧ Blk wy b 28 #[.int .i64 (at2 : Int), .bool ex2, .bool fi2, .string X] ∧ Below w3.heap.size w3 wy)
        case first =>
          go_region_held3 (fun w' => w'.cell? ⟨g1, o, none⟩ = some (.int .i64 (at1 : Int)) ∧ w'.cell? ⟨g1, o + 1, none⟩ = some (.bool ex2) ∧ w'.cell? ⟨g1, o + 2, none⟩ = some (.bool fi2) ∧ w'.cell? ⟨g1, o + 3, none⟩ = some (.string X) ∧ w'.cell? ⟨g2, o, none⟩ = some (.int .i64 (at2 : Int)) ∧ w'.cell? ⟨g2, o + 1, none⟩ = some (.bool ex2) ∧ w'.cell? ⟨g2, o + 2, none⟩ = some (.bool fi2) ∧ w'.cell? ⟨g2, o + 3, none⟩ = some (.string X))
            ((refine ⟨(Below.cell (B := w3.heap.size) (w := w3) ?_ b1).trans x0, (Below.cell (B := w3.heap.size) (w := w3) ?_ b1).trans x1, (Below.cell (B := w3.heap.size) (w := w3) ?_ b1).trans x2, (Below.cell (B := w3.heap.size) (w := w3) ?_ b1).trans x3, (Below.cell (B := w3.heap.size) (w := w3) ?_ b2).trans y0, (Below.cell (B := w3.heap.size) (w := w3) ?_ b2).trans y1, (Below.cell (B := w3.heap.size) (w := w3) ?_ b2).trans y2, (Below.cell (B := w3.heap.size) (w := w3) ?_ b2).trans y3⟩ <;> (repeat' (first | (with_reducible exact Below.refl _ _) | (with_reducible assumption) | (with_reducible refine below_drewN ?_ _) | (with_reducible refine Below.drew ?_) | (with_reducible refine Below.alloc ?_ ?_ _) | (with_reducible refine Below.setCell ?_ ?_ _) | omega | (simp; done) | (simp; omega)))))
            (fail)
          all_goals
            go_wp2_with fail
            go_meet
            first
              | exact ⟨wr.heap.size, wr.heap.size + 1, rfl, rfl, by (repeat' (first | (with_reducible assumption) | (with_reducible exact Blk.new _ _ _) | (exact Blk.newAt (by first | rfl | (simp; done) | omega)) | (with_reducible refine Blk.drewN ?_ _) | (with_reducible refine Blk.drew ?_) | (with_reducible refine Blk.alloc ?_ _) | (with_reducible apply Blk.set_) | (with_reducible refine Blk.far ?_ ?_ _) | rfl | omega | (simp; done) | (simp; omega))), by (repeat' (first | (with_reducible assumption) | (with_reducible exact Blk.new _ _ _) | (exact Blk.newAt (by first | rfl | (simp; done) | omega)) | (with_reducible refine Blk.drewN ?_ _) | (with_reducible refine Blk.drew ?_) | (with_reducible refine Blk.alloc ?_ _) | (with_reducible apply Blk.set_) | (with_reducible refine Blk.far ?_ ?_ _) | rfl | omega | (simp; done) | (simp; omega))), by (repeat' (first | (with_reducible exact Below.refl _ _) | (with_reducible assumption) | (with_reducible refine below_drewN ?_ _) | (with_reducible refine Below.drew ?_) | (with_reducible refine Below.alloc ?_ ?_ _) | (with_reducible refine Below.setCell ?_ ?_ _) | omega | (simp; done) | (simp; omega)))⟩
              | exact ⟨wr.heap.size + 1, wr.heap.size, rfl, rfl, by (repeat' (first | (with_reducible assumption) | (with_reducible exact Blk.new _ _ _) | (exact Blk.newAt (by first | rfl | (simp; done) | omega)) | (with_reducible refine Blk.drewN ?_ _) | (with_reducible refine Blk.drew ?_) | (with_reducible refine Blk.alloc ?_ _) | (with_reducible apply Blk.set_) | (with_reducible refine Blk.far ?_ ?_ _) | rfl | omega | (simp; done) | (simp; omega))), by (repeat' (first | (with_reducible assumption) | (with_reducible exact Blk.new _ _ _) | (exact Blk.newAt (by first | rfl | (simp; done) | omega)) | (with_reducible refine Blk.drewN ?_ _) | (with_reducible refine Blk.drew ?_) | (with_reducible refine Blk.alloc ?_ _) | (with_reducible apply Blk.set_) | (with_reducible refine Blk.far ?_ ?_ _) | rfl | omega | (simp; done) | (simp; omega))), by (repeat' (first | (with_reducible exact Below.refl _ _) | (with_reducible assumption) | (with_reducible refine below_drewN ?_ _) | (with_reducible refine Below.drew ?_) | (with_reducible refine Below.alloc ?_ ?_ _) | (with_reducible refine Below.setCell ?_ ?_ _) | omega | (simp; done) | (simp; omega)))⟩
        case rest =>
        obtain ⟨pa, pb, rfl, rfl, ka, kb, hBy⟩ := hcut
        have ca := ka.cell
        have cb := kb.cell
        clear x0 x1 x2 x3 y0 y1 y2 y3 z0 z1 z2 z3 v0 v1 v2 v3 ka kb hBx lx
        as_aux_lemma =>
        go_wp2_with fail
        go_quiet (fail)
        go_wp2_with fail
        go_roundw
        case rel => exact ⟨k2 + 1, by simp, by omega, by (repeat' (first | (with_reducible exact Below.refl _ _) | (with_reducible assumption) | (with_reducible refine below_drewN ?_ _) | (with_reducible refine Below.drew ?_) | (with_reducible refine Below.alloc ?_ ?_ _) | (with_reducible refine Below.setCell ?_ ?_ _) | omega | (simp; done) | (simp; omega)))⟩
        case measure => simp [intOf]; omega
      · obtain rfl : n = k2 := by omega
        have p1 : decide ((n : Int) < (n : Int)) = false := by simp
        have hB4 : Below w.heap.size w wr := hB3.trans (hBx.mono hB3.size)
        as_aux_lemma =>
        go_wp2_with fail
        refine (awake14 _).mono ?_
        rintro e w6 ⟨rfl, hb⟩
        have hB6 : Below w.heap.size w w6 := hB4.trans (hb.mono hB4.size)
        go_wp2_with fail
        go_ret
        exact ⟨rfl, hB6⟩
    · have d1 : decide ((k : Int) < (len : Int)) = false := by simp; omega
      obtain ⟨S, eS⟩ : ∃ y, bs m = y := ⟨_, rfl⟩
      obtain ⟨T, eT⟩ : ∃ y, bs l = y := ⟨_, rfl⟩
      obtain ⟨M, eM⟩ : ∃ y, m.length = y := ⟨_, rfl⟩
      have hSs : S.size = M := by rw [← eS, bs_size, eM]
      have hg2 := words_grown hgr (by omega)
      have c1 := fun w => words_c l w (by omega)
      have c2 := fun w => words_c m w (by omega)
      unfold WordsIs at c1 c2
      have hx0 := fun j c h w => bs_at m j c h w
      rw [eS] at c2 hx0
      rw [eT] at c1
      rw [eS, eT]
      obtain ⟨W1, eW1⟩ : ∃ x, words l = x := ⟨_, rfl⟩
      obtain ⟨W2, eW2⟩ : ∃ x, words m = x := ⟨_, rfl⟩
      rw [eW1] at c1 hg2
      rw [eW2] at c2 hg2
      obtain ⟨ws, a1, e1⟩ := W1
      obtain ⟨vs, a2, e2⟩ := W2
      simp only at c1 c2 hg2
      obtain ⟨he, hal⟩ := hg2
      subst he
      have C1 := Lib.hid c1
      have C2 := Lib.hid c2
      have HX0 := Lib.hid hx0
      have HAL := Lib.hid hal
      have EM := Lib.hid eM
      clear c1 c2 hx0 hal eM eS eT eW1 eW2 hgr hk1
      go_wp2_with fail
      refine (C1.out _).mono ?_
      rintro e w2 ⟨v1, rfl, hv1, hb⟩
      have hB2 : Below w.heap.size w w2 := hB.trans (hb.mono hB.size)
      have HV1 := Lib.hid hv1
      clear hb hv1
      go_wp2_with fail
      refine (C2.out _).mono ?_
      rintro e w3 ⟨v2, rfl, hv2, hb⟩
      have hB3 : Below w.heap.size w w3 := hB2.trans (hb.mono hB2.size)
      have HV1' := Lib.hid (own_below HV1.out hb (Nat.le_refl _))
      have HV2 := Lib.hid hv2
      clear hb hv2 HV1 C1 C2 hB2
      obtain ⟨n, en⟩ : ∃ n, ws.length = n := ⟨_, rfl⟩
      have en2 : vs.length = n := by rw [← HAL.out.1, en]
      have hn := own_len' HV1'.out
      rw [en] at hn
      have U1 := HV1'.out
      have U2 := HV2.out
      rw [en] at U1
      rw [en2] at U2
      by_cases h0 : n = 0
      · subst h0
        obtain ⟨A1, q1, rfl⟩ : ∃ A cap, v1 = .slice A 0 cap := by
          rcases U1.2 with ⟨rfl, _⟩ | ⟨g', cap, cur, rfl, _⟩
          · exact ⟨none, 0, rfl⟩
          · exact ⟨_, cap, rfl⟩
        obtain ⟨A2, q2, rfl⟩ : ∃ A cap, v2 = .slice A 0 cap := by
          rcases U2.2 with ⟨rfl, _⟩ | ⟨g', cap, cur, rfl, _⟩
          · exact ⟨none, 0, rfl⟩
          · exact ⟨_, cap, rfl⟩
        clear U1 U2 HV1' HV2 en en2
        go_wp2_with fail
        refine wp_loop_rounds 1 ?_
        rw [rounds_succ]
        go_wp2_with fail
        refine (awake14 _).mono ?_
        rintro e w6 ⟨rfl, hb⟩
        have hB6 : Below w.heap.size w w6 := hB3.trans (hb.mono hB3.size)
        go_wp2_with fail
        go_ret
        exact ⟨rfl, hB6⟩
      obtain ⟨g1, q1, rfl, -, b1⟩ := U1.form (by omega)
      obtain ⟨g2, q2, rfl, -, b2⟩ := U2.form (by omega)
      have UU1 := Lib.hid U1
      have UU2 := Lib.hid U2
      have EN1 := Lib.hid en
      have EN2 := Lib.hid en2
      clear U1 U2 HV1' HV2 en en2
      go_wp2_with fail
      go_loopw [14] (fun i wx => ∃ k : Nat, i = .int .i64 (k : Int) ∧ k ≤ n ∧ Below w3.heap.size w3 wx) (fun i _ => n - (intOf i).toNat)
      case atStart => exact ⟨0, rfl, by omega, Below.refl _ _⟩
      case round =>
      obtain ⟨k2, rfl, hk2, hBx⟩ := hrel
      by_cases hkn : k2 < n
      · have p1 : decide ((k2 : Int) < (n : Int)) = true := by simp; omega
        have p2 : (k2 : Int) < (n : Int) := by omega
        have en := EN1.out
        have en2 := EN2.out
        have hkw : k2 < ws.length := by omega
        have hkv : k2 < vs.length := by omega
        obtain ⟨d, ed⟩ : ∃ d, ws[k2] = d := ⟨_, rfl⟩
        obtain ⟨d2, ed2⟩ : ∃ d, vs[k2] = d := ⟨_, rfl⟩
        have ha := HAL.out.2 k2 d d2 (by rw [← ed]; exact List.getElem?_eq_getElem _) (by rw [← ed2]; exact List.getElem?_eq_getElem _)
        have f := fun j hj => row_cell UU1.out en.symm hkw j hj
        have f' := fun j hj => row_cell UU2.out en2.symm hkv j hj
        rw [ed] at f
        rw [ed2] at f'
        obtain ⟨at1, ex, fi, t⟩ := d
        obtain ⟨at2, ex2, fi2, t2⟩ := d2
        unfold Alike at ha
        simp only at ha
        obtain ⟨rfl, rfl, rfl, hle, hne, hhd⟩ := ha
        have x0 := f 0 (by decide); have x1 := f 1 (by decide); have x2 := f 2 (by decide); have x3 := f 3 (by decide)
        have y0 := f' 0 (by decide); have y1 := f' 1 (by decide); have y2 := f' 2 (by decide); have y3 := f' 3 (by decide)
        simp only [Wd.cells, Nat.add_zero, List.getElem?_cons_zero, List.getElem?_cons_succ] at x0 x1 x2 x3 y0 y1 y2 y3
        obtain ⟨c, hc⟩ : ∃ c, t2.head? = some c := by cases t2 with
          | nil => exact absurd rfl hne
          | cons c l => exact ⟨c, rfl⟩
        rw [hc] at hhd
        have i1 := HX0.out at2 c hhd
        have i2 := fun h => bs_head t2 c hc h
        have hat : at2 < M := by
          have := (List.getElem?_eq_some_iff.1 hhd).1
          have := EM.out
          omega
        have hL : (bs t2).size = t2.length := bs_size t2
        obtain ⟨X, eX⟩ : ∃ y, bs t2 = y := ⟨_, rfl⟩
        obtain ⟨L, eL⟩ : ∃ y, t2.length = y := ⟨_, rfl⟩
        have hL1 : 0 < L := by rw [← eL]; exact List.length_pos_iff.2 hne
        rw [eX, eL] at hL
        rw [eX] at i2 x3 y3
        obtain ⟨cn, ecn⟩ : ∃ n, c.toNat = n := ⟨_, rfl⟩
        rw [ecn] at i1 i2
        have r1 : decide ((at2 : Int) < (at1 : Int)) = false := by simp; omega
        have r2 : decide ((M : Int) ≤ (at2 : Int)) = false := by simp; omega
        have r1n : decide (at2 < at1) = false := by simp; omega
        have r2n : decide (M ≤ at2) = false := by simp; omega
        have r3 : ((L : Int) == 0) = false := by simp; omega
        clear f f' ed ed2 hkw hkv en en2 hc hhd ecn eX eL hne
        obtain ⟨o, eo⟩ : ∃ o, k2 * 4 = o := ⟨_, rfl⟩
        rw [eo] at x0 x1 x2 x3 y0 y1 y2 y3
        have lx := hBx.size
        have z0 := (hBx.cell (p := ⟨g1, o, none⟩) b1).trans x0
        have z1 := (hBx.cell (p := ⟨g1, o + 1, none⟩) b1).trans x1
        have z2 := (hBx.cell (p := ⟨g1, o + 2, none⟩) b1).trans x2
        have z3 := (hBx.cell (p := ⟨g1, o + 3, none⟩) b1).trans x3
        have v0 := (hBx.cell (p := ⟨g2, o, none⟩) b2).trans y0
        have v1 := (hBx.cell (p := ⟨g2, o + 1, none⟩) b2).trans y1
        have v2 := (hBx.cell (p := ⟨g2, o + 2, none⟩) b2).trans y2
        have v3 := (hBx.cell (p := ⟨g2, o + 3, none⟩) b2).trans y3
        go_upto_region 17 with (fail)
        go_cut [15, 16] (fun pa pb wy => ∃ a b, pa = .pointer (some ⟨a, 0, none⟩) ∧ pb = .pointer (some ⟨b, 0, none⟩) ∧ Blk wy a 28 #[.int .i64 (at1 : Int), .bool ex2, .bool fi2, .string X] ∧ Blk wy b 28 #[.int .i64 (at2 : Int), .bool ex2, .bool fi2, .string X] ∧ Below w3.heap.size w3 wy)
        case first =>
          go_region_held3 (fun w' => w'.cell? ⟨g1, o, none⟩ = some (.int .i64 (at1 : Int)) ∧ w'.cell? ⟨g1, o + 1, none⟩ = some (.bool ex2) ∧ w'.cell? ⟨g1, o + 2, none⟩ = some (.bool fi2) ∧ w'.cell? ⟨g1, o + 3, none⟩ = some (.string X) ∧ w'.cell? ⟨g2, o, none⟩ = some (.int .i64 (at2 : Int)) ∧ w'.cell? ⟨g2, o + 1, none⟩ = some (.bool ex2) ∧ w'.cell? ⟨g2, o + 2, none⟩ = some (.bool fi2) ∧ w'.cell? ⟨g2, o + 3, none⟩ = some (.string X))
            ((refine ⟨(Below.cell (B := w3.heap.size) (w := w3) ?_ b1).trans x0, (Below.cell (B := w3.heap.size) (w := w3) ?_ b1).trans x1, (Below.cell (B := w3.heap.size) (w := w3) ?_ b1).trans x2, (Below.cell (B := w3.heap.size) (w := w3) ?_ b1).trans x3, (Below.cell (B := w3.heap.size) (w := w3) ?_ b2).trans y0, (Below.cell (B := w3.heap.size) (w := w3) ?_ b2).trans y1, (Below.cell (B := w3.heap.size) (w := w3) ?_ b2).trans y2, (Below.cell (B := w3.heap.size) (w := w3) ?_ b2).trans y3⟩ <;> (repeat' (first | (with_reducible exact Below.refl _ _) | (with_reducible assumption) | (with_reducible refine below_drewN ?_ _) | (with_reducible refine Below.drew ?_) | (with_reducible refine Below.alloc ?_ ?_ _) | (with_reducible refine Below.setCell ?_ ?_ _) | omega | (simp; done) | (simp; omega)))))
            (fail)
          all_goals
            go_wp2_with fail
            go_meet
            first
              | exact ⟨wr.heap.size, wr.heap.size + 1, rfl, rfl, by (repeat' (first | (with_reducible assumption) | (with_reducible exact Blk.new _ _ _) | (exact Blk.newAt (by first | rfl | (simp; done) | omega)) | (with_reducible refine Blk.drewN ?_ _) | (with_reducible refine Blk.drew ?_) | (with_reducible refine Blk.alloc ?_ _) | (with_reducible apply Blk.set_) | (with_reducible refine Blk.far ?_ ?_ _) | rfl | omega | (simp; done) | (simp; omega))), by (repeat' (first | (with_reducible assumption) | (with_reducible exact Blk.new _ _ _) | (exact Blk.newAt (by first | rfl | (simp; done) | omega)) | (with_reducible refine Blk.drewN ?_ _) | (with_reducible refine Blk.drew ?_) | (with_reducible refine Blk.alloc ?_ _) | (with_reducible apply Blk.set_) | (with_reducible refine Blk.far ?_ ?_ _) | rfl | omega | (simp; done) | (simp; omega))), by (repeat' (first | (with_reducible exact Below.refl _ _) | (with_reducible assumption) | (with_reducible refine below_drewN ?_ _) | (with_reducible refine Below.drew ?_) | (with_reducible refine Below.alloc ?_ ?_ _) | (with_reducible refine Below.setCell ?_ ?_ _) | omega | (simp; done) | (simp; omega)))⟩
              | exact ⟨wr.heap.size + 1, wr.heap.size, rfl, rfl, by (repeat' (first | (with_reducible assumption) | (with_reducible exact Blk.new _ _ _) | (exact Blk.newAt (by first | rfl | (simp; done) | omega)) | (with_reducible refine Blk.drewN ?_ _) | (with_reducible refine Blk.drew ?_) | (with_reducible refine Blk.alloc ?_ _) | (with_reducible apply Blk.set_) | (with_reducible refine Blk.far ?_ ?_ _) | rfl | omega | (simp; done) | (simp; omega))), by (repeat' (first | (with_reducible assumption) | (with_reducible exact Blk.new _ _ _) | (exact Blk.newAt (by first | rfl | (simp; done) | omega)) | (with_reducible refine Blk.drewN ?_ _) | (with_reducible refine Blk.drew ?_) | (with_reducible refine Blk.alloc ?_ _) | (with_reducible apply Blk.set_) | (with_reducible refine Blk.far ?_ ?_ _) | rfl | omega | (simp; done) | (simp; omega))), by (repeat' (first | (with_reducible exact Below.refl _ _) | (with_reducible assumption) | (with_reducible refine below_drewN ?_ _) | (with_reducible refine Below.drew ?_) | (with_reducible refine Below.alloc ?_ ?_ _) | (with_reducible refine Below.setCell ?_ ?_ _) | omega | (simp; done) | (simp; omega)))⟩
        case rest =>
        obtain ⟨pa, pb, rfl, rfl, ka, kb, hBy⟩ := hcut
        have ca := ka.cell
        have cb := kb.cell
        clear x0 x1 x2 x3 y0 y1 y2 y3 z0 z1 z2 z3 v0 v1 v2 v3 ka kb hBx lx
        as_aux_lemma =>
        go_wp2_with fail
        go_quiet (fail)
        go_wp2_with fail
        go_roundw
        case rel => exact ⟨k2 + 1, by simp, by omega, by (repeat' (first | (with_reducible exact Below.refl _ _) | (with_reducible assumption) | (with_reducible refine below_drewN ?_ _) | (with_reducible refine Below.drew ?_) | (with_reducible refine Below.alloc ?_ ?_ _) | (with_reducible refine Below.setCell ?_ ?_ _) | omega | (simp; done) | (simp; omega)))⟩
        case measure => simp [intOf]; omega
      · obtain rfl : n = k2 := by omega
        have p1 : decide ((n : Int) < (n : Int)) = false := by simp
        have hB4 : Below w.heap.size w wr := hB3.trans (hBx.mono hB3.size)
        as_aux_lemma =>
        go_wp2_with fail
        refine (awake14 _).mono ?_
        rintro e w6 ⟨rfl, hb⟩
        have hB6 : Below w.heap.size w w6 := hB4.trans (hb.mono hB4.size)
        go_wp2_with fail
        go_ret
        exact ⟨rfl, hB6⟩
end Go.Proofs.Ytgbkanbahclnhaa
