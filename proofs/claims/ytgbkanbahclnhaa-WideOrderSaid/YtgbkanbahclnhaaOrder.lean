/- A walk: heliographlaw1.WideOrder returns true. -/
import Derived.Test.YtgbkanbahclnhaaWideB
namespace Go.Proofs.Ytgbkanbahclnhaa
open Go.RowKit Go.Sort
set_option linter.unusedVariables false

set_option maxRecDepth 100000 in
set_option maxHeartbeats 2000000 in
theorem o_eq0 (a b c : Nat) (v x k : Int) (ha : a < lim) (hb0 : b < lim) (hc : c < lim) (v0 : -9223372036854775808 ≤ v) (v1 : v ≤ 9223372036854775807) (x0 : -9223372036854775808 ≤ x) (x1 : x ≤ 9223372036854775807)
    (zc : ((c : Int) == 0) = true) (e1 : cmpN (a * c) (a * c) = 0)
    (e2 : cmpN (v.natAbs * v.natAbs) (x.natAbs * x.natAbs) = k) (hk : k = cmpN v.natAbs x.natAbs) (w : World) :
    Calls Try.prog 10 #[.int .u64 a, .int .u64 a, .int .u64 c, .int .i64 v, .int .i64 x] w fun e w' => e = .returned (.bool true) ∧ Below w.heap.size w w' := by
  have m1 := fun w => mulc a c ha hc rfl rfl rfl rfl w
  have m2 := fun w => mulc a c ha hc rfl rfl rfl rfl w
  have m3 := fun w => cmpc (a * c) (a * c) rfl rfl rfl rfl e1 w
  have m4 := fun w => sqc v v0 v1 rfl rfl w
  have m5 := fun w => sqc x x0 x1 rfl rfl w
  have m6 := fun w => cmpc (v.natAbs * v.natAbs) (x.natAbs * x.natAbs) rfl rfl rfl rfl e2 w
  have m7 := fun w => wabs v v0 v1 w
  have m8 := fun w => wabs x x0 x1 w
  have M1 := Lib.hid m1; have M2 := Lib.hid m2; have M3 := Lib.hid m3; have M4 := Lib.hid m4; have M5 := Lib.hid m5; have M6 := Lib.hid m6; have M7 := Lib.hid m7; have M8 := Lib.hid m8
  clear m1 m2 m3 m4 m5 m6 m7 m8 e1 e2
  generalize hiN (a * c) = h1 at *
  generalize loN (a * c) = l1 at *
  generalize hiN (v.natAbs * v.natAbs) = h3 at *
  generalize loN (v.natAbs * v.natAbs) = l3 at *
  generalize hiN (x.natAbs * x.natAbs) = h4 at *
  generalize loN (x.natAbs * x.natAbs) = l4 at *
  generalize v.natAbs = V at *
  generalize x.natAbs = X at *
  have HK := Lib.hid hk
  clear hk
  rcases Nat.lt_trichotomy V X with hV | hV | hV
  · obtain rfl : k = -1 := HK.out.trans (cmp_lt hV)
    go_enter Try.func10, Try.ntmps10
    go_wp2_with fail
    refine (M7.out _).mono ?_
    rintro e wq ⟨rfl, rfl⟩
    go_wp2_with fail
    refine (M8.out _).mono ?_
    rintro e wq ⟨rfl, rfl⟩
    go_wp2_with fail
    refine (M7.out _).mono ?_
    rintro e wq ⟨rfl, rfl⟩
    go_wp2_with fail
    refine (M8.out _).mono ?_
    rintro e wq ⟨rfl, rfl⟩
    go_wp2_with fail
    as_aux_lemma =>
      refine (M1.out _).mono ?_
      rintro e w1 ⟨rfl, hb⟩
      have hB1 : Below w.heap.size w w1 := hb
      clear hb
      go_wp2_with fail
      refine (M2.out _).mono ?_
      rintro e w2 ⟨rfl, hb⟩
      have hB2 : Below w.heap.size w w2 := hB1.trans (hb.mono hB1.size)
      clear hb hB1
      go_wp2_with fail
      as_aux_lemma =>
        refine (M3.out _).mono ?_
        rintro e w3 ⟨rfl, hb⟩
        have hB3 : Below w.heap.size w w3 := hB2.trans (hb.mono hB2.size)
        clear hb hB2
        go_wp2_with fail
        as_aux_lemma =>
          refine (M4.out _).mono ?_
          rintro e w7 ⟨rfl, hb⟩
          have hB7 : Below w.heap.size w w7 := hB3.trans (hb.mono hB3.size)
          clear hb hB3
          go_wp2_with fail
          refine (M5.out _).mono ?_
          rintro e w8 ⟨rfl, hb⟩
          have hB8 : Below w.heap.size w w8 := hB7.trans (hb.mono hB7.size)
          clear hb hB7
          go_wp2_with fail
          refine (M6.out _).mono ?_
          rintro e w9 ⟨rfl, hb⟩
          have hB9 : Below w.heap.size w w9 := hB8.trans (hb.mono hB8.size)
          clear hb hB8
          go_wp2_with fail
          as_aux_lemma =>
            refine (awake1 _).mono ?_
            rintro e w10 ⟨rfl, hb⟩
            have hB10 : Below w.heap.size w w10 := hB9.trans (hb.mono hB9.size)
            go_wp2_with fail
            go_ret
            exact ⟨rfl, hB10⟩
  · obtain rfl : k = 0 := HK.out.trans (cmp_eq hV)
    obtain rfl := hV
    go_enter Try.func10, Try.ntmps10
    go_wp2_with fail
    refine (M7.out _).mono ?_
    rintro e wq ⟨rfl, rfl⟩
    go_wp2_with fail
    refine (M8.out _).mono ?_
    rintro e wq ⟨rfl, rfl⟩
    go_wp2_with fail
    refine (M7.out _).mono ?_
    rintro e wq ⟨rfl, rfl⟩
    go_wp2_with fail
    refine (M8.out _).mono ?_
    rintro e wq ⟨rfl, rfl⟩
    go_wp2_with fail
    as_aux_lemma =>
      refine (M1.out _).mono ?_
      rintro e w1 ⟨rfl, hb⟩
      have hB1 : Below w.heap.size w w1 := hb
      clear hb
      go_wp2_with fail
      refine (M2.out _).mono ?_
      rintro e w2 ⟨rfl, hb⟩
      have hB2 : Below w.heap.size w w2 := hB1.trans (hb.mono hB1.size)
      clear hb hB1
      go_wp2_with fail
      as_aux_lemma =>
        refine (M3.out _).mono ?_
        rintro e w3 ⟨rfl, hb⟩
        have hB3 : Below w.heap.size w w3 := hB2.trans (hb.mono hB2.size)
        clear hb hB2
        go_wp2_with fail
        as_aux_lemma =>
          refine (M4.out _).mono ?_
          rintro e w7 ⟨rfl, hb⟩
          have hB7 : Below w.heap.size w w7 := hB3.trans (hb.mono hB3.size)
          clear hb hB3
          go_wp2_with fail
          refine (M5.out _).mono ?_
          rintro e w8 ⟨rfl, hb⟩
          have hB8 : Below w.heap.size w w8 := hB7.trans (hb.mono hB7.size)
          clear hb hB7
          go_wp2_with fail
          refine (M6.out _).mono ?_
          rintro e w9 ⟨rfl, hb⟩
          have hB9 : Below w.heap.size w w9 := hB8.trans (hb.mono hB8.size)
          clear hb hB8
          go_wp2_with fail
          as_aux_lemma =>
            refine (awake1 _).mono ?_
            rintro e w10 ⟨rfl, hb⟩
            have hB10 : Below w.heap.size w w10 := hB9.trans (hb.mono hB9.size)
            go_wp2_with fail
            go_ret
            exact ⟨rfl, hB10⟩
  · obtain rfl : k = 1 := HK.out.trans (cmp_gt hV)
    go_enter Try.func10, Try.ntmps10
    go_wp2_with fail
    refine (M7.out _).mono ?_
    rintro e wq ⟨rfl, rfl⟩
    go_wp2_with fail
    refine (M8.out _).mono ?_
    rintro e wq ⟨rfl, rfl⟩
    go_wp2_with fail
    refine (M7.out _).mono ?_
    rintro e wq ⟨rfl, rfl⟩
    go_wp2_with fail
    refine (M8.out _).mono ?_
    rintro e wq ⟨rfl, rfl⟩
    go_wp2_with fail
    as_aux_lemma =>
      refine (M1.out _).mono ?_
      rintro e w1 ⟨rfl, hb⟩
      have hB1 : Below w.heap.size w w1 := hb
      clear hb
      go_wp2_with fail
      refine (M2.out _).mono ?_
      rintro e w2 ⟨rfl, hb⟩
      have hB2 : Below w.heap.size w w2 := hB1.trans (hb.mono hB1.size)
      clear hb hB1
      go_wp2_with fail
      as_aux_lemma =>
        refine (M3.out _).mono ?_
        rintro e w3 ⟨rfl, hb⟩
        have hB3 : Below w.heap.size w w3 := hB2.trans (hb.mono hB2.size)
        clear hb hB2
        go_wp2_with fail
        as_aux_lemma =>
          refine (M4.out _).mono ?_
          rintro e w7 ⟨rfl, hb⟩
          have hB7 : Below w.heap.size w w7 := hB3.trans (hb.mono hB3.size)
          clear hb hB3
          go_wp2_with fail
          refine (M5.out _).mono ?_
          rintro e w8 ⟨rfl, hb⟩
          have hB8 : Below w.heap.size w w8 := hB7.trans (hb.mono hB7.size)
          clear hb hB7
          go_wp2_with fail
          refine (M6.out _).mono ?_
          rintro e w9 ⟨rfl, hb⟩
          have hB9 : Below w.heap.size w w9 := hB8.trans (hb.mono hB8.size)
          clear hb hB8
          go_wp2_with fail
          as_aux_lemma =>
            refine (awake1 _).mono ?_
            rintro e w10 ⟨rfl, hb⟩
            have hB10 : Below w.heap.size w w10 := hB9.trans (hb.mono hB9.size)
            go_wp2_with fail
            go_ret
            exact ⟨rfl, hB10⟩

set_option maxRecDepth 100000 in
set_option maxHeartbeats 2000000 in
theorem o_eq1 (a b c : Nat) (v x k : Int) (ha : a < lim) (hb0 : b < lim) (hc : c < lim) (v0 : -9223372036854775808 ≤ v) (v1 : v ≤ 9223372036854775807) (x0 : -9223372036854775808 ≤ x) (x1 : x ≤ 9223372036854775807)
    (zc : ((c : Int) == 0) = false) (e1 : cmpN (a * c) (a * c) = 0)
    (e2 : cmpN (v.natAbs * v.natAbs) (x.natAbs * x.natAbs) = k) (hk : k = cmpN v.natAbs x.natAbs) (w : World) :
    Calls Try.prog 10 #[.int .u64 a, .int .u64 a, .int .u64 c, .int .i64 v, .int .i64 x] w fun e w' => e = .returned (.bool true) ∧ Below w.heap.size w w' := by
  have m1 := fun w => mulc a c ha hc rfl rfl rfl rfl w
  have m2 := fun w => mulc a c ha hc rfl rfl rfl rfl w
  have m3 := fun w => cmpc (a * c) (a * c) rfl rfl rfl rfl e1 w
  have m4 := fun w => sqc v v0 v1 rfl rfl w
  have m5 := fun w => sqc x x0 x1 rfl rfl w
  have m6 := fun w => cmpc (v.natAbs * v.natAbs) (x.natAbs * x.natAbs) rfl rfl rfl rfl e2 w
  have m7 := fun w => wabs v v0 v1 w
  have m8 := fun w => wabs x x0 x1 w
  have M1 := Lib.hid m1; have M2 := Lib.hid m2; have M3 := Lib.hid m3; have M4 := Lib.hid m4; have M5 := Lib.hid m5; have M6 := Lib.hid m6; have M7 := Lib.hid m7; have M8 := Lib.hid m8
  clear m1 m2 m3 m4 m5 m6 m7 m8 e1 e2
  generalize hiN (a * c) = h1 at *
  generalize loN (a * c) = l1 at *
  generalize hiN (v.natAbs * v.natAbs) = h3 at *
  generalize loN (v.natAbs * v.natAbs) = l3 at *
  generalize hiN (x.natAbs * x.natAbs) = h4 at *
  generalize loN (x.natAbs * x.natAbs) = l4 at *
  generalize v.natAbs = V at *
  generalize x.natAbs = X at *
  have HK := Lib.hid hk
  clear hk
  rcases Nat.lt_trichotomy V X with hV | hV | hV
  · obtain rfl : k = -1 := HK.out.trans (cmp_lt hV)
    go_enter Try.func10, Try.ntmps10
    go_wp2_with fail
    refine (M7.out _).mono ?_
    rintro e wq ⟨rfl, rfl⟩
    go_wp2_with fail
    refine (M8.out _).mono ?_
    rintro e wq ⟨rfl, rfl⟩
    go_wp2_with fail
    refine (M7.out _).mono ?_
    rintro e wq ⟨rfl, rfl⟩
    go_wp2_with fail
    refine (M8.out _).mono ?_
    rintro e wq ⟨rfl, rfl⟩
    go_wp2_with fail
    as_aux_lemma =>
      refine (M1.out _).mono ?_
      rintro e w1 ⟨rfl, hb⟩
      have hB1 : Below w.heap.size w w1 := hb
      clear hb
      go_wp2_with fail
      refine (M2.out _).mono ?_
      rintro e w2 ⟨rfl, hb⟩
      have hB2 : Below w.heap.size w w2 := hB1.trans (hb.mono hB1.size)
      clear hb hB1
      go_wp2_with fail
      as_aux_lemma =>
        refine (M3.out _).mono ?_
        rintro e w3 ⟨rfl, hb⟩
        have hB3 : Below w.heap.size w w3 := hB2.trans (hb.mono hB2.size)
        clear hb hB2
        go_wp2_with fail
        as_aux_lemma =>
          refine (M4.out _).mono ?_
          rintro e w7 ⟨rfl, hb⟩
          have hB7 : Below w.heap.size w w7 := hB3.trans (hb.mono hB3.size)
          clear hb hB3
          go_wp2_with fail
          refine (M5.out _).mono ?_
          rintro e w8 ⟨rfl, hb⟩
          have hB8 : Below w.heap.size w w8 := hB7.trans (hb.mono hB7.size)
          clear hb hB7
          go_wp2_with fail
          refine (M6.out _).mono ?_
          rintro e w9 ⟨rfl, hb⟩
          have hB9 : Below w.heap.size w w9 := hB8.trans (hb.mono hB8.size)
          clear hb hB8
          go_wp2_with fail
          as_aux_lemma =>
            refine (awake1 _).mono ?_
            rintro e w10 ⟨rfl, hb⟩
            have hB10 : Below w.heap.size w w10 := hB9.trans (hb.mono hB9.size)
            go_wp2_with fail
            go_ret
            exact ⟨rfl, hB10⟩
  · obtain rfl : k = 0 := HK.out.trans (cmp_eq hV)
    obtain rfl := hV
    go_enter Try.func10, Try.ntmps10
    go_wp2_with fail
    refine (M7.out _).mono ?_
    rintro e wq ⟨rfl, rfl⟩
    go_wp2_with fail
    refine (M8.out _).mono ?_
    rintro e wq ⟨rfl, rfl⟩
    go_wp2_with fail
    refine (M7.out _).mono ?_
    rintro e wq ⟨rfl, rfl⟩
    go_wp2_with fail
    refine (M8.out _).mono ?_
    rintro e wq ⟨rfl, rfl⟩
    go_wp2_with fail
    as_aux_lemma =>
      refine (M1.out _).mono ?_
      rintro e w1 ⟨rfl, hb⟩
      have hB1 : Below w.heap.size w w1 := hb
      clear hb
      go_wp2_with fail
      refine (M2.out _).mono ?_
      rintro e w2 ⟨rfl, hb⟩
      have hB2 : Below w.heap.size w w2 := hB1.trans (hb.mono hB1.size)
      clear hb hB1
      go_wp2_with fail
      as_aux_lemma =>
        refine (M3.out _).mono ?_
        rintro e w3 ⟨rfl, hb⟩
        have hB3 : Below w.heap.size w w3 := hB2.trans (hb.mono hB2.size)
        clear hb hB2
        go_wp2_with fail
        as_aux_lemma =>
          refine (M4.out _).mono ?_
          rintro e w7 ⟨rfl, hb⟩
          have hB7 : Below w.heap.size w w7 := hB3.trans (hb.mono hB3.size)
          clear hb hB3
          go_wp2_with fail
          refine (M5.out _).mono ?_
          rintro e w8 ⟨rfl, hb⟩
          have hB8 : Below w.heap.size w w8 := hB7.trans (hb.mono hB7.size)
          clear hb hB7
          go_wp2_with fail
          refine (M6.out _).mono ?_
          rintro e w9 ⟨rfl, hb⟩
          have hB9 : Below w.heap.size w w9 := hB8.trans (hb.mono hB8.size)
          clear hb hB8
          go_wp2_with fail
          as_aux_lemma =>
            refine (awake1 _).mono ?_
            rintro e w10 ⟨rfl, hb⟩
            have hB10 : Below w.heap.size w w10 := hB9.trans (hb.mono hB9.size)
            go_wp2_with fail
            go_ret
            exact ⟨rfl, hB10⟩
  · obtain rfl : k = 1 := HK.out.trans (cmp_gt hV)
    go_enter Try.func10, Try.ntmps10
    go_wp2_with fail
    refine (M7.out _).mono ?_
    rintro e wq ⟨rfl, rfl⟩
    go_wp2_with fail
    refine (M8.out _).mono ?_
    rintro e wq ⟨rfl, rfl⟩
    go_wp2_with fail
    refine (M7.out _).mono ?_
    rintro e wq ⟨rfl, rfl⟩
    go_wp2_with fail
    refine (M8.out _).mono ?_
    rintro e wq ⟨rfl, rfl⟩
    go_wp2_with fail
    as_aux_lemma =>
      refine (M1.out _).mono ?_
      rintro e w1 ⟨rfl, hb⟩
      have hB1 : Below w.heap.size w w1 := hb
      clear hb
      go_wp2_with fail
      refine (M2.out _).mono ?_
      rintro e w2 ⟨rfl, hb⟩
      have hB2 : Below w.heap.size w w2 := hB1.trans (hb.mono hB1.size)
      clear hb hB1
      go_wp2_with fail
      as_aux_lemma =>
        refine (M3.out _).mono ?_
        rintro e w3 ⟨rfl, hb⟩
        have hB3 : Below w.heap.size w w3 := hB2.trans (hb.mono hB2.size)
        clear hb hB2
        go_wp2_with fail
        as_aux_lemma =>
          refine (M4.out _).mono ?_
          rintro e w7 ⟨rfl, hb⟩
          have hB7 : Below w.heap.size w w7 := hB3.trans (hb.mono hB3.size)
          clear hb hB3
          go_wp2_with fail
          refine (M5.out _).mono ?_
          rintro e w8 ⟨rfl, hb⟩
          have hB8 : Below w.heap.size w w8 := hB7.trans (hb.mono hB7.size)
          clear hb hB7
          go_wp2_with fail
          refine (M6.out _).mono ?_
          rintro e w9 ⟨rfl, hb⟩
          have hB9 : Below w.heap.size w w9 := hB8.trans (hb.mono hB8.size)
          clear hb hB8
          go_wp2_with fail
          as_aux_lemma =>
            refine (awake1 _).mono ?_
            rintro e w10 ⟨rfl, hb⟩
            have hB10 : Below w.heap.size w w10 := hB9.trans (hb.mono hB9.size)
            go_wp2_with fail
            go_ret
            exact ⟨rfl, hB10⟩

set_option maxRecDepth 100000 in
set_option maxHeartbeats 2000000 in
theorem o_lt0 (a b c : Nat) (v x k : Int) (ha : a < lim) (hb0 : b < lim) (hc : c < lim) (v0 : -9223372036854775808 ≤ v) (v1 : v ≤ 9223372036854775807) (x0 : -9223372036854775808 ≤ x) (x1 : x ≤ 9223372036854775807)
    (hab : a < b) (zc : ((c : Int) == 0) = true) (e1 : cmpN (a * c) (b * c) = 0)
    (e2 : cmpN (v.natAbs * v.natAbs) (x.natAbs * x.natAbs) = k) (hk : k = cmpN v.natAbs x.natAbs) (w : World) :
    Calls Try.prog 10 #[.int .u64 a, .int .u64 b, .int .u64 c, .int .i64 v, .int .i64 x] w fun e w' => e = .returned (.bool true) ∧ Below w.heap.size w w' := by
  have m1 := fun w => mulc a c ha hc rfl rfl rfl rfl w
  have m2 := fun w => mulc b c hb0 hc rfl rfl rfl rfl w
  have m3 := fun w => cmpc (a * c) (b * c) rfl rfl rfl rfl e1 w
  have m4 := fun w => sqc v v0 v1 rfl rfl w
  have m5 := fun w => sqc x x0 x1 rfl rfl w
  have m6 := fun w => cmpc (v.natAbs * v.natAbs) (x.natAbs * x.natAbs) rfl rfl rfl rfl e2 w
  have m7 := fun w => wabs v v0 v1 w
  have m8 := fun w => wabs x x0 x1 w
  have M1 := Lib.hid m1; have M2 := Lib.hid m2; have M3 := Lib.hid m3; have M4 := Lib.hid m4; have M5 := Lib.hid m5; have M6 := Lib.hid m6; have M7 := Lib.hid m7; have M8 := Lib.hid m8
  clear m1 m2 m3 m4 m5 m6 m7 m8 e1 e2
  generalize hiN (a * c) = h1 at *
  generalize loN (a * c) = l1 at *
  generalize hiN (b * c) = h2 at *
  generalize loN (b * c) = l2 at *
  generalize hiN (v.natAbs * v.natAbs) = h3 at *
  generalize loN (v.natAbs * v.natAbs) = l3 at *
  generalize hiN (x.natAbs * x.natAbs) = h4 at *
  generalize loN (x.natAbs * x.natAbs) = l4 at *
  generalize v.natAbs = V at *
  generalize x.natAbs = X at *
  have HK := Lib.hid hk
  clear hk
  rcases Nat.lt_trichotomy V X with hV | hV | hV
  · obtain rfl : k = -1 := HK.out.trans (cmp_lt hV)
    go_enter Try.func10, Try.ntmps10
    go_wp2_with fail
    refine (M7.out _).mono ?_
    rintro e wq ⟨rfl, rfl⟩
    go_wp2_with fail
    refine (M8.out _).mono ?_
    rintro e wq ⟨rfl, rfl⟩
    go_wp2_with fail
    refine (M7.out _).mono ?_
    rintro e wq ⟨rfl, rfl⟩
    go_wp2_with fail
    refine (M8.out _).mono ?_
    rintro e wq ⟨rfl, rfl⟩
    go_wp2_with fail
    as_aux_lemma =>
      refine (M1.out _).mono ?_
      rintro e w1 ⟨rfl, hb⟩
      have hB1 : Below w.heap.size w w1 := hb
      clear hb
      go_wp2_with fail
      refine (M2.out _).mono ?_
      rintro e w2 ⟨rfl, hb⟩
      have hB2 : Below w.heap.size w w2 := hB1.trans (hb.mono hB1.size)
      clear hb hB1
      go_wp2_with fail
      as_aux_lemma =>
        refine (M3.out _).mono ?_
        rintro e w3 ⟨rfl, hb⟩
        have hB3 : Below w.heap.size w w3 := hB2.trans (hb.mono hB2.size)
        clear hb hB2
        go_wp2_with fail
        as_aux_lemma =>
          refine (M4.out _).mono ?_
          rintro e w7 ⟨rfl, hb⟩
          have hB7 : Below w.heap.size w w7 := hB3.trans (hb.mono hB3.size)
          clear hb hB3
          go_wp2_with fail
          refine (M5.out _).mono ?_
          rintro e w8 ⟨rfl, hb⟩
          have hB8 : Below w.heap.size w w8 := hB7.trans (hb.mono hB7.size)
          clear hb hB7
          go_wp2_with fail
          refine (M6.out _).mono ?_
          rintro e w9 ⟨rfl, hb⟩
          have hB9 : Below w.heap.size w w9 := hB8.trans (hb.mono hB8.size)
          clear hb hB8
          go_wp2_with fail
          as_aux_lemma =>
            refine (awake1 _).mono ?_
            rintro e w10 ⟨rfl, hb⟩
            have hB10 : Below w.heap.size w w10 := hB9.trans (hb.mono hB9.size)
            go_wp2_with fail
            go_ret
            exact ⟨rfl, hB10⟩
  · obtain rfl : k = 0 := HK.out.trans (cmp_eq hV)
    obtain rfl := hV
    go_enter Try.func10, Try.ntmps10
    go_wp2_with fail
    refine (M7.out _).mono ?_
    rintro e wq ⟨rfl, rfl⟩
    go_wp2_with fail
    refine (M8.out _).mono ?_
    rintro e wq ⟨rfl, rfl⟩
    go_wp2_with fail
    refine (M7.out _).mono ?_
    rintro e wq ⟨rfl, rfl⟩
    go_wp2_with fail
    refine (M8.out _).mono ?_
    rintro e wq ⟨rfl, rfl⟩
    go_wp2_with fail
    as_aux_lemma =>
      refine (M1.out _).mono ?_
      rintro e w1 ⟨rfl, hb⟩
      have hB1 : Below w.heap.size w w1 := hb
      clear hb
      go_wp2_with fail
      refine (M2.out _).mono ?_
      rintro e w2 ⟨rfl, hb⟩
      have hB2 : Below w.heap.size w w2 := hB1.trans (hb.mono hB1.size)
      clear hb hB1
      go_wp2_with fail
      as_aux_lemma =>
        refine (M3.out _).mono ?_
        rintro e w3 ⟨rfl, hb⟩
        have hB3 : Below w.heap.size w w3 := hB2.trans (hb.mono hB2.size)
        clear hb hB2
        go_wp2_with fail
        as_aux_lemma =>
          refine (M4.out _).mono ?_
          rintro e w7 ⟨rfl, hb⟩
          have hB7 : Below w.heap.size w w7 := hB3.trans (hb.mono hB3.size)
          clear hb hB3
          go_wp2_with fail
          refine (M5.out _).mono ?_
          rintro e w8 ⟨rfl, hb⟩
          have hB8 : Below w.heap.size w w8 := hB7.trans (hb.mono hB7.size)
          clear hb hB7
          go_wp2_with fail
          refine (M6.out _).mono ?_
          rintro e w9 ⟨rfl, hb⟩
          have hB9 : Below w.heap.size w w9 := hB8.trans (hb.mono hB8.size)
          clear hb hB8
          go_wp2_with fail
          as_aux_lemma =>
            refine (awake1 _).mono ?_
            rintro e w10 ⟨rfl, hb⟩
            have hB10 : Below w.heap.size w w10 := hB9.trans (hb.mono hB9.size)
            go_wp2_with fail
            go_ret
            exact ⟨rfl, hB10⟩
  · obtain rfl : k = 1 := HK.out.trans (cmp_gt hV)
    go_enter Try.func10, Try.ntmps10
    go_wp2_with fail
    refine (M7.out _).mono ?_
    rintro e wq ⟨rfl, rfl⟩
    go_wp2_with fail
    refine (M8.out _).mono ?_
    rintro e wq ⟨rfl, rfl⟩
    go_wp2_with fail
    refine (M7.out _).mono ?_
    rintro e wq ⟨rfl, rfl⟩
    go_wp2_with fail
    refine (M8.out _).mono ?_
    rintro e wq ⟨rfl, rfl⟩
    go_wp2_with fail
    as_aux_lemma =>
      refine (M1.out _).mono ?_
      rintro e w1 ⟨rfl, hb⟩
      have hB1 : Below w.heap.size w w1 := hb
      clear hb
      go_wp2_with fail
      refine (M2.out _).mono ?_
      rintro e w2 ⟨rfl, hb⟩
      have hB2 : Below w.heap.size w w2 := hB1.trans (hb.mono hB1.size)
      clear hb hB1
      go_wp2_with fail
      as_aux_lemma =>
        refine (M3.out _).mono ?_
        rintro e w3 ⟨rfl, hb⟩
        have hB3 : Below w.heap.size w w3 := hB2.trans (hb.mono hB2.size)
        clear hb hB2
        go_wp2_with fail
        as_aux_lemma =>
          refine (M4.out _).mono ?_
          rintro e w7 ⟨rfl, hb⟩
          have hB7 : Below w.heap.size w w7 := hB3.trans (hb.mono hB3.size)
          clear hb hB3
          go_wp2_with fail
          refine (M5.out _).mono ?_
          rintro e w8 ⟨rfl, hb⟩
          have hB8 : Below w.heap.size w w8 := hB7.trans (hb.mono hB7.size)
          clear hb hB7
          go_wp2_with fail
          refine (M6.out _).mono ?_
          rintro e w9 ⟨rfl, hb⟩
          have hB9 : Below w.heap.size w w9 := hB8.trans (hb.mono hB8.size)
          clear hb hB8
          go_wp2_with fail
          as_aux_lemma =>
            refine (awake1 _).mono ?_
            rintro e w10 ⟨rfl, hb⟩
            have hB10 : Below w.heap.size w w10 := hB9.trans (hb.mono hB9.size)
            go_wp2_with fail
            go_ret
            exact ⟨rfl, hB10⟩

set_option maxRecDepth 100000 in
set_option maxHeartbeats 2000000 in
theorem o_lt1 (a b c : Nat) (v x k : Int) (ha : a < lim) (hb0 : b < lim) (hc : c < lim) (v0 : -9223372036854775808 ≤ v) (v1 : v ≤ 9223372036854775807) (x0 : -9223372036854775808 ≤ x) (x1 : x ≤ 9223372036854775807)
    (hab : a < b) (zc : ((c : Int) == 0) = false) (e1 : cmpN (a * c) (b * c) = -1)
    (e2 : cmpN (v.natAbs * v.natAbs) (x.natAbs * x.natAbs) = k) (hk : k = cmpN v.natAbs x.natAbs) (w : World) :
    Calls Try.prog 10 #[.int .u64 a, .int .u64 b, .int .u64 c, .int .i64 v, .int .i64 x] w fun e w' => e = .returned (.bool true) ∧ Below w.heap.size w w' := by
  have m1 := fun w => mulc a c ha hc rfl rfl rfl rfl w
  have m2 := fun w => mulc b c hb0 hc rfl rfl rfl rfl w
  have m3 := fun w => cmpc (a * c) (b * c) rfl rfl rfl rfl e1 w
  have m4 := fun w => sqc v v0 v1 rfl rfl w
  have m5 := fun w => sqc x x0 x1 rfl rfl w
  have m6 := fun w => cmpc (v.natAbs * v.natAbs) (x.natAbs * x.natAbs) rfl rfl rfl rfl e2 w
  have m7 := fun w => wabs v v0 v1 w
  have m8 := fun w => wabs x x0 x1 w
  have M1 := Lib.hid m1; have M2 := Lib.hid m2; have M3 := Lib.hid m3; have M4 := Lib.hid m4; have M5 := Lib.hid m5; have M6 := Lib.hid m6; have M7 := Lib.hid m7; have M8 := Lib.hid m8
  clear m1 m2 m3 m4 m5 m6 m7 m8 e1 e2
  generalize hiN (a * c) = h1 at *
  generalize loN (a * c) = l1 at *
  generalize hiN (b * c) = h2 at *
  generalize loN (b * c) = l2 at *
  generalize hiN (v.natAbs * v.natAbs) = h3 at *
  generalize loN (v.natAbs * v.natAbs) = l3 at *
  generalize hiN (x.natAbs * x.natAbs) = h4 at *
  generalize loN (x.natAbs * x.natAbs) = l4 at *
  generalize v.natAbs = V at *
  generalize x.natAbs = X at *
  have HK := Lib.hid hk
  clear hk
  rcases Nat.lt_trichotomy V X with hV | hV | hV
  · obtain rfl : k = -1 := HK.out.trans (cmp_lt hV)
    have t1 : ((a : Int) == (b : Int)) = false := by simp; omega
    go_enter Try.func10, Try.ntmps10
    go_wp2_with fail
    refine (M7.out _).mono ?_
    rintro e wq ⟨rfl, rfl⟩
    go_wp2_with fail
    refine (M8.out _).mono ?_
    rintro e wq ⟨rfl, rfl⟩
    go_wp2_with fail
    refine (M7.out _).mono ?_
    rintro e wq ⟨rfl, rfl⟩
    go_wp2_with fail
    refine (M8.out _).mono ?_
    rintro e wq ⟨rfl, rfl⟩
    go_wp2_with fail
    as_aux_lemma =>
      refine (M1.out _).mono ?_
      rintro e w1 ⟨rfl, hb⟩
      have hB1 : Below w.heap.size w w1 := hb
      clear hb
      go_wp2_with fail
      refine (M2.out _).mono ?_
      rintro e w2 ⟨rfl, hb⟩
      have hB2 : Below w.heap.size w w2 := hB1.trans (hb.mono hB1.size)
      clear hb hB1
      go_wp2_with fail
      as_aux_lemma =>
        refine (M3.out _).mono ?_
        rintro e w3 ⟨rfl, hb⟩
        have hB3 : Below w.heap.size w w3 := hB2.trans (hb.mono hB2.size)
        clear hb hB2
        go_wp2_with fail
        as_aux_lemma =>
          refine (M1.out _).mono ?_
          rintro e w4 ⟨rfl, hb⟩
          have hB4 : Below w.heap.size w w4 := hB3.trans (hb.mono hB3.size)
          clear hb hB3
          go_wp2_with fail
          refine (M2.out _).mono ?_
          rintro e w5 ⟨rfl, hb⟩
          have hB5 : Below w.heap.size w w5 := hB4.trans (hb.mono hB4.size)
          clear hb hB4
          go_wp2_with fail
          refine (M3.out _).mono ?_
          rintro e w6 ⟨rfl, hb⟩
          have hB6 : Below w.heap.size w w6 := hB5.trans (hb.mono hB5.size)
          clear hb hB5
          go_wp2_with fail
          as_aux_lemma =>
            refine (M4.out _).mono ?_
            rintro e w7 ⟨rfl, hb⟩
            have hB7 : Below w.heap.size w w7 := hB6.trans (hb.mono hB6.size)
            clear hb hB6
            go_wp2_with fail
            refine (M5.out _).mono ?_
            rintro e w8 ⟨rfl, hb⟩
            have hB8 : Below w.heap.size w w8 := hB7.trans (hb.mono hB7.size)
            clear hb hB7
            go_wp2_with fail
            refine (M6.out _).mono ?_
            rintro e w9 ⟨rfl, hb⟩
            have hB9 : Below w.heap.size w w9 := hB8.trans (hb.mono hB8.size)
            clear hb hB8
            go_wp2_with fail
            as_aux_lemma =>
              refine (awake1 _).mono ?_
              rintro e w10 ⟨rfl, hb⟩
              have hB10 : Below w.heap.size w w10 := hB9.trans (hb.mono hB9.size)
              go_wp2_with fail
              go_ret
              exact ⟨rfl, hB10⟩
  · obtain rfl : k = 0 := HK.out.trans (cmp_eq hV)
    obtain rfl := hV
    have t1 : ((a : Int) == (b : Int)) = false := by simp; omega
    go_enter Try.func10, Try.ntmps10
    go_wp2_with fail
    refine (M7.out _).mono ?_
    rintro e wq ⟨rfl, rfl⟩
    go_wp2_with fail
    refine (M8.out _).mono ?_
    rintro e wq ⟨rfl, rfl⟩
    go_wp2_with fail
    refine (M7.out _).mono ?_
    rintro e wq ⟨rfl, rfl⟩
    go_wp2_with fail
    refine (M8.out _).mono ?_
    rintro e wq ⟨rfl, rfl⟩
    go_wp2_with fail
    as_aux_lemma =>
      refine (M1.out _).mono ?_
      rintro e w1 ⟨rfl, hb⟩
      have hB1 : Below w.heap.size w w1 := hb
      clear hb
      go_wp2_with fail
      refine (M2.out _).mono ?_
      rintro e w2 ⟨rfl, hb⟩
      have hB2 : Below w.heap.size w w2 := hB1.trans (hb.mono hB1.size)
      clear hb hB1
      go_wp2_with fail
      as_aux_lemma =>
        refine (M3.out _).mono ?_
        rintro e w3 ⟨rfl, hb⟩
        have hB3 : Below w.heap.size w w3 := hB2.trans (hb.mono hB2.size)
        clear hb hB2
        go_wp2_with fail
        as_aux_lemma =>
          refine (M1.out _).mono ?_
          rintro e w4 ⟨rfl, hb⟩
          have hB4 : Below w.heap.size w w4 := hB3.trans (hb.mono hB3.size)
          clear hb hB3
          go_wp2_with fail
          refine (M2.out _).mono ?_
          rintro e w5 ⟨rfl, hb⟩
          have hB5 : Below w.heap.size w w5 := hB4.trans (hb.mono hB4.size)
          clear hb hB4
          go_wp2_with fail
          refine (M3.out _).mono ?_
          rintro e w6 ⟨rfl, hb⟩
          have hB6 : Below w.heap.size w w6 := hB5.trans (hb.mono hB5.size)
          clear hb hB5
          go_wp2_with fail
          as_aux_lemma =>
            refine (M4.out _).mono ?_
            rintro e w7 ⟨rfl, hb⟩
            have hB7 : Below w.heap.size w w7 := hB6.trans (hb.mono hB6.size)
            clear hb hB6
            go_wp2_with fail
            refine (M5.out _).mono ?_
            rintro e w8 ⟨rfl, hb⟩
            have hB8 : Below w.heap.size w w8 := hB7.trans (hb.mono hB7.size)
            clear hb hB7
            go_wp2_with fail
            refine (M6.out _).mono ?_
            rintro e w9 ⟨rfl, hb⟩
            have hB9 : Below w.heap.size w w9 := hB8.trans (hb.mono hB8.size)
            clear hb hB8
            go_wp2_with fail
            as_aux_lemma =>
              refine (awake1 _).mono ?_
              rintro e w10 ⟨rfl, hb⟩
              have hB10 : Below w.heap.size w w10 := hB9.trans (hb.mono hB9.size)
              go_wp2_with fail
              go_ret
              exact ⟨rfl, hB10⟩
  · obtain rfl : k = 1 := HK.out.trans (cmp_gt hV)
    have t1 : ((a : Int) == (b : Int)) = false := by simp; omega
    go_enter Try.func10, Try.ntmps10
    go_wp2_with fail
    refine (M7.out _).mono ?_
    rintro e wq ⟨rfl, rfl⟩
    go_wp2_with fail
    refine (M8.out _).mono ?_
    rintro e wq ⟨rfl, rfl⟩
    go_wp2_with fail
    refine (M7.out _).mono ?_
    rintro e wq ⟨rfl, rfl⟩
    go_wp2_with fail
    refine (M8.out _).mono ?_
    rintro e wq ⟨rfl, rfl⟩
    go_wp2_with fail
    as_aux_lemma =>
      refine (M1.out _).mono ?_
      rintro e w1 ⟨rfl, hb⟩
      have hB1 : Below w.heap.size w w1 := hb
      clear hb
      go_wp2_with fail
      refine (M2.out _).mono ?_
      rintro e w2 ⟨rfl, hb⟩
      have hB2 : Below w.heap.size w w2 := hB1.trans (hb.mono hB1.size)
      clear hb hB1
      go_wp2_with fail
      as_aux_lemma =>
        refine (M3.out _).mono ?_
        rintro e w3 ⟨rfl, hb⟩
        have hB3 : Below w.heap.size w w3 := hB2.trans (hb.mono hB2.size)
        clear hb hB2
        go_wp2_with fail
        as_aux_lemma =>
          refine (M1.out _).mono ?_
          rintro e w4 ⟨rfl, hb⟩
          have hB4 : Below w.heap.size w w4 := hB3.trans (hb.mono hB3.size)
          clear hb hB3
          go_wp2_with fail
          refine (M2.out _).mono ?_
          rintro e w5 ⟨rfl, hb⟩
          have hB5 : Below w.heap.size w w5 := hB4.trans (hb.mono hB4.size)
          clear hb hB4
          go_wp2_with fail
          refine (M3.out _).mono ?_
          rintro e w6 ⟨rfl, hb⟩
          have hB6 : Below w.heap.size w w6 := hB5.trans (hb.mono hB5.size)
          clear hb hB5
          go_wp2_with fail
          as_aux_lemma =>
            refine (M4.out _).mono ?_
            rintro e w7 ⟨rfl, hb⟩
            have hB7 : Below w.heap.size w w7 := hB6.trans (hb.mono hB6.size)
            clear hb hB6
            go_wp2_with fail
            refine (M5.out _).mono ?_
            rintro e w8 ⟨rfl, hb⟩
            have hB8 : Below w.heap.size w w8 := hB7.trans (hb.mono hB7.size)
            clear hb hB7
            go_wp2_with fail
            refine (M6.out _).mono ?_
            rintro e w9 ⟨rfl, hb⟩
            have hB9 : Below w.heap.size w w9 := hB8.trans (hb.mono hB8.size)
            clear hb hB8
            go_wp2_with fail
            as_aux_lemma =>
              refine (awake1 _).mono ?_
              rintro e w10 ⟨rfl, hb⟩
              have hB10 : Below w.heap.size w w10 := hB9.trans (hb.mono hB9.size)
              go_wp2_with fail
              go_ret
              exact ⟨rfl, hB10⟩

set_option maxRecDepth 100000 in
set_option maxHeartbeats 2000000 in
theorem o_gt0 (a b c : Nat) (v x k : Int) (ha : a < lim) (hb0 : b < lim) (hc : c < lim) (v0 : -9223372036854775808 ≤ v) (v1 : v ≤ 9223372036854775807) (x0 : -9223372036854775808 ≤ x) (x1 : x ≤ 9223372036854775807)
    (hab : b < a) (zc : ((c : Int) == 0) = true) (e1 : cmpN (b * c) (a * c) = 0)
    (e2 : cmpN (v.natAbs * v.natAbs) (x.natAbs * x.natAbs) = k) (hk : k = cmpN v.natAbs x.natAbs) (w : World) :
    Calls Try.prog 10 #[.int .u64 a, .int .u64 b, .int .u64 c, .int .i64 v, .int .i64 x] w fun e w' => e = .returned (.bool true) ∧ Below w.heap.size w w' := by
  have m1 := fun w => mulc b c hb0 hc rfl rfl rfl rfl w
  have m2 := fun w => mulc a c ha hc rfl rfl rfl rfl w
  have m3 := fun w => cmpc (b * c) (a * c) rfl rfl rfl rfl e1 w
  have m4 := fun w => sqc v v0 v1 rfl rfl w
  have m5 := fun w => sqc x x0 x1 rfl rfl w
  have m6 := fun w => cmpc (v.natAbs * v.natAbs) (x.natAbs * x.natAbs) rfl rfl rfl rfl e2 w
  have m7 := fun w => wabs v v0 v1 w
  have m8 := fun w => wabs x x0 x1 w
  have M1 := Lib.hid m1; have M2 := Lib.hid m2; have M3 := Lib.hid m3; have M4 := Lib.hid m4; have M5 := Lib.hid m5; have M6 := Lib.hid m6; have M7 := Lib.hid m7; have M8 := Lib.hid m8
  clear m1 m2 m3 m4 m5 m6 m7 m8 e1 e2
  generalize hiN (a * c) = h1 at *
  generalize loN (a * c) = l1 at *
  generalize hiN (b * c) = h2 at *
  generalize loN (b * c) = l2 at *
  generalize hiN (v.natAbs * v.natAbs) = h3 at *
  generalize loN (v.natAbs * v.natAbs) = l3 at *
  generalize hiN (x.natAbs * x.natAbs) = h4 at *
  generalize loN (x.natAbs * x.natAbs) = l4 at *
  generalize v.natAbs = V at *
  generalize x.natAbs = X at *
  have HK := Lib.hid hk
  clear hk
  rcases Nat.lt_trichotomy V X with hV | hV | hV
  · obtain rfl : k = -1 := HK.out.trans (cmp_lt hV)
    go_enter Try.func10, Try.ntmps10
    go_wp2_with fail
    refine (M7.out _).mono ?_
    rintro e wq ⟨rfl, rfl⟩
    go_wp2_with fail
    refine (M8.out _).mono ?_
    rintro e wq ⟨rfl, rfl⟩
    go_wp2_with fail
    refine (M7.out _).mono ?_
    rintro e wq ⟨rfl, rfl⟩
    go_wp2_with fail
    refine (M8.out _).mono ?_
    rintro e wq ⟨rfl, rfl⟩
    go_wp2_with fail
    as_aux_lemma =>
      refine (M1.out _).mono ?_
      rintro e w1 ⟨rfl, hb⟩
      have hB1 : Below w.heap.size w w1 := hb
      clear hb
      go_wp2_with fail
      refine (M2.out _).mono ?_
      rintro e w2 ⟨rfl, hb⟩
      have hB2 : Below w.heap.size w w2 := hB1.trans (hb.mono hB1.size)
      clear hb hB1
      go_wp2_with fail
      as_aux_lemma =>
        refine (M3.out _).mono ?_
        rintro e w3 ⟨rfl, hb⟩
        have hB3 : Below w.heap.size w w3 := hB2.trans (hb.mono hB2.size)
        clear hb hB2
        go_wp2_with fail
        as_aux_lemma =>
          refine (M4.out _).mono ?_
          rintro e w7 ⟨rfl, hb⟩
          have hB7 : Below w.heap.size w w7 := hB3.trans (hb.mono hB3.size)
          clear hb hB3
          go_wp2_with fail
          refine (M5.out _).mono ?_
          rintro e w8 ⟨rfl, hb⟩
          have hB8 : Below w.heap.size w w8 := hB7.trans (hb.mono hB7.size)
          clear hb hB7
          go_wp2_with fail
          refine (M6.out _).mono ?_
          rintro e w9 ⟨rfl, hb⟩
          have hB9 : Below w.heap.size w w9 := hB8.trans (hb.mono hB8.size)
          clear hb hB8
          go_wp2_with fail
          as_aux_lemma =>
            refine (awake1 _).mono ?_
            rintro e w10 ⟨rfl, hb⟩
            have hB10 : Below w.heap.size w w10 := hB9.trans (hb.mono hB9.size)
            go_wp2_with fail
            go_ret
            exact ⟨rfl, hB10⟩
  · obtain rfl : k = 0 := HK.out.trans (cmp_eq hV)
    obtain rfl := hV
    go_enter Try.func10, Try.ntmps10
    go_wp2_with fail
    refine (M7.out _).mono ?_
    rintro e wq ⟨rfl, rfl⟩
    go_wp2_with fail
    refine (M8.out _).mono ?_
    rintro e wq ⟨rfl, rfl⟩
    go_wp2_with fail
    refine (M7.out _).mono ?_
    rintro e wq ⟨rfl, rfl⟩
    go_wp2_with fail
    refine (M8.out _).mono ?_
    rintro e wq ⟨rfl, rfl⟩
    go_wp2_with fail
    as_aux_lemma =>
      refine (M1.out _).mono ?_
      rintro e w1 ⟨rfl, hb⟩
      have hB1 : Below w.heap.size w w1 := hb
      clear hb
      go_wp2_with fail
      refine (M2.out _).mono ?_
      rintro e w2 ⟨rfl, hb⟩
      have hB2 : Below w.heap.size w w2 := hB1.trans (hb.mono hB1.size)
      clear hb hB1
      go_wp2_with fail
      as_aux_lemma =>
        refine (M3.out _).mono ?_
        rintro e w3 ⟨rfl, hb⟩
        have hB3 : Below w.heap.size w w3 := hB2.trans (hb.mono hB2.size)
        clear hb hB2
        go_wp2_with fail
        as_aux_lemma =>
          refine (M4.out _).mono ?_
          rintro e w7 ⟨rfl, hb⟩
          have hB7 : Below w.heap.size w w7 := hB3.trans (hb.mono hB3.size)
          clear hb hB3
          go_wp2_with fail
          refine (M5.out _).mono ?_
          rintro e w8 ⟨rfl, hb⟩
          have hB8 : Below w.heap.size w w8 := hB7.trans (hb.mono hB7.size)
          clear hb hB7
          go_wp2_with fail
          refine (M6.out _).mono ?_
          rintro e w9 ⟨rfl, hb⟩
          have hB9 : Below w.heap.size w w9 := hB8.trans (hb.mono hB8.size)
          clear hb hB8
          go_wp2_with fail
          as_aux_lemma =>
            refine (awake1 _).mono ?_
            rintro e w10 ⟨rfl, hb⟩
            have hB10 : Below w.heap.size w w10 := hB9.trans (hb.mono hB9.size)
            go_wp2_with fail
            go_ret
            exact ⟨rfl, hB10⟩
  · obtain rfl : k = 1 := HK.out.trans (cmp_gt hV)
    go_enter Try.func10, Try.ntmps10
    go_wp2_with fail
    refine (M7.out _).mono ?_
    rintro e wq ⟨rfl, rfl⟩
    go_wp2_with fail
    refine (M8.out _).mono ?_
    rintro e wq ⟨rfl, rfl⟩
    go_wp2_with fail
    refine (M7.out _).mono ?_
    rintro e wq ⟨rfl, rfl⟩
    go_wp2_with fail
    refine (M8.out _).mono ?_
    rintro e wq ⟨rfl, rfl⟩
    go_wp2_with fail
    as_aux_lemma =>
      refine (M1.out _).mono ?_
      rintro e w1 ⟨rfl, hb⟩
      have hB1 : Below w.heap.size w w1 := hb
      clear hb
      go_wp2_with fail
      refine (M2.out _).mono ?_
      rintro e w2 ⟨rfl, hb⟩
      have hB2 : Below w.heap.size w w2 := hB1.trans (hb.mono hB1.size)
      clear hb hB1
      go_wp2_with fail
      as_aux_lemma =>
        refine (M3.out _).mono ?_
        rintro e w3 ⟨rfl, hb⟩
        have hB3 : Below w.heap.size w w3 := hB2.trans (hb.mono hB2.size)
        clear hb hB2
        go_wp2_with fail
        as_aux_lemma =>
          refine (M4.out _).mono ?_
          rintro e w7 ⟨rfl, hb⟩
          have hB7 : Below w.heap.size w w7 := hB3.trans (hb.mono hB3.size)
          clear hb hB3
          go_wp2_with fail
          refine (M5.out _).mono ?_
          rintro e w8 ⟨rfl, hb⟩
          have hB8 : Below w.heap.size w w8 := hB7.trans (hb.mono hB7.size)
          clear hb hB7
          go_wp2_with fail
          refine (M6.out _).mono ?_
          rintro e w9 ⟨rfl, hb⟩
          have hB9 : Below w.heap.size w w9 := hB8.trans (hb.mono hB8.size)
          clear hb hB8
          go_wp2_with fail
          as_aux_lemma =>
            refine (awake1 _).mono ?_
            rintro e w10 ⟨rfl, hb⟩
            have hB10 : Below w.heap.size w w10 := hB9.trans (hb.mono hB9.size)
            go_wp2_with fail
            go_ret
            exact ⟨rfl, hB10⟩

set_option maxRecDepth 100000 in
set_option maxHeartbeats 2000000 in
theorem o_gt1 (a b c : Nat) (v x k : Int) (ha : a < lim) (hb0 : b < lim) (hc : c < lim) (v0 : -9223372036854775808 ≤ v) (v1 : v ≤ 9223372036854775807) (x0 : -9223372036854775808 ≤ x) (x1 : x ≤ 9223372036854775807)
    (hab : b < a) (zc : ((c : Int) == 0) = false) (e1 : cmpN (b * c) (a * c) = -1)
    (e2 : cmpN (v.natAbs * v.natAbs) (x.natAbs * x.natAbs) = k) (hk : k = cmpN v.natAbs x.natAbs) (w : World) :
    Calls Try.prog 10 #[.int .u64 a, .int .u64 b, .int .u64 c, .int .i64 v, .int .i64 x] w fun e w' => e = .returned (.bool true) ∧ Below w.heap.size w w' := by
  have m1 := fun w => mulc b c hb0 hc rfl rfl rfl rfl w
  have m2 := fun w => mulc a c ha hc rfl rfl rfl rfl w
  have m3 := fun w => cmpc (b * c) (a * c) rfl rfl rfl rfl e1 w
  have m4 := fun w => sqc v v0 v1 rfl rfl w
  have m5 := fun w => sqc x x0 x1 rfl rfl w
  have m6 := fun w => cmpc (v.natAbs * v.natAbs) (x.natAbs * x.natAbs) rfl rfl rfl rfl e2 w
  have m7 := fun w => wabs v v0 v1 w
  have m8 := fun w => wabs x x0 x1 w
  have M1 := Lib.hid m1; have M2 := Lib.hid m2; have M3 := Lib.hid m3; have M4 := Lib.hid m4; have M5 := Lib.hid m5; have M6 := Lib.hid m6; have M7 := Lib.hid m7; have M8 := Lib.hid m8
  clear m1 m2 m3 m4 m5 m6 m7 m8 e1 e2
  generalize hiN (a * c) = h1 at *
  generalize loN (a * c) = l1 at *
  generalize hiN (b * c) = h2 at *
  generalize loN (b * c) = l2 at *
  generalize hiN (v.natAbs * v.natAbs) = h3 at *
  generalize loN (v.natAbs * v.natAbs) = l3 at *
  generalize hiN (x.natAbs * x.natAbs) = h4 at *
  generalize loN (x.natAbs * x.natAbs) = l4 at *
  generalize v.natAbs = V at *
  generalize x.natAbs = X at *
  have HK := Lib.hid hk
  clear hk
  rcases Nat.lt_trichotomy V X with hV | hV | hV
  · obtain rfl : k = -1 := HK.out.trans (cmp_lt hV)
    have t1 : ((b : Int) == (a : Int)) = false := by simp; omega
    go_enter Try.func10, Try.ntmps10
    go_wp2_with fail
    refine (M7.out _).mono ?_
    rintro e wq ⟨rfl, rfl⟩
    go_wp2_with fail
    refine (M8.out _).mono ?_
    rintro e wq ⟨rfl, rfl⟩
    go_wp2_with fail
    refine (M7.out _).mono ?_
    rintro e wq ⟨rfl, rfl⟩
    go_wp2_with fail
    refine (M8.out _).mono ?_
    rintro e wq ⟨rfl, rfl⟩
    go_wp2_with fail
    as_aux_lemma =>
      refine (M1.out _).mono ?_
      rintro e w1 ⟨rfl, hb⟩
      have hB1 : Below w.heap.size w w1 := hb
      clear hb
      go_wp2_with fail
      refine (M2.out _).mono ?_
      rintro e w2 ⟨rfl, hb⟩
      have hB2 : Below w.heap.size w w2 := hB1.trans (hb.mono hB1.size)
      clear hb hB1
      go_wp2_with fail
      as_aux_lemma =>
        refine (M3.out _).mono ?_
        rintro e w3 ⟨rfl, hb⟩
        have hB3 : Below w.heap.size w w3 := hB2.trans (hb.mono hB2.size)
        clear hb hB2
        go_wp2_with fail
        as_aux_lemma =>
          refine (M1.out _).mono ?_
          rintro e w4 ⟨rfl, hb⟩
          have hB4 : Below w.heap.size w w4 := hB3.trans (hb.mono hB3.size)
          clear hb hB3
          go_wp2_with fail
          refine (M2.out _).mono ?_
          rintro e w5 ⟨rfl, hb⟩
          have hB5 : Below w.heap.size w w5 := hB4.trans (hb.mono hB4.size)
          clear hb hB4
          go_wp2_with fail
          refine (M3.out _).mono ?_
          rintro e w6 ⟨rfl, hb⟩
          have hB6 : Below w.heap.size w w6 := hB5.trans (hb.mono hB5.size)
          clear hb hB5
          go_wp2_with fail
          as_aux_lemma =>
            refine (M4.out _).mono ?_
            rintro e w7 ⟨rfl, hb⟩
            have hB7 : Below w.heap.size w w7 := hB6.trans (hb.mono hB6.size)
            clear hb hB6
            go_wp2_with fail
            refine (M5.out _).mono ?_
            rintro e w8 ⟨rfl, hb⟩
            have hB8 : Below w.heap.size w w8 := hB7.trans (hb.mono hB7.size)
            clear hb hB7
            go_wp2_with fail
            refine (M6.out _).mono ?_
            rintro e w9 ⟨rfl, hb⟩
            have hB9 : Below w.heap.size w w9 := hB8.trans (hb.mono hB8.size)
            clear hb hB8
            go_wp2_with fail
            as_aux_lemma =>
              refine (awake1 _).mono ?_
              rintro e w10 ⟨rfl, hb⟩
              have hB10 : Below w.heap.size w w10 := hB9.trans (hb.mono hB9.size)
              go_wp2_with fail
              go_ret
              exact ⟨rfl, hB10⟩
  · obtain rfl : k = 0 := HK.out.trans (cmp_eq hV)
    obtain rfl := hV
    have t1 : ((b : Int) == (a : Int)) = false := by simp; omega
    go_enter Try.func10, Try.ntmps10
    go_wp2_with fail
    refine (M7.out _).mono ?_
    rintro e wq ⟨rfl, rfl⟩
    go_wp2_with fail
    refine (M8.out _).mono ?_
    rintro e wq ⟨rfl, rfl⟩
    go_wp2_with fail
    refine (M7.out _).mono ?_
    rintro e wq ⟨rfl, rfl⟩
    go_wp2_with fail
    refine (M8.out _).mono ?_
    rintro e wq ⟨rfl, rfl⟩
    go_wp2_with fail
    as_aux_lemma =>
      refine (M1.out _).mono ?_
      rintro e w1 ⟨rfl, hb⟩
      have hB1 : Below w.heap.size w w1 := hb
      clear hb
      go_wp2_with fail
      refine (M2.out _).mono ?_
      rintro e w2 ⟨rfl, hb⟩
      have hB2 : Below w.heap.size w w2 := hB1.trans (hb.mono hB1.size)
      clear hb hB1
      go_wp2_with fail
      as_aux_lemma =>
        refine (M3.out _).mono ?_
        rintro e w3 ⟨rfl, hb⟩
        have hB3 : Below w.heap.size w w3 := hB2.trans (hb.mono hB2.size)
        clear hb hB2
        go_wp2_with fail
        as_aux_lemma =>
          refine (M1.out _).mono ?_
          rintro e w4 ⟨rfl, hb⟩
          have hB4 : Below w.heap.size w w4 := hB3.trans (hb.mono hB3.size)
          clear hb hB3
          go_wp2_with fail
          refine (M2.out _).mono ?_
          rintro e w5 ⟨rfl, hb⟩
          have hB5 : Below w.heap.size w w5 := hB4.trans (hb.mono hB4.size)
          clear hb hB4
          go_wp2_with fail
          refine (M3.out _).mono ?_
          rintro e w6 ⟨rfl, hb⟩
          have hB6 : Below w.heap.size w w6 := hB5.trans (hb.mono hB5.size)
          clear hb hB5
          go_wp2_with fail
          as_aux_lemma =>
            refine (M4.out _).mono ?_
            rintro e w7 ⟨rfl, hb⟩
            have hB7 : Below w.heap.size w w7 := hB6.trans (hb.mono hB6.size)
            clear hb hB6
            go_wp2_with fail
            refine (M5.out _).mono ?_
            rintro e w8 ⟨rfl, hb⟩
            have hB8 : Below w.heap.size w w8 := hB7.trans (hb.mono hB7.size)
            clear hb hB7
            go_wp2_with fail
            refine (M6.out _).mono ?_
            rintro e w9 ⟨rfl, hb⟩
            have hB9 : Below w.heap.size w w9 := hB8.trans (hb.mono hB8.size)
            clear hb hB8
            go_wp2_with fail
            as_aux_lemma =>
              refine (awake1 _).mono ?_
              rintro e w10 ⟨rfl, hb⟩
              have hB10 : Below w.heap.size w w10 := hB9.trans (hb.mono hB9.size)
              go_wp2_with fail
              go_ret
              exact ⟨rfl, hB10⟩
  · obtain rfl : k = 1 := HK.out.trans (cmp_gt hV)
    have t1 : ((b : Int) == (a : Int)) = false := by simp; omega
    go_enter Try.func10, Try.ntmps10
    go_wp2_with fail
    refine (M7.out _).mono ?_
    rintro e wq ⟨rfl, rfl⟩
    go_wp2_with fail
    refine (M8.out _).mono ?_
    rintro e wq ⟨rfl, rfl⟩
    go_wp2_with fail
    refine (M7.out _).mono ?_
    rintro e wq ⟨rfl, rfl⟩
    go_wp2_with fail
    refine (M8.out _).mono ?_
    rintro e wq ⟨rfl, rfl⟩
    go_wp2_with fail
    as_aux_lemma =>
      refine (M1.out _).mono ?_
      rintro e w1 ⟨rfl, hb⟩
      have hB1 : Below w.heap.size w w1 := hb
      clear hb
      go_wp2_with fail
      refine (M2.out _).mono ?_
      rintro e w2 ⟨rfl, hb⟩
      have hB2 : Below w.heap.size w w2 := hB1.trans (hb.mono hB1.size)
      clear hb hB1
      go_wp2_with fail
      as_aux_lemma =>
        refine (M3.out _).mono ?_
        rintro e w3 ⟨rfl, hb⟩
        have hB3 : Below w.heap.size w w3 := hB2.trans (hb.mono hB2.size)
        clear hb hB2
        go_wp2_with fail
        as_aux_lemma =>
          refine (M1.out _).mono ?_
          rintro e w4 ⟨rfl, hb⟩
          have hB4 : Below w.heap.size w w4 := hB3.trans (hb.mono hB3.size)
          clear hb hB3
          go_wp2_with fail
          refine (M2.out _).mono ?_
          rintro e w5 ⟨rfl, hb⟩
          have hB5 : Below w.heap.size w w5 := hB4.trans (hb.mono hB4.size)
          clear hb hB4
          go_wp2_with fail
          refine (M3.out _).mono ?_
          rintro e w6 ⟨rfl, hb⟩
          have hB6 : Below w.heap.size w w6 := hB5.trans (hb.mono hB5.size)
          clear hb hB5
          go_wp2_with fail
          as_aux_lemma =>
            refine (M4.out _).mono ?_
            rintro e w7 ⟨rfl, hb⟩
            have hB7 : Below w.heap.size w w7 := hB6.trans (hb.mono hB6.size)
            clear hb hB6
            go_wp2_with fail
            refine (M5.out _).mono ?_
            rintro e w8 ⟨rfl, hb⟩
            have hB8 : Below w.heap.size w w8 := hB7.trans (hb.mono hB7.size)
            clear hb hB7
            go_wp2_with fail
            refine (M6.out _).mono ?_
            rintro e w9 ⟨rfl, hb⟩
            have hB9 : Below w.heap.size w w9 := hB8.trans (hb.mono hB8.size)
            clear hb hB8
            go_wp2_with fail
            as_aux_lemma =>
              refine (awake1 _).mono ?_
              rintro e w10 ⟨rfl, hb⟩
              have hB10 : Below w.heap.size w w10 := hB9.trans (hb.mono hB9.size)
              go_wp2_with fail
              go_ret
              exact ⟨rfl, hB10⟩

theorem order (a b c : Nat) (ha : a < lim) (hb : b < lim) (hc : c < lim) (v x : Int) (v0 : -9223372036854775808 ≤ v) (v1 : v ≤ 9223372036854775807) (x0 : -9223372036854775808 ≤ x) (x1 : x ≤ 9223372036854775807) (w : World) :
    Calls Try.prog 10 #[.int .u64 a, .int .u64 b, .int .u64 c, .int .i64 v, .int .i64 x] w fun e w' => e = .returned (.bool true) ∧ Below w.heap.size w w' := by
  have sq : cmpN (v.natAbs * v.natAbs) (x.natAbs * x.natAbs) = cmpN v.natAbs x.natAbs := by
    generalize v.natAbs = V
    generalize x.natAbs = X
    rcases Nat.lt_trichotomy V X with h | h | h
    · rw [cmp_lt h, cmp_lt (Nat.mul_lt_mul'' h h)]
    · rw [cmp_eq h, cmp_eq (by rw [h])]
    · rw [cmp_gt h, cmp_gt (Nat.mul_lt_mul'' h h)]
  by_cases h0 : c = 0
  · have t0 : ((c : Int) == 0) = true := by simp; omega
    have z : ∀ L H : Nat, cmpN (L * c) (H * c) = 0 := fun L H => cmp_eq (by rw [h0]; simp)
    rcases Nat.lt_trichotomy a b with h | h | h
    · exact o_lt0 a b c v x _ ha hb hc v0 v1 x0 x1 h t0 (z _ _) rfl sq w
    · subst h; exact o_eq0 a a c v x _ ha ha hc v0 v1 x0 x1 t0 (z _ _) rfl sq w
    · exact o_gt0 a b c v x _ ha hb hc v0 v1 x0 x1 h t0 (z _ _) rfl sq w
  · have t0 : ((c : Int) == 0) = false := by simp; omega
    have z : ∀ L H : Nat, L < H → cmpN (L * c) (H * c) = -1 := fun L H h => cmp_lt (Nat.mul_lt_mul_of_pos_right h (by omega))
    rcases Nat.lt_trichotomy a b with h | h | h
    · exact o_lt1 a b c v x _ ha hb hc v0 v1 x0 x1 h t0 (z _ _ h) rfl sq w
    · subst h; exact o_eq1 a a c v x _ ha ha hc v0 v1 x0 x1 t0 (cmp_eq rfl) rfl sq w
    · exact o_gt1 a b c v x _ ha hb hc v0 v1 x0 x1 h t0 (z _ _ h) rfl sq w
end Go.Proofs.Ytgbkanbahclnhaa
