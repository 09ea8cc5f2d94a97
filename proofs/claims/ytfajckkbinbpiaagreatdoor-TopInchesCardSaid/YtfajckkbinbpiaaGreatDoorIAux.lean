/- Lemmas on masks of bits, sums of strings and texts of groups that the walks of the statement share. -/
import Derived.Test.YtfajckkbinbpiaaGreatDoorJ07
import Derived.IntWalk
namespace Go.Proofs.YtfajckkbinbpiaaGreatDoor
set_option linter.unusedVariables false
set_option maxRecDepth 100000
open Go.RowKit
theorem mask (j : Nat) (hj : j ≤ 62) (m : Int) (hm : (BitVec.ofInt 64 m).toNat = 2 ^ j - 1) (n : Int) : bits .and .i64 n m = n % (2 ^ j : Nat) := by
  have key : (BitVec.ofInt 64 n &&& BitVec.ofInt 64 m).toNat = (n % ((2 ^ 64 : Nat) : Int)).toNat % 2 ^ j := by
    rw [BitVec.toNat_and, BitVec.toNat_ofInt, hm, Nat.and_two_pow_sub_one_eq_mod]
  show IntKind.i64.wrap ((BitVec.ofInt 64 n &&& BitVec.ofInt 64 m).toNat : Nat) = n % (2 ^ j : Nat)
  have hd : (2 ^ j : Nat) ∣ 2 ^ 64 := Nat.pow_dvd_pow 2 (by omega)
  have hp : 0 < 2 ^ j := Nat.two_pow_pos j
  have hlt : 2 ^ j ≤ 2 ^ 62 := Nat.pow_le_pow_right (by decide) hj
  have h0 : 0 ≤ n % ((2 ^ 64 : Nat) : Int) := Int.emod_nonneg _ (by decide)
  have e : (((n % ((2 ^ 64 : Nat) : Int)).toNat % 2 ^ j : Nat) : Int) = n % ((2 ^ j : Nat) : Int) := by
    rw [Int.natCast_emod, Int.toNat_of_nonneg h0]
    exact Int.emod_emod_of_dvd _ (by exact_mod_cast hd)
  rw [key, e, IntKind.wrap_i64]
  have h1 : 0 ≤ n % ((2 ^ j : Nat) : Int) := Int.emod_nonneg _ (by omega)
  have h2 : n % ((2 ^ j : Nat) : Int) < ((2 ^ j : Nat) : Int) := Int.emod_lt_of_pos _ (by omega)
  omega
theorem bs_app (a b : List UInt8) : bs a ++ bs b = bs (a ++ b) := by
  apply ByteArray.ext
  simp [bs]
theorem bs_inj {a b : List UInt8} (h : bs a = bs b) : a = b := by
  have := congrArg (fun x : ByteArray => x.data.toList) h
  simpa [bs] using this
theorem add_lit (l m : List UInt8) (S S' : ByteArray) (hS : bs l = S) (hS' : bs (l ++ m) = S') (hl : l.length ≤ 1000000) (hm : m.length ≤ 1000000) (w : World) : (Op.stringOp .add S (bs m)).run Tryz.prog w = .ok (.string S') w := by
  rw [run_string_add_sum w S _ (by rw [← hS, bs_size, bs_size]; omega), ← hS, ← hS', bs_app]
theorem bs_back (b : ByteArray) : bs b.data.toList = b := by cases b; simp [bs]
theorem texts_nil : texts [] = [] := rfl
theorem texts_append (a b : List Gr) : texts (a ++ b) = texts a ++ texts b := by simp [texts]
end Go.Proofs.YtfajckkbinbpiaaGreatDoor
