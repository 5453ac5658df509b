/-
  Plain: what bytes are a packet of IPv4; options. No program in sight but for its literals' kinds.
-/
import Derived.Test.YtcijplfamodjaaaIp4b
namespace Go.Proofs.Ytcijplfamodjaaa
open Go.ChangeShapes Go.WideShapes Go.ChangeAt Go.RowKit
set_option linter.unusedVariables false
set_option linter.unusedSimpArgs false

theorem ofInt_u8' (a : Nat) (ha : a < 256) : (BitVec.ofInt 8 (a : Int)).toNat = a := by
  rw [BitVec.ofInt_natCast, BitVec.toNat_ofNat]; exact Nat.mod_eq_of_lt (by omega)
theorem u8_and (a b : Nat) (ha : a < 256) (hb : b < 256) : bits .and .u8 (a : Int) (b : Int) = ((a &&& b : Nat) : Int) := by
  have hx : a &&& b < 2 ^ 8 := Nat.and_lt_two_pow _ (by omega)
  show IntKind.u8.wrap ((BitVec.ofInt 8 (a : Int) &&& BitVec.ofInt 8 (b : Int)).toNat : Int) = _
  rw [BitVec.toNat_and, ofInt_u8' a ha, ofInt_u8' b hb, IntKind.wrap_u8]
  omega
theorem u8_and15 (a : Nat) (ha : a < 256) : bits .and .u8 (a : Int) 15 = ((a % 16 : Nat) : Int) := by
  rw [show (15 : Int) = ((2 ^ 4 - 1 : Nat) : Int) from rfl, u8_and a _ ha (by omega), Nat.and_two_pow_sub_one_eq_mod]
theorem u8_and63 (a : Nat) (ha : a < 256) : bits .and .u8 (a : Int) 63 = ((a % 64 : Nat) : Int) := by
  rw [show (63 : Int) = ((2 ^ 6 - 1 : Nat) : Int) from rfl, u8_and a _ ha (by omega), Nat.and_two_pow_sub_one_eq_mod]
theorem i64_or8 (a b : Nat) (ha : a < 65536) (hb : b < 256) : bits .or .i64 ((a : Int) * 256) (b : Int) = ((a * 256 + b : Nat) : Int) := by
  rw [show (a : Int) * 256 = ((a * 256 : Nat) : Int) by omega, i64_or _ _ (by omega) (by omega)]
  congr 1
  rw [show a * 256 = a * 2 ^ 8 by rfl, ← Nat.shiftLeft_eq, Nat.shiftLeft_add_eq_or_of_lt (by omega)]
/-- options: whether the alert is among them, or none if they are not well -/
def opt4 : List UInt8 → Bool → Option Bool
  | [], is => some is
  | [b], is => if b = 0 then some is else if b = 1 then some is else none
  | b :: n :: r, is => if b = 0 then some is else if b = 1 then opt4 (n :: r) is else
    if h : 2 ≤ n.toNat ∧ n.toNat ≤ r.length + 2 then opt4 ((b :: n :: r).drop n.toNat) (is || (b :: n :: r).take n.toNat == [148, 4, 0, 0]) else none
  termination_by l => l.length
  decreasing_by
    · simp
    · simp only [List.length_drop, List.length_cons]; omega
theorem opt4_nil (is : Bool) : opt4 [] is = some is := by rw [opt4]
theorem opt4_zero (r : List UInt8) (is : Bool) : opt4 (0 :: r) is = some is := by cases r <;> rw [opt4, if_pos rfl]
theorem opt4_one (r : List UInt8) (is : Bool) : opt4 (1 :: r) is = opt4 r is := by
  cases r with
  | nil => simp [opt4]
  | cons n r => rw [opt4.eq_def]; simp
theorem opt4_short {b : UInt8} (h0 : b ≠ 0) (h1 : b ≠ 1) (is : Bool) : opt4 [b] is = none := by rw [opt4, if_neg h0, if_neg h1]
theorem opt4_bad {b n : UInt8} (r : List UInt8) (h0 : b ≠ 0) (h1 : b ≠ 1) (h : ¬ (2 ≤ n.toNat ∧ n.toNat ≤ r.length + 2)) (is : Bool) : opt4 (b :: n :: r) is = none := by
  rw [opt4, if_neg h0, if_neg h1, dif_neg h]
theorem opt4_opt {b n : UInt8} (r : List UInt8) (h0 : b ≠ 0) (h1 : b ≠ 1) (h : 2 ≤ n.toNat ∧ n.toNat ≤ r.length + 2) (is : Bool) : opt4 (b :: n :: r) is = opt4 ((b :: n :: r).drop n.toNat) (is || (b :: n :: r).take n.toNat == [148, 4, 0, 0]) := by
  rw [opt4, if_neg h0, if_neg h1, dif_pos h]
def by4 (s : ByteArray) (i : Nat) : Nat := (s.data.toList[i]?.getD 0).toNat
theorem by4_lt (s : ByteArray) (i : Nat) : by4 s i < 256 := by have := (s.data.toList[i]?.getD 0).toNat_lt; unfold by4; omega
theorem by4_get {s : ByteArray} {i : Nat} (h : i < s.size) : s[i].toNat = by4 s i := by unfold by4; rw [getElem_toList s i h]; rfl
/-- what is wrong of the first bytes -/
def sz4 (s : ByteArray) : Int :=
  if s.size < 20 then 3 else if by4 s 0 / 16 ≠ 4 then 5 else if by4 s 0 % 16 * 4 < 20 then 2 else if s.size < by4 s 0 % 16 * 4 then 3 else
  if foldN (wsum (s.data.toList.take (by4 s 0 % 16 * 4))) ≠ 65535 then 4 else if by4 s 2 * 256 + by4 s 3 < by4 s 0 % 16 * 4 then 2 else if s.size < by4 s 2 * 256 + by4 s 3 then 3 else 0
def opt4s (s : ByteArray) : Option Bool := opt4 (s.extract 20 (by4 s 0 % 16 * 4)).data.toList false
def err4 (s : ByteArray) : Int :=
  if sz4 s ≠ 0 then sz4 s else if by4 s 6 % 64 ≠ 0 ∨ by4 s 7 ≠ 0 then 5 else if opt4s s = none then 2 else if 1400 < by4 s 2 * 256 + by4 s 3 - by4 s 0 % 16 * 4 then 6 else 0
def p4Of (s : ByteArray) : P4 :=
  if err4 s ≠ 0 then p4z else ⟨by4 s 1, (by4 s 4 * 256 + by4 s 5 : Nat), by4 s 8, by4 s 9, false, adOf (s.extract 12 16), false, adOf (s.extract 16 20), (opt4s s).getD false, s.extract (by4 s 0 % 16 * 4) (by4 s 2 * 256 + by4 s 3)⟩
end Go.Proofs.Ytcijplfamodjaaa
