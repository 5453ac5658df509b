/-
  Plain mathematics of numbers and bytes: no program in sight.
-/
import Derived.Test.YtdbdlhmgokllaaaKit
import Derived.Lib.Strings
namespace Go.Proofs.Ytdbdlhmgokllaaa
open Go.RowKit
set_option linter.unusedVariables false

theorem u64_nat (m : Nat) : IntKind.u64.wrap (m : Int) = ((m % 18446744073709551616 : Nat) : Int) := by rw [IntKind.wrap_u64]; omega
theorem u64_small {m : Nat} (h : m < 18446744073709551616) : IntKind.u64.wrap (m : Int) = (m : Int) := by rw [u64_nat, Nat.mod_eq_of_lt h]
def byteAt (n i : Nat) : UInt8 := UInt8.ofNat (n / 256 ^ i % 256)
theorem byteAt_toNat (n i : Nat) : (byteAt n i).toNat = n / 256 ^ i % 256 := by
  unfold byteAt
  rw [UInt8.toNat_ofNat']
  omega
def putL (n : Nat) : Nat → List UInt8
  | 0 => []
  | w + 1 => byteAt n w :: putL n w
theorem putL_length (n w : Nat) : (putL n w).length = w := by induction w with | zero => rfl | succ w ih => simp [putL, ih]
def shr8 (n j : Nat) : Nat := n / 256 ^ j
theorem shr8_zero (n : Nat) : shr8 n 0 = n := by simp [shr8]
theorem shr8_le (n j : Nat) : shr8 n j ≤ n := Nat.div_le_self _ _
theorem shr8_succ (n j : Nat) : shr8 n (j + 1) = shr8 n j / 256 := by unfold shr8; rw [Nat.pow_succ, Nat.div_div_eq_div_mul]
theorem shr8_mod (n j : Nat) : ((shr8 n j : Int) % 256) = ((byteAt n j).toNat : Int) := by
  rw [byteAt_toNat]
  unfold shr8
  omega
theorem shr8_div (n j : Nat) : ((shr8 n j : Int) / 256) = (shr8 n (j + 1) : Int) := by rw [shr8_succ]; omega
theorem set_replicate {α : Type} (z u : α) (L : List α) : ∀ p, (List.replicate (p + 1) z ++ L).set p u = List.replicate p z ++ u :: L
  | 0 => rfl
  | p + 1 => by
    rw [List.replicate_succ, List.cons_append, List.set_cons_succ, set_replicate z u L p, List.replicate_succ (n := p), List.cons_append]
def str (l : List UInt8) : ByteArray := ⟨l.toArray⟩
@[simp] theorem str_toList (l : List UInt8) : (str l).data.toList = l := rfl
@[simp] theorem str_size (l : List UInt8) : (str l).size = l.length := by simp [str, ByteArray.size]
theorem str_of (s : ByteArray) : str s.data.toList = s := by cases s; rfl
theorem data_inj {s t : ByteArray} (h : s.data.toList = t.data.toList) : s = t := by rw [← str_of s, ← str_of t, h]
theorem str_append (a b : List UInt8) : str a ++ str b = str (a ++ b) := by
  apply data_inj
  simp
theorem toList_extract (s : ByteArray) (i j : Nat) : (s.extract i j).data.toList = (s.data.toList.drop i).take (j - i) := by
  rw [Lib.extract_data]
def p2 (k : Nat) : Nat := 2 ^ k
end Go.Proofs.Ytdbdlhmgokllaaa
