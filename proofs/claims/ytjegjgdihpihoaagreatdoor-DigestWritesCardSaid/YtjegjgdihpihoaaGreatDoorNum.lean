/-
  Plain mathematics of numbers and bytes: no program in sight.
-/
import Derived.Test.YtjegjgdihpihoaaGreatDoorKit
import Derived.Lib.Strings
namespace Go.Proofs.YtjegjgdihpihoaaGreatDoor
open Go.RowKit
set_option linter.unusedVariables false

/-! ### uint64 -/
theorem u64_nat (m : Nat) : IntKind.u64.wrap (m : Int) = ((m % 18446744073709551616 : Nat) : Int) := by rw [IntKind.wrap_u64]; omega
theorem u64_small {m : Nat} (h : m < 18446744073709551616) : IntKind.u64.wrap (m : Int) = (m : Int) := by rw [u64_nat, Nat.mod_eq_of_lt h]
theorem two64 : (2 : Nat) ^ 64 = 18446744073709551616 := by decide
theorem u64_shl8or {m : Nat} {b : UInt8} (h : m < 72057594037927936) :
    bits .or .u64 (IntKind.u64.wrap ((m : Int) * 256)) (IntKind.u64.wrap (b.toNat : Int)) = ((m * 256 + b.toNat : Nat) : Int) := by
  have hb : b.toNat < 256 := b.toNat_lt
  have e : ((m : Int) * 256) = ((m * 256 : Nat) : Int) := by omega
  rw [e, u64_small (by omega), u64_small (by omega), u64_or_nat _ _ (by omega) (by omega), nat_join 8 _ _ (by omega) (by omega)]
theorem u64_mul8or {m : Nat} {b : UInt8} (h : m < 72057594037927936) : bits .or .u64 ((m : Int) * 256) (IntKind.u64.wrap (b.toNat : Int)) = ((m * 256 + b.toNat : Nat) : Int) := by
  rw [← u64_shl8or h]
  congr 1
  have e : ((m : Int) * 256) = ((m * 256 : Nat) : Int) := by omega
  rw [e, u64_small (by omega)]
theorem cast_div_pow (n a : Nat) : ((n : Int) / 2 ^ a) = ((n / 2 ^ a : Nat) : Int) := by norm_cast
theorem u64_half {n : Nat} (hn : n < 18446744073709551616) : IntKind.u64.wrap ((n : Int).tdiv 2) = ((n / 2 : Nat) : Int) := by
  rw [Int.tdiv_eq_ediv_of_nonneg (by omega)]
  have e : ((n : Int) / 2) = ((n / 2 : Nat) : Int) := by omega
  rw [e, u64_small (by omega)]
theorem tmod2_nat (n : Nat) : (n : Int).tmod 2 = ((n % 2 : Nat) : Int) := by
  rw [Int.tmod_eq_emod_of_nonneg (by omega)]
  omega
/-! ### int -/
/-! ### the number that bytes are; the bytes of a number -/
def numL (l : List UInt8) : Nat := l.foldl (fun n b => n * 256 + b.toNat) 0
theorem numL_snoc (l : List UInt8) (b : UInt8) : numL (l ++ [b]) = numL l * 256 + b.toNat := by simp [numL, List.foldl_append]
theorem foldl_num (l : List UInt8) : ∀ n, l.foldl (fun n b => n * 256 + b.toNat) n = n * 256 ^ l.length + numL l := by
  induction l with
  | nil => intro n; simp [numL]
  | cons b l ih =>
    intro n
    have h1 := ih (n * 256 + b.toNat)
    have h2 := ih (0 * 256 + b.toNat)
    simp only [numL, List.foldl_cons, List.length_cons] at *
    rw [h1, h2, Nat.pow_succ, Nat.add_mul, Nat.add_mul, Nat.mul_assoc, Nat.mul_comm 256]
    omega
theorem numL_append (a b : List UInt8) : numL (a ++ b) = numL a * 256 ^ b.length + numL b := by
  have := foldl_num b (numL a)
  rw [← this]
  simp [numL, List.foldl_append]
theorem numL_cons (b : UInt8) (l : List UInt8) : numL (b :: l) = b.toNat * 256 ^ l.length + numL l := by
  have := numL_append [b] l
  simpa [numL] using this
theorem numL_lt (l : List UInt8) : numL l < 256 ^ l.length := by
  induction l with
  | nil => simp [numL]
  | cons b l ih =>
    have hb : b.toNat < 256 := b.toNat_lt
    rw [numL_cons, List.length_cons, Nat.pow_succ]
    have : b.toNat * 256 ^ l.length + 256 ^ l.length ≤ 256 ^ l.length * 256 := by
      have h1 : (b.toNat + 1) * 256 ^ l.length ≤ 256 * 256 ^ l.length := Nat.mul_le_mul_right _ (by omega)
      rw [Nat.add_mul] at h1
      omega
    omega
theorem pow256_le {k n : Nat} (h : k ≤ n) : 256 ^ k ≤ 256 ^ n := Nat.pow_le_pow_right (by omega) h

def byteAt (n i : Nat) : UInt8 := UInt8.ofNat (n / 256 ^ i % 256)
theorem byteAt_toNat (n i : Nat) : (byteAt n i).toNat = n / 256 ^ i % 256 := by
  unfold byteAt
  rw [UInt8.toNat_ofNat']
  omega
/-- the lowest w bytes, the highest first -/
def putL (n : Nat) : Nat → List UInt8
  | 0 => []
  | w + 1 => byteAt n w :: putL n w
theorem putL_length (n w : Nat) : (putL n w).length = w := by induction w with | zero => rfl | succ w ih => simp [putL, ih]
theorem numL_putL (n w : Nat) : numL (putL n w) = n % 256 ^ w := by
  induction w with
  | zero => simp [putL, numL]; omega
  | succ w ih =>
    rw [putL, numL_cons, ih, putL_length, byteAt_toNat, Nat.pow_succ]
    have := Nat.mod_mul (x := n) (a := 256 ^ w) (b := 256)
    rw [this, Nat.mul_comm]
    omega
/-- what is left of a number behind so many bytes -/
def shr8 (n j : Nat) : Nat := n / 256 ^ j
theorem shr8_zero (n : Nat) : shr8 n 0 = n := by simp [shr8]
theorem shr8_le (n j : Nat) : shr8 n j ≤ n := Nat.div_le_self _ _
theorem shr8_succ (n j : Nat) : shr8 n (j + 1) = shr8 n j / 256 := by unfold shr8; rw [Nat.pow_succ, Nat.div_div_eq_div_mul]
theorem shr8_mod (n j : Nat) : ((shr8 n j : Int) % 256) = ((byteAt n j).toNat : Int) := by
  rw [byteAt_toNat]
  unfold shr8
  omega
theorem shr8_div (n j : Nat) : ((shr8 n j : Int) / 256) = (shr8 n (j + 1) : Int) := by rw [shr8_succ]; omega
theorem set_replicate {α : Type} (z u : α) (L : List α) : ∀ p, (List.replicate (p + 1) z ++ L).set p u = List.replicate p z ++ u :: L
  | 0 => rfl
  | p + 1 => by
    rw [List.replicate_succ, List.cons_append, List.set_cons_succ, set_replicate z u L p, List.replicate_succ (n := p), List.cons_append]
/-! ### strings and lists of bytes -/
def str (l : List UInt8) : ByteArray := ⟨l.toArray⟩
@[simp] theorem str_toList (l : List UInt8) : (str l).data.toList = l := rfl
@[simp] theorem str_size (l : List UInt8) : (str l).size = l.length := by simp [str, ByteArray.size]
theorem str_of (s : ByteArray) : str s.data.toList = s := by cases s; rfl
theorem data_inj {s t : ByteArray} (h : s.data.toList = t.data.toList) : s = t := by rw [← str_of s, ← str_of t, h]
theorem size_toList (s : ByteArray) : s.data.toList.length = s.size := by rw [Array.length_toList]; rfl
theorem str_append (a b : List UInt8) : str a ++ str b = str (a ++ b) := by
  apply data_inj
  simp
theorem toList_extract (s : ByteArray) (i j : Nat) : (s.extract i j).data.toList = (s.data.toList.drop i).take (j - i) := by
  rw [Lib.extract_data]
theorem getElem_toList (s : ByteArray) (k : Nat) (h : k < s.size) : s.data.toList[k]? = some s[k] := by
  rw [List.getElem?_eq_getElem (by rw [size_toList]; exact h)]
  rfl
theorem take_snocB (s : ByteArray) (k : Nat) (h : k < s.size) : s.data.toList.take (k + 1) = s.data.toList.take k ++ [s[k]] := by
  rw [List.take_add_one, getElem_toList s k h]
  rfl

/-! ### bits -/
/-- one bit as a number -/
def bitN (n k : Nat) : Nat := n / 2 ^ k % 2
theorem bitN_lt (n k : Nat) : bitN n k < 2 := Nat.mod_lt _ (by omega)
theorem bitN_high {n k : Nat} (hn : n < 18446744073709551616) (hk : 64 ≤ k) : bitN n k = 0 := by
  have h : n < 2 ^ k := Nat.lt_of_lt_of_le (by rw [two64]; exact hn) (Nat.pow_le_pow_right (by omega) hk)
  rw [bitN, Nat.div_eq_of_lt h]
/-- powers and pieces under names that the walk does not open -/
def p2 (k : Nat) : Nat := 2 ^ k
def lowN (n a k : Nat) : Nat := n / 2 ^ a % 2 ^ k
theorem lowN_zero (n a : Nat) : lowN n a 0 = 0 := by simp [lowN]; omega
theorem lowN_up (n a t : Nat) : lowN n a (t + 1) = 2 * lowN n (a + 1) t + bitN n a := by
  unfold lowN bitN
  rw [Nat.pow_succ, Nat.mul_comm (2 ^ t) 2, Nat.mod_mul, Nat.pow_succ, ← Nat.div_div_eq_div_mul]
  omega
theorem lowN_lt (n a t : Nat) : lowN n a t < 2 ^ t := Nat.mod_lt _ (Nat.two_pow_pos t)
theorem lowN_byte (n i : Nat) : lowN n (8 * i) 8 = (byteAt n i).toNat := by
  rw [byteAt_toNat, lowN, show (256 : Nat) = 2 ^ 8 from rfl, ← Nat.pow_mul]
theorem lowN_byte_mod (n i : Nat) : ((lowN n (8 * i) 8 : Int) % 256) = ((byteAt n i).toNat : Int) := by
  rw [lowN_byte]
  have := (byteAt n i).toNat_lt
  omega
end Go.Proofs.YtjegjgdihpihoaaGreatDoor
