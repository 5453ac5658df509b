/-
  Plain mathematics of numbers and bytes: no program in sight.
-/
import Derived.Test.YtnobencogihbnaaGreatKit
import Derived.Lib.Strings
namespace Go.Proofs.YtnobencogihbnaaGreat
open Go.RowKit
set_option linter.unusedVariables false

/-! ### uint64 -/
theorem u64_nat (m : Nat) : IntKind.u64.wrap (m : Int) = ((m % 18446744073709551616 : Nat) : Int) := by rw [IntKind.wrap_u64]; omega
theorem u64_small {m : Nat} (h : m < 18446744073709551616) : IntKind.u64.wrap (m : Int) = (m : Int) := by rw [u64_nat, Nat.mod_eq_of_lt h]
theorem two64 : (2 : Nat) ^ 64 = 18446744073709551616 := by decide
theorem u64_pow {n : Nat} (h : n ≤ 64) : IntKind.u64.wrap (IntKind.u64.wrap (2 ^ n) - 1) = ((2 ^ n - 1 : Nat) : Int) := by
  have e : ((2 : Int) ^ n) = ((2 ^ n : Nat) : Int) := by simp
  rw [e, u64_nat]
  rcases Nat.lt_or_ge n 64 with hn | hn
  · have h1 : 2 ^ n < 2 ^ 64 := Nat.pow_lt_pow_right (by omega) hn
    have h2 : 0 < 2 ^ n := Nat.two_pow_pos n
    rw [two64] at h1
    rw [Nat.mod_eq_of_lt h1, IntKind.wrap_u64]
    omega
  · obtain rfl : n = 64 := by omega
    rw [IntKind.wrap_u64, two64]
    decide
theorem u64_shl8or {m : Nat} {b : UInt8} (h : m < 72057594037927936) :
    bits .or .u64 (IntKind.u64.wrap ((m : Int) * 256)) (IntKind.u64.wrap (b.toNat : Int)) = ((m * 256 + b.toNat : Nat) : Int) := by
  have hb : b.toNat < 256 := b.toNat_lt
  have e : ((m : Int) * 256) = ((m * 256 : Nat) : Int) := by omega
  rw [e, u64_small (by omega), u64_small (by omega), u64_or_nat _ _ (by omega) (by omega), nat_join 8 _ _ (by omega) (by omega)]
theorem u64_mul8or {m : Nat} {b : UInt8} (h : m < 72057594037927936) : bits .or .u64 ((m : Int) * 256) (IntKind.u64.wrap (b.toNat : Int)) = ((m * 256 + b.toNat : Nat) : Int) := by
  rw [← u64_shl8or h]
  congr 1
  have e : ((m : Int) * 256) = ((m * 256 : Nat) : Int) := by omega
  rw [e, u64_small (by omega)]
theorem u64_mul8add {m : Nat} {b : UInt8} (h : m < 72057594037927936) : IntKind.u64.wrap (256 * (m : Int) + IntKind.u64.wrap (b.toNat : Int)) = ((m * 256 + b.toNat : Nat) : Int) := by
  have hb : b.toNat < 256 := b.toNat_lt
  rw [u64_small (m := b.toNat) (by omega)]
  have e : (256 * (m : Int) + (b.toNat : Int)) = ((m * 256 + b.toNat : Nat) : Int) := by omega
  rw [e, u64_small (by omega)]
theorem cast_div_pow (n a : Nat) : ((n : Int) / 2 ^ a) = ((n / 2 ^ a : Nat) : Int) := by norm_cast
theorem u64_andMask {n a b : Nat} (hn : n < 18446744073709551616) (hb : b ≤ 64) : bits .and .u64 ((n : Int) / 2 ^ a) ((2 ^ b - 1 : Nat) : Int) = ((n / 2 ^ a % 2 ^ b : Nat) : Int) := by
  have h1 : n / 2 ^ a ≤ n := Nat.div_le_self _ _
  have h2 : 2 ^ b ≤ 2 ^ 64 := Nat.pow_le_pow_right (by omega) hb
  have h3 := two64
  rw [cast_div_pow, u64_and_nat _ _ (by omega) (by omega), Nat.and_two_pow_sub_one_eq_mod]
theorem u64_half {n : Nat} (hn : n < 18446744073709551616) : IntKind.u64.wrap ((n : Int).tdiv 2) = ((n / 2 : Nat) : Int) := by
  rw [Int.tdiv_eq_ediv_of_nonneg (by omega)]
  have e : ((n : Int) / 2) = ((n / 2 : Nat) : Int) := by omega
  rw [e, u64_small (by omega)]
theorem tmod2_nat (n : Nat) : (n : Int).tmod 2 = ((n % 2 : Nat) : Int) := by
  rw [Int.tmod_eq_emod_of_nonneg (by omega)]
  omega
/-! ### int -/
theorem ofInt_i64' (a : Nat) (ha : a < 9223372036854775808) : (BitVec.ofInt 64 (a : Int)).toNat = a := by
  rw [BitVec.ofInt_natCast, BitVec.toNat_ofNat]; exact Nat.mod_eq_of_lt (by omega)
theorem i64_and (a b : Nat) (ha : a < 9223372036854775808) (hb : b < 9223372036854775808) : bits .and .i64 (a : Int) (b : Int) = ((a &&& b : Nat) : Int) := by
  have hx : a &&& b < 2 ^ 63 := Nat.and_lt_two_pow _ (by omega)
  show IntKind.i64.wrap ((BitVec.ofInt 64 (a : Int) &&& BitVec.ofInt 64 (b : Int)).toNat : Int) = _
  rw [BitVec.toNat_and, ofInt_i64' a ha, ofInt_i64' b hb, IntKind.wrap_i64]
  omega
theorem i64_or (a b : Nat) (ha : a < 9223372036854775808) (hb : b < 9223372036854775808) : bits .or .i64 (a : Int) (b : Int) = ((a ||| b : Nat) : Int) := by
  have hx : a ||| b < 2 ^ 63 := Nat.or_lt_two_pow (by omega) (by omega)
  show IntKind.i64.wrap ((BitVec.ofInt 64 (a : Int) ||| BitVec.ofInt 64 (b : Int)).toNat : Int) = _
  rw [BitVec.toNat_or, ofInt_i64' a ha, ofInt_i64' b hb, IntKind.wrap_i64]
  omega
theorem i64_and1 (n : Nat) (h : n < 9223372036854775808) : bits .and .i64 (n : Int) 1 = ((n % 2 : Nat) : Int) := by
  rw [show (1 : Int) = ((1 : Nat) : Int) from rfl, i64_and n 1 h (by omega), nat_mask1]

/-! ### the number that bytes are; the bytes of a number -/
def numL (l : List UInt8) : Nat := l.foldl (fun n b => n * 256 + b.toNat) 0
theorem numL_nil : numL [] = 0 := rfl
theorem numL_snoc (l : List UInt8) (b : UInt8) : numL (l ++ [b]) = numL l * 256 + b.toNat := by simp [numL, List.foldl_append]
theorem foldl_num (l : List UInt8) : ∀ n, l.foldl (fun n b => n * 256 + b.toNat) n = n * 256 ^ l.length + numL l := by
  induction l with
  | nil => intro n; simp [numL]
  | cons b l ih =>
    intro n
    have h1 := ih (n * 256 + b.toNat)
    have h2 := ih (0 * 256 + b.toNat)
    simp only [numL, List.foldl_cons, List.length_cons] at *
    rw [h1, h2, Nat.pow_succ, Nat.add_mul, Nat.add_mul, Nat.mul_assoc, Nat.mul_comm 256]
    omega
theorem numL_append (a b : List UInt8) : numL (a ++ b) = numL a * 256 ^ b.length + numL b := by
  have := foldl_num b (numL a)
  rw [← this]
  simp [numL, List.foldl_append]
theorem numL_cons (b : UInt8) (l : List UInt8) : numL (b :: l) = b.toNat * 256 ^ l.length + numL l := by
  have := numL_append [b] l
  simpa [numL] using this
theorem numL_lt (l : List UInt8) : numL l < 256 ^ l.length := by
  induction l with
  | nil => simp [numL]
  | cons b l ih =>
    have hb : b.toNat < 256 := b.toNat_lt
    rw [numL_cons, List.length_cons, Nat.pow_succ]
    have : b.toNat * 256 ^ l.length + 256 ^ l.length ≤ 256 ^ l.length * 256 := by
      have h1 : (b.toNat + 1) * 256 ^ l.length ≤ 256 * 256 ^ l.length := Nat.mul_le_mul_right _ (by omega)
      rw [Nat.add_mul] at h1
      omega
    omega
theorem pow256_le {k n : Nat} (h : k ≤ n) : 256 ^ k ≤ 256 ^ n := Nat.pow_le_pow_right (by omega) h

def byteAt (n i : Nat) : UInt8 := UInt8.ofNat (n / 256 ^ i % 256)
theorem byteAt_toNat (n i : Nat) : (byteAt n i).toNat = n / 256 ^ i % 256 := by
  unfold byteAt
  rw [UInt8.toNat_ofNat']
  omega
/-- the lowest w bytes, the highest first -/
def putL (n : Nat) : Nat → List UInt8
  | 0 => []
  | w + 1 => byteAt n w :: putL n w
theorem putL_length (n w : Nat) : (putL n w).length = w := by induction w with | zero => rfl | succ w ih => simp [putL, ih]
theorem numL_putL (n w : Nat) : numL (putL n w) = n % 256 ^ w := by
  induction w with
  | zero => simp [putL, numL]; omega
  | succ w ih =>
    rw [putL, numL_cons, ih, putL_length, byteAt_toNat, Nat.pow_succ]
    have := Nat.mod_mul (x := n) (a := 256 ^ w) (b := 256)
    rw [this, Nat.mul_comm]
    omega
theorem byteAt_numL (l : List UInt8) : ∀ i, i < l.length → byteAt (numL l) i = l[l.length - 1 - i]?.getD 0 := by
  induction l with
  | nil => intro i h; simp at h
  | cons b l ih =>
    intro i h
    have hb : b.toNat < 256 := b.toNat_lt
    rw [numL_cons]
    have hl := numL_lt l
    have hp : 0 < 256 ^ l.length := Nat.pow_pos (by omega)
    rcases Nat.lt_or_ge i l.length with hi | hi
    · have e1 : byteAt (b.toNat * 256 ^ l.length + numL l) i = byteAt (numL l) i := by
        unfold byteAt
        congr 1
        obtain ⟨d, hd⟩ : ∃ d, l.length = i + (d + 1) := ⟨l.length - i - 1, by omega⟩
        have e2 : b.toNat * 256 ^ l.length = 256 ^ i * (256 * (b.toNat * 256 ^ d)) := by
          rw [hd, Nat.pow_add, Nat.pow_succ]
          simp only [Nat.mul_comm, Nat.mul_left_comm, Nat.mul_assoc]
        rw [e2, Nat.add_comm, Nat.add_mul_div_left _ _ (Nat.pow_pos (by omega)), Nat.add_mul_mod_self_left]
      rw [e1, ih i hi]
      obtain ⟨d, hd⟩ : ∃ d, l.length - i = d + 1 := ⟨l.length - i - 1, by omega⟩
      have e3 : (b :: l).length - 1 - i = d + 1 := by simp; omega
      have e4 : l.length - 1 - i = d := by omega
      rw [e3, e4]
      simp
    · have hi' : i = l.length := by simp at h; omega
      subst hi'
      have e5 : (b :: l).length - 1 - l.length = 0 := by simp
      rw [e5]
      simp only [List.getElem?_cons_zero, Option.getD_some]
      unfold byteAt
      rw [Nat.add_comm, Nat.add_mul_div_right _ _ hp, Nat.div_eq_of_lt hl, Nat.zero_add, Nat.mod_eq_of_lt hb]
      simp
theorem putL_numL_aux (l : List UInt8) : ∀ w, w ≤ l.length → putL (numL l) w = l.drop (l.length - w) := by
  intro w
  induction w with
  | zero => intro _; simp [putL]
  | succ w ih =>
    intro h
    have hlt : l.length - (w + 1) < l.length := by omega
    rw [putL, ih (by omega), byteAt_numL l w (by omega), List.drop_eq_getElem_cons hlt]
    have e1 : l.length - 1 - w = l.length - (w + 1) := by omega
    have e2 : l.length - (w + 1) + 1 = l.length - w := by omega
    rw [e1, e2, List.getElem?_eq_getElem hlt]
    rfl
/-- what is left of a number behind so many bytes -/
def shr8 (n j : Nat) : Nat := n / 256 ^ j
theorem shr8_zero (n : Nat) : shr8 n 0 = n := by simp [shr8]
theorem shr8_le (n j : Nat) : shr8 n j ≤ n := Nat.div_le_self _ _
theorem shr8_succ (n j : Nat) : shr8 n (j + 1) = shr8 n j / 256 := by unfold shr8; rw [Nat.pow_succ, Nat.div_div_eq_div_mul]
theorem shr8_byte (n j : Nat) : IntKind.u8.wrap (shr8 n j : Int) = ((byteAt n j).toNat : Int) := by
  rw [byteAt_toNat, IntKind.wrap_u8]
  unfold shr8
  omega
theorem shr8_mod (n j : Nat) : ((shr8 n j : Int) % 256) = ((byteAt n j).toNat : Int) := by
  rw [byteAt_toNat]
  unfold shr8
  omega
theorem shr8_div (n j : Nat) : ((shr8 n j : Int) / 256) = (shr8 n (j + 1) : Int) := by rw [shr8_succ]; omega
theorem set_replicate {α : Type} (z u : α) (L : List α) : ∀ p, (List.replicate (p + 1) z ++ L).set p u = List.replicate p z ++ u :: L
  | 0 => rfl
  | p + 1 => by
    rw [List.replicate_succ, List.cons_append, List.set_cons_succ, set_replicate z u L p, List.replicate_succ (n := p), List.cons_append]
/-- bytes come back from their number -/
theorem putL_numL (l : List UInt8) : putL (numL l) l.length = l := by
  rw [putL_numL_aux l l.length (Nat.le_refl _)]
  simp
theorem putL_mod (n w : Nat) : putL (n % 256 ^ w) w = putL n w := by
  have h := putL_numL (putL n w)
  rw [numL_putL, putL_length] at h
  exact h
theorem numL_inj {a b : List UInt8} (hl : a.length = b.length) (h : numL a = numL b) : a = b := by
  rw [← putL_numL a, ← putL_numL b, h, hl]

/-! ### strings and lists of bytes -/
def str (l : List UInt8) : ByteArray := ⟨l.toArray⟩
@[simp] theorem str_toList (l : List UInt8) : (str l).data.toList = l := rfl
@[simp] theorem str_size (l : List UInt8) : (str l).size = l.length := by simp [str, ByteArray.size]
theorem str_of (s : ByteArray) : str s.data.toList = s := by cases s; rfl
theorem str_inj {a b : List UInt8} : str a = str b ↔ a = b := ⟨fun h => by have := congrArg (fun s : ByteArray => s.data.toList) h; simpa using this, fun h => by rw [h]⟩
theorem data_inj {s t : ByteArray} (h : s.data.toList = t.data.toList) : s = t := by rw [← str_of s, ← str_of t, h]
theorem size_toList (s : ByteArray) : s.data.toList.length = s.size := by rw [Array.length_toList]; rfl
theorem str_append (a b : List UInt8) : str a ++ str b = str (a ++ b) := by
  apply data_inj
  simp
theorem toList_append (a b : ByteArray) : (a ++ b).data.toList = a.data.toList ++ b.data.toList := by simp
theorem toList_extract (s : ByteArray) (i j : Nat) : (s.extract i j).data.toList = (s.data.toList.drop i).take (j - i) := by
  rw [Lib.extract_data]
theorem getElem_toList (s : ByteArray) (k : Nat) (h : k < s.size) : s.data.toList[k]? = some s[k] := by
  rw [List.getElem?_eq_getElem (by rw [size_toList]; exact h)]
  rfl
theorem take_snocB (s : ByteArray) (k : Nat) (h : k < s.size) : s.data.toList.take (k + 1) = s.data.toList.take k ++ [s[k]] := by
  rw [List.take_add_one, getElem_toList s k h]
  rfl

/-! ### bits -/
theorem within_nat {n : Int} {m : Nat} : ∃ k : Nat, (if n < 0 then 0 else if (m : Int) < n then (m : Int) else n) = (k : Int) ∧ k ≤ m := by
  split
  · exact ⟨0, by simp, by omega⟩
  · split
    · exact ⟨m, rfl, Nat.le_refl _⟩
    · exact ⟨n.toNat, by omega, by omega⟩
/-- one bit as a number -/
def bitN (n k : Nat) : Nat := n / 2 ^ k % 2
theorem bitN_lt (n k : Nat) : bitN n k < 2 := Nat.mod_lt _ (by omega)
theorem bitN_testBit (n k : Nat) : bitN n k = (n.testBit k).toNat := by
  rw [bitN, Nat.testBit_eq_decide_div_mod_eq]
  by_cases h : n / 2 ^ k % 2 = 1
  · simp [h]
  · have : n / 2 ^ k % 2 < 2 := Nat.mod_lt _ (by omega)
    have h0 : n / 2 ^ k % 2 = 0 := by omega
    simp [h0]
theorem mod_two_succ (n k : Nat) : n % 2 ^ (k + 1) = n % 2 ^ k + bitN n k * 2 ^ k := by
  rw [Nat.pow_succ, Nat.mod_mul, bitN, Nat.mul_comm]
theorem div_bit (n a k : Nat) : bitN (n / 2 ^ a) k = bitN n (a + k) := by
  rw [bitN, bitN, Nat.div_div_eq_div_mul, ← Nat.pow_add]
theorem bitN_high {n k : Nat} (hn : n < 18446744073709551616) (hk : 64 ≤ k) : bitN n k = 0 := by
  have h : n < 2 ^ k := Nat.lt_of_lt_of_le (by rw [two64]; exact hn) (Nat.pow_le_pow_right (by omega) hk)
  rw [bitN, Nat.div_eq_of_lt h]
/-- powers and pieces under names that the walk does not open -/
def p2 (k : Nat) : Nat := 2 ^ k
theorem p2_succ (k : Nat) : p2 (k + 1) = 2 * p2 k := by unfold p2; rw [Nat.pow_succ, Nat.mul_comm]
theorem p2_lt {k : Nat} (h : k < 64) : p2 k < 18446744073709551616 := by rw [← two64]; exact Nat.pow_lt_pow_right (by omega) h
def lowN (n a k : Nat) : Nat := n / 2 ^ a % 2 ^ k
theorem lowN_zero (n a : Nat) : lowN n a 0 = 0 := by simp [lowN]; omega
theorem lowN_succ (n a k : Nat) : lowN n a (k + 1) = lowN n a k + bitN n (a + k) * p2 k := by unfold lowN p2; rw [mod_two_succ, div_bit]
theorem lowN_high {n a k : Nat} (hn : n < 18446744073709551616) (h : 64 ≤ a + k) : lowN n a (k + 1) = lowN n a k := by rw [lowN_succ, bitN_high hn h, Nat.zero_mul]; rfl
theorem lowN_le (n a k : Nat) : lowN n a k ≤ n := Nat.le_trans (Nat.mod_le _ _) (Nat.div_le_self _ _)
theorem low_yes {n a k : Nat} (hn : n < 18446744073709551616) (h : ((bitN n (a + k) : Int) == 1) = true) : IntKind.u64.wrap ((lowN n a k : Int) + (p2 k : Int)) = (lowN n a (k + 1) : Int) := by
  have h0 : (bitN n (a + k) : Int) = 1 := by simpa using h
  have h1 : bitN n (a + k) = 1 := by omega
  have h2 := lowN_le n a (k + 1)
  rw [lowN_succ, h1, Nat.one_mul] at *
  rw [show ((lowN n a k : Int) + (p2 k : Int)) = ((lowN n a k + p2 k : Nat) : Int) by omega, u64_small (by omega)]
theorem low_no {n a k : Nat} (h : ((bitN n (a + k) : Int) == 1) = false) : (lowN n a k : Int) = (lowN n a (k + 1) : Int) := by
  have h1 : bitN n (a + k) = 0 := by
    have h2 := bitN_lt n (a + k)
    have h3 : ¬ (bitN n (a + k) : Int) = 1 := by simpa using h
    omega
  rw [lowN_succ, h1, Nat.zero_mul]; rfl
theorem low_out {n a k : Nat} (hn : n < 18446744073709551616) (h : ¬ (a : Int) + (k : Int) < 64) : (lowN n a k : Int) = (lowN n a (k + 1) : Int) := by
  rw [lowN_high hn (by omega)]
theorem lowN_up (n a t : Nat) : lowN n a (t + 1) = 2 * lowN n (a + 1) t + bitN n a := by
  unfold lowN bitN
  rw [Nat.pow_succ, Nat.mul_comm (2 ^ t) 2, Nat.mod_mul, Nat.pow_succ, ← Nat.div_div_eq_div_mul]
  omega
theorem lowN_lt (n a t : Nat) : lowN n a t < 2 ^ t := Nat.mod_lt _ (Nat.two_pow_pos t)
theorem lowN_byte (n i : Nat) : lowN n (8 * i) 8 = (byteAt n i).toNat := by
  rw [byteAt_toNat, lowN, show (256 : Nat) = 2 ^ 8 from rfl, ← Nat.pow_mul]
theorem lowN_byte_mod (n i : Nat) : ((lowN n (8 * i) 8 : Int) % 256) = ((byteAt n i).toNat : Int) := by
  rw [lowN_byte]
  have := (byteAt n i).toNat_lt
  omega
/-- the number that so many bits are -/
def ofBits (f : Nat → Nat) : Nat → Nat
  | 0 => 0
  | k + 1 => ofBits f k + f k * 2 ^ k
theorem ofBits_lt {f : Nat → Nat} (hf : ∀ k, f k < 2) : ∀ k, ofBits f k < 2 ^ k
  | 0 => by simp [ofBits]
  | k + 1 => by
    have h1 := ofBits_lt hf k
    have h2 := hf k
    rw [ofBits, Nat.pow_succ]
    have h3 : f k * 2 ^ k ≤ 1 * 2 ^ k := Nat.mul_le_mul_right _ (by omega)
    omega
theorem ofBits_bitN (n : Nat) : ∀ k, ofBits (bitN n) k = n % 2 ^ k
  | 0 => by simp [ofBits]; omega
  | k + 1 => by rw [ofBits, ofBits_bitN n k, mod_two_succ]
theorem ofBits_congr {f g : Nat → Nat} : ∀ (k : Nat), (∀ i, i < k → f i = g i) → ofBits f k = ofBits g k
  | 0, _ => rfl
  | k + 1, h => by rw [ofBits, ofBits, ofBits_congr k (fun i hi => h i (by omega)), h k (by omega)]
theorem eq_ofBits {n k : Nat} (hn : n < 2 ^ k) {f : Nat → Nat} (h : ∀ i, i < k → bitN n i = f i) : n = ofBits f k := by
  rw [← ofBits_congr k h, ofBits_bitN, Nat.mod_eq_of_lt hn]

end Go.Proofs.YtnobencogihbnaaGreat
