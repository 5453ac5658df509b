/-
  Plain mathematics of numbers and bytes: no program in sight.
-/
import Derived.Test.YtdbdlhmgokllaaaKit
import Derived.Lib.Strings
namespace Go.Proofs.Ytdbdlhmgokllaaa
open Go.RowKit
set_option linter.unusedVariables false

/-! ### uint64 -/
theorem u64_nat (m : Nat) : IntKind.u64.wrap (m : Int) = ((m % 18446744073709551616 : Nat) : Int) := by rw [IntKind.wrap_u64]; omega
theorem u64_small {m : Nat} (h : m < 18446744073709551616) : IntKind.u64.wrap (m : Int) = (m : Int) := by rw [u64_nat, Nat.mod_eq_of_lt h]
theorem u64_shl8or {m : Nat} {b : UInt8} (h : m < 72057594037927936) :
    bits .or .u64 (IntKind.u64.wrap ((m : Int) * 256)) (IntKind.u64.wrap (b.toNat : Int)) = ((m * 256 + b.toNat : Nat) : Int) := by
  have hb : b.toNat < 256 := b.toNat_lt
  have e : ((m : Int) * 256) = ((m * 256 : Nat) : Int) := by omega
  rw [e, u64_small (by omega), u64_small (by omega), u64_or_nat _ _ (by omega) (by omega), nat_join 8 _ _ (by omega) (by omega)]
theorem u64_mul8or {m : Nat} {b : UInt8} (h : m < 72057594037927936) : bits .or .u64 ((m : Int) * 256) (IntKind.u64.wrap (b.toNat : Int)) = ((m * 256 + b.toNat : Nat) : Int) := by
  rw [← u64_shl8or h]
  congr 1
  have e : ((m : Int) * 256) = ((m * 256 : Nat) : Int) := by omega
  rw [e, u64_small (by omega)]
theorem u64_mul8add {m : Nat} {b : UInt8} (h : m < 72057594037927936) : IntKind.u64.wrap (256 * (m : Int) + IntKind.u64.wrap (b.toNat : Int)) = ((m * 256 + b.toNat : Nat) : Int) := by
  have hb : b.toNat < 256 := b.toNat_lt
  rw [u64_small (m := b.toNat) (by omega)]
  have e : (256 * (m : Int) + (b.toNat : Int)) = ((m * 256 + b.toNat : Nat) : Int) := by omega
  rw [e, u64_small (by omega)]
/-! ### int -/
/-! ### the number that bytes are; the bytes of a number -/
def numL (l : List UInt8) : Nat := l.foldl (fun n b => n * 256 + b.toNat) 0
theorem numL_snoc (l : List UInt8) (b : UInt8) : numL (l ++ [b]) = numL l * 256 + b.toNat := by simp [numL, List.foldl_append]
theorem foldl_num (l : List UInt8) : ∀ n, l.foldl (fun n b => n * 256 + b.toNat) n = n * 256 ^ l.length + numL l := by
  induction l with
  | nil => intro n; simp [numL]
  | cons b l ih =>
    intro n
    have h1 := ih (n * 256 + b.toNat)
    have h2 := ih (0 * 256 + b.toNat)
    simp only [numL, List.foldl_cons, List.length_cons] at *
    rw [h1, h2, Nat.pow_succ, Nat.add_mul, Nat.add_mul, Nat.mul_assoc, Nat.mul_comm 256]
    omega
theorem numL_append (a b : List UInt8) : numL (a ++ b) = numL a * 256 ^ b.length + numL b := by
  have := foldl_num b (numL a)
  rw [← this]
  simp [numL, List.foldl_append]
theorem numL_cons (b : UInt8) (l : List UInt8) : numL (b :: l) = b.toNat * 256 ^ l.length + numL l := by
  have := numL_append [b] l
  simpa [numL] using this
theorem numL_lt (l : List UInt8) : numL l < 256 ^ l.length := by
  induction l with
  | nil => simp [numL]
  | cons b l ih =>
    have hb : b.toNat < 256 := b.toNat_lt
    rw [numL_cons, List.length_cons, Nat.pow_succ]
    have : b.toNat * 256 ^ l.length + 256 ^ l.length ≤ 256 ^ l.length * 256 := by
      have h1 : (b.toNat + 1) * 256 ^ l.length ≤ 256 * 256 ^ l.length := Nat.mul_le_mul_right _ (by omega)
      rw [Nat.add_mul] at h1
      omega
    omega
theorem pow256_le {k n : Nat} (h : k ≤ n) : 256 ^ k ≤ 256 ^ n := Nat.pow_le_pow_right (by omega) h

def byteAt (n i : Nat) : UInt8 := UInt8.ofNat (n / 256 ^ i % 256)
theorem byteAt_toNat (n i : Nat) : (byteAt n i).toNat = n / 256 ^ i % 256 := by
  unfold byteAt
  rw [UInt8.toNat_ofNat']
  omega
/-- the lowest w bytes, the highest first -/
def putL (n : Nat) : Nat → List UInt8
  | 0 => []
  | w + 1 => byteAt n w :: putL n w
theorem putL_length (n w : Nat) : (putL n w).length = w := by induction w with | zero => rfl | succ w ih => simp [putL, ih]
theorem numL_putL (n w : Nat) : numL (putL n w) = n % 256 ^ w := by
  induction w with
  | zero => simp [putL, numL]; omega
  | succ w ih =>
    rw [putL, numL_cons, ih, putL_length, byteAt_toNat, Nat.pow_succ]
    have := Nat.mod_mul (x := n) (a := 256 ^ w) (b := 256)
    rw [this, Nat.mul_comm]
    omega
theorem byteAt_numL (l : List UInt8) : ∀ i, i < l.length → byteAt (numL l) i = l[l.length - 1 - i]?.getD 0 := by
  induction l with
  | nil => intro i h; simp at h
  | cons b l ih =>
    intro i h
    have hb : b.toNat < 256 := b.toNat_lt
    rw [numL_cons]
    have hl := numL_lt l
    have hp : 0 < 256 ^ l.length := Nat.pow_pos (by omega)
    rcases Nat.lt_or_ge i l.length with hi | hi
    · have e1 : byteAt (b.toNat * 256 ^ l.length + numL l) i = byteAt (numL l) i := by
        unfold byteAt
        congr 1
        obtain ⟨d, hd⟩ : ∃ d, l.length = i + (d + 1) := ⟨l.length - i - 1, by omega⟩
        have e2 : b.toNat * 256 ^ l.length = 256 ^ i * (256 * (b.toNat * 256 ^ d)) := by
          rw [hd, Nat.pow_add, Nat.pow_succ]
          simp only [Nat.mul_comm, Nat.mul_left_comm, Nat.mul_assoc]
        rw [e2, Nat.add_comm, Nat.add_mul_div_left _ _ (Nat.pow_pos (by omega)), Nat.add_mul_mod_self_left]
      rw [e1, ih i hi]
      obtain ⟨d, hd⟩ : ∃ d, l.length - i = d + 1 := ⟨l.length - i - 1, by omega⟩
      have e3 : (b :: l).length - 1 - i = d + 1 := by simp; omega
      have e4 : l.length - 1 - i = d := by omega
      rw [e3, e4]
      simp
    · have hi' : i = l.length := by simp at h; omega
      subst hi'
      have e5 : (b :: l).length - 1 - l.length = 0 := by simp
      rw [e5]
      simp only [List.getElem?_cons_zero, Option.getD_some]
      unfold byteAt
      rw [Nat.add_comm, Nat.add_mul_div_right _ _ hp, Nat.div_eq_of_lt hl, Nat.zero_add, Nat.mod_eq_of_lt hb]
      simp
theorem putL_numL_aux (l : List UInt8) : ∀ w, w ≤ l.length → putL (numL l) w = l.drop (l.length - w) := by
  intro w
  induction w with
  | zero => intro _; simp [putL]
  | succ w ih =>
    intro h
    have hlt : l.length - (w + 1) < l.length := by omega
    rw [putL, ih (by omega), byteAt_numL l w (by omega), List.drop_eq_getElem_cons hlt]
    have e1 : l.length - 1 - w = l.length - (w + 1) := by omega
    have e2 : l.length - (w + 1) + 1 = l.length - w := by omega
    rw [e1, e2, List.getElem?_eq_getElem hlt]
    rfl
/-- what is left of a number behind so many bytes -/
def shr8 (n j : Nat) : Nat := n / 256 ^ j
theorem shr8_zero (n : Nat) : shr8 n 0 = n := by simp [shr8]
theorem shr8_le (n j : Nat) : shr8 n j ≤ n := Nat.div_le_self _ _
theorem shr8_succ (n j : Nat) : shr8 n (j + 1) = shr8 n j / 256 := by unfold shr8; rw [Nat.pow_succ, Nat.div_div_eq_div_mul]
theorem shr8_mod (n j : Nat) : ((shr8 n j : Int) % 256) = ((byteAt n j).toNat : Int) := by
  rw [byteAt_toNat]
  unfold shr8
  omega
theorem shr8_div (n j : Nat) : ((shr8 n j : Int) / 256) = (shr8 n (j + 1) : Int) := by rw [shr8_succ]; omega
theorem set_replicate {α : Type} (z u : α) (L : List α) : ∀ p, (List.replicate (p + 1) z ++ L).set p u = List.replicate p z ++ u :: L
  | 0 => rfl
  | p + 1 => by
    rw [List.replicate_succ, List.cons_append, List.set_cons_succ, set_replicate z u L p, List.replicate_succ (n := p), List.cons_append]
/-- bytes come back from their number -/
theorem putL_numL (l : List UInt8) : putL (numL l) l.length = l := by
  rw [putL_numL_aux l l.length (Nat.le_refl _)]
  simp
/-! ### strings and lists of bytes -/
def str (l : List UInt8) : ByteArray := ⟨l.toArray⟩
@[simp] theorem str_toList (l : List UInt8) : (str l).data.toList = l := rfl
@[simp] theorem str_size (l : List UInt8) : (str l).size = l.length := by simp [str, ByteArray.size]
theorem str_of (s : ByteArray) : str s.data.toList = s := by cases s; rfl
theorem str_inj {a b : List UInt8} : str a = str b ↔ a = b := ⟨fun h => by have := congrArg (fun s : ByteArray => s.data.toList) h; simpa using this, fun h => by rw [h]⟩
theorem data_inj {s t : ByteArray} (h : s.data.toList = t.data.toList) : s = t := by rw [← str_of s, ← str_of t, h]
theorem size_toList (s : ByteArray) : s.data.toList.length = s.size := by rw [Array.length_toList]; rfl
theorem str_append (a b : List UInt8) : str a ++ str b = str (a ++ b) := by
  apply data_inj
  simp
theorem toList_extract (s : ByteArray) (i j : Nat) : (s.extract i j).data.toList = (s.data.toList.drop i).take (j - i) := by
  rw [Lib.extract_data]
theorem getElem_toList (s : ByteArray) (k : Nat) (h : k < s.size) : s.data.toList[k]? = some s[k] := by
  rw [List.getElem?_eq_getElem (by rw [size_toList]; exact h)]
  rfl
theorem take_snocB (s : ByteArray) (k : Nat) (h : k < s.size) : s.data.toList.take (k + 1) = s.data.toList.take k ++ [s[k]] := by
  rw [List.take_add_one, getElem_toList s k h]
  rfl

/-! ### bits -/
/-- powers and pieces under names that the walk does not open -/
def p2 (k : Nat) : Nat := 2 ^ k
end Go.Proofs.Ytdbdlhmgokllaaa
