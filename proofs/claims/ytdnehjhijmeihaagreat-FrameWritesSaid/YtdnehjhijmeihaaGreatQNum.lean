/-
  Joined texts: Num, Cd0.
-/
import Derived.Test.YtdnehjhijmeihaaGreatQKit
import Derived.Lib.Strings
import Derived.Test.YtdnehjhijmeihaaGreatRows
namespace Go.Proofs.YtdnehjhijmeihaaGreat
open Go.RowKit
set_option linter.unusedVariables false
theorem u64_nat (m : Nat) : IntKind.u64.wrap (m : Int) = ((m % 18446744073709551616 : Nat) : Int) := by rw [IntKind.wrap_u64]; omega
theorem u64_small {m : Nat} (h : m < 18446744073709551616) : IntKind.u64.wrap (m : Int) = (m : Int) := by rw [u64_nat, Nat.mod_eq_of_lt h]
theorem two64 : (2 : Nat) ^ 64 = 18446744073709551616 := by decide
theorem u64_pow {n : Nat} (h : n ≤ 64) : IntKind.u64.wrap (IntKind.u64.wrap (2 ^ n) - 1) = ((2 ^ n - 1 : Nat) : Int) := by
  have e : ((2 : Int) ^ n) = ((2 ^ n : Nat) : Int) := by simp
  rw [e, u64_nat]
  rcases Nat.lt_or_ge n 64 with hn | hn
  · have h1 : 2 ^ n < 2 ^ 64 := Nat.pow_lt_pow_right (by omega) hn
    have h2 : 0 < 2 ^ n := Nat.two_pow_pos n
    rw [two64] at h1
    rw [Nat.mod_eq_of_lt h1, IntKind.wrap_u64]
    omega
  · obtain rfl : n = 64 := by omega
    rw [IntKind.wrap_u64, two64]
    decide
theorem u64_shl8or {m : Nat} {b : UInt8} (h : m < 72057594037927936) :
    bits .or .u64 (IntKind.u64.wrap ((m : Int) * 256)) (IntKind.u64.wrap (b.toNat : Int)) = ((m * 256 + b.toNat : Nat) : Int) := by
  have hb : b.toNat < 256 := b.toNat_lt
  have e : ((m : Int) * 256) = ((m * 256 : Nat) : Int) := by omega
  rw [e, u64_small (by omega), u64_small (by omega), u64_or_nat _ _ (by omega) (by omega), nat_join 8 _ _ (by omega) (by omega)]
theorem u64_mul8or {m : Nat} {b : UInt8} (h : m < 72057594037927936) : bits .or .u64 ((m : Int) * 256) (IntKind.u64.wrap (b.toNat : Int)) = ((m * 256 + b.toNat : Nat) : Int) := by
  rw [← u64_shl8or h]
  congr 1
  have e : ((m : Int) * 256) = ((m * 256 : Nat) : Int) := by omega
  rw [e, u64_small (by omega)]
theorem u64_mul8add {m : Nat} {b : UInt8} (h : m < 72057594037927936) : IntKind.u64.wrap (256 * (m : Int) + IntKind.u64.wrap (b.toNat : Int)) = ((m * 256 + b.toNat : Nat) : Int) := by
  have hb : b.toNat < 256 := b.toNat_lt
  rw [u64_small (m := b.toNat) (by omega)]
  have e : (256 * (m : Int) + (b.toNat : Int)) = ((m * 256 + b.toNat : Nat) : Int) := by omega
  rw [e, u64_small (by omega)]
theorem cast_div_pow (n a : Nat) : ((n : Int) / 2 ^ a) = ((n / 2 ^ a : Nat) : Int) := by norm_cast
theorem u64_andMask {n a b : Nat} (hn : n < 18446744073709551616) (hb : b ≤ 64) : bits .and .u64 ((n : Int) / 2 ^ a) ((2 ^ b - 1 : Nat) : Int) = ((n / 2 ^ a % 2 ^ b : Nat) : Int) := by
  have h1 : n / 2 ^ a ≤ n := Nat.div_le_self _ _
  have h2 : 2 ^ b ≤ 2 ^ 64 := Nat.pow_le_pow_right (by omega) hb
  have h3 := two64
  rw [cast_div_pow, u64_and_nat _ _ (by omega) (by omega), Nat.and_two_pow_sub_one_eq_mod]
theorem u64_half {n : Nat} (hn : n < 18446744073709551616) : IntKind.u64.wrap ((n : Int).tdiv 2) = ((n / 2 : Nat) : Int) := by
  rw [Int.tdiv_eq_ediv_of_nonneg (by omega)]
  have e : ((n : Int) / 2) = ((n / 2 : Nat) : Int) := by omega
  rw [e, u64_small (by omega)]
theorem tmod2_nat (n : Nat) : (n : Int).tmod 2 = ((n % 2 : Nat) : Int) := by
  rw [Int.tmod_eq_emod_of_nonneg (by omega)]
  omega
theorem ofInt_i64' (a : Nat) (ha : a < 9223372036854775808) : (BitVec.ofInt 64 (a : Int)).toNat = a := by
  rw [BitVec.ofInt_natCast, BitVec.toNat_ofNat]; exact Nat.mod_eq_of_lt (by omega)
theorem i64_and (a b : Nat) (ha : a < 9223372036854775808) (hb : b < 9223372036854775808) : bits .and .i64 (a : Int) (b : Int) = ((a &&& b : Nat) : Int) := by
  have hx : a &&& b < 2 ^ 63 := Nat.and_lt_two_pow _ (by omega)
  show IntKind.i64.wrap ((BitVec.ofInt 64 (a : Int) &&& BitVec.ofInt 64 (b : Int)).toNat : Int) = _
  rw [BitVec.toNat_and, ofInt_i64' a ha, ofInt_i64' b hb, IntKind.wrap_i64]
  omega
theorem i64_or (a b : Nat) (ha : a < 9223372036854775808) (hb : b < 9223372036854775808) : bits .or .i64 (a : Int) (b : Int) = ((a ||| b : Nat) : Int) := by
  have hx : a ||| b < 2 ^ 63 := Nat.or_lt_two_pow (by omega) (by omega)
  show IntKind.i64.wrap ((BitVec.ofInt 64 (a : Int) ||| BitVec.ofInt 64 (b : Int)).toNat : Int) = _
  rw [BitVec.toNat_or, ofInt_i64' a ha, ofInt_i64' b hb, IntKind.wrap_i64]
  omega
def numL (l : List UInt8) : Nat := l.foldl (fun n b => n * 256 + b.toNat) 0
theorem numL_snoc (l : List UInt8) (b : UInt8) : numL (l ++ [b]) = numL l * 256 + b.toNat := by simp [numL, List.foldl_append]
theorem foldl_num (l : List UInt8) : ∀ n, l.foldl (fun n b => n * 256 + b.toNat) n = n * 256 ^ l.length + numL l := by
  induction l with
  | nil => intro n; simp [numL]
  | cons b l ih =>
    intro n
    have h1 := ih (n * 256 + b.toNat)
    have h2 := ih (0 * 256 + b.toNat)
    simp only [numL, List.foldl_cons, List.length_cons] at *
    rw [h1, h2, Nat.pow_succ, Nat.add_mul, Nat.add_mul, Nat.mul_assoc, Nat.mul_comm 256]
    omega
theorem numL_append (a b : List UInt8) : numL (a ++ b) = numL a * 256 ^ b.length + numL b := by
  have := foldl_num b (numL a)
  rw [← this]
  simp [numL, List.foldl_append]
theorem numL_cons (b : UInt8) (l : List UInt8) : numL (b :: l) = b.toNat * 256 ^ l.length + numL l := by
  have := numL_append [b] l
  simpa [numL] using this
theorem numL_lt (l : List UInt8) : numL l < 256 ^ l.length := by
  induction l with
  | nil => simp [numL]
  | cons b l ih =>
    have hb : b.toNat < 256 := b.toNat_lt
    rw [numL_cons, List.length_cons, Nat.pow_succ]
    have : b.toNat * 256 ^ l.length + 256 ^ l.length ≤ 256 ^ l.length * 256 := by
      have h1 : (b.toNat + 1) * 256 ^ l.length ≤ 256 * 256 ^ l.length := Nat.mul_le_mul_right _ (by omega)
      rw [Nat.add_mul] at h1
      omega
    omega
theorem pow256_le {k n : Nat} (h : k ≤ n) : 256 ^ k ≤ 256 ^ n := Nat.pow_le_pow_right (by omega) h

def byteAt (n i : Nat) : UInt8 := UInt8.ofNat (n / 256 ^ i % 256)
theorem byteAt_toNat (n i : Nat) : (byteAt n i).toNat = n / 256 ^ i % 256 := by
  unfold byteAt
  rw [UInt8.toNat_ofNat']
  omega
def putL (n : Nat) : Nat → List UInt8
  | 0 => []
  | w + 1 => byteAt n w :: putL n w
theorem putL_length (n w : Nat) : (putL n w).length = w := by induction w with | zero => rfl | succ w ih => simp [putL, ih]
theorem numL_putL (n w : Nat) : numL (putL n w) = n % 256 ^ w := by
  induction w with
  | zero => simp [putL, numL]; omega
  | succ w ih =>
    rw [putL, numL_cons, ih, putL_length, byteAt_toNat, Nat.pow_succ]
    have := Nat.mod_mul (x := n) (a := 256 ^ w) (b := 256)
    rw [this, Nat.mul_comm]
    omega
def shr8 (n j : Nat) : Nat := n / 256 ^ j
theorem shr8_zero (n : Nat) : shr8 n 0 = n := by simp [shr8]
theorem shr8_le (n j : Nat) : shr8 n j ≤ n := Nat.div_le_self _ _
theorem shr8_succ (n j : Nat) : shr8 n (j + 1) = shr8 n j / 256 := by unfold shr8; rw [Nat.pow_succ, Nat.div_div_eq_div_mul]
theorem shr8_mod (n j : Nat) : ((shr8 n j : Int) % 256) = ((byteAt n j).toNat : Int) := by
  rw [byteAt_toNat]
  unfold shr8
  omega
theorem shr8_div (n j : Nat) : ((shr8 n j : Int) / 256) = (shr8 n (j + 1) : Int) := by rw [shr8_succ]; omega
theorem set_replicate {α : Type} (z u : α) (L : List α) : ∀ p, (List.replicate (p + 1) z ++ L).set p u = List.replicate p z ++ u :: L
  | 0 => rfl
  | p + 1 => by
    rw [List.replicate_succ, List.cons_append, List.set_cons_succ, set_replicate z u L p, List.replicate_succ (n := p), List.cons_append]
def str (l : List UInt8) : ByteArray := ⟨l.toArray⟩
@[simp] theorem str_toList (l : List UInt8) : (str l).data.toList = l := rfl
@[simp] theorem str_size (l : List UInt8) : (str l).size = l.length := by simp [str, ByteArray.size]
theorem str_of (s : ByteArray) : str s.data.toList = s := by cases s; rfl
theorem data_inj {s t : ByteArray} (h : s.data.toList = t.data.toList) : s = t := by rw [← str_of s, ← str_of t, h]
theorem size_toList (s : ByteArray) : s.data.toList.length = s.size := by rw [Array.length_toList]; rfl
theorem str_append (a b : List UInt8) : str a ++ str b = str (a ++ b) := by
  apply data_inj
  simp
theorem toList_append (a b : ByteArray) : (a ++ b).data.toList = a.data.toList ++ b.data.toList := by simp
theorem toList_extract (s : ByteArray) (i j : Nat) : (s.extract i j).data.toList = (s.data.toList.drop i).take (j - i) := by
  rw [Lib.extract_data]
theorem getElem_toList (s : ByteArray) (k : Nat) (h : k < s.size) : s.data.toList[k]? = some s[k] := by
  rw [List.getElem?_eq_getElem (by rw [size_toList]; exact h)]
  rfl
theorem take_snocB (s : ByteArray) (k : Nat) (h : k < s.size) : s.data.toList.take (k + 1) = s.data.toList.take k ++ [s[k]] := by
  rw [List.take_add_one, getElem_toList s k h]
  rfl

def bitN (n k : Nat) : Nat := n / 2 ^ k % 2
theorem bitN_lt (n k : Nat) : bitN n k < 2 := Nat.mod_lt _ (by omega)
theorem bitN_high {n k : Nat} (hn : n < 18446744073709551616) (hk : 64 ≤ k) : bitN n k = 0 := by
  have h : n < 2 ^ k := Nat.lt_of_lt_of_le (by rw [two64]; exact hn) (Nat.pow_le_pow_right (by omega) hk)
  rw [bitN, Nat.div_eq_of_lt h]
def p2 (k : Nat) : Nat := 2 ^ k
def lowN (n a k : Nat) : Nat := n / 2 ^ a % 2 ^ k
theorem lowN_zero (n a : Nat) : lowN n a 0 = 0 := by simp [lowN]; omega
theorem lowN_up (n a t : Nat) : lowN n a (t + 1) = 2 * lowN n (a + 1) t + bitN n a := by
  unfold lowN bitN
  rw [Nat.pow_succ, Nat.mul_comm (2 ^ t) 2, Nat.mod_mul, Nat.pow_succ, ← Nat.div_div_eq_div_mul]
  omega
theorem lowN_lt (n a t : Nat) : lowN n a t < 2 ^ t := Nat.mod_lt _ (Nat.two_pow_pos t)
theorem lowN_byte (n i : Nat) : lowN n (8 * i) 8 = (byteAt n i).toNat := by
  rw [byteAt_toNat, lowN, show (256 : Nat) = 2 ^ 8 from rfl, ← Nat.pow_mul]
theorem lowN_byte_mod (n i : Nat) : ((lowN n (8 * i) 8 : Int) % 256) = ((byteAt n i).toNat : Int) := by
  rw [lowN_byte]
  have := (byteAt n i).toNat_lt
  omega
end Go.Proofs.YtdnehjhijmeihaaGreat
namespace Go.Proofs.YtdnehjhijmeihaaGreat
open Go.ChangeShapes Go.WideShapes Go.ChangeAt Go.RowKit
set_option linter.unusedVariables false
set_option linter.unusedSimpArgs false
def valN (u c : Nat) : Nat := if c < 8 * u then c else (c % u + u) * 2 ^ (c / u % 8 + 3)
def clampN (m : Nat) (c : Int) : Nat := (min (max c 0) m).toNat
theorem clampN_le (m : Nat) (c : Int) : clampN m c ≤ m := by unfold clampN; omega
theorem plain4_any {w : World} : Gives Tryz.prog 207 #[.agg #[.int .u64 4, .int .i64 255]] w (.int .i64 128) := by
  refine Gives.of ?_
  go_enter Tryz.func207, Tryz.ntmps207
  go_wp2
  go_ret
  exact ⟨rfl, by exact blw⟩
theorem plain12_any {w : World} : Gives Tryz.prog 207 #[.agg #[.int .u64 12, .int .i64 65535]] w (.int .i64 32768) := by
  refine Gives.of ?_
  go_enter Tryz.func207, Tryz.ntmps207
  go_wp2
  go_ret
  exact ⟨rfl, by exact blw⟩
theorem eight_any {w : World} : Gives Tryz.prog 202 #[] w (.agg #[.int .u64 4, .int .i64 255]) := by
  refine Gives.of ?_
  go_enter Tryz.func202, Tryz.ntmps202
  go_wp2
  exact bodyPost_ret (v := .agg #[.int .u64 4, .int .i64 255]) (by simp [results, Tryz.results202, go_sem]) rfl ⟨rfl, by exact blw⟩
theorem sixteen_any {w : World} : Gives Tryz.prog 200 #[] w (.agg #[.int .u64 12, .int .i64 65535]) := by
  refine Gives.of ?_
  go_enter Tryz.func200, Tryz.ntmps200
  go_wp2
  exact bodyPost_ret (v := .agg #[.int .u64 12, .int .i64 65535]) (by simp [results, Tryz.results200, go_sem]) rfl ⟨rfl, by exact blw⟩
theorem or_unit {W x : Nat} (h : x < 2 ^ W) : x ||| 2 ^ W = x + 2 ^ W := by
  have := Nat.two_pow_add_eq_or_of_lt h 1
  rw [Nat.mul_one] at this
  rw [Nat.or_comm, ← this, Nat.add_comm]
theorem val_bits {W c : Nat} (hW : W ≤ 12) (hc : c ≤ 65535) :
    wrap64 (bits .or .i64 (bits .and .i64 (c : Int) ((2 ^ W - 1 : Nat) : Int)) ((2 ^ W : Nat) : Int) * 2 ^ min (IntKind.u64.wrap (bits .and .u64 ((c : Int) / ((2 ^ W : Nat) : Int)) 7 + 3)).toNat 64) = (((c % 2 ^ W + 2 ^ W) * 2 ^ (c / 2 ^ W % 8 + 3) : Nat) : Int) := by
  have hp : 2 ^ W ≤ 4096 := Nat.pow_le_pow_right (n := 2) (by omega) hW
  have hp1 : 1 ≤ 2 ^ W := Nat.one_le_two_pow
  have e1 : bits .and .i64 (c : Int) ((2 ^ W - 1 : Nat) : Int) = ((c % 2 ^ W : Nat) : Int) := by rw [i64_and _ _ (by omega) (by omega), Nat.and_two_pow_sub_one_eq_mod]
  have hm : c % 2 ^ W < 2 ^ W := Nat.mod_lt _ (by omega)
  have e2 : bits .or .i64 ((c % 2 ^ W : Nat) : Int) ((2 ^ W : Nat) : Int) = ((c % 2 ^ W + 2 ^ W : Nat) : Int) := by rw [i64_or _ _ (by omega) (by omega), or_unit hm]
  have hd : c / 2 ^ W ≤ c := Nat.div_le_self _ _
  have e3 : bits .and .u64 ((c : Int) / ((2 ^ W : Nat) : Int)) 7 = ((c / 2 ^ W % 8 : Nat) : Int) := by
    rw [show ((c : Int) / ((2 ^ W : Nat) : Int)) = ((c / 2 ^ W : Nat) : Int) by norm_cast, show (7 : Int) = ((2 ^ 3 - 1 : Nat) : Int) from rfl, u64_and_nat _ _ (by omega) (by omega), Nat.and_two_pow_sub_one_eq_mod]
  have hk : c / 2 ^ W % 8 < 8 := Nat.mod_lt _ (by omega)
  rw [e1, e2, e3]
  generalize c / 2 ^ W % 8 = k at *
  rw [show ((k : Int) + 3) = ((k + 3 : Nat) : Int) by omega, u64_small (by omega), Int.toNat_natCast, show min (k + 3) 64 = k + 3 by omega]
  have hk2 : 2 ^ (k + 3) ≤ 2 ^ 10 := Nat.pow_le_pow_right (by omega) (by omega)
  have e4 : (((c % 2 ^ W + 2 ^ W : Nat) : Int) * 2 ^ (k + 3)) = (((c % 2 ^ W + 2 ^ W) * 2 ^ (k + 3) : Nat) : Int) := by norm_cast
  have hm2 : (c % 2 ^ W + 2 ^ W) * 2 ^ (k + 3) ≤ 8192 * 2 ^ 10 := Nat.mul_le_mul (by omega) hk2
  rw [e4, wrap64_lit (by omega) (by omega)]
set_option maxRecDepth 20000 in
theorem value4_any {c : Int} {w : World} : Gives Tryz.prog 206 #[.agg #[.int .u64 4, .int .i64 255], .int .i64 c] w (.int .i64 (valN 16 (clampN 255 c) : Int)) := by
  refine Gives.of ?_
  by_cases h0 : c < 0
  · have e : clampN 255 c = 0 := by unfold clampN; omega
    rw [e]
    go_enter Tryz.func206, Tryz.ntmps206
    go_wp2_with ((with_reducible (first | apply Gives.call_bw (Nat.le_refl _) | apply Gives.call)); (focus (first | (with_reducible exact plain4_any))); intro x; (try dsimp only [drew_heap] at x))
    all_goals first | (exfalso; omega) | (go_ret; exact ⟨rfl, by exact blw⟩)
  by_cases h1 : 255 < c
  · have e : clampN 255 c = 255 := by unfold clampN; omega
    rw [e]
    go_enter Tryz.func206, Tryz.ntmps206
    go_wp2_with ((with_reducible (first | apply Gives.call_bw (Nat.le_refl _) | apply Gives.call)); (focus (first | (with_reducible exact plain4_any))); intro x; (try dsimp only [drew_heap] at x))
    all_goals first | (exfalso; omega) | (go_ret; exact ⟨congrArg (fun b => Ending.returned (.int .i64 b)) (by kernel_rfl), by exact blw⟩)
  obtain ⟨n, rfl⟩ := Int.eq_ofNat_of_zero_le (show 0 ≤ c by omega)
  have e : clampN 255 (n : Int) = n := by unfold clampN; omega
  have hb := val_bits (W := 4) (c := n) (by omega) (by omega)
  rw [show (2 : Nat) ^ 4 = 16 from rfl, show (((16 - 1 : Nat)) : Int) = 15 from rfl, show (((16 : Nat)) : Int) = 16 from rfl] at hb
  have hb := Lib.hid hb
  rw [e]
  clear e
  by_cases h : n < 128
  · have hv : valN 16 n = n := by unfold valN; rw [if_pos (by omega)]
    have HV := Lib.hid hv
    clear hv
    go_enter Tryz.func206, Tryz.ntmps206
    go_wp2_with ((with_reducible (first | apply Gives.call_bw (Nat.le_refl _) | apply Gives.call)); (focus (first | (with_reducible exact plain4_any))); intro x; (try dsimp only [drew_heap] at x))
    all_goals first | (exfalso; omega) | (go_ret; exact ⟨by rw [HV.out]; rfl, by exact blw⟩)
  · have hv : valN 16 n = (n % 16 + 16) * 2 ^ (n / 16 % 8 + 3) := by unfold valN; rw [if_neg (by omega)]
    have HV := Lib.hid hv
    clear hv
    go_enter Tryz.func206, Tryz.ntmps206
    go_wp2_with ((with_reducible (first | apply Gives.call_bw (Nat.le_refl _) | apply Gives.call)); (focus (first | (with_reducible exact plain4_any))); intro x; (try dsimp only [drew_heap] at x))
    all_goals first | (exfalso; omega) | (go_ret; exact ⟨congrArg (fun b => Ending.returned (.int .i64 b)) (by show wrap64 _ = _; rw [HV.out]; exact hb.out), by exact blw⟩)
set_option maxRecDepth 400000 in
set_option maxHeartbeats 1000000 in
theorem value12_any {c : Int} {w : World} : Gives Tryz.prog 206 #[.agg #[.int .u64 12, .int .i64 65535], .int .i64 c] w (.int .i64 (valN 4096 (clampN 65535 c) : Int)) := by
  refine Gives.of ?_
  by_cases h0 : c < 0
  · have e : clampN 65535 c = 0 := by unfold clampN; omega
    rw [e]
    go_enter Tryz.func206, Tryz.ntmps206
    go_wp2_with ((with_reducible (first | apply Gives.call_bw (Nat.le_refl _) | apply Gives.call)); (focus (first | (with_reducible exact plain12_any))); intro x; (try dsimp only [drew_heap] at x))
    all_goals first | (exfalso; omega) | (go_ret; exact ⟨rfl, by exact blw⟩)
  by_cases h1 : 65535 < c
  · have e : clampN 65535 c = 65535 := by unfold clampN; omega
    rw [e]
    go_enter Tryz.func206, Tryz.ntmps206
    go_wp2_with ((with_reducible (first | apply Gives.call_bw (Nat.le_refl _) | apply Gives.call)); (focus (first | (with_reducible exact plain12_any))); intro x; (try dsimp only [drew_heap] at x))
    all_goals first | (exfalso; omega) | (go_ret; exact ⟨congrArg (fun b => Ending.returned (.int .i64 b)) (by kernel_rfl), by exact blw⟩)
  obtain ⟨n, rfl⟩ := Int.eq_ofNat_of_zero_le (show 0 ≤ c by omega)
  have e : clampN 65535 (n : Int) = n := by unfold clampN; omega
  have hb := val_bits (W := 12) (c := n) (by omega) (by omega)
  rw [show (2 : Nat) ^ 12 = 4096 from rfl, show (((4096 - 1 : Nat)) : Int) = 4095 from rfl, show (((4096 : Nat)) : Int) = 4096 from rfl] at hb
  have hb := Lib.hid hb
  rw [e]
  clear e
  by_cases h : n < 32768
  · have hv : valN 4096 n = n := by unfold valN; rw [if_pos (by omega)]
    have HV := Lib.hid hv
    clear hv
    go_enter Tryz.func206, Tryz.ntmps206
    go_wp2_with ((with_reducible (first | apply Gives.call_bw (Nat.le_refl _) | apply Gives.call)); (focus (first | (with_reducible exact plain12_any))); intro x; (try dsimp only [drew_heap] at x))
    all_goals first | (exfalso; omega) | (go_ret; exact ⟨by rw [HV.out]; rfl, by exact blw⟩)
  · have hv : valN 4096 n = (n % 4096 + 4096) * 2 ^ (n / 4096 % 8 + 3) := by unfold valN; rw [if_neg (by omega)]
    have HV := Lib.hid hv
    clear hv
    go_enter Tryz.func206, Tryz.ntmps206
    go_wp2_with ((with_reducible (first | apply Gives.call_bw (Nat.le_refl _) | apply Gives.call)); (focus (first | (with_reducible exact plain12_any))); intro x; (try dsimp only [drew_heap] at x))
    all_goals first | (exfalso; omega) | (go_ret; exact ⟨congrArg (fun b => Ending.returned (.int .i64 b)) (by show wrap64 _ = _; rw [HV.out]; exact hb.out), by exact blw⟩)
theorem Value8_any {c : Int} {w : World} : Gives Tryz.prog 192 #[.int .i64 c] w (.int .i64 (valN 16 (clampN 255 c) : Int)) := by
  refine Gives.of ?_
  go_enter Tryz.func192, Tryz.ntmps192
  go_wp2_with ((with_reducible (first | apply Gives.call_bw (Nat.le_refl _) | apply Gives.call)); (focus (first | (with_reducible exact eight_any) | (with_reducible exact value4_any))); intro x; (try dsimp only [drew_heap] at x))
  go_ret
  exact ⟨rfl, by exact blw⟩
theorem Value16_any {c : Int} {w : World} : Gives Tryz.prog 191 #[.int .i64 c] w (.int .i64 (valN 4096 (clampN 65535 c) : Int)) := by
  refine Gives.of ?_
  go_enter Tryz.func191, Tryz.ntmps191
  go_wp2_with ((with_reducible (first | apply Gives.call_bw (Nat.le_refl _) | apply Gives.call)); (focus (first | (with_reducible exact sixteen_any) | (with_reducible exact value12_any))); intro x; (try dsimp only [drew_heap] at x))
  go_ret
  exact ⟨rfl, by exact blw⟩
theorem clampN_in {m c : Nat} (h : c ≤ m) : clampN m (c : Int) = c := by unfold clampN; omega
theorem div_mod_of {c u q m : Nat} (h : c = u * q + m) (hm : m < u) : c / u = q ∧ c % u = m := by
  subst h
  exact ⟨by rw [Nat.mul_add_div (by omega), Nat.div_eq_of_lt hm, Nat.add_zero], by rw [Nat.mul_add_mod, Nat.mod_eq_of_lt hm]⟩
theorem valN_step {u c : Nat} (hu : 0 < u) (hc : c + 1 < 16 * u) : valN u c < valN u (c + 1) := by
  have hcm := Nat.div_add_mod c u
  have hm := Nat.mod_lt c hu
  obtain ⟨q, hq⟩ : ∃ q, c / u = q := ⟨_, rfl⟩
  obtain ⟨m, hmm⟩ : ∃ m, c % u = m := ⟨_, rfl⟩
  rw [hq, hmm] at hcm
  rw [hmm] at hm
  by_cases h8 : c + 1 < 8 * u
  · unfold valN
    rw [if_pos (by omega), if_pos h8]
    omega
  by_cases h7 : c < 8 * u
  · have e : c + 1 = u * 8 + 0 := by omega
    obtain ⟨e1, e2⟩ := div_mod_of e hu
    unfold valN
    rw [if_pos h7, if_neg h8, e1, e2]
    show c < (0 + u) * 8
    omega
  have hq8 : 8 ≤ q := by rw [← hq]; exact (Nat.le_div_iff_mul_le hu).2 (by omega)
  have hq16 : q < 16 := by rw [← hq]; exact (Nat.div_lt_iff_lt_mul hu).2 (by omega)
  obtain ⟨k, rfl⟩ : ∃ k, q = 8 + k := ⟨q - 8, by omega⟩
  have hk : (8 + k) % 8 = k := by omega
  by_cases hl : m + 1 < u
  · have e : c + 1 = u * (8 + k) + (m + 1) := by omega
    obtain ⟨e1, e2⟩ := div_mod_of e hl
    unfold valN
    rw [if_neg h7, if_neg h8, hq, hmm, e1, e2, hk]
    exact Nat.mul_lt_mul_of_pos_right (by omega) (Nat.two_pow_pos _)
  · have e : c + 1 = u * (8 + k + 1) + 0 := by rw [Nat.mul_add u (8 + k) 1]; omega
    obtain ⟨e1, e2⟩ := div_mod_of e hu
    have hlt : 8 + k + 1 < 16 := by
      by_cases h : 8 + k + 1 < 16
      · exact h
      · have : k = 7 := by omega
        subst this
        omega
    have hk2 : (8 + k + 1) % 8 = k + 1 := by omega
    unfold valN
    rw [if_neg h7, if_neg h8, hq, hmm, e1, e2, hk, hk2, show k + 1 + 3 = (k + 3) + 1 by omega, show 2 ^ ((k + 3) + 1) = 2 * 2 ^ (k + 3) by rw [Nat.pow_succ, Nat.mul_comm], Nat.zero_add]
    have hp := Nat.two_pow_pos (k + 3)
    generalize 2 ^ (k + 3) = t at *
    rw [← Nat.mul_assoc]
    exact Nat.mul_lt_mul_of_pos_right (by omega) hp
theorem valN_lt {u : Nat} (hu : 0 < u) : ∀ {a b : Nat}, a < b → b < 16 * u → valN u a < valN u b := by
  intro a b hab
  induction b with
  | zero => omega
  | succ b ih =>
    intro hb
    have h1 := valN_step hu hb
    by_cases h : a = b
    · subst h; exact h1
    · exact Nat.lt_trans (ih (by omega) (by omega)) h1
def IsCode (u n r : Nat) : Prop := r < 16 * u ∧ valN u r ≤ n ∧ (r + 1 < 16 * u → n < valN u (r + 1))
theorem IsCode.unique {u n r s : Nat} (hu : 0 < u) (h : IsCode u n r) (k : IsCode u n s) : r = s := by
  obtain ⟨h1, h2, h3⟩ := h
  obtain ⟨k1, k2, k3⟩ := k
  by_cases a : r < s
  · have e := h3 (by omega)
    by_cases b : r + 1 = s
    · subst b; omega
    · have := valN_lt hu (show r + 1 < s by omega) k1
      omega
  · by_cases b : s < r
    · have e := k3 (by omega)
      by_cases c : s + 1 = r
      · subst c; omega
      · have := valN_lt hu (show s + 1 < r by omega) h1
        omega
    · omega
theorem IsCode.le_iff {u n r m : Nat} (hu : 0 < u) (h : IsCode u n r) (hm : m < 16 * u) : valN u m ≤ n ↔ m ≤ r := by
  obtain ⟨h1, h2, h3⟩ := h
  constructor
  · intro hv
    by_cases a : m ≤ r
    · exact a
    · have e := h3 (by omega)
      by_cases b : r + 1 = m
      · subst b; omega
      · have := valN_lt hu (show r + 1 < m by omega) hm
        omega
  · intro a
    by_cases b : m = r
    · subst b; exact h2
    · have := valN_lt hu (show m < r by omega) h1
      omega
theorem IsCode.self {u c : Nat} (hu : 0 < u) (hc : c < 16 * u) : IsCode u (valN u c) c := ⟨hc, Nat.le_refl _, fun h => valN_step hu h⟩
theorem exists_code (u : Nat) (hu : 0 < u) (n : Nat) : ∃ r, IsCode u n r := by
  have : ∀ k, k ≤ 16 * u - 1 → ∃ r, r ≤ k ∧ valN u r ≤ n ∧ (r + 1 ≤ k → n < valN u (r + 1)) := by
    intro k
    induction k with
    | zero => intro _; exact ⟨0, by omega, by unfold valN; rw [if_pos (by omega)]; omega, fun h => by omega⟩
    | succ k ih =>
      intro hk
      obtain ⟨r, h1, h2, h3⟩ := ih (by omega)
      by_cases h : valN u (k + 1) ≤ n
      · exact ⟨k + 1, by omega, h, fun h => by omega⟩
      · refine ⟨r, by omega, h2, fun h4 => ?_⟩
        by_cases h5 : r + 1 ≤ k
        · exact h3 h5
        · obtain rfl : r = k := by omega
          omega
  obtain ⟨r, h1, h2, h3⟩ := this (16 * u - 1) (Nat.le_refl _)
  exact ⟨r, by omega, h2, fun h => h3 (by omega)⟩
theorem isCode_of {u n e q : Nat} (hu : 0 < u) (he : e < 8) (hq : n / 2 ^ (e + 3) = u + q) (hqu : q < u) : IsCode u n (u * (8 + e) + q) := by
  have hp := Nat.two_pow_pos (e + 3)
  have h1 := Nat.div_mul_le_self n (2 ^ (e + 3))
  have h2 := Nat.lt_div_mul_add hp (a := n)
  rw [hq] at h1 h2
  obtain ⟨e1, e2⟩ := div_mod_of (c := u * (8 + e) + q) rfl hqu
  have hlt : u * (8 + e) + q < 16 * u := by
    have : u * (8 + e) ≤ u * 15 := Nat.mul_le_mul_left u (by omega)
    omega
  have hge : ¬ u * (8 + e) + q < 8 * u := by
    have : u * 8 ≤ u * (8 + e) := Nat.mul_le_mul_left u (by omega)
    omega
  have hv : valN u (u * (8 + e) + q) = (q + u) * 2 ^ (e + 3) := by
    unfold valN
    rw [if_neg hge, e1, e2, show (8 + e) % 8 = e by omega]
  refine ⟨hlt, by rw [hv, Nat.add_comm q u]; exact h1, fun hs => ?_⟩
  have hn : n < (u + q + 1) * 2 ^ (e + 3) := by rw [Nat.add_mul (u + q) 1, Nat.one_mul]; exact h2
  have hle : (u + q + 1) * 2 ^ (e + 3) ≤ valN u (u * (8 + e) + q + 1) := by
    by_cases hl : q + 1 < u
    · obtain ⟨f1, f2⟩ := div_mod_of (c := u * (8 + e) + q + 1) (m := q + 1) rfl hl
      unfold valN
      rw [if_neg (by omega), f1, f2, show (8 + e) % 8 = e by omega, Nat.add_comm (q + 1) u]
      exact Nat.le_refl _
    · have hq1 : q + 1 = u := by omega
      have ee : u * (8 + e) + q + 1 = u * (8 + e + 1) + 0 := by rw [Nat.mul_add u (8 + e) 1]; omega
      obtain ⟨f1, f2⟩ := div_mod_of ee hu
      have he7 : e + 1 < 8 := by
        by_cases h : e + 1 < 8
        · exact h
        · have : e = 7 := by omega
          subst this
          omega
      unfold valN
      rw [if_neg (by omega), f1, f2, show (8 + e + 1) % 8 = e + 1 by omega, Nat.zero_add, show e + 1 + 3 = (e + 3) + 1 by omega, show 2 ^ ((e + 3) + 1) = 2 * 2 ^ (e + 3) by rw [Nat.pow_succ, Nat.mul_comm]]
      generalize 2 ^ (e + 3) = t at *
      rw [← Nat.mul_assoc]
      exact Nat.mul_le_mul_right t (by omega)
  omega
end Go.Proofs.YtdnehjhijmeihaaGreat
