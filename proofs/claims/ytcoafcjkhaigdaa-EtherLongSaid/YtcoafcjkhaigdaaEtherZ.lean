/-
  ether.Read: what it hands back, for any bytes.
-/
import Derived.Test.YtcoafcjkhaigdaaEtherL
import Derived.Test.YtcoafcjkhaigdaaEtherY
import Derived.Test.YtcoafcjkhaigdaaEtherR3end
import Derived.Test.YtcoafcjkhaigdaaEtherR3kind
import Derived.Test.YtcoafcjkhaigdaaEtherR3long
import Derived.Test.YtcoafcjkhaigdaaEtherR3ok
import Derived.Test.YtcoafcjkhaigdaaEtherR3tend
import Derived.Test.YtcoafcjkhaigdaaEtherR3tdrop
import Derived.Test.YtcoafcjkhaigdaaEtherR3tvlan
import Derived.Test.YtcoafcjkhaigdaaEtherR3tkind
import Derived.Test.YtcoafcjkhaigdaaEtherR3ttype
import Derived.Test.YtcoafcjkhaigdaaEtherR3tlong
import Derived.Test.YtcoafcjkhaigdaaEtherR3tok
namespace Go.Proofs.Ytcoafcjkhaigdaa
open Go.ChangeShapes Go.WideShapes Go.ChangeAt Go.RowKit
set_option linter.unusedVariables false
set_option linter.unusedSimpArgs false

theorem mac_six {s : ByteArray} {k : Nat} (hs : s.size ≤ 9223372036854775807) (hk : k + 6 ≤ s.size) : ∃ a0 a1 a2 a3 a4 a5 : UInt8, (s.data.toList.drop k).take 6 = [a0, a1, a2, a3, a4, a5] ∧
    ∀ (w : World) (g : Nat), Row w g 55 (rdCells s k false) → Calls Try.prog 19 #[.pointer (some ⟨g, 0, none⟩)] w fun e w' => e = .returned (.agg #[.int .u8 (a0.toNat : Int), .int .u8 (a1.toNat : Int), .int .u8 (a2.toNat : Int), .int .u8 (a3.toNat : Int), .int .u8 (a4.toNat : Int), .int .u8 (a5.toNat : Int)]) ∧ Row w' g 55 (rdCells s (k + 6) false) ∧ w.grownBy w' (some g) := by
  obtain ⟨a0, a1, a2, a3, a4, a5, h6⟩ := six (l := (s.data.toList.drop k).take 6) (by rw [List.length_take, List.length_drop, size_toList]; omega)
  refine ⟨a0, a1, a2, a3, a4, a5, h6, fun w g h => ?_⟩
  have h2 := mac_ok (w := w) h hs hk
  rw [h6] at h2
  exact h2
theorem mac_zero {s : ByteArray} {k : Nat} {bad : Bool} (hs : s.size ≤ 9223372036854775807) (hk : k ≤ s.size) (hb : bad = true ∨ s.size < k + 6) :
    ∀ (w : World) (g : Nat), Row w g 55 (rdCells s k bad) → Calls Try.prog 19 #[.pointer (some ⟨g, 0, none⟩)] w fun e w' => e = .returned (.agg #[.int .u8 ((0 : UInt8).toNat : Int), .int .u8 ((0 : UInt8).toNat : Int), .int .u8 ((0 : UInt8).toNat : Int), .int .u8 ((0 : UInt8).toNat : Int), .int .u8 ((0 : UInt8).toNat : Int), .int .u8 ((0 : UInt8).toNat : Int)]) ∧ Row w' g 55 (rdCells s k true) ∧ w.grownBy w' (some g) :=
  fun w g h => mac_bad h hs hk hb
theorem num2_ok {s : ByteArray} {k : Nat} (hs : s.size ≤ 9223372036854775807) (hk : k + 2 ≤ s.size) :
    ∀ (w : World) (g : Nat), Row w g 55 (rdCells s k false) → Calls Try.prog 20 #[.pointer (some ⟨g, 0, none⟩), .int .i64 2] w fun e w' => e = .returned (.int .u64 (at2 s k : Int)) ∧ Row w' g 55 (rdCells s (k + 2) false) ∧ w.grownBy w' (some g) := fun w g h => by
  have h2 := Num_any (n := 2) (w := w) h hs (by omega)
  have hf : rdFits s k false 2 = true := by simp [rdFits, hk]
  rw [show wn 2 8 = 2 by decide, show rdS s k false 2 = s.extract k (k + 2) by unfold rdS; rw [if_pos hf], show rdK s k false 2 = k + 2 by unfold rdK; rw [if_pos hf], show rdB s k false 2 = false by unfold rdB; rw [hf]; rfl, toList_extract, show k + 2 - k = 2 by omega] at h2
  exact h2
theorem num2_bad {s : ByteArray} {k : Nat} {bad : Bool} (hs : s.size ≤ 9223372036854775807) (hk : k ≤ s.size) (hb : bad = true ∨ s.size < k + 2) :
    ∀ (w : World) (g : Nat), Row w g 55 (rdCells s k bad) → Calls Try.prog 20 #[.pointer (some ⟨g, 0, none⟩), .int .i64 2] w fun e w' => e = .returned (.int .u64 ((0 : Nat) : Int)) ∧ Row w' g 55 (rdCells s k true) ∧ w.grownBy w' (some g) := fun w g h => by
  have h2 := Num_any (n := 2) (w := w) h hs hk
  have hf : rdFits s k bad 2 = false := by
    unfold rdFits
    rcases hb with hb | hb
    · rw [hb]; rfl
    · rw [decide_eq_false (by omega), Bool.and_false]
  rw [show wn 2 8 = 2 by decide, show rdS s k bad 2 = ⟨#[]⟩ by unfold rdS; rw [hf]; rfl, show rdK s k bad 2 = k by unfold rdK; rw [hf]; rfl, show rdB s k bad 2 = true by unfold rdB; rw [hf]; rfl] at h2
  exact h2
theorem bits_m (m a b : Nat) (hm : m < 65536) (ha : a ≤ 64) (hb : b ≤ 64) : ∀ w, Gives Try.prog 21 #[.int .u64 (m : Int), .int .i64 (a : Int), .int .i64 (b : Int)] w (.int .u64 (lowN m a b : Int)) := fun w => by
  have h := bits_any (n := m) (a := (a : Int)) (b := (b : Int)) (w := w) (by omega)
  rwa [show wn (a : Int) 64 = a by unfold wn; rw [within_in (by omega) (by omega)]; omega, show wn (b : Int) 64 = b by unfold wn; rw [within_in (by omega) (by omega)]; omega] at h
def why (s : ByteArray) : Int := whyN s.size (at2 s 12) (at2 s 14) (at2 s 16)
theorem Read_end {s : ByteArray} {w : World} (hs : s.size ≤ 9223372036854775807) (h : s.size < 14) : Gives Try.prog 11 #[.string s] w (.tuple #[.agg etZero, .int .i64 3]) := by
  by_cases h6 : s.size < 6
  · exact read_end (n := 0) hs (Nat.zero_le _) (by omega) (by omega) (mac_zero hs (Nat.zero_le _) (.inr (by omega))) (mac_zero hs (Nat.zero_le _) (.inl rfl)) (num2_bad hs (Nat.zero_le _) (.inl rfl))
  obtain ⟨a0, a1, a2, a3, a4, a5, _, m1⟩ := mac_six (s := s) (k := 0) hs (by omega)
  by_cases h12 : s.size < 12
  · exact read_end (n := 0) hs (show 6 ≤ s.size by omega) (by omega) (by omega) m1 (mac_zero hs (by omega) (.inr (by omega))) (num2_bad hs (by omega) (.inl rfl))
  obtain ⟨b0, b1, b2, b3, b4, b5, _, m2⟩ := mac_six (s := s) (k := 6) hs (by omega)
  exact read_end (n := 0) hs (show 12 ≤ s.size by omega) (by omega) (by omega) m1 m2 (num2_bad hs (by omega) (.inr (by omega)))
theorem Read_fail {s : ByteArray} (hs : s.size ≤ 9223372036854775807) (h : why s ≠ 0) : ∀ w, Gives Try.prog 11 #[.string s] w (.tuple #[.agg etZero, .int .i64 (why s)]) := by
  intro w
  unfold why whyN at *
  by_cases h14 : s.size < 14
  · rw [if_pos h14]; exact Read_end hs h14
  rw [if_neg h14] at *
  obtain ⟨a0, a1, a2, a3, a4, a5, _, m1⟩ := mac_six (s := s) (k := 0) hs (by omega)
  obtain ⟨b0, b1, b2, b3, b4, b5, _, m2⟩ := mac_six (s := s) (k := 6) hs (by omega)
  have n3 := num2_ok (s := s) (k := 12) hs (by omega)
  have l1 := at2_lt s 12
  have l2 := at2_lt s 14
  have l3 := at2_lt s 16
  by_cases ha : at2 s 12 = 33024
  · rw [if_pos ha] at *
    rw [ha] at n3
    have c1 : lowN (at2 s 14) 0 12 < 4096 := lowN_lt _ _ _
    have c2 : lowN (at2 s 14) 13 3 < 8 := lowN_lt _ _ _
    by_cases h18 : s.size < 18
    · rw [if_pos h18]
      by_cases h16 : s.size < 16
      · exact read_tend (m := 0) (v := 0) (p := 0) (d := 0) (n := 0) hs (show 14 ≤ s.size by omega) (by omega) (by omega) (by omega) m1 m2 n3 (num2_bad hs (by omega) (.inr (by omega))) (num2_bad hs (by omega) (.inl rfl))
          (fun w => by have := bits_m 0 13 3 (by omega) (by omega) (by omega) w; rwa [lowN_z] at this) (fun w => by have := bits_m 0 0 12 (by omega) (by omega) (by omega) w; rwa [lowN_z] at this) (fun w => by have := bits_m 0 12 1 (by omega) (by omega) (by omega) w; rwa [lowN_z] at this)
      · exact read_tend (m := at2 s 14) (n := 0) hs (show 16 ≤ s.size by omega) (by omega) c1 c2 m1 m2 n3 (num2_ok hs (by omega)) (num2_bad hs (by omega) (.inr (by omega))) (bits_m _ 13 3 l2 (by omega) (by omega)) (bits_m _ 0 12 l2 (by omega) (by omega)) (bits_m _ 12 1 l2 (by omega) (by omega))
    rw [if_neg h18] at *
    have n4 := num2_ok (s := s) (k := 14) hs (by omega)
    have n5 := num2_ok (s := s) (k := 16) hs (by omega)
    have hd : lowN (at2 s 14) 12 1 = at2 s 14 / 4096 % 2 := rfl
    have hv : lowN (at2 s 14) 0 12 = at2 s 14 % 4096 := by unfold lowN; rw [Nat.pow_zero, Nat.div_one]
    have x1 := bits_m _ 13 3 l2 (by omega) (by omega)
    have x2 := bits_m _ 0 12 l2 (by omega) (by omega)
    have x3 := bits_m _ 12 1 l2 (by omega) (by omega)
    by_cases h1 : at2 s 14 / 4096 % 2 = 1
    · rw [if_pos h1]
      exact read_tdrop hs (show 18 ≤ s.size by omega) l3 c1 c2 (by rw [hd, h1]) m1 m2 n3 n4 n5 x1 x2 x3
    rw [if_neg h1] at *
    have hd0 : lowN (at2 s 14) 12 1 = 0 := by omega
    by_cases h2 : at2 s 14 % 4096 = 4095
    · rw [if_pos h2]
      exact read_tvlan hs (show 18 ≤ s.size by omega) l3 c1 c2 hd0 (by omega) m1 m2 n3 n4 n5 x1 x2 x3
    rw [if_neg h2] at *
    by_cases h3 : at2 s 16 = 33024
    · rw [if_pos h3]
      exact read_ttype hs (show 18 ≤ s.size by omega) l3 c1 c2 hd0 (by omega) h3 m1 m2 n3 n4 n5 x1 x2 x3
    rw [if_neg h3] at *
    by_cases h4 : at2 s 16 < 1536
    · rw [if_pos h4]
      exact read_tkind hs (show 18 ≤ s.size by omega) l3 c1 c2 hd0 (by omega) h4 m1 m2 n3 n4 n5 x1 x2 x3
    rw [if_neg h4] at *
    by_cases h5 : 1500 < s.size - 18
    · rw [if_pos h5]
      exact read_tlong hs (show 18 ≤ s.size by omega) l3 c1 c2 hd0 (by omega) (by omega) h3 h5 m1 m2 n3 n4 n5 x1 x2 x3
    · rw [if_neg h5] at h; exact absurd rfl h
  · rw [if_neg ha] at *
    by_cases h4 : at2 s 12 < 1536
    · rw [if_pos h4]
      exact read_kind hs (show 14 ≤ s.size by omega) l1 ha h4 m1 m2 n3
    rw [if_neg h4] at *
    by_cases h5 : 1500 < s.size - 14
    · rw [if_pos h5]
      exact read_long hs (show 14 ≤ s.size by omega) l1 ha (by omega) h5 m1 m2 n3
    · rw [if_neg h5] at h; exact absurd rfl h
theorem put_at2 (s : ByteArray) (k : Nat) (h : k + 2 ≤ s.size) : putL (at2 s k) 2 = (s.data.toList.drop k).take 2 := by
  have h2 : ((s.data.toList.drop k).take 2).length = 2 := by rw [List.length_take, List.length_drop, size_toList]; omega
  have h3 := putL_numL ((s.data.toList.drop k).take 2)
  rw [h2] at h3
  exact h3
theorem split_at {α : Type} (l : List α) (k n : Nat) : l.drop k = (l.drop k).take n ++ l.drop (k + n) := by
  have h := (List.take_append_drop n (l.drop k)).symm
  rwa [List.drop_drop] at h
theorem Read_ok {s : ByteArray} (hs : s.size ≤ 9223372036854775807) (h : why s = 0) : ∃ A to fr tg v p t b, EtC A to fr tg ((v : Nat) : Int) ((p : Nat) : Int) ((t : Nat) : Int) b ∧ etGood tg v p t b.size = true ∧ etW to fr tg v p t b = s ∧ b.size ≤ 1500 ∧
    ∀ w, Gives Try.prog 11 #[.string s] w (.tuple #[.agg A, .int .i64 0]) := by
  unfold why whyN at h
  by_cases h14 : s.size < 14
  · rw [if_pos h14] at h; omega
  rw [if_neg h14] at h
  obtain ⟨a0, a1, a2, a3, a4, a5, y1, m1⟩ := mac_six (s := s) (k := 0) hs (by omega)
  obtain ⟨b0, b1, b2, b3, b4, b5, y2, m2⟩ := mac_six (s := s) (k := 6) hs (by omega)
  have n3 := num2_ok (s := s) (k := 12) hs (by omega)
  have l1 := at2_lt s 12
  have l2 := at2_lt s 14
  have l3 := at2_lt s 16
  have z0 := split_at s.data.toList 0 6
  have z6' := split_at s.data.toList 6 6
  have z12 := split_at s.data.toList 12 2
  have z14 := split_at s.data.toList 14 2
  have z16 := split_at s.data.toList 16 2
  by_cases ha : at2 s 12 = 33024
  · rw [if_pos ha] at h
    by_cases h18 : s.size < 18
    · rw [if_pos h18] at h; omega
    rw [if_neg h18] at h
    have h1 : ¬ at2 s 14 / 4096 % 2 = 1 := fun e => by rw [if_pos e] at h; omega
    rw [if_neg h1] at h
    have h2 : ¬ at2 s 14 % 4096 = 4095 := fun e => by rw [if_pos e] at h; omega
    rw [if_neg h2] at h
    have h3 : ¬ at2 s 16 = 33024 := fun e => by rw [if_pos e] at h; omega
    rw [if_neg h3] at h
    have h4 : ¬ at2 s 16 < 1536 := fun e => by rw [if_pos e] at h; omega
    rw [if_neg h4] at h
    have h5 : ¬ 1500 < s.size - 18 := fun e => by rw [if_pos e] at h; omega
    have hbs := sub_size s 18 s.size (Nat.le_refl _)
    have c1 : lowN (at2 s 14) 0 12 < 4096 := lowN_lt _ _ _
    have c2 : lowN (at2 s 14) 13 3 < 8 := lowN_lt _ _ _
    have hd : lowN (at2 s 14) 12 1 = at2 s 14 / 4096 % 2 := rfl
    have hv : lowN (at2 s 14) 0 12 = at2 s 14 % 4096 := by unfold lowN; rw [Nat.pow_zero, Nat.div_one]
    have hp : lowN (at2 s 14) 13 3 = at2 s 14 / 8192 % 8 := rfl
    have hm : 8192 * lowN (at2 s 14) 13 3 + lowN (at2 s 14) 0 12 = at2 s 14 := by rw [hv, hp]; omega
    have hd0 : lowN (at2 s 14) 12 1 = 0 := by omega
    rw [ha] at n3
    refine ⟨_, [a0, a1, a2, a3, a4, a5], [b0, b1, b2, b3, b4, b5], true, lowN (at2 s 14) 0 12, lowN (at2 s 14) 13 3, at2 s 16, s.extract 18 s.size, ?_, ?_, ?_, by omega, fun w =>
      read_tok hs (show 18 ≤ s.size by omega) l3 c1 c2 hd0 (by omega) (by omega) h3 (by omega) m1 m2 n3 (num2_ok hs (by omega)) (num2_ok hs (by omega)) (bits_m _ 13 3 l2 (by omega) (by omega)) (bits_m _ 0 12 l2 (by omega) (by omega)) (bits_m _ 12 1 l2 (by omega) (by omega))⟩
    · exact ⟨rfl, rfl, rfl⟩
    · simp [etGood, hbs]; omega
    · apply data_inj
      unfold etW
      rw [if_pos rfl, hm, ← ha, put_at2 s 12 (by omega), put_at2 s 14 (by omega), put_at2 s 16 (by omega), ← y1, ← y2]
      simp only [toList_append, str_toList, toList_extract]
      rw [show (s.data.toList.drop 18).take (s.size - 18) = s.data.toList.drop 18 from List.take_of_length_le (by rw [List.length_drop, size_toList]; omega)]
      rw [List.drop_zero] at z0
      conv => rhs; rw [z0, z6', z12, z14, z16]
      simp only [List.append_assoc, List.drop_zero]
  · rw [if_neg ha] at h
    have h4 : ¬ at2 s 12 < 1536 := fun e => by rw [if_pos e] at h; omega
    rw [if_neg h4] at h
    have h5 : ¬ 1500 < s.size - 14 := fun e => by rw [if_pos e] at h; omega
    have hbs := sub_size s 14 s.size (Nat.le_refl _)
    refine ⟨_, [a0, a1, a2, a3, a4, a5], [b0, b1, b2, b3, b4, b5], false, 0, 0, at2 s 12, s.extract 14 s.size, ?_, ?_, ?_, by omega, fun w => read_ok hs (show 14 ≤ s.size by omega) l1 ha (by omega) (by omega) m1 m2 n3⟩
    · exact ⟨rfl, rfl, rfl⟩
    · simp [etGood, hbs]; omega
    · apply data_inj
      unfold etW
      rw [if_neg (by simp), put_at2 s 12 (by omega), ← y1, ← y2]
      simp only [toList_append, str_toList, toList_extract]
      rw [show (s.data.toList.drop 14).take (s.size - 14) = s.data.toList.drop 14 from List.take_of_length_le (by rw [List.length_drop, size_toList]; omega)]
      rw [List.drop_zero] at z0
      conv => rhs; rw [z0, z6', z12]
      simp only [List.append_assoc, List.drop_zero]
end Go.Proofs.Ytcoafcjkhaigdaa
