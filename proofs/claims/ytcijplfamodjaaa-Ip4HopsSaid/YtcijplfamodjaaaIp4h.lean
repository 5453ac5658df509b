/-
  'Ip4Hops': any packet one hop further, or why there is none: the contract and the law.
-/
import Derived.Test.YtcijplfamodjaaaIp4x
namespace Go.Proofs.Ytcijplfamodjaaa
open Go.ChangeShapes Go.WideShapes Go.ChangeAt Go.RowKit
set_option linter.unusedVariables false
set_option linter.unusedSimpArgs false

def nx4 (s : ByteArray) : Nat := updN ((by4 s 10 * 256 + by4 s 11 : Nat) : Int) ((by4 s 8 * 256 + by4 s 9 : Nat) : Int) (((by4 s 8 * 256 + by4 s 9 : Nat) : Int) - 256)
def hop4 (s : ByteArray) : ByteArray := s.extract 0 8 ++ str (putL (by4 s 8 - 1) 1) ++ s.extract 9 10 ++ str (putL (nx4 s) 2) ++ s.extract 12 s.size
theorem fold_full {n : Nat} : foldN n = 65535 ↔ n ≠ 0 ∧ n % 65535 = 0 := by unfold foldN; split <;> omega
theorem nx4_lt (s : ByteArray) : nx4 s < 65536 := by unfold nx4 updN; omega
theorem by4_list {s : ByteArray} {i : Nat} (h : i < s.size) : s.data.toList[i]? = some (UInt8.ofNat (by4 s i)) := by
  have hl := size_toList s
  unfold by4
  rw [List.getElem?_eq_getElem (by omega)]
  simp
/-- a list of at least 20 bytes, by its first ones -/
theorem split12 {L : List UInt8} (h : 20 ≤ L.length) : ∃ x0 x1 x2 x3 x4 x5 x6 x7 x8 x9 x10 x11 r, L = x0 :: x1 :: x2 :: x3 :: x4 :: x5 :: x6 :: x7 :: x8 :: x9 :: x10 :: x11 :: r ∧ 8 ≤ r.length := by
  match L, h with
  | x0 :: x1 :: x2 :: x3 :: x4 :: x5 :: x6 :: x7 :: x8 :: x9 :: x10 :: x11 :: r, h => exact ⟨x0, x1, x2, x3, x4, x5, x6, x7, x8, x9, x10, x11, r, rfl, by simp at h; omega⟩
set_option maxHeartbeats 1000000 in
set_option maxRecDepth 100000 in
theorem hop4_back {s : ByteArray} (h : err4 s = 0) (ht : 1 ≤ by4 s 8) : err4 (hop4 s) = 0 ∧ p4Of (hop4 s) = { p4Of s with ttl := ((by4 s 8 - 1 : Nat) : Int) } ∧ (hop4 s).size = s.size := by
  have hz : sz4 s = 0 := by
    apply Classical.byContradiction
    intro h1
    unfold err4 at h
    rw [if_pos h1] at h; exact h1 h
  obtain ⟨k1, k2, k3, k4, k5, k6, k7⟩ := sz4_ok hz
  have hl := size_toList s
  obtain ⟨x0, x1, x2, x3, x4, x5, x6, x7, x8, x9, x10, x11, r, hL, hr⟩ := split12 (L := s.data.toList) (by omega)
  have b0 : by4 s 0 = x0.toNat := by unfold by4; rw [hL]; rfl
  have b1 : by4 s 1 = x1.toNat := by unfold by4; rw [hL]; rfl
  have b2 : by4 s 2 = x2.toNat := by unfold by4; rw [hL]; rfl
  have b3 : by4 s 3 = x3.toNat := by unfold by4; rw [hL]; rfl
  have b4 : by4 s 4 = x4.toNat := by unfold by4; rw [hL]; rfl
  have b5 : by4 s 5 = x5.toNat := by unfold by4; rw [hL]; rfl
  have b6 : by4 s 6 = x6.toNat := by unfold by4; rw [hL]; rfl
  have b7 : by4 s 7 = x7.toNat := by unfold by4; rw [hL]; rfl
  have b8 : by4 s 8 = x8.toNat := by unfold by4; rw [hL]; rfl
  have b9 : by4 s 9 = x9.toNat := by unfold by4; rw [hL]; rfl
  have b10 : by4 s 10 = x10.toNat := by unfold by4; rw [hL]; rfl
  have b11 : by4 s 11 = x11.toNat := by unfold by4; rw [hL]; rfl
  have hT : (hop4 s).data.toList = x0 :: x1 :: x2 :: x3 :: x4 :: x5 :: x6 :: x7 :: byteAt (by4 s 8 - 1) 0 :: x9 :: byteAt (nx4 s) 1 :: byteAt (nx4 s) 0 :: r := by
    unfold hop4
    simp only [toList_append, toList_extract, str_toList, putL1, putL2, hL]
    have : s.size - 12 = r.length := by rw [← hl, hL]; simp
    rw [this]
    simp
  have hsz : (hop4 s).size = s.size := by rw [← size_toList, hT, ← hl, hL]; simp
  have t0 : by4 (hop4 s) 0 = by4 s 0 := by rw [b0]; unfold by4; rw [hT]; rfl
  have t1 : by4 (hop4 s) 1 = by4 s 1 := by rw [b1]; unfold by4; rw [hT]; rfl
  have t2 : by4 (hop4 s) 2 = by4 s 2 := by rw [b2]; unfold by4; rw [hT]; rfl
  have t3 : by4 (hop4 s) 3 = by4 s 3 := by rw [b3]; unfold by4; rw [hT]; rfl
  have t4 : by4 (hop4 s) 4 = by4 s 4 := by rw [b4]; unfold by4; rw [hT]; rfl
  have t5 : by4 (hop4 s) 5 = by4 s 5 := by rw [b5]; unfold by4; rw [hT]; rfl
  have t6 : by4 (hop4 s) 6 = by4 s 6 := by rw [b6]; unfold by4; rw [hT]; rfl
  have t7 : by4 (hop4 s) 7 = by4 s 7 := by rw [b7]; unfold by4; rw [hT]; rfl
  have l8 := by4_lt s 8
  have l9 := by4_lt s 9
  have l10 := by4_lt s 10
  have l11 := by4_lt s 11
  have t8 : by4 (hop4 s) 8 = by4 s 8 - 1 := by
    have : by4 (hop4 s) 8 = (byteAt (by4 s 8 - 1) 0).toNat := by unfold by4; rw [hT]; rfl
    rw [this, byteAt1 (by omega)]
  have t9 : by4 (hop4 s) 9 = by4 s 9 := by rw [b9]; unfold by4; rw [hT]; rfl
  obtain ⟨n, hn⟩ : ∃ n, by4 s 0 % 16 * 4 = n + 12 := ⟨by4 s 0 % 16 * 4 - 12, by omega⟩
  have hd12 : (hop4 s).data.toList.drop 12 = s.data.toList.drop 12 := by rw [hT, hL]; rfl
  have hext : ∀ i j, 12 ≤ i → (hop4 s).extract i j = s.extract i j := by
    intro i j hi
    rw [← str_of (ByteArray.extract _ _ _), ← str_of (s.extract i j), toList_extract, toList_extract]
    have e : ∀ L : List UInt8, L.drop i = (L.drop 12).drop (i - 12) := fun L => by rw [List.drop_drop]; congr 1; omega
    rw [e, hd12, ← e]
  have w1 : wsum (s.data.toList.take (by4 s 0 % 16 * 4)) = x0.toNat * 256 + x1.toNat + (x2.toNat * 256 + x3.toNat + (x4.toNat * 256 + x5.toNat + (x6.toNat * 256 + x7.toNat + (x8.toNat * 256 + x9.toNat + (x10.toNat * 256 + x11.toNat + wsum (r.take n)))))) := by
    rw [hn, hL]; simp only [List.take_succ_cons, wsum]
  have w2 : wsum ((hop4 s).data.toList.take (by4 s 0 % 16 * 4)) = x0.toNat * 256 + x1.toNat + (x2.toNat * 256 + x3.toNat + (x4.toNat * 256 + x5.toNat + (x6.toNat * 256 + x7.toNat + ((x8.toNat - 1) * 256 + x9.toNat + (nx4 s + wsum (r.take n)))))) := by
    have a1 : (byteAt (by4 s 8 - 1) 0).toNat = x8.toNat - 1 := by rw [byteAt1 (by omega), b8]
    have a2 := byteAt2 (nx4_lt s)
    rw [hn, hT]
    simp only [List.take_succ_cons, wsum, a1]
    omega
  have hnx : ∃ q, nx4 s = 65535 - foldN q ∧ q = 65535 - (x10.toNat * 256 + x11.toNat) + (65535 - (x8.toNat * 256 + x9.toNat)) + (x8.toNat * 256 + x9.toNat - 256) := by
    refine ⟨_, rfl, ?_⟩
    rw [b8] at ht
    rw [b8, b9, b10, b11, cutN_nat (by omega), cutN_nat (by omega), show (((x8.toNat * 256 + x9.toNat : Nat) : Int) - 256) = ((x8.toNat * 256 + x9.toNat - 256 : Nat) : Int) by omega, cutN_nat (by omega)]
  have hf : foldN (wsum ((hop4 s).data.toList.take (by4 s 0 % 16 * 4))) = 65535 := by
    obtain ⟨q, q1, q2⟩ := hnx
    rw [w1, fold_full] at k5
    rw [w2, fold_full]
    have hq : foldN q ≤ 65535 ∧ (foldN q) % 65535 = q % 65535 := by
      refine ⟨foldN_le q, ?_⟩
      unfold foldN
      split <;> omega
    rw [b0] at k2
    rw [b8] at ht l8
    rw [b9] at l9
    rw [b10] at l10
    rw [b11] at l11
    generalize foldN q = fq at *
    generalize wsum (r.take n) = R at *
    refine ⟨by omega, by omega⟩
  have hz' : sz4 (hop4 s) = 0 := by
    unfold sz4
    rw [t0, t2, t3, hf, hsz]
    rw [if_neg (by omega), if_neg (by omega), if_neg (by omega), if_neg (by omega), if_neg (by simp), if_neg (by omega), if_neg (by omega)]
  have hopt : opt4s (hop4 s) = opt4s s := by unfold opt4s; rw [t0, hext _ _ (by omega)]
  have herr : err4 (hop4 s) = 0 := by
    have h' := h
    unfold err4 at h' ⊢
    rw [if_neg (by omega)] at h'
    rw [if_neg (by omega), t6, t7, hopt, t2, t3, t0]
    exact h'
  refine ⟨herr, ?_, hsz⟩
  unfold p4Of
  rw [if_neg (by rw [herr]; simp), if_neg (by rw [h]; simp)]
  simp only [t0, t1, t2, t3, t4, t5, t8, t9, hopt]
  rw [hext 12 16 (by omega), hext 16 20 (by omega), hext _ _ (by omega)]
end Go.Proofs.Ytcijplfamodjaaa
