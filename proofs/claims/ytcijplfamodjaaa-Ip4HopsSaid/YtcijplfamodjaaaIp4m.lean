/-
  Plain: a packet's bytes, and what stands behind them, are that packet. No program in sight but for its literals' kinds.
-/
import Derived.Test.YtcijplfamodjaaaIp4r
import Derived.Test.YtcijplfamodjaaaIp4v
namespace Go.Proofs.Ytcijplfamodjaaa
open Go.ChangeShapes Go.WideShapes Go.ChangeAt Go.RowKit
set_option linter.unusedVariables false
set_option linter.unusedSimpArgs false

theorem check_fold (n : Nat) : foldN (n + (65535 - foldN n)) = 65535 := by
  have h1 := foldN_le n
  have h := foldN_add n (65535 - foldN n)
  rw [← h, foldN_small (by omega)]
  omega
theorem putL1 (n : Nat) : putL n 1 = [byteAt n 0] := rfl
theorem putL2 (n : Nat) : putL n 2 = [byteAt n 1, byteAt n 0] := rfl
theorem good4_parts {p : P4} (h : p.Ok) (hg : g4 p = true) : ∃ (tos id ttl proto : Nat) (a0 a1 a2 a3 c0 c1 c2 c3 : UInt8) (al : Bool) (b : ByteArray), p = ⟨tos, id, ttl, proto, false, [a0, a1, a2, a3] ++ List.replicate 12 0, false, [c0, c1, c2, c3] ++ List.replicate 12 0, al, b⟩ ∧ tos < 256 ∧ id < 65536 ∧ ttl < 256 ∧ proto < 256 ∧ b.size ≤ 1400 := by
  obtain ⟨tos, id, ttl, proto, va, la, vb, lb, al, b⟩ := p
  unfold g4 g4n g4a goodA at hg
  simp only [Bool.and_eq_true, decide_eq_true_eq, Bool.not_eq_true', Bool.or_eq_true, beq_iff_eq] at hg
  obtain ⟨⟨h1, ⟨h2, h3⟩, ⟨h4, h5⟩⟩, h6⟩ := hg
  subst h2; subst h4
  obtain ⟨a0, a1, a2, a3, a4, a5, a6, a7, a8, a9, a10, a11, a12, a13, a14, a15, e1⟩ := sixteen h.a
  obtain ⟨b0, b1, b2, b3, b4, b5, b6, b7, b8, b9, b10, b11, b12, b13, b14, b15, e2⟩ := sixteen h.b
  simp only at e1 e2
  subst e1; subst e2
  simp [List.replicate] at h3 h5
  refine ⟨tos.toNat, id.toNat, ttl.toNat, proto.toNat, a0, a1, a2, a3, b0, b1, b2, b3, al, b, ?_, by omega, by omega, by omega, by omega, h6⟩
  rw [Int.toNat_of_nonneg (by omega), Int.toNat_of_nonneg (by omega), Int.toNat_of_nonneg (by omega), Int.toNat_of_nonneg (by omega)]
  simp [List.replicate, h3, h5]
theorem opt_alert : opt4 [148, 4, 0, 0] false = some true := by rw [opt4_opt [0, 0] (by decide) (by decide) (by decide)]; exact opt4_nil _
section
variable {tos id ttl proto : Nat} {a0 a1 a2 a3 c0 c1 c2 c3 : UInt8} {b X : ByteArray}
/-- a head's bytes -/
def hd4L (v n tos id ttl proto ck : Nat) (a0 a1 a2 a3 c0 c1 c2 c3 : UInt8) : List UInt8 :=
  [byteAt v 0, byteAt tos 0, byteAt n 1, byteAt n 0, byteAt id 1, byteAt id 0, 0, 0, byteAt ttl 0, byteAt proto 0, byteAt ck 1, byteAt ck 0, a0, a1, a2, a3, c0, c1, c2, c3]
theorem byteAt2 {n : Nat} (h : n < 65536) : (byteAt n 1).toNat * 256 + (byteAt n 0).toNat = n := by
  rw [byteAt_toNat, byteAt_toNat]; omega
theorem byteAt1 {n : Nat} (h : n < 256) : (byteAt n 0).toNat = n := by rw [byteAt_toNat]; omega
theorem byteAt_zero (i : Nat) : byteAt 0 i = 0 := by unfold byteAt; simp
set_option maxRecDepth 100000 in
theorem w4_data (al : Bool) : ∃ ck, ck < 65536 ∧ (w4 al false false ([a0, a1, a2, a3] ++ List.replicate 12 0) ([c0, c1, c2, c3] ++ List.replicate 12 0) tos id ttl proto b).data.toList =
    hd4L (if al then 70 else 69) ((if al then 24 else 20) + b.size) tos id ttl proto ck a0 a1 a2 a3 c0 c1 c2 c3 ++ ((if al then [148, 4, 0, 0] else []) ++ b.data.toList) ∧
    foldN (wsum (hd4L (if al then 70 else 69) ((if al then 24 else 20) + b.size) tos id ttl proto ck a0 a1 a2 a3 c0 c1 c2 c3 ++ (if al then [148, 4, 0, 0] else []))) = 65535 := by
  refine ⟨65535 - foldN (wsum (flat [w4F al tos id ttl proto b.size, w4B al false false ([a0, a1, a2, a3] ++ List.replicate 12 0) ([c0, c1, c2, c3] ++ List.replicate 12 0)])), by omega, ?_, ?_⟩
  · unfold w4
    cases al <;> simp [w4F, w4B, bytesA, putL1, putL2, toList_append, hd4L, byteAt_zero]
  · have h1 : wsum (flat [w4F al tos id ttl proto b.size, w4B al false false ([a0, a1, a2, a3] ++ List.replicate 12 0) ([c0, c1, c2, c3] ++ List.replicate 12 0)]) =
        wsum (hd4L (if al then 70 else 69) ((if al then 24 else 20) + b.size) tos id ttl proto 0 a0 a1 a2 a3 c0 c1 c2 c3 ++ (if al then [148, 4, 0, 0] else [])) := by
      cases al <;> simp [flat, w4F, w4B, bytesA, putL1, putL2, toList_append, hd4L, byteAt_zero, wsum]
    rw [h1]
    generalize hW : wsum (hd4L (if al then 70 else 69) ((if al then 24 else 20) + b.size) tos id ttl proto 0 a0 a1 a2 a3 c0 c1 c2 c3 ++ (if al then [148, 4, 0, 0] else [])) = n
    have h2 : ∀ ck, ck < 65536 → wsum (hd4L (if al then 70 else 69) ((if al then 24 else 20) + b.size) tos id ttl proto ck a0 a1 a2 a3 c0 c1 c2 c3 ++ (if al then [148, 4, 0, 0] else [])) = n + ck := by
      intro ck hck
      rw [← hW]
      have := byteAt2 hck
      cases al <;> simp [hd4L, wsum, byteAt_zero] <;> omega
    rw [h2 _ (by omega)]
    exact check_fold n
set_option maxRecDepth 100000 in
theorem back4g {s : ByteArray} {al : Bool} (h1 : tos < 256) (h2 : id < 65536) (h3 : ttl < 256) (h4 : proto < 256) (hb : b.size ≤ 60000)
    (hs : s = w4 al false false ([a0, a1, a2, a3] ++ List.replicate 12 0) ([c0, c1, c2, c3] ++ List.replicate 12 0) tos id ttl proto b ++ X) :
    err4 s = (if 1400 < b.size then 6 else 0) ∧ (b.size ≤ 1400 → p4Of s = ⟨tos, id, ttl, proto, false, [a0, a1, a2, a3] ++ List.replicate 12 0, false, [c0, c1, c2, c3] ++ List.replicate 12 0, al, b⟩) := by
  obtain ⟨ck, hck, hd, hf⟩ := w4_data (a0 := a0) (a1 := a1) (a2 := a2) (a3 := a3) (c0 := c0) (c1 := c1) (c2 := c2) (c3 := c3) (tos := tos) (id := id) (ttl := ttl) (proto := proto) (b := b) al
  have hl : s.data.toList = hd4L (if al then 70 else 69) ((if al then 24 else 20) + b.size) tos id ttl proto ck a0 a1 a2 a3 c0 c1 c2 c3 ++ ((if al then [148, 4, 0, 0] else []) ++ (b.data.toList ++ X.data.toList)) := by
    rw [hs, toList_append, hd]; simp
  have hz : s.size = (if al then 24 else 20) + b.size + X.size := by
    rw [← size_toList, hl]
    cases al <;> simp [hd4L, size_toList] <;> omega
  clear hs hd
  have e0 : by4 s 0 = if al then 70 else 69 := by unfold by4; rw [hl]; cases al <;> simp [hd4L, byteAt_toNat]
  have e1 : by4 s 1 = tos := by unfold by4; rw [hl]; exact byteAt1 h1
  have e23 : by4 s 2 * 256 + by4 s 3 = (if al then 24 else 20) + b.size := by unfold by4; rw [hl]; exact byteAt2 (by split <;> omega)
  have e45 : by4 s 4 * 256 + by4 s 5 = id := by unfold by4; rw [hl]; exact byteAt2 h2
  have e6 : by4 s 6 = 0 := by unfold by4; rw [hl]; rfl
  have e7 : by4 s 7 = 0 := by unfold by4; rw [hl]; rfl
  have e8 : by4 s 8 = ttl := by unfold by4; rw [hl]; exact byteAt1 h3
  have e9 : by4 s 9 = proto := by unfold by4; rw [hl]; exact byteAt1 h4
  have eN : by4 s 0 % 16 * 4 = if al then 24 else 20 := by rw [e0]; cases al <;> rfl
  have hN : (if al then 24 else 20 : Nat) ≤ 24 ∧ 20 ≤ (if al then 24 else 20 : Nat) := by cases al <;> simp
  have hsum : s.data.toList.take (by4 s 0 % 16 * 4) = hd4L (if al then 70 else 69) ((if al then 24 else 20) + b.size) tos id ttl proto ck a0 a1 a2 a3 c0 c1 c2 c3 ++ (if al then [148, 4, 0, 0] else []) := by
    rw [eN, hl]
    cases al <;> simp [hd4L]
  have hsz : sz4 s = 0 := by
    unfold sz4
    rw [hsum, hf, eN, e23]
    rw [if_neg (by omega), if_neg (by rw [e0]; cases al <;> simp), if_neg (by omega), if_neg (by omega), if_neg (by simp), if_neg (by omega), if_neg (by omega)]
  have hopt : opt4s s = some al := by
    unfold opt4s
    rw [eN, toList_extract, hl]
    cases al
    · simp [hd4L, opt4_nil]
    · simp [hd4L]; exact opt_alert
  have herr : err4 s = (if 1400 < b.size then 6 else 0) := by
    unfold err4
    rw [if_neg (by omega), if_neg (by rw [e6, e7]; simp), if_neg (by rw [hopt]; simp), eN, e23, Nat.add_sub_cancel_left]
  have f1 : adOf (s.extract 12 16) = [a0, a1, a2, a3] ++ List.replicate 12 0 := by
    have h20 : 20 ≤ s.size := by omega
    have hsz4 : (s.extract 12 16).size = 4 := extract_size (by omega) (by omega)
    unfold adOf
    rw [hsz4, toList_extract, hl]
    simp [hd4L]
  have f2 : adOf (s.extract 16 20) = [c0, c1, c2, c3] ++ List.replicate 12 0 := by
    have h20 : 20 ≤ s.size := by omega
    have hsz4 : (s.extract 16 20).size = 4 := extract_size (by omega) (by omega)
    unfold adOf
    rw [hsz4, toList_extract, hl]
    simp [hd4L]
  have f3 : s.extract (by4 s 0 % 16 * 4) (by4 s 2 * 256 + by4 s 3) = b := by
    rw [← str_of (s.extract _ _), ← str_of b, toList_extract, eN, e23, hl]
    congr 1
    have hlb := size_toList b
    cases al <;> simp [hd4L, hlb]
  refine ⟨herr, fun hb' => ?_⟩
  unfold p4Of
  rw [if_neg (by rw [herr, if_neg (by omega)]; simp), e1, e45, e8, e9, f1, f2, f3, hopt]
  rfl
theorem back4 {s : ByteArray} {al : Bool} (h1 : tos < 256) (h2 : id < 65536) (h3 : ttl < 256) (h4 : proto < 256) (hb : b.size ≤ 1400)
    (hs : s = w4 al false false ([a0, a1, a2, a3] ++ List.replicate 12 0) ([c0, c1, c2, c3] ++ List.replicate 12 0) tos id ttl proto b ++ X) :
    err4 s = 0 ∧ p4Of s = ⟨tos, id, ttl, proto, false, [a0, a1, a2, a3] ++ List.replicate 12 0, false, [c0, c1, c2, c3] ++ List.replicate 12 0, al, b⟩ := by
  obtain ⟨k1, k2⟩ := back4g h1 h2 h3 h4 (by omega) hs
  rw [if_neg (by omega)] at k1
  exact ⟨k1, k2 hb⟩
end
end Go.Proofs.Ytcijplfamodjaaa
