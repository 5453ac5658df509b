/-
  Plain: a packet's bytes, and what stands behind them, are that packet.
-/
import Derived.Test.YtmnlcmgbmehggaaIp6u
import Derived.Test.YtmnlcmgbmehggaaIp6w
namespace Go.Proofs.Ytmnlcmgbmehggaa
open Go.ChangeShapes Go.WideShapes Go.ChangeAt Go.RowKit
set_option linter.unusedVariables false
set_option linter.unusedSimpArgs false

theorem drop_app {A B : List UInt8} {n : Nat} (h : A.length = n) : (A ++ B).drop n = B := by rw [← h]; exact List.drop_left
theorem take_app {A B : List UInt8} {n : Nat} (h : A.length = n) : (A ++ B).take n = A := by rw [← h]; exact List.take_left
theorem opt6_al : opt6 [5, 2, 0, 0, 1, 0] false = (true, 0) := by
  rw [opt6_next (by decide) (by decide) (by decide)]
  show opt6 [1, 0] true = _
  rw [opt6_next (by decide) (by decide) (by decide)]
  exact opt6_nil true
theorem putL1 (n : Nat) : putL n 1 = [byteAt n 0] := rfl
theorem byteAt1 {n : Nat} (h : n < 256) : (byteAt n 0).toNat = n := by rw [byteAt_toNat]; omega
theorem strip6_al {nx : Nat} {b : ByteArray} (h : nx < 256) (h0 : 0 < nx) : strip6 (str (putL nx 1) ++ ⟨#[0, 5, 2, 0, 0, 1, 0]⟩ ++ b) = ⟨0, nx, true, b⟩ := by
  obtain ⟨y, hy⟩ : ∃ y, str (putL nx 1) ++ ⟨#[0, 5, 2, 0, 0, 1, 0]⟩ ++ b = y := ⟨_, rfl⟩
  have hl : y.data.toList = [byteAt nx 0, 0, 5, 2, 0, 0, 1, 0] ++ b.data.toList := by rw [← hy]; simp [toList_append, putL1]
  have hz : y.size = 8 + b.size := by rw [← size_toList, hl, List.length_append, size_toList]; rfl
  rw [hy]
  have e1 : by6 y 1 = 0 := by unfold by6; rw [hl]; rfl
  have e0 : by6 y 0 = nx := by unfold by6; rw [hl]; exact byteAt1 h
  have eo : opt6s (y.extract 2 ((by6 y 1 + 1) * 8)) = (true, 0) := by
    unfold opt6s
    rw [toList_extract, hl, e1]
    exact opt6_al
  have er : y.extract ((by6 y 1 + 1) * 8) y.size = b := by
    rw [← str_of (y.extract ((by6 y 1 + 1) * 8) y.size), ← str_of b, toList_extract, hl, e1, hz]
    congr 1
    show (([byteAt nx 0, 0, 5, 2, 0, 0, 1, 0] ++ b.data.toList).drop 8).take (8 + b.size - 8) = b.data.toList
    rw [drop_app (show [byteAt nx 0, 0, 5, 2, 0, 0, 1, 0].length = 8 from rfl), List.take_of_length_le (by rw [size_toList]; omega)]
  unfold strip6
  rw [if_neg (by rw [e1, hz]; omega), eo, er, e0, if_neg (fun h => by have := h.2; omega)]
theorem back6g {s : ByteArray} {al : Bool} {c f nx hp : Nat} {la lb : List UInt8} {b X : ByteArray} (h1 : c < 256) (h2 : f < 1048576) (h3 : nx < 256) (h3' : 0 < nx) (h4 : hp < 256) (ha : la.length = 16) (hb : lb.length = 16) (hz : b.size ≤ 60000)
    (hs : s = w6 al c f nx hp la lb b ++ X) : err6 s = (if 1400 < b.size then 6 else 0) ∧ (b.size ≤ 1400 → p6Of s = ⟨c, f, nx, hp, true, la, true, lb, al, b⟩) ∧ (w6 al c f nx hp la lb b).size = 40 + (if al then 8 else 0) + b.size := by
  have hbz : (bd6 al nx b).size = (if al then 8 else 0) + b.size := by
    cases al
    · show b.size = 0 + b.size; omega
    · show (str (putL nx 1) ++ ⟨#[0, 5, 2, 0, 0, 1, 0]⟩ ++ b).size = 8 + b.size
      rw [ByteArray.size_append, ByteArray.size_append, str_size, putL_length, show (⟨#[0, 5, 2, 0, 0, 1, 0]⟩ : ByteArray).size = 7 from rfl]
  have hi8 : (if al then 8 else 0 : Nat) ≤ 8 := by split <;> omega
  have hw : (w6 al c f nx hp la lb b).data.toList = putL (1610612736 + c * 1048576 + f) 4 ++ (putL (bd6 al nx b).size 2 ++ (putL (if al then 0 else nx) 1 ++ (putL hp 1 ++ (la ++ (lb ++ (bd6 al nx b).data.toList))))) := by
    unfold w6; simp [toList_append]
  have hwz : (w6 al c f nx hp la lb b).size = 40 + (if al then 8 else 0) + b.size := by
    rw [← size_toList, hw]
    simp only [List.length_append, putL_length, ha, hb, size_toList, hbz]
    omega
  have hl : s.data.toList = putL (1610612736 + c * 1048576 + f) 4 ++ (putL (bd6 al nx b).size 2 ++ (putL (if al then 0 else nx) 1 ++ (putL hp 1 ++ (la ++ (lb ++ ((bd6 al nx b).data.toList ++ X.data.toList)))))) := by
    rw [hs, toList_append, hw]; simp
  have hsz : s.size = 40 + (if al then 8 else 0) + b.size + X.size := by rw [hs, ByteArray.size_append, hwz]
  clear hs hw
  generalize hN : 1610612736 + c * 1048576 + f = N at *
  obtain ⟨n, hn⟩ : ∃ n, (bd6 al nx b).size = n := ⟨_, rfl⟩
  rw [hn] at hl hbz
  have d4 : s.data.toList.drop 4 = putL n 2 ++ (putL (if al then 0 else nx) 1 ++ (putL hp 1 ++ (la ++ (lb ++ ((bd6 al nx b).data.toList ++ X.data.toList))))) := by rw [hl]; exact drop_app (putL_length _ _)
  have d6 : s.data.toList.drop 6 = putL (if al then 0 else nx) 1 ++ (putL hp 1 ++ (la ++ (lb ++ ((bd6 al nx b).data.toList ++ X.data.toList)))) := by rw [show 6 = 4 + 2 by rfl, ← List.drop_drop, d4]; exact drop_app (putL_length _ _)
  have d7 : s.data.toList.drop 7 = putL hp 1 ++ (la ++ (lb ++ ((bd6 al nx b).data.toList ++ X.data.toList))) := by rw [show 7 = 6 + 1 by rfl, ← List.drop_drop, d6]; exact drop_app (putL_length _ _)
  have d8 : s.data.toList.drop 8 = la ++ (lb ++ ((bd6 al nx b).data.toList ++ X.data.toList)) := by rw [show 8 = 7 + 1 by rfl, ← List.drop_drop, d7]; exact drop_app (putL_length _ _)
  have d24 : s.data.toList.drop 24 = lb ++ ((bd6 al nx b).data.toList ++ X.data.toList) := by rw [show 24 = 8 + 16 by rfl, ← List.drop_drop, d8]; exact drop_app ha
  have d40 : s.data.toList.drop 40 = (bd6 al nx b).data.toList ++ X.data.toList := by rw [show 40 = 24 + 16 by rfl, ← List.drop_drop, d24]; exact drop_app hb
  have eN : wd6 s = N := by
    unfold wd6 numAt
    rw [hl, List.drop_zero, take_app (putL_length _ _), numL_putL]
    exact Nat.mod_eq_of_lt (by show N < 4294967296; omega)
  have en : sz6 s = n := by
    unfold sz6 numAt
    rw [d4, take_app (putL_length _ _), numL_putL]
    exact Nat.mod_eq_of_lt (by show n < 65536; omega)
  have e6 : by6 s 6 = if al then 0 else nx := by
    have : by6 s 6 = ((s.data.toList.drop 6)[0]?.getD 0).toNat := by unfold by6; rw [List.getElem?_drop]
    rw [this, d6, putL1]
    exact byteAt1 (by split <;> omega)
  have e7 : by6 s 7 = hp := by
    have : by6 s 7 = ((s.data.toList.drop 7)[0]?.getD 0).toNat := by unfold by6; rw [List.getElem?_drop]
    rw [this, d7, putL1]
    exact byteAt1 h4
  have eb : bo6 s = bd6 al nx b := by
    unfold bo6
    rw [← str_of (s.extract 40 (40 + sz6 s)), ← str_of (bd6 al nx b), toList_extract, d40, en, Nat.add_sub_cancel_left, take_app (by rw [size_toList, hn])]
  have eA : adOf (s.extract 8 24) = la := by
    unfold adOf
    rw [extract_size (by omega) (by omega), toList_extract, d8, take_app ha]
    simp
  have eC : adOf (s.extract 24 40) = lb := by
    unfold adOf
    rw [extract_size (by omega) (by omega), toList_extract, d24, take_app hb]
    simp
  have hp0 : pre6 s = 0 := by unfold pre6; rw [if_neg (by omega), if_neg (by rw [eN]; omega), if_neg (by rw [en]; omega)]
  have k1 : wd6 s / 1048576 % 256 = c := by rw [eN]; omega
  have k2 : wd6 s % 1048576 = f := by rw [eN]; omega
  cases al
  · rw [if_neg (by decide)] at e6
    simp only [Bool.false_eq_true, if_false, Nat.zero_add, Nat.add_zero] at hbz hwz
    have ee : err6 s = if 1400 < b.size then 6 else 0 := by unfold err6; rw [if_neg (by rw [hp0]; decide), if_neg (by omega), en, hbz]
    refine ⟨ee, fun hb' => ?_, by simpa using hwz⟩
    unfold p6Of
    rw [if_neg (by rw [ee, if_neg (by omega)]; decide), if_neg (by omega), k1, k2, e6, e7, eA, eC, eb]
    rfl
  · rw [if_pos rfl] at e6
    have es : strip6 (bo6 s) = ⟨0, nx, true, b⟩ := by rw [eb]; exact strip6_al h3 h3'
    have ee : err6 s = if 1400 < b.size then 6 else 0 := by unfold err6; rw [if_neg (by rw [hp0]; decide), if_pos e6, es, if_neg (fun h => h rfl)]
    refine ⟨ee, fun hb' => ?_, hwz⟩
    unfold p6Of
    rw [if_neg (by rw [ee, if_neg (by omega)]; decide), if_pos e6, es, k1, k2, e7, eA, eC]
theorem g6_parts {p : P6} (h : p.Ok) (hg : g6 p = true) : ∃ (c f nx hp : Nat) (la lb : List UInt8) (al : Bool) (b : ByteArray), p = ⟨c, f, nx, hp, true, la, true, lb, al, b⟩ ∧ la.length = 16 ∧ lb.length = 16 ∧ c < 256 ∧ f < 1048576 ∧ nx < 256 ∧ 0 < nx ∧ hp < 256 ∧ b.size ≤ 1400 := by
  obtain ⟨tos, id, ttl, proto, va, la, vb, lb, al, b⟩ := p
  unfold g6 g6n at hg
  simp only [Bool.and_eq_true, decide_eq_true_eq] at hg
  obtain ⟨⟨h1, rfl, rfl⟩, h6⟩ := hg
  refine ⟨tos.toNat, id.toNat, ttl.toNat, proto.toNat, la, lb, al, b, ?_, h.a, h.b, by omega, by omega, by omega, by omega, by omega, h6⟩
  rw [Int.toNat_of_nonneg (by omega), Int.toNat_of_nonneg (by omega), Int.toNat_of_nonneg (by omega), Int.toNat_of_nonneg (by omega)]
end Go.Proofs.Ytmnlcmgbmehggaa
