/-
  What the package reads is what its reference reads (no program here).
-/
import Derived.Test.YtdbdlhmgokllaaaR5
namespace Go.Proofs.Ytdbdlhmgokllaaa
open Go.ChangeShapes Go.WideShapes Go.ChangeAt Go.RowKit
set_option linter.unusedVariables false
set_option linter.unusedSimpArgs false

section
variable {s : ByteArray} {k n wd : Nat}
theorem step_ok (h : k + n ≤ s.size) : nmP s n (k, false) = numAt s k n ∧ adP s n (k, false) = adR (s.extract k (k + n)) ∧ rdP s n (k, false) = (k + n, false) := by
  have e : rdFits s k false n = true := by simp [rdFits, h]
  refine ⟨?_, ?_, ?_⟩
  · unfold nmP rdS numAt
    rw [e, if_pos rfl, toList_extract, Nat.add_sub_cancel_left]
  · unfold adP rdS
    rw [e, if_pos rfl]
  · unfold rdP rdK rdB
    rw [e]
    rfl
theorem step_no (h : s.size < k + n) : nmP s n (k, false) = 0 ∧ rdP s n (k, false) = (k, true) := by
  have e : rdFits s k false n = false := by simp [rdFits]; omega
  unfold nmP rdP rdS rdK rdB
  rw [e]
  exact ⟨rfl, rfl⟩
theorem step_bad (n : Nat) : nmP s n (k, true) = 0 ∧ rdP s n (k, true) = (k, true) := by
  have e : rdFits s k true n = false := by simp [rdFits]
  unfold nmP rdP rdS rdK rdB
  rw [e]
  exact ⟨rfl, rfl⟩
theorem srP_bad {m : Nat} {L : List Ad} : srP s wd m L (k, true) = (L, (k, true)) := srP_end (.inr rfl)
theorem srP_ok : ∀ (m : Nat) (L : List Ad) (k : Nat), k + wd * m ≤ s.size → srP s wd m L (k, false) = (L ++ (List.range m).map (fun i => adR (s.extract (k + wd * i) (k + wd * i + wd))), (k + wd * m, false))
  | 0, L, k, h => by simp [srP]
  | m + 1, L, k, h => by
    rw [Nat.mul_succ] at h
    obtain ⟨_, e2, e3⟩ := step_ok (s := s) (k := k) (n := wd) (by omega)
    rw [srP_more, e2, e3, srP_ok m _ _ (by omega), List.range_succ_eq_map]
    simp only [List.map_cons, List.map_map, List.append_assoc, List.cons_append, List.nil_append, Nat.mul_zero, Nat.add_zero]
    congr 1
    · congr 2
      refine List.map_congr_left fun i _ => ?_
      simp only [Function.comp]
      rw [show k + wd + wd * i = k + wd * (i + 1) by rw [Nat.mul_succ]; omega]
    · rw [Nat.mul_succ]
      congr 1
      omega
theorem srP_short : ∀ (m : Nat) (L : List Ad) (k : Nat), k ≤ s.size → s.size < k + wd * m → (srP s wd m L (k, false)).2.2 = true
  | 0, L, k, h, h' => by simp at h'; omega
  | m + 1, L, k, h, h' => by
    rw [Nat.mul_succ] at h'
    by_cases hk : k + wd ≤ s.size
    · obtain ⟨_, e2, e3⟩ := step_ok (s := s) (k := k) (n := wd) hk
      rw [srP_more, e2, e3]
      exact srP_short m _ _ hk (by omega)
    · rw [srP_more, (step_no (s := s) (k := k) (n := wd) (by omega)).2, srP_bad]
theorem numAt_by (h : k < s.size) : numAt s k 1 = by6 s k := by
  have hl : k < s.data.toList.length := by rw [size_toList]; exact h
  unfold numAt by6
  rw [List.drop_eq_getElem_cons hl, List.take_succ_cons, List.take_zero, List.getElem?_eq_getElem hl]
  simp [numL]
theorem wdS_or (s : ByteArray) : wdS s = 4 ∨ wdS s = 16 := by unfold wdS; split <;> simp
/-- too short: some read fails -/
theorem raw_short (h : s.size < 4 + wdS s) : (rawC s).2.2 = true := by
  unfold rawC
  simp only
  by_cases h0 : s.size < 1
  · obtain ⟨a1, a2⟩ := step_no (s := s) (k := 0) (n := 1) (by omega)
    rw [a1, a2, (step_bad 2).2, (step_bad (wdF 0)).2, (step_bad 1).2, srP_bad]
  · obtain ⟨a1, _, a2⟩ := step_ok (s := s) (k := 0) (n := 1) (by omega)
    have ew : wdF (numAt s 0 1) = wdS s := by rw [numAt_by (by omega)]; rfl
    rw [a1, a2, ew]
    by_cases h1 : s.size < 3
    · rw [(step_no (s := s) (k := 0 + 1) (n := 2) (by omega)).2, (step_bad (wdS s)).2, (step_bad 1).2, srP_bad]
    · rw [(step_ok (s := s) (k := 0 + 1) (n := 2) (by omega)).2.2]
      by_cases h2 : s.size < 3 + wdS s
      · rw [(step_no (s := s) (k := 0 + 1 + 2) (n := wdS s) (by omega)).2, (step_bad 1).2, srP_bad]
      · rw [(step_ok (s := s) (k := 0 + 1 + 2) (n := wdS s) (by omega)).2.2, (step_no (s := s) (k := 0 + 1 + 2 + wdS s) (n := 1) (by omega)).2, srP_bad]
theorem raw_long (h : 4 + wdS s ≤ s.size) : rawC s = (⟨⟨(numAt s 1 2 : Int), adR (s.extract 3 (3 + wdS s)), decide (by6 s 0 / 2 % 2 = 1), (srP s (wdS s) (by6 s (3 + wdS s)) [] (4 + wdS s, false)).1⟩, decide (by6 s 0 % 2 = 1)⟩, (srP s (wdS s) (by6 s (3 + wdS s)) [] (4 + wdS s, false)).2) := by
  unfold rawC
  simp only
  obtain ⟨a1, _, a2⟩ := step_ok (s := s) (k := 0) (n := 1) (by omega)
  have ev : numAt s 0 1 = by6 s 0 := numAt_by (by omega)
  have ew : wdF (by6 s 0) = wdS s := rfl
  obtain ⟨b1, _, b2⟩ := step_ok (s := s) (k := 0 + 1) (n := 2) (by omega)
  obtain ⟨_, c1, c2⟩ := step_ok (s := s) (k := 0 + 1 + 2) (n := wdS s) (by omega)
  obtain ⟨d1, _, d2⟩ := step_ok (s := s) (k := 0 + 1 + 2 + wdS s) (n := 1) (by omega)
  rw [a1, a2, ev, ew, b1, b2, c1, c2, d1, d2]
  rw [show 0 + 1 + 2 + wdS s = 3 + wdS s by omega, numAt_by (s := s) (k := 3 + wdS s) (by omega), show 3 + wdS s + 1 = 4 + wdS s by omega]
/-! ### the bytes of what was read -/
theorem bytes_adR {b : ByteArray} (h : b.size = 4 ∨ b.size = 16) : bytesA (adR b).v (adR b).b = b.data.toList := by
  have hl := size_toList b
  rcases h with h | h
  · have e : adR b = ⟨false, adOf b, adOf_length (by omega)⟩ := by unfold adR; rw [dif_pos h]
    rw [e]
    unfold bytesA adOf
    simp only
    rw [if_neg (by simp), List.take_append_of_le_length (by omega), List.take_of_length_le (by omega)]
  · have e : adR b = ⟨true, adOf b, adOf_length (by omega)⟩ := by unfold adR; rw [dif_neg (by omega), dif_pos h]
    rw [e]
    unfold bytesA adOf
    simp only
    rw [if_pos trivial, h]
    simp
theorem adR_v {b : ByteArray} : (adR b).v = decide (b.size = 16) := by
  unfold adR
  split
  · rename_i h; simp [h]
  · split
    · rename_i h; simp [h]
    · rename_i h; simp [h]; rfl
theorem srcB_refL : ∀ m, 4 + wd + wd * m ≤ s.size → (wd = 4 ∨ wd = 16) → srcB (refL s wd m) = (s.data.toList.drop (4 + wd)).take (wd * m)
  | 0, h, hw => by simp [refL, srcB]
  | m + 1, h, hw => by
    rw [Nat.mul_succ] at h
    have ih := srcB_refL m (by omega) hw
    rw [refL_snoc]
    unfold srcB at ih ⊢
    rw [List.flatMap_append, ih]
    simp only [List.flatMap_cons, List.flatMap_nil, List.append_nil]
    rw [bytes_adR (by rw [extract_size (by omega) (by omega)]; omega), toList_extract, Nat.mul_succ, List.take_add, List.drop_drop]
    congr 2
    omega
theorem flN_eq {v : Nat} (h : v < 256) : flN (decide (v % 2 = 1)) (decide (v / 2 % 2 = 1)) (decide (v / 4 % 2 = 1)) = v % 8 := by
  have a : ∀ v : Fin 256, flN (decide (v.val % 2 = 1)) (decide (v.val / 2 % 2 = 1)) (decide (v.val / 4 % 2 = 1)) = v.val % 8 := by decide +kernel
  exact a ⟨v, h⟩
theorem put_at {i n : Nat} (h : i + n ≤ s.size) : putL (numAt s i n) n = (s.data.toList.drop i).take n := by
  have hl := size_toList s
  have e : ((s.data.toList.drop i).take n).length = n := by rw [List.length_take, List.length_drop]; omega
  have := putL_numL ((s.data.toList.drop i).take n)
  rw [e] at this
  exact this
theorem write_iff {m : Nat} (h : 4 + wdS s + wdS s * m ≤ s.size) (hm : by6 s (3 + wdS s) = m) : writeC (refX s (wdS s) m) = s.extract 0 (4 + wdS s + wdS s * m) ↔ by6 s 0 ≤ 7 := by
  have hw := wdS_or s
  have hv := by6_lt s 0
  have hl := size_toList s
  have ev : (adR (s.extract 3 (3 + wdS s))).v = decide (by6 s 0 / 4 % 2 = 1) := by
    rw [adR_v, extract_size (by omega) (by omega)]
    unfold wdS
    split
    · rename_i h; simp [h]
    · rename_i h; simp [h]
  have e0 : writeC (refX s (wdS s) m) = str (putL (by6 s 0 % 8) 1 ++ ((s.data.toList.drop 1).take 2 ++ ((s.data.toList.drop 3).take (wdS s) ++ ((s.data.toList.drop (3 + wdS s)).take 1 ++ (s.data.toList.drop (4 + wdS s)).take (wdS s * m))))) := by
    unfold writeC headC refX
    simp only
    rw [bytes_adR (b := s.extract 3 (3 + wdS s)) (by rw [extract_size (by omega) (by omega)]; omega), ev, flN_eq hv, Int.toNat_natCast, put_at (by omega), toList_extract, refL_len, srcB_refL m h hw, ← hm, ← numAt_by (s := s) (k := 3 + wdS s) (by omega), put_at (by omega), str_append, str_append, str_append, str_append]
    simp only [List.append_assoc, Nat.add_sub_cancel_left]
  have e1 : s.extract 0 (4 + wdS s + wdS s * m) = str ((s.data.toList.drop 0).take 1 ++ ((s.data.toList.drop 1).take 2 ++ ((s.data.toList.drop 3).take (wdS s) ++ ((s.data.toList.drop (3 + wdS s)).take 1 ++ (s.data.toList.drop (4 + wdS s)).take (wdS s * m))))) := by
    apply data_inj
    rw [toList_extract, str_toList]
    have t1 : ∀ (l : List UInt8) (i a b : Nat), (l.drop i).take (a + b) = (l.drop i).take a ++ (l.drop (i + a)).take b := fun l i a b => by rw [List.take_add, List.drop_drop]
    rw [show 4 + wdS s + wdS s * m - 0 = 1 + (2 + (wdS s + (1 + wdS s * m))) by omega, t1, t1 _ _ 2, t1 _ _ (wdS s), t1 _ _ 1]
    rw [show 0 + 1 = 1 from rfl, show 1 + 2 = 3 from rfl, show 3 + wdS s + 1 = 4 + wdS s by omega]
  rw [e0, e1, str_inj, List.append_cancel_right_eq, ← put_at (s := s) (i := 0) (n := 1) (by omega), numAt_by (by omega)]
  constructor
  · intro hq
    have := congrArg numL hq
    rw [numL_putL, numL_putL] at this
    omega
  · intro hq
    rw [Nat.mod_eq_of_lt (by omega)]
theorem refC_eq (s : ByteArray) : refC s = readC s := by
  unfold refC readC
  simp only
  by_cases h : s.size < 4 + wdS s
  · rw [if_pos (.inl h), raw_short h, if_pos rfl]
  · have hr := raw_long (s := s) (by omega)
    by_cases h2 : s.size < 4 + wdS s + wdS s * by6 s (3 + wdS s)
    · have hb := srP_short (s := s) (wd := wdS s) (by6 s (3 + wdS s)) [] (4 + wdS s) (by omega) h2
      rw [if_pos (.inr h2), hr]
      simp only
      rw [hb, if_pos rfl]
    · have ho := srP_ok (s := s) (wd := wdS s) (by6 s (3 + wdS s)) [] (4 + wdS s) (by omega)
      have hx : rawC s = (refX s (wdS s) (by6 s (3 + wdS s)), (4 + wdS s + wdS s * by6 s (3 + wdS s), false)) := by
        rw [hr, ho]
        rfl
      rw [if_neg (by omega), hx]
      simp only
      rw [if_neg (show ¬ (false = true) by simp)]
      have hw := write_iff (s := s) (m := by6 s (3 + wdS s)) (by omega) rfl
      cases hg : goodC (refX s (wdS s) (by6 s (3 + wdS s)))
      · rw [if_pos (.inr rfl), Bool.false_and, if_neg (by simp)]
      · by_cases h7 : 7 < by6 s 0
        · rw [if_pos (.inl h7), Bool.true_and, if_neg (by simp only [decide_eq_true_eq]; intro hq; have := hw.1 hq; omega)]
        · rw [if_neg (by simp; omega), Bool.true_and, if_pos (by simp only [decide_eq_true_eq]; exact hw.2 (by omega))]
end
end Go.Proofs.Ytdbdlhmgokllaaa
