/-
  What package igmp reads is what the reference reads: in plain Lean.
-/
import Derived.Test.YtfdkfimakdhbdaaGq
namespace Go.Proofs.Ytfdkfimakdhbdaa
set_option linter.unusedVariables false
set_option linter.unusedSimpArgs false

theorem ne_false {b : Bool} (h : ¬ b = false) : b = true := by
  cases b
  · exact absurd rfl h
  · rfl
section
variable {s : ByteArray} {k n : Nat} {e : Int} {t : St}
theorem fits_ok (h : k + n ≤ s.size) : rdFits s k false n = true := by simp [rdFits, h]
theorem fits_no (h : s.size < k + n) : rdFits s k false n = false := by simp [rdFits]; omega
theorem stepS_ok (h : k + n ≤ s.size) : stepS s n ⟨k, false, e⟩ = ⟨k + n, false, e⟩ := by
  unfold stepS rdB rdK
  simp only [fits_ok h]
  simp [failS]
theorem stepS_no (h : s.size < k + n) : stepS s n ⟨k, false, 0⟩ = ⟨k, true, 3⟩ := by
  unfold stepS rdB rdK
  simp only [fits_no h]
  simp [failS]
theorem failS_bad {is : Bool} {c : Int} (h : t.e ≠ 0) : failS is c t = t := by
  unfold failS
  rw [if_neg (by simp [h])]
theorem stepS_bad (h : t.e ≠ 0) : (stepS s n t).e = t.e := by
  unfold stepS
  rw [failS_bad (by exact h)]
theorem numV_ok (h : k + n ≤ s.size) : numV s n ⟨k, false, e⟩ = numAt s k n := by
  unfold numV rdS numAt
  simp only [fits_ok h, if_true]
  rw [toList_extract, Nat.add_sub_cancel_left]
theorem addrS_ok (h : k + 4 ≤ s.size) : addrS s 4 ⟨k, false, e⟩ = ad4 s k := by
  unfold addrS ad4 rdS
  simp only [fits_ok h, if_true]
theorem srcAt_zero : srcAt s k 0 = [] := rfl
theorem srcAt_succ : srcAt s k (n + 1) = ad4 s k :: srcAt s (k + 4) n := by
  unfold srcAt
  rw [List.range_succ_eq_map, List.map_cons, List.map_map]
  have h : List.map ((fun i => ad4 s (k + 4 * i)) ∘ Nat.succ) (List.range n) = List.map (fun i => ad4 s (k + 4 + 4 * i)) (List.range n) := List.map_congr_left fun i _ => by
    rw [Function.comp_apply, show k + 4 * Nat.succ i = k + 4 + 4 * i by omega]
  rw [h, Nat.mul_zero, Nat.add_zero]
theorem srcL_bad {f : Nat} {X : List Ad} (h : t.e ≠ 0) : srcL s n f X t = (X, t) := srcL_end fun h' => h h'.2
theorem srcF_bad (h : t.e ≠ 0) : srcF s n t = ([], t) := by
  unfold srcF
  rw [failS_bad h, srcL_bad h]
theorem srcL_run : ∀ {m f : Nat} {X : List Ad} {k : Nat}, m ≤ f → X.length + m = n → k + 4 * m ≤ s.size → srcL s n f X ⟨k, false, 0⟩ = (X ++ srcAt s k m, ⟨k + 4 * m, false, 0⟩)
  | 0, f, X, k, _, hX, _ => by
    rw [srcL_end (fun h => by have := h.1; omega), srcAt_zero, List.append_nil]
    rfl
  | m + 1, 0, _, _, h, _, _ => by omega
  | m + 1, f + 1, X, k, hf, hX, hk => by
    rw [srcL_more ⟨by omega, rfl⟩, addrS_ok (by omega), stepS_ok (by omega), srcL_run (m := m) (by omega) (by simp; omega) (by omega), srcAt_succ]
    simp only [List.append_assoc, List.singleton_append, Prod.mk.injEq, St.mk.injEq, true_and, and_true]
    omega
theorem srcL_short : ∀ {m f : Nat} {X : List Ad} {k : Nat}, m ≤ f → X.length + m = n → k ≤ s.size → s.size < k + 4 * m → (srcL s n f X ⟨k, false, 0⟩).2.e = 3
  | 0, f, X, k, _, hX, _, h => by omega
  | m + 1, 0, _, _, h, _, _, _ => by omega
  | m + 1, f + 1, X, k, hf, hX, hk, h => by
    rw [srcL_more ⟨by omega, rfl⟩]
    by_cases h4 : k + 4 ≤ s.size
    · rw [stepS_ok h4]
      exact srcL_short (m := m) (by omega) (by simp; omega) h4 (by omega)
    · rw [stepS_no (by omega), srcL_bad (by simp)]
theorem srcF_is (hk : k ≤ s.size) : (srcF s n ⟨k, false, 0⟩).2.e = (rSrcF s k n).2 ∧ ((rSrcF s k n).2 = 0 → srcF s n ⟨k, false, 0⟩ = ((rSrcF s k n).1, ⟨k + 4 * n, false, 0⟩)) := by
  unfold srcF rSrcF
  by_cases h64 : 64 < n
  · have e : failS (decide (64 < n)) 6 (⟨k, false, 0⟩ : St) = ⟨k, false, 6⟩ := by simp [failS, h64]
    rw [e, srcL_bad (by simp), if_pos h64]
    exact ⟨rfl, fun h => by simp at h⟩
  · have e : failS (decide (64 < n)) 6 (⟨k, false, 0⟩ : St) = ⟨k, false, 0⟩ := by simp [failS, h64]
    rw [e, if_neg h64]
    by_cases hz : s.size < k + 4 * n
    · rw [if_pos hz]
      exact ⟨srcL_short (m := n) (by omega) (by simp) hk hz, fun h => by simp at h⟩
    · rw [if_neg hz, srcL_run (m := n) (by omega) (by simp) (by omega)]
      exact ⟨rfl, fun _ => by simp⟩
/-- ahead of the sources all that is wrong is noted already -/
theorem recF_bad (h : (stepS s 4 (stepS s 2 (stepS s 1 (stepS s 1 t)))).e ≠ 0) : (recF s t).2.2.e = (stepS s 4 (stepS s 2 (stepS s 1 (stepS s 1 t)))).e := by
  unfold recF
  simp only
  rw [srcF_bad h, if_neg h]
theorem recF_short (hk : k ≤ s.size) (h : s.size < k + 8) : (recF s ⟨k, false, 0⟩).2.2.e = 3 := by
  have h3 : (stepS s 4 (stepS s 2 (stepS s 1 (stepS s 1 ⟨k, false, 0⟩)))).e = 3 := by
    by_cases h1 : k + 1 ≤ s.size
    · rw [stepS_ok h1]
      by_cases h2 : k + 2 ≤ s.size
      · rw [stepS_ok (by omega)]
        by_cases h4 : k + 4 ≤ s.size
        · rw [stepS_ok (by omega), stepS_no (by omega)]
        · rw [stepS_no (by omega), stepS_bad (by simp)]
      · rw [stepS_no (by omega), stepS_bad (by rw [stepS_bad (by simp)]; simp), stepS_bad (by simp)]
    · have e1 : (stepS s 1 ⟨k, false, 0⟩).e = 3 := by rw [stepS_no (by omega)]
      have e2 : (stepS s 1 (stepS s 1 ⟨k, false, 0⟩)).e = 3 := by rw [stepS_bad (by rw [e1]; simp), e1]
      have e3 : (stepS s 2 (stepS s 1 (stepS s 1 ⟨k, false, 0⟩))).e = 3 := by rw [stepS_bad (by rw [e2]; simp), e2]
      rw [stepS_bad (by rw [e3]; simp), e3]
  rw [recF_bad (by rw [h3]; simp), h3]
theorem recF_is (h : k + 8 ≤ s.size) : recF s ⟨k, false, 0⟩ = (⟨numAt s k 1, ad4 s (k + 4), (srcF s (numAt s (k + 2) 2) ⟨k + 8, false, 0⟩).1⟩, decide (1 ≤ numAt s k 1) && (decide (numAt s k 1 ≤ 6) && grp4 (ad4 s (k + 4))), if (srcF s (numAt s (k + 2) 2) ⟨k + 8, false, 0⟩).2.e = 0 then stepS s (numAt s (k + 1) 1 * 4) (srcF s (numAt s (k + 2) 2) ⟨k + 8, false, 0⟩).2 else (srcF s (numAt s (k + 2) 2) ⟨k + 8, false, 0⟩).2) := by
  have e1 : stepS s 1 ⟨k, false, 0⟩ = ⟨k + 1, false, 0⟩ := stepS_ok (by omega)
  have e2 : stepS s 1 ⟨k + 1, false, 0⟩ = ⟨k + 2, false, 0⟩ := stepS_ok (by omega)
  have e3 : stepS s 2 ⟨k + 2, false, 0⟩ = ⟨k + 4, false, 0⟩ := stepS_ok (by omega)
  have e4 : stepS s 4 ⟨k + 4, false, 0⟩ = ⟨k + 8, false, 0⟩ := stepS_ok (by omega)
  unfold recF
  simp only [e1, e2, e3, e4]
  rw [numV_ok (by omega), numV_ok (by omega), numV_ok (by omega), addrS_ok (by omega)]
theorem okAt_is : (decide (1 ≤ numAt s k 1) && (decide (numAt s k 1 ≤ 6) && grp4 (ad4 s (k + 4)))) = okAt s k := by
  unfold okAt
  rw [show decide (1 ≤ numAt s k 1) = decide (0 < numAt s k 1) from decide_eq_decide.2 (by omega), show decide (numAt s k 1 ≤ 6) = decide (numAt s k 1 < 7) from decide_eq_decide.2 (by omega)]
theorem repL_bad {f i : Nat} {X : List Rc} (h : t.e ≠ 0) : repL s n f i X t = (X, t) := repL_end fun h' => h h'.2
theorem repL_is : ∀ {f i k : Nat} {X : List Rc}, k ≤ s.size → (repL s n f i X ⟨k, false, 0⟩).2.e = (rRecL s n f i k X).2 ∧ ((rRecL s n f i k X).2 = 0 → (repL s n f i X ⟨k, false, 0⟩).1 = (rRecL s n f i k X).1)
  | 0, i, k, X, _ => ⟨rfl, fun _ => rfl⟩
  | f + 1, i, k, X, hk => by
    by_cases hi : i < n
    rotate_left
    · rw [repL_end (fun h => hi h.1), rRecL_end hi]
      exact ⟨rfl, fun _ => rfl⟩
    rw [repL_more ⟨hi, rfl⟩, rRecL, if_pos hi]
    by_cases h8 : s.size < k + 8
    · rw [if_pos h8]
      have h3 := recF_short hk h8
      rw [repL_bad (by rw [h3]; simp)]
      exact ⟨h3, fun h => by simp at h⟩
    rw [if_neg h8]
    have hr := recF_is (s := s) (k := k) (by omega)
    obtain ⟨q1, q2⟩ := srcF_is (s := s) (n := numAt s (k + 2) 2) (k := k + 8) (by omega)
    by_cases hc : (rSrcF s (k + 8) (numAt s (k + 2) 2)).2 = 0
    rotate_left
    · rw [if_pos hc]
      have he : (srcF s (numAt s (k + 2) 2) ⟨k + 8, false, 0⟩).2.e ≠ 0 := by rw [q1]; exact hc
      rw [if_neg he] at hr
      have h3 : (recF s ⟨k, false, 0⟩).2.2.e = (rSrcF s (k + 8) (numAt s (k + 2) 2)).2 := by rw [hr]; exact q1
      rw [repL_bad (by rw [h3]; exact hc)]
      exact ⟨h3, fun h => absurd h hc⟩
    rw [if_neg (show ¬ (rSrcF s (k + 8) (numAt s (k + 2) 2)).2 ≠ 0 from fun h => h hc)]
    have he : (srcF s (numAt s (k + 2) 2) ⟨k + 8, false, 0⟩).2.e = 0 := by rw [q1]; exact hc
    rw [if_pos he, q2 hc, okAt_is] at hr
    simp only at hr
    by_cases h2 : s.size < endAt s k
    · rw [if_pos h2]
      unfold endAt at h2
      rw [stepS_no (by omega)] at hr
      have h3 : (recF s ⟨k, false, 0⟩).2.2.e = 3 := by rw [hr]
      rw [repL_bad (by rw [h3]; simp)]
      exact ⟨h3, fun h => by simp at h⟩
    rw [if_neg h2]
    have h2' := h2
    unfold endAt at h2'
    rw [stepS_ok (by omega)] at hr
    rw [hr]
    simp only
    have e1 : k + 8 + 4 * numAt s (k + 2) 2 + numAt s (k + 1) 1 * 4 = endAt s k := by unfold endAt; omega
    have e2 : (⟨numAt s k 1, ad4 s (k + 4), (rSrcF s (k + 8) (numAt s (k + 2) 2)).1⟩ : Rc) = recAt s k := rfl
    rw [e1, e2]
    exact repL_is (f := f) (by omega)
/-- what the reference reads -/
noncomputable def rReadT (s : ByteArray) : Tk × Int :=
  if numAt s 0 1 = 17 then rQryF s
  else if numAt s 0 1 = 34 then (⟨false, 3, 2, 0, Ad.z, false, 0, 0, [], (rRecF s).1⟩, (rRecF s).2)
  else if numAt s 0 1 = 18 ∨ numAt s 0 1 = 22 ∨ numAt s 0 1 = 23 then (⟨false, if numAt s 0 1 = 18 then 1 else 2, if numAt s 0 1 = 23 then 3 else 2, 0, ad4 s 4, false, 0, 0, [], []⟩, if grp4 (ad4 s 4) then 0 else 2)
  else (Tk.z, 5)
noncomputable def rReadF (s : ByteArray) : Tk × Int :=
  if s.size < 8 then (Tk.z, 3) else if sumOk s = false then (Tk.z, 4) else if (rReadT s).2 = 0 then ((rReadT s).1, 0) else (Tk.z, (rReadT s).2)
theorem st3_is (h : 8 ≤ s.size) : st3 s = ⟨4, false, 0⟩ := by
  unfold st3 st0
  rw [stepS_ok (by omega), stepS_ok (by omega), stepS_ok (by omega)]
theorem kindF_is (h : 8 ≤ s.size) : kindF s = numAt s 0 1 := numV_ok (by omega)
theorem secF_is (h : 8 ≤ s.size) : secF s = numAt s 1 1 := by
  unfold secF st0
  rw [stepS_ok (by omega), numV_ok (by omega)]
theorem repF_is (h : 8 ≤ s.size) : (repF s ⟨4, false, 0⟩).2.e = (rRecF s).2 ∧ ((rRecF s).2 = 0 → (repF s ⟨4, false, 0⟩).1 = (rRecF s).1) := by
  unfold repF rRecF
  rw [stepS_ok (by omega), stepS_ok (by omega), numV_ok (by omega)]
  by_cases h64 : 64 < numAt s 6 2
  · have e : failS (decide (64 < numAt s 6 2)) 6 (⟨4 + 2 + 2, false, 0⟩ : St) = ⟨8, false, 6⟩ := by simp [failS, h64]
    rw [e, if_pos h64, repL_bad (by simp)]
    exact ⟨rfl, fun h => by simp at h⟩
  · have e : failS (decide (64 < numAt s 6 2)) 6 (⟨4 + 2 + 2, false, 0⟩ : St) = ⟨8, false, 0⟩ := by simp [failS, h64]
    rw [e, if_neg h64]
    exact repL_is (by omega)
theorem qryF_bad {c : Nat} (h : (failS (!(addrS s 4 t == Ad.z || grp4 (addrS s 4 t))) 2 (stepS s 4 t)).e ≠ 0) : (qryF s t c).2.e = (failS (!(addrS s 4 t == Ad.z || grp4 (addrS s 4 t))) 2 (stepS s 4 t)).e := by
  unfold qryF
  simp only
  generalize failS (!(addrS s 4 t == Ad.z || grp4 (addrS s 4 t))) 2 (stepS s 4 t) = t2 at *
  split
  · split
    · rw [failS_bad h]
    · rfl
  · have e1 : (stepS s 1 t2).e = t2.e := stepS_bad h
    have e2 : (stepS s 1 (stepS s 1 t2)).e = t2.e := by rw [stepS_bad (by rw [e1]; exact h), e1]
    have e3 : (stepS s 2 (stepS s 1 (stepS s 1 t2))).e = t2.e := by rw [stepS_bad (by rw [e2]; exact h), e2]
    rw [failS_bad (by rw [e3]; exact h), srcF_bad (by rw [e3]; exact h), e3]
theorem qryF_is (h : 8 ≤ s.size) : (qryF s (failS (decide (8 < s.size) && decide (s.size < 12)) 2 ⟨4, false, 0⟩) (numAt s 1 1)).2.e = (rQryF s).2 ∧ ((rQryF s).2 = 0 → (qryF s (failS (decide (8 < s.size) && decide (s.size < 12)) 2 ⟨4, false, 0⟩) (numAt s 1 1)).1 = (rQryF s).1) := by
  by_cases h12 : 8 < s.size ∧ s.size < 12
  · have e : failS (decide (8 < s.size) && decide (s.size < 12)) 2 (⟨4, false, 0⟩ : St) = ⟨4, false, 2⟩ := by simp [failS, h12]
    have e2 : rQryF s = (⟨false, 2, 1, (numAt s 1 1 : Int), ad4 s 4, false, 0, 0, [], []⟩, 2) := by unfold rQryF; rw [if_pos h12]
    rw [e, e2]
    have e3 : ∀ b, failS b 2 (stepS s 4 ⟨4, false, 2⟩) = ⟨8, false, 2⟩ := fun b => by rw [stepS_ok (by omega), failS_bad (by simp)]
    rw [qryF_bad (by rw [e3]; simp), e3]
    exact ⟨rfl, fun h => by simp at h⟩
  have e : failS (decide (8 < s.size) && decide (s.size < 12)) 2 (⟨4, false, 0⟩ : St) = ⟨4, false, 0⟩ := by
    have : (decide (8 < s.size) && decide (s.size < 12)) = false := by simpa using h12
    rw [this]; rfl
  rw [e]
  have ea : addrS s 4 ⟨4, false, 0⟩ = ad4 s 4 := addrS_ok (by omega)
  have e1 : stepS s 4 ⟨4, false, 0⟩ = ⟨8, false, 0⟩ := stepS_ok (by omega)
  by_cases hq : (ad4 s 4 == Ad.z || grp4 (ad4 s 4)) = false
  · have e2 : rQryF s = (⟨false, 2, 1, (numAt s 1 1 : Int), ad4 s 4, false, 0, 0, [], []⟩, 2) := by unfold rQryF; rw [if_neg h12, if_pos hq]
    have e3 : failS (!(addrS s 4 ⟨4, false, 0⟩ == Ad.z || grp4 (addrS s 4 ⟨4, false, 0⟩))) 2 (stepS s 4 ⟨4, false, 0⟩) = ⟨8, false, 2⟩ := by rw [ea, e1, hq]; rfl
    rw [e2, qryF_bad (by rw [e3]; simp), e3]
    exact ⟨rfl, fun h => by simp at h⟩
  have e3 : failS (!(ad4 s 4 == Ad.z || grp4 (ad4 s 4))) 2 ⟨8, false, 0⟩ = ⟨8, false, 0⟩ := by
    have : (ad4 s 4 == Ad.z || grp4 (ad4 s 4)) = true := ne_false hq
    rw [this]; rfl
  unfold qryF rQryF
  simp only [ea, e1, e3]
  rw [if_neg h12, if_neg hq]
  by_cases h8 : s.size = 8
  · rw [if_pos (by omega), if_pos h8]
    by_cases hc : numAt s 1 1 = 0
    · rw [if_pos hc, if_pos hc]
      refine ⟨?_, fun _ => rfl⟩
      by_cases hz : (ad4 s 4 == Ad.z) = true
      · rw [if_pos hz, hz]; rfl
      · have : (ad4 s 4 == Ad.z) = false := by simpa using hz
        rw [if_neg hz, this]; rfl
    · rw [if_neg hc, if_neg hc]
      exact ⟨rfl, fun _ => rfl⟩
  rw [if_neg (by omega), if_neg h8]
  have f1 : stepS s 1 ⟨8, false, 0⟩ = ⟨9, false, 0⟩ := stepS_ok (by omega)
  have f2 : stepS s 1 ⟨9, false, 0⟩ = ⟨10, false, 0⟩ := stepS_ok (by omega)
  have f3 : stepS s 2 ⟨10, false, 0⟩ = ⟨12, false, 0⟩ := stepS_ok (by omega)
  have n1 : numV s 1 ⟨8, false, 0⟩ = numAt s 8 1 := numV_ok (by omega)
  have n2 : numV s 1 ⟨9, false, 0⟩ = numAt s 9 1 := numV_ok (by omega)
  have n3 : numV s 2 ⟨10, false, 0⟩ = numAt s 10 2 := numV_ok (by omega)
  simp only [f1, f2, f3, n1, n2, n3]
  by_cases hz : (ad4 s 4 == Ad.z) = true ∧ 0 < numAt s 10 2
  · rw [if_pos hz]
    have e4 : failS (ad4 s 4 == Ad.z && decide (0 < numAt s 10 2)) 2 (⟨12, false, 0⟩ : St) = ⟨12, false, 2⟩ := by rw [hz.1, decide_eq_true hz.2]; rfl
    rw [e4, srcF_bad (by simp)]
    exact ⟨rfl, fun h => by simp at h⟩
  · rw [if_neg hz]
    have e4 : failS (ad4 s 4 == Ad.z && decide (0 < numAt s 10 2)) 2 (⟨12, false, 0⟩ : St) = ⟨12, false, 0⟩ := by
      have : (ad4 s 4 == Ad.z && decide (0 < numAt s 10 2)) = false := by
        rw [Bool.and_eq_false_iff]
        by_cases h0 : (ad4 s 4 == Ad.z) = true
        · exact .inr (decide_eq_false fun h => hz ⟨h0, h⟩)
        · exact .inl (by simpa using h0)
      rw [this]; rfl
    rw [e4]
    obtain ⟨q1, q2⟩ := srcF_is (s := s) (n := numAt s 10 2) (k := 12) (by omega)
    exact ⟨q1, fun h => by rw [q2 h]⟩
theorem readT_is (h : 8 ≤ s.size) : (readT s).2.e = (rReadT s).2 ∧ ((rReadT s).2 = 0 → (readT s).1 = (rReadT s).1) := by
  unfold readT rReadT ver1F kind1F
  rw [kindF_is h, secF_is h, st3_is h]
  by_cases h17 : numAt s 0 1 = 17
  · rw [if_pos h17, if_pos h17]
    exact qryF_is h
  rw [if_neg h17, if_neg h17]
  by_cases h34 : numAt s 0 1 = 34
  · rw [if_pos h34, if_pos h34]
    obtain ⟨q1, q2⟩ := repF_is h
    exact ⟨q1, fun h => by rw [show (repF s ⟨4, false, 0⟩).1 = (rRecF s).1 from q2 h]⟩
  rw [if_neg h34, if_neg h34]
  by_cases h3 : numAt s 0 1 = 18 ∨ numAt s 0 1 = 22 ∨ numAt s 0 1 = 23
  · rw [if_pos h3, if_pos h3, addrS_ok (by omega), stepS_ok (by omega)]
    refine ⟨?_, fun _ => rfl⟩
    cases grp4 (ad4 s 4) <;> rfl
  · rw [if_neg h3, if_neg h3]
    exact ⟨rfl, fun _ => rfl⟩
theorem readF_is : readF s = rReadF s := by
  unfold readF rReadF
  by_cases h8 : s.size < 8
  · rw [if_pos h8, if_pos h8]
  rw [if_neg h8, if_neg h8]
  obtain ⟨q1, q2⟩ := readT_is (s := s) (by omega)
  rw [q1]
  by_cases h0 : (rReadT s).2 = 0
  · rw [if_pos h0, if_pos h0, q2 h0]
  · rw [if_neg h0, if_neg h0]
/-! ### what is read is good -/
theorem ad4_src (h : k + 4 ≤ s.size) : src4 (ad4 s k) = true := by
  have hx : (s.extract k (k + 4)).size = 4 := by rw [extract_size h (by omega)]; omega
  have hl := size_toList (s.extract k (k + 4))
  rw [hx] at hl
  have e : (adOf (s.extract k (k + 4))).drop 4 = List.replicate 12 0 := by
    unfold adOf
    rw [hx, List.drop_append, List.drop_of_length_le (by omega), hl]
    rfl
  unfold src4 ad4 adR
  rw [dif_pos hx]
  show (!false && (false || (adOf (s.extract k (k + 4))).drop 4 == List.replicate 12 0)) = true
  rw [e]
  rfl
theorem srcAt_good (h : k + 4 * n ≤ s.size) (hn : n ≤ 64) : srcs4 (srcAt s k n) = true := by
  unfold srcs4
  rw [srcAt_len, decide_eq_true (show n < 65 by omega), Bool.and_true, List.all_eq_true]
  intro a ha
  obtain ⟨i, hi, rfl⟩ := List.mem_map.1 ha
  have := List.mem_range.1 hi
  exact ad4_src (by omega)
theorem rSrcF_good (h : (rSrcF s k n).2 = 0) : srcs4 (rSrcF s k n).1 = true ∧ (rSrcF s k n).1.length = n := by
  obtain ⟨h1, h2, h3⟩ := rSrcF_ok h
  rw [h3]
  exact ⟨srcAt_good h2 h1, srcAt_len _ _ _⟩
theorem rRecL_good : ∀ {f i k : Nat} {X : List Rc}, X.all rcOk4 = true → 8 + recN 8 4 X ≤ k → X.length ≤ i → i ≤ n → k ≤ s.size → n ≤ 64 → (rRecL s n f i k X).2 = 0 → (rRecL s n f i k X).1.all rcOk4 = true ∧ 8 + recN 8 4 (rRecL s n f i k X).1 ≤ s.size ∧ (rRecL s n f i k X).1.length ≤ n
  | 0, i, k, X, h1, h2, h3, h4, h5, h6, _ => ⟨h1, show 8 + recN 8 4 X ≤ s.size by omega, show X.length ≤ n by omega⟩
  | f + 1, i, k, X, h1, h2, h3, h4, h5, h6, h => by
    by_cases hi : i < n
    rotate_left
    · rw [rRecL_end hi]
      exact ⟨h1, show 8 + recN 8 4 X ≤ s.size by omega, show X.length ≤ n by omega⟩
    rw [rRecL, if_pos hi] at h ⊢
    by_cases h8 : s.size < k + 8
    · rw [if_pos h8] at h; simp at h
    rw [if_neg h8] at h ⊢
    by_cases hc : (rSrcF s (k + 8) (numAt s (k + 2) 2)).2 = 0
    rotate_left
    · rw [if_pos hc] at h; exact absurd h hc
    rw [if_neg (show ¬ (rSrcF s (k + 8) (numAt s (k + 2) 2)).2 ≠ 0 from fun h => h hc)] at h ⊢
    by_cases he : s.size < endAt s k
    · rw [if_pos he] at h; simp at h
    rw [if_neg he] at h ⊢
    have he' := he
    unfold endAt at he'
    obtain ⟨g1, g2⟩ := rSrcF_good hc
    by_cases ho : okAt s k = true
    · rw [if_pos ho] at h ⊢
      refine rRecL_good (f := f) ?_ ?_ (by simp; omega) hi (by omega) h6 h
      · rw [List.all_append, h1, Bool.true_and, List.all_cons, List.all_nil, Bool.and_true]
        unfold okAt at ho
        simp only [Bool.and_eq_true, decide_eq_true_eq] at ho
        unfold rcOk4 recAt
        simp only
        rw [decide_eq_true (show (1 : Int) ≤ (numAt s k 1 : Int) by omega), decide_eq_true (show (numAt s k 1 : Int) ≤ 6 by omega), ho.2.2, g1]
        rfl
      · rw [recN_app]
        have : recN 8 4 [recAt s k] = 8 + 4 * numAt s (k + 2) 2 := by simp [recN, recAt, g2]
        rw [this]
        unfold endAt
        omega
    · rw [if_neg ho] at h ⊢
      exact rRecL_good (f := f) h1 (by unfold endAt; omega) (by omega) hi (by omega) h6 h
theorem ex8_val {c : Nat} (hc : c < 256) : ex8 (valN 16 c : Int) = true := by
  have h1 : IsCode 16 ((valN 16 c : Int)).toNat c := by rw [Int.toNat_natCast]; exact IsCode.self (by omega) (by omega)
  have h2 := IsCode.unique (by omega) (cod8_is (valN 16 c : Int)) h1
  unfold ex8
  rw [h2]
  simp
end
section
variable {s : ByteArray}
theorem rReadT_good (h8 : 8 ≤ s.size) (hs : s.size ≤ 1400) (h : (rReadT s).2 = 0) : good4 (rReadT s).1 = true := by
  have hc1 : numAt s 1 1 < 256 := numAt_lt s 1 1
  have hc9 : numAt s 9 1 < 256 := numAt_lt s 9 1
  unfold rReadT at h ⊢
  by_cases h17 : numAt s 0 1 = 17
  · rw [if_pos h17] at h ⊢
    unfold rQryF at h ⊢
    by_cases h12 : 8 < s.size ∧ s.size < 12
    · rw [if_pos h12] at h; simp at h
    rw [if_neg h12] at h ⊢
    by_cases hq : (ad4 s 4 == Ad.z || grp4 (ad4 s 4)) = false
    · rw [if_pos hq] at h; simp at h
    rw [if_neg hq] at h ⊢
    have hq' : (ad4 s 4 != Ad.z && !grp4 (ad4 s 4)) = false := by
      have : (ad4 s 4 == Ad.z || grp4 (ad4 s 4)) = true := ne_false hq
      have e : (ad4 s 4 != Ad.z) = !(ad4 s 4 == Ad.z) := rfl
      rw [e]
      cases hx : (ad4 s 4 == Ad.z) <;> rw [hx] at this <;> simp_all
    by_cases e8 : s.size = 8
    · rw [if_pos e8] at h ⊢
      by_cases hc : numAt s 1 1 = 0
      · rw [if_pos hc] at h ⊢
        by_cases hz : (ad4 s 4 == Ad.z) = true
        · have hz' : ad4 s 4 = Ad.z := by simpa using hz
          simp only at h ⊢
          rw [hc, hz']
          simp [good4]
        · rw [if_neg hz] at h; simp at h
      · rw [if_neg hc] at h ⊢
        simp only at h ⊢
        unfold good4
        simp only [hq']
        simp
        omega
    rw [if_neg e8] at h ⊢
    by_cases hz : (ad4 s 4 == Ad.z) = true ∧ 0 < numAt s 10 2
    · rw [if_pos hz] at h; simp at h
    rw [if_neg hz] at h ⊢
    simp only at h ⊢
    obtain ⟨g1, g2⟩ := rSrcF_good h
    have hl : (ad4 s 4 != Ad.z || (rSrcF s 12 (numAt s 10 2)).1.length == 0) = true := by
      rw [g2]
      have e : (ad4 s 4 != Ad.z) = !(ad4 s 4 == Ad.z) := rfl
      rw [e]
      cases hx : (ad4 s 4 == Ad.z)
      · rfl
      · have : numAt s 10 2 = 0 := by
          by_cases h0 : numAt s 10 2 = 0
          · exact h0
          · exact absurd ⟨hx, by omega⟩ hz
        rw [this]; rfl
    unfold good4
    simp only [hq', hl, g1, ex8_val hc1, ex8_val hc9]
    have := Nat.mod_lt (numAt s 8 1) (show 0 < 8 by omega)
    simp
    omega
  rw [if_neg h17] at h ⊢
  by_cases h34 : numAt s 0 1 = 34
  · rw [if_pos h34] at h ⊢
    simp only at h ⊢
    unfold rRecF at h ⊢
    by_cases h64 : 64 < numAt s 6 2
    · rw [if_pos h64] at h; simp at h
    rw [if_neg h64] at h ⊢
    obtain ⟨g1, g2, g3⟩ := rRecL_good (s := s) (n := numAt s 6 2) (f := 65) (i := 0) (k := 8) (X := []) rfl (by simp [recN]) (by simp) (by omega) (by omega) (by omega) h
    unfold good4
    simp only [g1]
    simp
    omega
  rw [if_neg h34] at h ⊢
  by_cases h3 : numAt s 0 1 = 18 ∨ numAt s 0 1 = 22 ∨ numAt s 0 1 = 23
  · rw [if_pos h3] at h ⊢
    simp only at h ⊢
    have hg : grp4 (ad4 s 4) = true := by
      cases hx : grp4 (ad4 s 4)
      · rw [hx] at h; simp at h
      · rfl
    rcases h3 with h3 | h3 | h3
    all_goals
      rw [h3]
      unfold good4
      simp [hg]
  · rw [if_neg h3] at h; simp at h
theorem good4_z : good4 Tk.z = false := by simp [good4, Tk.z]
theorem rReadF_good (hs : s.size ≤ 1400) (h : (rReadF s).2 = 0) : good4 (rReadF s).1 = true := by
  unfold rReadF at h ⊢
  by_cases h8 : s.size < 8
  · rw [if_pos h8] at h; simp at h
  rw [if_neg h8] at h ⊢
  by_cases hb : sumOk s = false
  · rw [if_pos hb] at h; simp at h
  rw [if_neg hb] at h ⊢
  by_cases h0 : (rReadT s).2 = 0
  · rw [if_pos h0] at h ⊢
    exact rReadT_good (by omega) hs h0
  · rw [if_neg h0] at h; exact absurd h h0
end
end Go.Proofs.Ytfdkfimakdhbdaa
