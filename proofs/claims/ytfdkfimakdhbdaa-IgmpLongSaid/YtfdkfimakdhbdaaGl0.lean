/-
  What acequialaw08.many makes, and whether it is good: in plain Lean.
-/
import Derived.Test.YtfdkfimakdhbdaaGw
namespace Go.Proofs.Ytfdkfimakdhbdaa
set_option linter.unusedVariables false
set_option linter.unusedSimpArgs false
set_option maxRecDepth 20000

def grpM : Ad := ⟨false, [224, 1, 1, 1, 0, 0, 0, 0, 0, 0, 0, 0, 0, 0, 0, 0], rfl⟩
def srcM (i : Nat) : Ad := ⟨false, [10, 0, 0, UInt8.ofNat i, 0, 0, 0, 0, 0, 0, 0, 0, 0, 0, 0, 0], rfl⟩
def recM : Rc := ⟨2, grpM, []⟩
def manyT (k : Nat) (b : Bool) : Tk :=
  if b then ⟨false, 3, 2, 0, Ad.z, false, 0, 0, [], List.replicate k recM⟩
  else ⟨false, 3, 1, 0, grpM, false, 0, 0, (List.range k).map srcM, []⟩
theorem recM_ok : rcOk4 recM = true := by decide
theorem recN_rep : ∀ k, recN 8 4 (List.replicate k recM) = 8 * k
  | 0 => rfl
  | k + 1 => by
    rw [List.replicate_succ, recN, recN_rep k]
    simp [recM]
    omega
theorem src4_M : ∀ i, src4 (srcM i) = true := fun i => by
  have : ∀ v : UInt8, src4 ⟨false, [10, 0, 0, v, 0, 0, 0, 0, 0, 0, 0, 0, 0, 0, 0, 0], rfl⟩ = true := fun v => rfl
  exact this _
theorem ex8_0 : ex8 0 = true := by
  have h : valN 16 (cod8 0) ≤ 0 := (cod8_is 0).2.1
  unfold ex8
  rw [show valN 16 (cod8 0) = 0 by omega]
  rfl
theorem many_good {k : Nat} {b : Bool} (hk : k < 100) : good4 (manyT k b) = decide (k ≤ 64) := by
  unfold manyT
  cases b
  · have h1 : ((List.range k).map srcM).all src4 = true := by simp [src4_M]
    have h2 : srcs4 ((List.range k).map srcM) = decide (k ≤ 64) := by
      unfold srcs4
      rw [h1]
      simp
      omega
    have h3 : grp4 grpM = true := by decide
    unfold good4
    simp [h2, h3, ex8_0]
    intro _
    left
    decide
  · have h1 : (List.replicate k recM).all rcOk4 = true := by
      rw [List.all_eq_true]
      intro x hx
      rw [List.eq_of_mem_replicate hx]
      exact recM_ok
    unfold good4
    simp only [h1, recN_rep, List.length_replicate]
    rw [Bool.eq_iff_iff]
    simp [recM_ok, recN_rep]
    omega
theorem many_write {w : World} {sp rp : Option Addr} {sc rc k : Nat} {b : Bool} (hk : k < 100) (hA : AdsAt w sp (manyT k b).src) (hR : RcsAt w rp (manyT k b).recs) : Gives Try.prog 14 #[.agg (fls (tkS (manyT k b) sp sc rp rc)).toArray] w (.string (writeT (manyT k b))) := by
  cases b
  · have := rwrite_q3 (w := w) (sp := sp) (sc := sc) (rp := rp) (rc := rc) (g := grpM) (q := false) (b := 0) (r := 0) (e := 0) (m := 0) (src := (List.range k).map srcM) (by omega) (by omega) (by omega) (by rw [List.length_map, List.length_range]; omega) hA
    simpa [manyT, kindN, secN, restL, sumN, headL, writeT, flagN, tkS] using this
  · have hRR : (List.replicate k recM).all rcOk4 = true := by
      rw [List.all_eq_true]
      intro x hx
      rw [List.eq_of_mem_replicate hx]
      exact recM_ok
    have := rwrite_r3 (w := w) (sp := sp) (sc := sc) (rp := rp) (rc := rc) (g := Ad.z) (q := false) (rob := 0) (ev := 0) (n := 0) hRR (by rw [List.length_replicate]; omega) hR
    rw [putL4 (by rw [List.length_replicate]; omega)] at this
    simpa [manyT, kindN, secN, restL, sumN, headL, writeT, tkS] using this
theorem many_long {k : Nat} {b : Bool} (h1 : 64 < k) (h2 : k < 100) : rReadF (writeT (manyT k b)) = (Tk.z, 6) := by
  have hs : (writeT (manyT k b)).data.toList = putL (kindN (manyT k b)) 1 ++ (putL (secN (manyT k b)) 1 ++ (putL (sumN (manyT k b)) 2 ++ restL (manyT k b))) := by unfold writeT headL; simp [str]
  have hz : (writeT (manyT k b)).size = 4 + (restL (manyT k b)).length := by rw [← size_toList, hs]; simp only [List.length_append, putL_length]; omega
  have hb := back_sum (T := manyT k b)
  generalize writeT (manyT k b) = s at *
  have s0 : s.data.toList = [] ++ (putL (kindN (manyT k b)) 1 ++ (putL (secN (manyT k b)) 1 ++ (putL (sumN (manyT k b)) 2 ++ restL (manyT k b)))) := hs
  have s4 : s.data.toList = (putL (kindN (manyT k b)) 1 ++ putL (secN (manyT k b)) 1 ++ putL (sumN (manyT k b)) 2) ++ restL (manyT k b) := by rw [hs]; simp only [List.append_assoc]
  have l4 : (putL (kindN (manyT k b)) 1 ++ putL (secN (manyT k b)) 1 ++ putL (sumN (manyT k b)) 2).length = 4 := by simp only [List.length_append, putL_length]
  have n0 : numAt s 0 1 = kindN (manyT k b) := numAt_mid s0 rfl (by have := kindN_lt (manyT k b); omega)
  generalize putL (kindN (manyT k b)) 1 ++ putL (secN (manyT k b)) 1 ++ putL (sumN (manyT k b)) 2 = P at *
  have fin : ∀ T', rReadT s = (T', 6) → 8 ≤ s.size → rReadF s = (Tk.z, 6) := fun T' e h8 => by
    unfold rReadF
    rw [if_neg (by omega), if_neg (by rw [hb]; simp), e, if_neg (by simp)]
  cases b
  · have er : restL (manyT k false) = bytesA grpM.v grpM.b ++ (putL 0 1 ++ (putL (cod8 0) 1 ++ (putL k 2 ++ srcB ((List.range k).map srcM)))) := by simp [restL, manyT, flagN]
    have ek : kindN (manyT k false) = 17 := by simp [kindN, manyT]
    have hg : src4 grpM = true := by decide
    have hg4 : grp4 grpM = true := by decide
    have lg := src4_len hg
    rw [ek] at n0
    rw [er] at hz s4
    simp only [List.length_append, putL_length, lg] at hz
    have ea : ad4 s 4 = grpM := ad4_mid s4 l4 hg
    have n10 : numAt s 10 2 = k := numAt_mid (pre := P ++ bytesA grpM.v grpM.b ++ putL 0 1 ++ putL (cod8 0) 1) (post := srcB ((List.range k).map srcM)) (by rw [s4]; simp only [List.append_assoc]) (by simp only [List.length_append, putL_length]; omega) (by omega)
    have n12 : rSrcF s 12 k = ([], 6) := by unfold rSrcF; rw [if_pos (by omega)]
    refine (fun ⟨T', e⟩ => fin T' e (by omega)) (show ∃ T', rReadT s = (T', 6) from ?_)
    refine ⟨?_, ?_⟩
    rotate_left
    unfold rReadT rQryF
    rw [if_pos n0, if_neg (by omega), ea, hg4, if_neg (by simp), if_neg (by omega), n10, n12, if_neg (by rintro ⟨h, _⟩; revert h; decide)]
  · have er : restL (manyT k true) = putL 0 2 ++ (putL k 2 ++ recsB (List.replicate k recM)) := by simp [restL, manyT]
    have ek : kindN (manyT k true) = 34 := by simp [kindN, manyT]
    rw [ek] at n0
    rw [er] at hz s4
    simp only [List.length_append, putL_length] at hz
    have n6 : numAt s 6 2 = k := numAt_mid (pre := P ++ putL 0 2) (post := recsB (List.replicate k recM)) (by rw [s4]; simp only [List.append_assoc]) (by simp only [List.length_append, putL_length]; omega) (by omega)
    refine (fun ⟨T', e⟩ => fin T' e (by omega)) (show ∃ T', rReadT s = (T', 6) from ?_)
    refine ⟨?_, ?_⟩
    rotate_left
    unfold rReadT rRecF
    rw [n0, if_neg (by omega), if_pos rfl, n6, if_pos (by omega)]
end Go.Proofs.Ytfdkfimakdhbdaa
