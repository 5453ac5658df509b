/-
  What acequialaw09.many makes, whether it is good, its bytes, and what they are read as.
-/
import Derived.Test.YtealimfmognglaaVqx
namespace Go.Proofs.Ytealimfmognglaa
set_option linter.unusedVariables false
set_option linter.unusedSimpArgs false
set_option maxRecDepth 20000

def grpM : Ad := six6 255 1
def srcM (i : Nat) : Ad := six6 32 (UInt8.ofNat i)
def recM : Rc := ⟨2, grpM, []⟩
def manyT (k : Nat) (b : Bool) : Tk :=
  if b then ⟨true, 2, 2, 0, Ad.z, false, 0, 0, [], List.replicate k recM⟩
  else ⟨true, 2, 1, 0, grpM, false, 0, 0, (List.range k).map srcM, []⟩
theorem recM_ok : rcOk6 recM = true := by decide
theorem recN_rep : ∀ k, recN 20 16 (List.replicate k recM) = 20 * k
  | 0 => rfl
  | k + 1 => by
    rw [List.replicate_succ, recN, recN_rep k]
    simp [recM]
    omega
theorem rep_ok (k : Nat) : (List.replicate k recM).all rcOk6 = true := by
  rw [List.all_eq_true]
  intro x hx
  rw [List.eq_of_mem_replicate hx]
  exact recM_ok
theorem cod8_0 : (valN 16 (cod8 0) : Int) = 0 := by
  have h : valN 16 (cod8 0) ≤ 0 := (cod8_is 0).2.1
  omega
theorem cod16_0 : (valN 4096 (cod16 0) : Int) = 0 := by
  have h : valN 4096 (cod16 0) ≤ 0 := (cod16_is 0).2.1
  omega
theorem grpM_ok : grp6 grpM = true := by decide
theorem grpM_z : zero6 grpM = false := by decide
theorem many_good {k : Nat} {b : Bool} (hk : k < 100) : good6 (manyT k b) = decide (k ≤ 64) := by
  unfold manyT
  cases b
  · have h1 : ((List.range k).map srcM).all (·.v) = true := by simp [srcM, six6]
    have h2 : srcs6 ((List.range k).map srcM) = decide (k ≤ 64) := by
      unfold srcs6
      rw [h1]
      simp
      omega
    unfold good6
    simp [h2, grpM_ok, grpM_z, cod8_0, cod16_0]
  · unfold good6
    simp only [rep_ok, recN_rep, List.length_replicate]
    rw [Bool.eq_iff_iff]
    simp [recM_ok, recN_rep, Ad.z, zeroA]
    omega
section
variable {w : World} {sp rp : Option Addr} {sc rc k : Nat} {b : Bool} {f t : Ad}
theorem many_write (hk : k < 100) (hA : AdsAt w sp (manyT k b).src) (hR : RcsAt w rp (manyT k b).recs) : Gives Try.prog 10 #[.agg (fls (tkS (manyT k b) sp sc rp rc)).toArray, .agg (fls [.many (adL f) 17]).toArray, .agg (fls [.many (adL t) 17]).toArray] w (.string (writeT f t (manyT k b))) := by
  rw [writeT_rwO]
  cases b
  · have := rw_l (w := w) (f := f) (t := t) (sp := sp) (sc := sc) (rp := rp) (rc := rc) (g := grpM) (q := false) (b := 0) (r := 0) (e := 0) (m := 0) (src := (List.range k).map srcM) (by omega) (by omega) (by omega) (by rw [List.length_map, List.length_range]; omega) hA
    simpa [manyT, kindN, restL, respN, flagN, tkS] using this
  · have := rw_r (w := w) (f := f) (t := t) (sp := sp) (sc := sc) (rp := rp) (rc := rc) (g := Ad.z) (q := false) (rob := 0) (ev := 0) (n := 0) (rep_ok k) (by rw [List.length_replicate]; omega) hR
    rw [putL4 (by rw [List.length_replicate]; omega)] at this
    simpa [manyT, kindN, restL, respN, tkS] using this
theorem many_rest (hk : k < 100) : (restL (manyT k b)).length ≤ 90000 := by
  cases b
  · have := srcB_le ((List.range k).map srcM)
    have h2 := bytesA_le grpM
    rw [List.length_map, List.length_range] at this
    simp [restL, manyT, putL_length]
    omega
  · have h2 := recsB_len (rep_ok k)
    rw [recN_rep] at h2
    simp [restL, manyT, putL_length]
    omega
theorem many_long (h1 : 64 < k) (h2 : k < 100) : rReadF f t (writeT f t (manyT k b)) = (Tk.z, 6) := by
  have hs : (writeT f t (manyT k b)).data.toList = putL (kindN (manyT k b)) 1 ++ (putL 0 1 ++ (putL (sumN f t (manyT k b)) 2 ++ restL (manyT k b))) := by rw [write_list]; unfold headL; simp only [List.append_assoc]
  have hz := write_size (f := f) (t := t) (T := manyT k b)
  have hb := back_sum (f := f) (t := t) (T := manyT k b)
  generalize writeT f t (manyT k b) = s at *
  have s0 : s.data.toList = [] ++ (putL (kindN (manyT k b)) 1 ++ (putL 0 1 ++ (putL (sumN f t (manyT k b)) 2 ++ restL (manyT k b)))) := hs
  have s4 : s.data.toList = (putL (kindN (manyT k b)) 1 ++ putL 0 1 ++ putL (sumN f t (manyT k b)) 2) ++ restL (manyT k b) := by rw [hs]; simp only [List.append_assoc]
  have l4 : (putL (kindN (manyT k b)) 1 ++ putL 0 1 ++ putL (sumN f t (manyT k b)) 2).length = 4 := by simp only [List.length_append, putL_length]
  have n0 : numAt s 0 1 = kindN (manyT k b) := numAt_mid s0 rfl (by have := kindN_lt (manyT k b); omega)
  generalize putL (kindN (manyT k b)) 1 ++ putL 0 1 ++ putL (sumN f t (manyT k b)) 2 = P at *
  have fin : ∀ T', rReadT s = (T', 6) → 8 ≤ s.size → rReadF f t s = (Tk.z, 6) := fun T' e h8 => by
    unfold rReadF
    rw [if_neg (by omega), if_neg (by rw [hb]; simp), e, if_neg (by simp)]
  cases b
  · have er : restL (manyT k false) = putL (cod16 0) 2 ++ (putL 0 2 ++ (bytesA grpM.v grpM.b ++ (putL 0 1 ++ (putL (cod8 0) 1 ++ (putL k 2 ++ srcB ((List.range k).map srcM)))))) := by simp [restL, manyT, flagN, respN]
    have ek : kindN (manyT k false) = 130 := by simp [kindN, manyT]
    have gv : grpM.v = true := rfl
    have lg := v6_len gv
    rw [ek] at n0
    rw [er] at hz s4
    simp only [List.length_append, putL_length, lg] at hz
    have ea : ad16 s 8 = grpM := ad16_mid (pre := P ++ putL (cod16 0) 2 ++ putL 0 2) (post := putL 0 1 ++ (putL (cod8 0) 1 ++ (putL k 2 ++ srcB ((List.range k).map srcM)))) (by rw [s4]; simp only [List.append_assoc]) (by simp only [List.length_append, putL_length]; omega) gv
    have n26 : numAt s 26 2 = k := numAt_mid (pre := P ++ putL (cod16 0) 2 ++ putL 0 2 ++ bytesA grpM.v grpM.b ++ putL 0 1 ++ putL (cod8 0) 1) (post := srcB ((List.range k).map srcM)) (by rw [s4]; simp only [List.append_assoc]) (by simp only [List.length_append, putL_length]; omega) (by omega)
    have n28 : rSrcF s 28 k = ([], 6) := by unfold rSrcF; rw [if_pos (by omega)]
    have e5 : (numAt s 0 1 == 130) = true := by simpa using n0
    refine (fun ⟨T', e⟩ => fin T' e (by omega)) (show ∃ T', rReadT s = (T', 6) from ?_)
    refine ⟨?_, ?_⟩
    rotate_left
    unfold rReadT rOneF
    rw [if_pos (.inl n0), if_neg (by omega), if_neg (by omega), ea, e5, grpM_ok, grpM_z, if_neg (by simp), if_neg (by omega), if_neg (by omega), n26, n28, if_neg (by simp)]
  · have er : restL (manyT k true) = putL 0 2 ++ (putL k 2 ++ recsB (List.replicate k recM)) := by simp [restL, manyT]
    have ek : kindN (manyT k true) = 143 := by simp [kindN, manyT]
    rw [ek] at n0
    rw [er] at hz s4
    simp only [List.length_append, putL_length] at hz
    have n6 : numAt s 6 2 = k := numAt_mid (pre := P ++ putL 0 2) (post := recsB (List.replicate k recM)) (by rw [s4]; simp only [List.append_assoc]) (by simp only [List.length_append, putL_length]; omega) (by omega)
    refine (fun ⟨T', e⟩ => fin T' e (by omega)) (show ∃ T', rReadT s = (T', 6) from ?_)
    refine ⟨?_, ?_⟩
    rotate_left
    unfold rReadT rRecF
    rw [n0, if_neg (by omega), if_pos rfl, n6, if_pos (by omega)]
end
end Go.Proofs.Ytealimfmognglaa
