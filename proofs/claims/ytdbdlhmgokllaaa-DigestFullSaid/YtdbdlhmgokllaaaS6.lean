/-
  Rising entries, one behind the other, in plain Lean: what a digest is behind them.
-/
import Derived.Test.YtdbdlhmgokllaaaS5
import Derived.Test.YtdbdlhmgokllaaaE5
namespace Go.Proofs.Ytdbdlhmgokllaaa
set_option linter.unusedVariables false
set_option linter.unusedSimpArgs false
set_option maxRecDepth 20000

theorem bsF_all {L : List En} {x : En} (h : ∀ a ∈ L, cmpE a x < 0) : ∀ (f i j : Nat), i ≤ j → j ≤ L.length → j - i ≤ f → bsF L x f i j = j
  | 0, i, j, hij, hj, hf => by unfold bsF; omega
  | f + 1, i, j, hij, hj, hf => by
    unfold bsF
    by_cases hc : i < j
    · rw [if_pos hc, List.getElem?_eq_getElem (by omega)]
      simp only
      rw [if_pos (h _ (List.getElem_mem _)), bsF_all h f _ _ (by omega) hj (by omega)]
    · rw [if_neg hc]
      omega
theorem isF_end {L : List En} {x : En} : isF L x L.length = false := by unfold isF; rw [List.getElem?_eq_none (Nat.le_refl _)]
/-- the i-th entry -/
def adF (i : Nat) : Ad := ⟨false, [239, 1, UInt8.ofNat (i / 256), UInt8.ofNat i] ++ List.replicate 12 0, rfl⟩
def enF (i : Nat) : En := ⟨1, adF i, true, []⟩
theorem enF_lt {i j : Nat} (h : i < j) (hj : j < 65536) : cmpE (enF i) (enF j) < 0 := by
  have e : cmpE (enF i) (enF j) = cmpA (adF i) (adF j) := rfl
  have e2 : cmpA (adF i) (adF j) = Lib.compareBytes [239, 1, UInt8.ofNat (i / 256), UInt8.ofNat i] [239, 1, UInt8.ofNat (j / 256), UInt8.ofNat j] := rfl
  rw [e, e2, cb_cons, if_neg (by decide), if_neg (by decide), cb_cons, if_neg (by decide), if_neg (by decide), cb_cons]
  have l1 : (UInt8.ofNat (i / 256) < UInt8.ofNat (j / 256)) ↔ i / 256 < j / 256 := by
    rw [UInt8.lt_iff_toNat_lt, UInt8.toNat_ofNat', UInt8.toNat_ofNat']
    omega
  have l2 : (UInt8.ofNat (j / 256) < UInt8.ofNat (i / 256)) ↔ j / 256 < i / 256 := by
    rw [UInt8.lt_iff_toNat_lt, UInt8.toNat_ofNat', UInt8.toNat_ofNat']
    omega
  by_cases hc : i / 256 < j / 256
  · rw [if_pos (l1.2 hc)]; decide
  · rw [if_neg (fun h => hc (l1.1 h)), if_neg (fun h => by have := l2.1 h; omega), cb_cons]
    have l3 : UInt8.ofNat i < UInt8.ofNat j := by
      rw [UInt8.lt_iff_toNat_lt, UInt8.toNat_ofNat', UInt8.toNat_ofNat']
      omega
    rw [if_pos l3]; decide
theorem enF_placed (i : Nat) : placedE (enF i) = true := by
  have h1 : gdA (enF i).grp = true := rfl
  have h2 : groupA (enF i).grp.v (enF i).grp.b = true := by simp [groupA, hdA, enF, adF]
  unfold placedE
  rw [h1, h2]
  simp [enF]
theorem enF_one (i : Nat) : oneE (enF i) = true := by
  rw [oneE_of, enF_placed]
  simp [enF, ofA, allV, noneF]
def chF (i : Nat) : Ch := ⟨enF i, false⟩
theorem applyF_full : ∀ j, j ≤ 60000 → applyF [] ((List.range j).map chF) = (List.range (min j 512)).map enF
  | 0, _ => rfl
  | j + 1, hj => by
    have ih := applyF_full j (by omega)
    unfold applyF at ih ⊢
    rw [List.range_succ, List.map_append, List.foldl_append, ih]
    show stepF _ (chF j) = _
    have hl : ((List.range (min j 512)).map enF).length = min j 512 := by simp
    have hb : bsF ((List.range (min j 512)).map enF) (enF j) ((List.range (min j 512)).map enF).length 0 ((List.range (min j 512)).map enF).length = ((List.range (min j 512)).map enF).length := bsF_all (fun a ha => by
      obtain ⟨i, hi, rfl⟩ := List.mem_map.1 ha
      have := List.mem_range.1 hi
      exact enF_lt (by omega) (by omega)) _ _ _ (by omega) (by omega) (by omega)
    by_cases hc : j < 512
    · have hs := stepF_ins (enF_placed j) (enF_one j) (R := (List.range (min j 512)).map enF) (by rw [hb]; exact isF_end) (by omega)
      rw [hb, List.take_of_length_le (Nat.le_refl _), List.drop_of_length_le (Nat.le_refl _)] at hs
      unfold chF
      rw [hs, show min (j + 1) 512 = min j 512 + 1 by omega, List.range_succ, List.map_append, show min j 512 = j by omega]
      rfl
    · have hs := stepF_full (e := enF j) (R := (List.range (min j 512)).map enF) (by rw [hb]; exact isF_end) (by omega)
      unfold chF
      rw [hs, show min (j + 1) 512 = min j 512 by omega]
theorem goodD_full {j : Nat} (hj : j ≤ 60000) : goodD ((List.range j).map enF) = decide (j ≤ 512) := by
  unfold goodD
  rw [goodD1_true (fun i hi h => ⟨?_, fun k e => ?_⟩)]
  · simp
  · rw [List.getElem_map]
    exact enF_one _
  · subst e
    have h' : k + 1 < j := by simpa using h
    rw [List.getElem_map, List.getElem_map, List.getElem_range, List.getElem_range]
    exact enF_lt (by omega) (by omega)
/-- in memory -/
def evF (i : Nat) : Ev := ⟨enF i, none, 0⟩
def evR (j : Nat) : List Ev := (List.range j).map evF
theorem evR_len (j : Nat) : (evR j).length = j := by simp [evR]
theorem evR_en (j : Nat) : (evR j).map Ev.e = (List.range j).map enF := by simp [evR]; intro i _; rfl
theorem evR_snoc (j : Nat) : evR (j + 1) = evR j ++ [evF j] := by simp [evR, List.range_succ]
def cvF (i : Nat) : Cv := ⟨chF i, none, 0⟩
def cvR (j : Nat) : List Cv := (List.range j).map cvF
theorem cvR_len (j : Nat) : (cvR j).length = j := by simp [cvR]
theorem cvR_ch (j : Nat) : (cvR j).map Cv.x = (List.range j).map chF := by simp [cvR]; intro i _; rfl
theorem cvR_snoc (j : Nat) : cvR (j + 1) = cvR j ++ [cvF j] := by simp [cvR, List.range_succ]
end Go.Proofs.Ytdbdlhmgokllaaa
