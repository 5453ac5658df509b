/-
  Sets of addresses in plain Lean: what is added in order, and which lists are sets.
-/
import Derived.Test.YtjegjgdihpihoaaGreatDoorDv
namespace Go.Proofs.YtjegjgdihpihoaaGreatDoor
set_option linter.unusedVariables false
set_option linter.unusedSimpArgs false

theorem cb_cons {a b : UInt8} {X Y : List UInt8} : Lib.compareBytes (a :: X) (b :: Y) = if a < b then -1 else if b < a then 1 else Lib.compareBytes X Y := rfl
theorem cb_eq : ∀ {X Y : List UInt8}, Lib.compareBytes X Y = 0 → X = Y
  | [], [], _ => rfl
  | [], _ :: _, h => by simp [Lib.compareBytes] at h
  | _ :: _, [], h => by simp [Lib.compareBytes] at h
  | a :: X, b :: Y, h => by
    rw [cb_cons] at h
    by_cases h1 : a < b
    · rw [if_pos h1] at h; cases h
    · rw [if_neg h1] at h
      by_cases h2 : b < a
      · rw [if_pos h2] at h; cases h
      · rw [if_neg h2] at h
        have e : a = b := UInt8.toNat_inj.1 (by
          have h1' : ¬ a.toNat < b.toNat := fun h' => h1 (UInt8.lt_iff_toNat_lt.2 h')
          have h2' : ¬ b.toNat < a.toNat := fun h' => h2 (UInt8.lt_iff_toNat_lt.2 h')
          omega)
        rw [e, cb_eq h]
theorem cb_anti : ∀ (X Y : List UInt8), Lib.compareBytes Y X = - Lib.compareBytes X Y
  | [], [] => rfl
  | [], _ :: _ => rfl
  | _ :: _, [] => rfl
  | a :: X, b :: Y => by
    rw [cb_cons, cb_cons]
    by_cases h1 : a < b
    · have h2 : ¬ b < a := fun h => by
        have := UInt8.lt_iff_toNat_lt.1 h; have := UInt8.lt_iff_toNat_lt.1 h1; omega
      rw [if_pos h1, if_neg h2, if_pos h1]; rfl
    · by_cases h2 : b < a
      · simp [h1, h2]
      · rw [if_neg h1, if_neg h2, if_neg h2, if_neg h1, cb_anti X Y]
theorem cb_trans : ∀ {X Y Z : List UInt8}, Lib.compareBytes X Y < 0 → Lib.compareBytes Y Z < 0 → Lib.compareBytes X Z < 0
  | [], [], _, h, _ => by simp [Lib.compareBytes] at h
  | _ :: _, [], _, h, _ => by simp [Lib.compareBytes] at h
  | _, _ :: _, [], _, h => by simp [Lib.compareBytes] at h
  | [], _ :: _, _ :: _, _, _ => by simp [Lib.compareBytes]
  | a :: X, b :: Y, c :: Z, h, k => by
    rw [cb_cons] at h k ⊢
    by_cases h1 : a < b
    · by_cases k1 : b < c
      · rw [if_pos (UInt8.lt_trans h1 k1)]; decide
      · rw [if_neg k1] at k
        by_cases k2 : c < b
        · rw [if_pos k2] at k; cases k
        · have e : b = c := UInt8.toNat_inj.1 (by
            have h1' : ¬ b.toNat < c.toNat := fun h' => k1 (UInt8.lt_iff_toNat_lt.2 h')
            have h2' : ¬ c.toNat < b.toNat := fun h' => k2 (UInt8.lt_iff_toNat_lt.2 h')
            omega)
          rw [if_pos (e ▸ h1)]; decide
    · rw [if_neg h1] at h
      by_cases h2 : b < a
      · rw [if_pos h2] at h; cases h
      · rw [if_neg h2] at h
        have e : a = b := UInt8.toNat_inj.1 (by
          have h1' : ¬ a.toNat < b.toNat := fun h' => h1 (UInt8.lt_iff_toNat_lt.2 h')
          have h2' : ¬ b.toNat < a.toNat := fun h' => h2 (UInt8.lt_iff_toNat_lt.2 h')
          omega)
        subst e
        by_cases k1 : a < c
        · rw [if_pos k1]; decide
        · rw [if_neg k1] at k ⊢
          by_cases k2 : c < a
          · rw [if_pos k2] at k; cases k
          · rw [if_neg k2] at k ⊢
            exact cb_trans h k
theorem cmpA_trans {a b c : Ad} (h : cmpA a b < 0) (k : cmpA b c < 0) : cmpA a c < 0 := by
  unfold cmpA at *
  cases ha : a.v <;> cases hb : b.v <;> cases hc : c.v <;> simp [ha, hb, hc] at h k ⊢ <;> exact cb_trans h k
theorem cmpA_anti {a b : Ad} : cmpA b a = - cmpA a b := by
  unfold cmpA
  cases ha : a.v <;> cases hb : b.v <;> simp <;> exact cb_anti _ _
theorem cmpA_eq {a b : Ad} (ga : gdA a = true) (gb : gdA b = true) (h : cmpA a b = 0) : a = b := by
  unfold cmpA at h
  by_cases hv : a.v = b.v
  · rw [if_pos hv] at h
    have e := cb_eq h
    refine Ad.ext2 hv ?_
    unfold gdA goodA at ga gb
    unfold bytesA at e
    rw [← hv] at gb e
    cases ha : a.v
    · rw [ha] at ga gb e
      simp at ga gb e
      rw [← List.take_append_drop 4 a.b, ← List.take_append_drop 4 b.b, e, ga, gb]
    · rw [ha] at e
      simpa using e
  · rw [if_neg hv] at h
    split at h <;> cases h
/-- a set: all good, and they rise -/
def SetL (L : List Ad) : Prop := (∀ x ∈ L, gdA x = true) ∧ L.Pairwise (fun a b => cmpA a b < 0)
def insA (L : List Ad) (x : Ad) : List Ad := L.takeWhile (fun y => decide (cmpA y x < 0)) ++ x :: L.dropWhile (fun y => decide (cmpA y x < 0))
def addA (L : List Ad) (x : Ad) : List Ad := if x ∈ L ∨ gdA x = false then L else insA L x
def ofA (L : List Ad) : List Ad := L.foldl addA []
theorem addA_set {L : List Ad} (h : SetL L) (x : Ad) : SetL (addA L x) := by
  unfold addA
  split
  · exact h
  · rename_i hx
    have hx1 : x ∉ L := fun hm => hx (.inl hm)
    have hx2 : gdA x = true := by cases hg : gdA x; exact absurd (.inr hg) hx; rfl
    obtain ⟨hg, hp⟩ := h
    have hT : ∀ y ∈ L.takeWhile (fun y => decide (cmpA y x < 0)), cmpA y x < 0 := fun y hy => by
      have := List.all_takeWhile (l := L) (p := fun y => decide (cmpA y x < 0))
      simpa using List.all_eq_true.1 this y hy
    have hsplit := List.takeWhile_append_dropWhile (p := fun y => decide (cmpA y x < 0)) (l := L)
    have hp2 := hp
    rw [← hsplit, List.pairwise_append] at hp2
    obtain ⟨p1, p2, p3⟩ := hp2
    have hD : ∀ y ∈ L.dropWhile (fun y => decide (cmpA y x < 0)), cmpA x y < 0 := by
      cases hd : L.dropWhile (fun y => decide (cmpA y x < 0)) with
      | nil => intro y hy; cases hy
      | cons z D =>
        have hz : ¬ cmpA z x < 0 := by
          have := List.head?_dropWhile_not (fun y => decide (cmpA y x < 0)) L
          rw [hd] at this
          simpa using this
        have hzL : z ∈ L := by rw [← hsplit, hd]; simp
        have hzx : cmpA x z < 0 := by
          rw [cmpA_anti]
          have : cmpA z x ≠ 0 := fun e => hx1 (by rw [← cmpA_eq (hg z hzL) hx2 e]; exact hzL)
          omega
        rw [hd] at p2
        intro y hy
        rcases List.mem_cons.1 hy with rfl | hy
        · exact hzx
        · exact cmpA_trans hzx ((List.pairwise_cons.1 p2).1 y hy)
    refine ⟨fun y hy => ?_, ?_⟩
    · unfold insA at hy
      rcases List.mem_append.1 hy with hy | hy
      · exact hg y (by rw [← hsplit]; exact List.mem_append_left _ hy)
      · rcases List.mem_cons.1 hy with rfl | hy
        · exact hx2
        · exact hg y (by rw [← hsplit]; exact List.mem_append_right _ hy)
    · unfold insA
      rw [List.pairwise_append]
      refine ⟨p1, List.pairwise_cons.2 ⟨hD, p2⟩, fun a ha b hb => ?_⟩
      rcases List.mem_cons.1 hb with rfl | hb
      · exact hT a ha
      · exact p3 a ha b hb
theorem foldl_set : ∀ (M L : List Ad), SetL L → SetL (M.foldl addA L)
  | [], L, h => h
  | x :: M, L, h => foldl_set M _ (addA_set h x)
theorem ofA_set (L : List Ad) : SetL (ofA L) := foldl_set L [] ⟨by simp, by simp⟩
theorem tw_all {α : Type} {f : α → Bool} : ∀ {L : List α}, (∀ y ∈ L, f y = true) → L.takeWhile f = L
  | [], _ => rfl
  | x :: L, h => by rw [List.takeWhile_cons, if_pos (h x (by simp)), tw_all (fun y hy => h y (by simp [hy]))]
theorem addA_last {L : List Ad} {x : Ad} (h : ∀ y ∈ L, cmpA y x < 0) (hx : gdA x = true) : addA L x = L ++ [x] := by
  have hxx : cmpA x x = 0 := by
    unfold cmpA
    rw [if_pos rfl, cb_refl]
  have hn : x ∉ L := fun hm => by have := h x hm; omega
  have hT : L.takeWhile (fun y => decide (cmpA y x < 0)) = L := tw_all (fun y hy => by simpa using h y hy)
  have hD : L.dropWhile (fun y => decide (cmpA y x < 0)) = [] := by
    have := List.takeWhile_append_dropWhile (p := fun y => decide (cmpA y x < 0)) (l := L)
    rw [hT] at this
    exact List.append_right_eq_self.1 this
  unfold addA
  rw [if_neg (by simp [hn, hx])]
  unfold insA
  rw [hT, hD]
theorem foldl_self : ∀ (M L : List Ad), SetL (L ++ M) → M.foldl addA L = L ++ M
  | [], L, h => by simp
  | x :: M, L, h => by
    have hp := h.2
    rw [List.pairwise_append] at hp
    have e := addA_last (L := L) (x := x) (fun y hy => hp.2.2 y hy x (by simp)) (h.1 x (by simp))
    show M.foldl addA (addA L x) = _
    rw [e, foldl_self M (L ++ [x]) (by simpa using h)]
    simp
/-- what was put in order is as it was, just where it was in order -/
theorem ofA_self {L : List Ad} : ofA L = L ↔ SetL L :=
  ⟨fun h => by rw [← h]; exact ofA_set L, fun h => foldl_self L [] h⟩
theorem set_iff {L : List Ad} : SetL L ↔ ∀ i, okAt L i := by
  constructor
  · intro ⟨h1, h2⟩ i hi
    refine ⟨h1 _ (List.getElem_mem hi), fun k e => ?_⟩
    subst e
    exact List.pairwise_iff_getElem.1 h2 k (k + 1) (by omega) hi (by omega)
  · intro h
    refine ⟨fun x hx => ?_, List.pairwise_iff_getElem.2 fun i j hi hj hij => ?_⟩
    · obtain ⟨i, hi, rfl⟩ := List.getElem_of_mem hx
      exact (h i hi).1
    · obtain ⟨d, rfl⟩ : ∃ d, j = i + d + 1 := ⟨j - i - 1, by omega⟩
      clear hij
      induction d with
      | zero => exact (h (i + 1) hj).2 i rfl
      | succ d ih => exact cmpA_trans (ih (by omega)) ((h (i + d + 1 + 1) hj).2 (i + d + 1) rfl)
open Classical in
theorem goodL_of {L : List Ad} : goodL L = decide (ofA L = L) := by
  unfold goodL
  exact decide_eq_decide.2 (set_iff.symm.trans ofA_self.symm)
end Go.Proofs.YtjegjgdihpihoaaGreatDoor
