/-
  Contracts of package acequiaref08: what is the same.
-/
import Derived.Test.YtealimfmognglaaTk
import Derived.Test.YtealimfmognglaaIn
namespace Go.Proofs.Ytealimfmognglaa
-- %in
open Go.ChangeShapes Go.WideShapes Go.ChangeAt Go.RowKit
set_option linter.unusedVariables false
set_option linter.unusedSimpArgs false
set_option maxRecDepth 20000
attribute [local irreducible] wpList

instance : DecidableEq Rc := fun a c => if h : a.kind = c.kind ∧ a.grp = c.grp ∧ a.src = c.src then .isTrue (by cases a; cases c; simp at h; obtain ⟨rfl, rfl, rfl⟩ := h; rfl) else .isFalse (fun e => h (by subst e; exact ⟨rfl, rfl, rfl⟩))
theorem take_snoc_eq {α : Type} {L M : List α} {j : Nat} (h : L.take j = M.take j) (h1 : j < L.length) (h2 : j < M.length) (e : L[j] = M[j]) : L.take (j + 1) = M.take (j + 1) := by
  rw [← List.take_append_getElem h1, ← List.take_append_getElem h2, h, e]
theorem ne_of_at {α : Type} {L M : List α} {j : Nat} (h1 : j < L.length) (h2 : j < M.length) (e : L[j] ≠ M[j]) : L ≠ M := fun h => by subst h; exact e rfl
section
variable {w : World} {p p' : Option Addr} {c c' : Nat} {L M : List Ad}
set_option maxHeartbeats 1000000 in
theorem sameAds_any (h : AdsAt w p L) (h' : AdsAt w p' M) : Gives Try.prog 44 #[.slice p L.length c, .slice p' M.length c'] w (.bool (decide (L = M))) := by
  have hl := h.1
  have hl' := h'.1
  have HA := Lib.hid h
  have HB := Lib.hid h'
  clear h h'
  refine Gives.of ?_
  have hH := Hp.refl w
  by_cases hlen : L.length = M.length
  rotate_left
  · have e : decide (L = M) = false := decide_eq_false (fun h => hlen (by rw [h]))
    rw [e]
    clear e
    have hn : ((L.length : Int) != (M.length : Int)) = true := by simp; omega
    go_enter Try.func44, Try.ntmps44
    go_wp2_with (fail)
    go_ret
    exact ⟨rfl, hH.below⟩
  have hn : ((L.length : Int) != (M.length : Int)) = false := by simp; omega
  obtain ⟨res, hres⟩ : ∃ r, decide (L = M) = r := ⟨_, rfl⟩
  rw [hres]
  have HRES := Lib.hid hres
  clear hres
  go_enter Try.func44, Try.ntmps44
  go_wp2_with (fail)
  go_loopw [5] (fun i wr => ∃ j : Nat, i = .int .i64 (j : Int) ∧ j ≤ L.length ∧ L.take j = M.take j ∧ Hp w.heap.size w wr []) (fun i _ => L.length - (intOf i).toNat)
  case atStart => exact ⟨0, rfl, by omega, rfl, hH⟩
  case round =>
    clear hH
    obtain ⟨j, rfl, hj, hT, hH⟩ := hrel
    by_cases hjl : j < L.length
    · have hj2 : j < M.length := by omega
      obtain ⟨a, ha, fA, _⟩ := HA.out.get hjl
      obtain ⟨b, hb, fB, _⟩ := HB.out.get hj2
      subst ha
      subst hb
      have dj : decide ((j : Int) < (L.length : Int)) = true := decide_eq_true (by omega)
      have HS := Lib.hid (fun e => take_snoc_eq hT hjl hj2 e)
      have HN := Lib.hid (fun e => HRES.out.symm.trans (decide_eq_false (p := L = M) (ne_of_at hjl hj2 e)))
      clear hT HA HB hn hlen
      have fE := ad_neq L[j] M[j]
      have oA := adL_ok L[j]
      have oB := adL_ok M[j]
      generalize L[j] = x at *
      generalize M[j] = y at *
      cases hxy : (x != y)
      · rw [hxy] at fE
        have hS := HS.out (by simpa using hxy)
        have HS2 := Lib.hid hS
        clear HS HN hxy hS
        generalize adL x = X at *
        generalize adL y = Y at *
        go_wp2_with (fail)
        ((with_reducible refine regQ hH (by kernel_rfl) (by kernel_rfl) ?_); intro hne; (repeat (first | (go_big_quiet_want; (first | ((first | (refine qLoR tab_ok rfl rfl rfl rfl ?_; refine ⟨_, fA, ⟨oA, trivial⟩, rfl, ?_⟩) | (refine qLoR tab_ok rfl rfl rfl rfl ?_; refine ⟨_, fB, ⟨oB, trivial⟩, rfl, ?_⟩)))); (try simp only [Act.put, pA, pB, pC]); go_big_quiet_on) | go_big_quiet_step (fail))); refine wpQuiet_nil ?_; clear hne hH; intro W hH)
        go_wp2_with (fail)
        exact ⟨⟨j + 1, by simp, by omega, HS2.out, hH⟩, by simp [intOf]; omega⟩
      · rw [hxy] at fE
        have hS := HN.out (by simpa using hxy)
        subst hS
        clear HS HN hxy
        generalize adL x = X at *
        generalize adL y = Y at *
        go_wp2_with (fail)
        ((with_reducible refine regQ hH (by kernel_rfl) (by kernel_rfl) ?_); intro hne; (repeat (first | (go_big_quiet_want; (first | ((first | (refine qLoR tab_ok rfl rfl rfl rfl ?_; refine ⟨_, fA, ⟨oA, trivial⟩, rfl, ?_⟩) | (refine qLoR tab_ok rfl rfl rfl rfl ?_; refine ⟨_, fB, ⟨oB, trivial⟩, rfl, ?_⟩)))); (try simp only [Act.put, pA, pB, pC]); go_big_quiet_on) | go_big_quiet_step (fail))); refine wpQuiet_nil ?_; clear hne hH; intro W hH)
        go_wp2_with (fail)
        go_ret
        exact ⟨rfl, hH.below⟩
    · have e : res = true := HRES.out.symm.trans (decide_eq_true (by rwa [List.take_of_length_le (by omega), List.take_of_length_le (by omega)] at hT))
      subst e
      have dj : decide ((j : Int) < (L.length : Int)) = false := decide_eq_false (by omega)
      clear hT HA HB hn
      go_wp2_with (fail)
      go_ret
      exact ⟨rfl, hH.below⟩
set_option maxHeartbeats 2000000 in
theorem sameRcs_any {R S : List Rc} (h : RcsAt w p R) (h' : RcsAt w p' S) : Gives Try.prog 45 #[.slice p R.length c, .slice p' S.length c'] w (.bool (decide (R = S))) := by
  have hl := h.1
  have hl' := h'.1
  have HA := Lib.hid h
  have HB := Lib.hid h'
  clear h h'
  refine Gives.of ?_
  have hH := Hp.refl w
  by_cases hlen : R.length = S.length
  rotate_left
  · have e : decide (R = S) = false := decide_eq_false (fun h => hlen (by rw [h]))
    rw [e]
    clear e
    have hn : ((R.length : Int) != (S.length : Int)) = true := by simp; omega
    go_enter Try.func45, Try.ntmps45
    go_wp2_with (fail)
    go_ret
    exact ⟨rfl, hH.below⟩
  have hn : ((R.length : Int) != (S.length : Int)) = false := by simp; omega
  obtain ⟨res, hres⟩ : ∃ r, decide (R = S) = r := ⟨_, rfl⟩
  rw [hres]
  have HRES := Lib.hid hres
  clear hres
  go_enter Try.func45, Try.ntmps45
  go_wp2_with (fail)
  go_loopw [5] (fun i wr => ∃ j : Nat, i = .int .i64 (j : Int) ∧ j ≤ R.length ∧ R.take j = S.take j ∧ Hp w.heap.size w wr []) (fun i _ => R.length - (intOf i).toNat)
  case atStart => exact ⟨0, rfl, by omega, rfl, hH⟩
  case round =>
    clear hH
    obtain ⟨j, rfl, hj, hT, hH⟩ := hrel
    by_cases hjl : j < R.length
    · have hj2 : j < S.length := by omega
      obtain ⟨a, s, c1, ha, fK, fG, fS, fA, _⟩ := HA.out.get hjl
      obtain ⟨b, s', c1', hb, fK', fG', fS', fA', _⟩ := HB.out.get hj2
      subst ha
      subst hb
      have dj : decide ((j : Int) < (R.length : Int)) = true := decide_eq_true (by omega)
      have HS := Lib.hid (fun e => take_snoc_eq hT hjl hj2 e)
      have HN := Lib.hid (fun e => HRES.out.symm.trans (decide_eq_false (p := R = S) (ne_of_at hjl hj2 e)))
      clear hT HA HB hn hlen
      generalize hr : R[j] = r at *
      generalize hs : S[j] = t at *
      clear hr hs
      obtain ⟨k, G, l⟩ := r
      obtain ⟨k', G', l'⟩ := t
      simp only at fK fG fS fA fK' fG' fS' fA'
      have fE := ad_neq G G'
      have fQ : ∀ W, Below w.heap.size w W → Gives Try.prog 44 #[.slice s l.length c1, .slice s' l'.length c1'] W (.bool (decide (l = l'))) := fun W hb => sameAds_any (fA.below hb) (fA'.below hb)
      have FQ := Lib.hid fQ
      have oA := adL_ok G
      have oB := adL_ok G'
      clear fA fA' fQ
      by_cases hk : k = k'
      rotate_left
      · have hS := HN.out (fun e => hk (congrArg Rc.kind e))
        subst hS
        clear HS HN FQ
        have dk : (k != k') = true := by simpa using hk
        generalize adL G = X at *
        generalize adL G' = Y at *
        go_wp2_with (fail)
        ((with_reducible refine regQ hH (by kernel_rfl) (by kernel_rfl) ?_); intro hne; (repeat (first | (go_big_quiet_want; (first | ((first | (refine qLo tab_ok rfl rfl rfl rfl ?_; refine ⟨?_, ?_, ?_⟩; rotate_left; (focus (first | exact fK | exact fK')))))); (try simp only [Act.put, pA, pB, pC]); go_big_quiet_on) | go_big_quiet_step (fail))); refine wpQuiet_nil ?_; clear hne hH; intro W hH)
        go_wp2_with (fail)
        go_ret
        exact ⟨rfl, hH.below⟩
      have dk : (k != k') = false := by simpa using hk
      by_cases hg : G = G'
      rotate_left
      · have hS := HN.out (fun e => hg (congrArg Rc.grp e))
        subst hS
        have hg2 : (G != G') = true := by simpa using hg
        rw [hg2] at fE
        clear HS HN FQ hg hg2
        generalize adL G = X at *
        generalize adL G' = Y at *
        go_wp2_with (fail)
        ((with_reducible refine regQ hH (by kernel_rfl) (by kernel_rfl) ?_); intro hne; (repeat (first | (go_big_quiet_want; (first | ((first | (refine qLo tab_ok rfl rfl rfl rfl ?_; refine ⟨?_, ?_, ?_⟩; rotate_left; (focus (first | exact fK | exact fK'))) | (refine qLoR tab_ok rfl rfl rfl rfl ?_; refine ⟨_, fG, ⟨oA, trivial⟩, rfl, ?_⟩) | (refine qLoR tab_ok rfl rfl rfl rfl ?_; refine ⟨_, fG', ⟨oB, trivial⟩, rfl, ?_⟩)))); (try simp only [Act.put, pA, pB, pC]); go_big_quiet_on) | go_big_quiet_step (fail))); refine wpQuiet_nil ?_; clear hne hH; intro W hH)
        go_wp2_with (fail)
        go_ret
        exact ⟨rfl, hH.below⟩
      have hg2 : (G != G') = false := by simpa using hg
      rw [hg2] at fE
      by_cases hl2 : l = l'
      · have hS := Lib.hid (HS.out (by rw [hk, hg, hl2]))
        have e2 : decide (l = l') = true := decide_eq_true hl2
        rw [e2] at FQ
        clear HS HN hg hg2 e2 hl2
        generalize adL G = X at *
        generalize adL G' = Y at *
        generalize l.length = n at *
        generalize l'.length = n' at *
        go_wp2_with (fail)
        ((with_reducible refine regQ hH (by kernel_rfl) (by kernel_rfl) ?_); intro hne; (repeat (first | (go_big_quiet_want; (first | ((first | (refine qLo tab_ok rfl rfl rfl rfl ?_; refine ⟨?_, ?_, ?_⟩; rotate_left; (focus (first | exact fK | exact fK' | exact fS | exact fS'))) | (refine qLoR tab_ok rfl rfl rfl rfl ?_; refine ⟨_, fG, ⟨oA, trivial⟩, rfl, ?_⟩) | (refine qLoR tab_ok rfl rfl rfl rfl ?_; refine ⟨_, fG', ⟨oB, trivial⟩, rfl, ?_⟩)))); (try simp only [Act.put, pA, pB, pC]); go_big_quiet_on) | go_big_quiet_step (((with_reducible apply callQ); first | (exact FQ.out _ (HW.hp _).below))))); refine wpQuiet_nil ?_; clear hne hH; intro W hH)
        go_wp2_with (fail)
        exact ⟨⟨j + 1, by simp, by omega, hS.out, hH⟩, by simp [intOf]; omega⟩
      · have hS := HN.out (fun e => hl2 (congrArg Rc.src e))
        subst hS
        have e2 : decide (l = l') = false := decide_eq_false hl2
        rw [e2] at FQ
        clear HS HN hg hg2 e2 hl2
        generalize adL G = X at *
        generalize adL G' = Y at *
        generalize l.length = n at *
        generalize l'.length = n' at *
        go_wp2_with (fail)
        ((with_reducible refine regQ hH (by kernel_rfl) (by kernel_rfl) ?_); intro hne; (repeat (first | (go_big_quiet_want; (first | ((first | (refine qLo tab_ok rfl rfl rfl rfl ?_; refine ⟨?_, ?_, ?_⟩; rotate_left; (focus (first | exact fK | exact fK' | exact fS | exact fS'))) | (refine qLoR tab_ok rfl rfl rfl rfl ?_; refine ⟨_, fG, ⟨oA, trivial⟩, rfl, ?_⟩) | (refine qLoR tab_ok rfl rfl rfl rfl ?_; refine ⟨_, fG', ⟨oB, trivial⟩, rfl, ?_⟩)))); (try simp only [Act.put, pA, pB, pC]); go_big_quiet_on) | go_big_quiet_step (((with_reducible apply callQ); first | (exact FQ.out _ (HW.hp _).below))))); refine wpQuiet_nil ?_; clear hne hH; intro W hH)
        go_wp2_with (fail)
        go_ret
        exact ⟨rfl, hH.below⟩
    · have e : res = true := HRES.out.symm.trans (decide_eq_true (by rwa [List.take_of_length_le (by omega), List.take_of_length_le (by omega)] at hT))
      subst e
      have dj : decide ((j : Int) < (R.length : Int)) = false := decide_eq_false (by omega)
      clear hT HA HB hn
      go_wp2_with (fail)
      go_ret
      exact ⟨rfl, hH.below⟩
end
end Go.Proofs.Ytealimfmognglaa
