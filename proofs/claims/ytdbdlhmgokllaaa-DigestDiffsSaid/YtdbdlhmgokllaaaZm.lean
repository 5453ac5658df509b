/-
  Zm: Za, Zb, Zc, Zd, Ze in one text.
-/
import Derived.Test.YtdbdlhmgokllaaaQa
import Derived.Test.YtdbdlhmgokllaaaE2
import Derived.Test.YtdbdlhmgokllaaaR3
import Derived.Test.YtdbdlhmgokllaaaE1
import Derived.Test.YtdbdlhmgokllaaaQz
import Derived.Test.YtdbdlhmgokllaaaR4
import Derived.Test.YtdbdlhmgokllaaaS7
import Derived.Test.YtdbdlhmgokllaaaE6
import Derived.Test.YtdbdlhmgokllaaaRows
namespace Go.Proofs.Ytdbdlhmgokllaaa
-- %in
section
set_option linter.unusedVariables false
set_option linter.unusedSimpArgs false
set_option maxRecDepth 20000

theorem sameE_iff {a b : En} : sameE a b = true ↔ a = b := by
  unfold sameE sameF
  simp only [Bool.and_eq_true, beq_iff_eq, decide_eq_true_eq]
  constructor
  · rintro ⟨h1, h2, h3, h4⟩
    cases a; cases b; simp at *; exact ⟨h1, h2, h3, h4⟩
  · rintro rfl; exact ⟨rfl, rfl, rfl, rfl⟩
theorem cmpE_self' (a : En) : cmpE a a = 0 := by
  unfold cmpE orI
  have e1 : cmpI a.vlan a.vlan = 0 := by unfold cmpI; rw [if_neg (by omega), if_neg (by omega)]
  rw [if_pos e1]
  unfold cmpA
  rw [if_pos rfl]
  exact cb_refl _
theorem one_gd {x : En} (h : placedE x = true) : gdA x.grp = true := by
  unfold placedE at h
  simp only [Bool.and_eq_true] at h
  exact h.1.2
theorem one_placed {x : En} (h : oneE x = true) : placedE x = true := by
  rw [oneE_of] at h
  simp only [Bool.and_eq_true] at h
  exact h.1.1.1.1
def mergeE : List En → List En → List En
  | [], M => M
  | a :: A, [] => a :: A
  | a :: A, b :: Bn => if cmpE a b = -1 then a :: mergeE A (b :: Bn) else if cmpE a b = 1 then b :: mergeE (a :: A) Bn else b :: mergeE A Bn
termination_by A B => A.length + B.length
section
variable {P A B : List En} {a b x : En}
theorem split_at (hP : ∀ y ∈ P, cmpE y x < 0) (h0 : 0 ≤ cmpE a x) (hA : ∀ y ∈ A, 0 < cmpE y x) : SplitE x (P ++ a :: A) P (a :: A) := .here hP h0 hA
theorem bs_at (h : SplitE x (P ++ B) P B) : bsF (P ++ B) x (P ++ B).length 0 (P ++ B).length = P.length := bs_split h
theorem step_del (hs : SplitE x (P ++ a :: A) P (a :: A)) (h0 : cmpE a x = 0) (hp : placedE x = true) : stepF (P ++ a :: A) ⟨x, true⟩ = P ++ A := by
  have hb := bs_at hs
  have hf := isF_here hs
  rw [h0] at hf
  have := stepF_del hp (R := P ++ a :: A) (by rw [hb]; exact hf)
  rw [this, hb, List.eraseIdx_append_of_length_le (Nat.le_refl _), Nat.sub_self]
  rfl
theorem step_rep (hs : SplitE x (P ++ a :: A) P (a :: A)) (h0 : cmpE a x = 0) (hx : oneE x = true) : stepF (P ++ a :: A) ⟨x, false⟩ = P ++ x :: A := by
  have hb := bs_at hs
  have hf := isF_here hs
  rw [h0] at hf
  have := stepF_rep (one_placed hx) hx (R := P ++ a :: A) (by rw [hb]; exact hf)
  rw [this, hb, List.set_append_right _ _ (Nat.le_refl _), Nat.sub_self]
  rfl
theorem step_ins (hs : SplitE x (P ++ B) P B) (h0 : ∀ y ∈ B, 0 < cmpE y x) (hx : oneE x = true) (hl : (P ++ B).length < 512) : stepF (P ++ B) ⟨x, false⟩ = P ++ x :: B := by
  have hb := bs_at hs
  have hf : isF (P ++ B) x P.length = false := by
    cases B with
    | nil => exact isF_last (by rw [List.append_nil] at hs ⊢; exact hs)
    | cons b B =>
      rw [isF_here hs]
      have := h0 b (by simp)
      simp; omega
  have := stepF_ins (one_placed hx) hx (R := P ++ B) (by rw [hb]; exact hf) hl
  rw [this, hb, List.take_left, List.drop_left]
theorem split_end (hP : ∀ y ∈ P, cmpE y x < 0) : SplitE x (P ++ []) P [] := by rw [List.append_nil]; exact .last hP
theorem cmp_pos {y x : En} (h : cmpE x y < 0) : 0 < cmpE y x := by rw [cmpE_anti x y]; omega
theorem cmp_neg {y x : En} (h : 0 < cmpE x y) : cmpE y x < 0 := by rw [cmpE_anti x y]; omega
end
def Ahead (P L : List En) : Prop := ∀ p ∈ P, ∀ y ∈ L, cmpE p y < 0
theorem Ahead.snoc {P L : List En} {b : En} (h : Ahead P L) (hb : ∀ y ∈ L, cmpE b y < 0) : Ahead (P ++ [b]) L := fun p hp y hy => by
  rcases List.mem_append.1 hp with hp | hp
  · exact h p hp y hy
  · obtain rfl := List.mem_singleton.1 hp; exact hb y hy
theorem Ahead.tail {P L : List En} {a : En} (h : Ahead P (a :: L)) : Ahead P L := fun p hp y hy => h p hp y (by simp [hy])
theorem snoc_app {P A : List En} {b : En} : P ++ b :: A = (P ++ [b]) ++ A := by simp
theorem eq_lt {a b y : En} (h0 : cmpE a b = 0) (h : cmpE a y < 0) : cmpE b y < 0 := by rw [← cmpE_zero h0 y]; exact h
theorem zero_comm {a b : En} (h : cmpE a b = 0) : cmpE b a = 0 := by rw [cmpE_anti a b]; omega
theorem del_head {P A : List En} {a : En} (h1 : ∀ y ∈ A, cmpE a y < 0) (pL : ∀ p ∈ P, cmpE p a < 0) (hp : placedE a = true) : stepF (P ++ a :: A) ⟨voidE a, true⟩ = P ++ A := by
  have hz : cmpE a (voidE a) = 0 := cmpE_self' a
  exact step_del (split_at pL (by omega) (fun y hy => cmp_pos (h1 y hy))) hz hp
theorem diff_makes : ∀ (L M P : List En), RiseE L → RiseE M → Ahead P L → Ahead P M → (∀ e ∈ L, oneE e = true) → (∀ e ∈ M, oneE e = true) → P.length + L.length + M.length < 512 → applyF (P ++ L) (diffF L M) = P ++ M
  | [], [], P, _, _, _, _, _, _, _ => by rw [diffF]; rfl
  | a :: A, [], P, hL, hM, pL, pM, oL, oM, hl => by
    obtain ⟨h1, h2⟩ := List.pairwise_cons.1 hL
    rw [diffF]
    show applyF (stepF (P ++ a :: A) ⟨voidE a, true⟩) _ = _
    rw [del_head h1 (fun y hy => pL y hy a (by simp)) (one_placed (oL a (by simp)))]
    exact diff_makes A [] P h2 hM pL.tail pM (fun e he => oL e (by simp [he])) oM (by simp at hl ⊢; omega)
  | [], b :: B, P, hL, hM, pL, pM, oL, oM, hl => by
    obtain ⟨h1, h2⟩ := List.pairwise_cons.1 hM
    rw [diffF]
    show applyF (stepF (P ++ []) ⟨b, false⟩) _ = _
    rw [step_ins (split_end (fun y hy => pM y hy b (by simp))) (by simp) (oM b (by simp)) (by simp at hl ⊢; omega), snoc_app (A := []), snoc_app (A := B)]
    exact diff_makes [] B (P ++ [b]) hL h2 (fun p hp y hy => by simp at hy) (pM.tail.snoc h1) oL (fun e he => oM e (by simp [he])) (by simp at hl ⊢; omega)
  | a :: A, b :: B, P, hL, hM, pL, pM, oL, oM, hl => by
    obtain ⟨h1, h2⟩ := List.pairwise_cons.1 hL
    obtain ⟨k1, k2⟩ := List.pairwise_cons.1 hM
    rw [diffF]
    by_cases c1 : cmpE a b = -1
    · rw [if_pos c1]
      show applyF (stepF (P ++ a :: A) ⟨voidE a, true⟩) _ = _
      rw [del_head h1 (fun y hy => pL y hy a (by simp)) (one_placed (oL a (by simp)))]
      exact diff_makes A (b :: B) P h2 hM pL.tail pM (fun e he => oL e (by simp [he])) oM (by simp at hl ⊢; omega)
    · rw [if_neg c1]
      by_cases c2 : cmpE a b = 1
      · rw [if_pos c2]
        show applyF (stepF (P ++ a :: A) ⟨b, false⟩) _ = _
        have hba : cmpE b a < 0 := cmp_neg (by omega)
        have hall : ∀ y ∈ a :: A, 0 < cmpE y b := fun y hy => by
          rcases List.mem_cons.1 hy with rfl | hy
          · omega
          · exact cmp_pos (cmpE_trans hba (h1 y hy))
        rw [step_ins (split_at (fun y hy => pM y hy b (by simp)) (by omega) (fun y hy => hall y (by simp [hy]))) hall (oM b (by simp)) (by simp at hl ⊢; omega), snoc_app (A := a :: A), snoc_app (A := B)]
        exact diff_makes (a :: A) B (P ++ [b]) hL k2 (pL.snoc (fun y hy => by have := hall y hy; exact cmp_neg this)) (pM.tail.snoc k1) oL (fun e he => oM e (by simp [he])) (by simp at hl ⊢; omega)
      · rw [if_neg c2]
        have c0 : cmpE a b = 0 := by rcases cmpE_three a b with h | h | h <;> omega
        have hbA : ∀ y ∈ A, cmpE b y < 0 := fun y hy => eq_lt c0 (h1 y hy)
        by_cases hs : sameE a b = true
        · rw [if_pos hs]
          obtain rfl := sameE_iff.1 hs
          rw [snoc_app (A := A), snoc_app (A := B)]
          exact diff_makes A B (P ++ [a]) h2 k2 (pL.tail.snoc h1) (pM.tail.snoc k1) (fun e he => oL e (by simp [he])) (fun e he => oM e (by simp [he])) (by simp at hl ⊢; omega)
        · rw [if_neg hs]
          show applyF (stepF (P ++ a :: A) ⟨b, false⟩) _ = _
          rw [step_rep (split_at (fun y hy => pM y hy b (by simp)) (by omega) (fun y hy => cmp_pos (hbA y hy))) c0 (oM b (by simp)), snoc_app (A := A), snoc_app (A := B)]
          exact diff_makes A B (P ++ [b]) h2 k2 (pL.tail.snoc hbA) (pM.tail.snoc k1) (fun e he => oL e (by simp [he])) (fun e he => oM e (by simp [he])) (by simp at hl ⊢; omega)
termination_by L M => L.length + M.length
theorem merge_makes : ∀ (L M P : List En), RiseE L → RiseE M → Ahead P L → Ahead P M → (∀ e ∈ M, oneE e = true) → P.length + L.length + M.length < 512 → applyF (P ++ L) (M.map fun e => ⟨e, false⟩) = P ++ mergeE L M
  | [], [], P, _, _, _, _, _, _ => by rw [mergeE]; rfl
  | a :: A, [], P, hL, hM, pL, pM, oM, hl => by rw [mergeE]; rfl
  | [], b :: B, P, hL, hM, pL, pM, oM, hl => by
    obtain ⟨h1, h2⟩ := List.pairwise_cons.1 hM
    show applyF (stepF (P ++ []) ⟨b, false⟩) _ = _
    rw [mergeE, step_ins (split_end (fun y hy => pM y hy b (by simp))) (by simp) (oM b (by simp)) (by simp at hl ⊢; omega), snoc_app (A := []), snoc_app (A := B)]
    have := merge_makes [] B (P ++ [b]) hL h2 (fun p hp y hy => by simp at hy) (pM.tail.snoc h1) (fun e he => oM e (by simp [he])) (by simp at hl ⊢; omega)
    rw [this, mergeE]
  | a :: A, b :: B, P, hL, hM, pL, pM, oM, hl => by
    obtain ⟨h1, h2⟩ := List.pairwise_cons.1 hL
    obtain ⟨k1, k2⟩ := List.pairwise_cons.1 hM
    rw [mergeE]
    by_cases c1 : cmpE a b = -1
    · rw [if_pos c1, snoc_app (A := A), snoc_app (A := mergeE A (b :: B))]
      have hab : ∀ y ∈ b :: B, cmpE a y < 0 := fun y hy => by
        rcases List.mem_cons.1 hy with rfl | hy
        · omega
        · exact cmpE_trans (show cmpE a b < 0 by omega) (k1 y hy)
      exact merge_makes A (b :: B) (P ++ [a]) h2 hM (pL.tail.snoc h1) (pM.snoc hab) oM (by simp at hl ⊢; omega)
    · rw [if_neg c1]
      by_cases c2 : cmpE a b = 1
      · rw [if_pos c2]
        show applyF (stepF (P ++ a :: A) ⟨b, false⟩) _ = _
        have hba : cmpE b a < 0 := cmp_neg (by omega)
        have hall : ∀ y ∈ a :: A, 0 < cmpE y b := fun y hy => by
          rcases List.mem_cons.1 hy with rfl | hy
          · omega
          · exact cmp_pos (cmpE_trans hba (h1 y hy))
        rw [step_ins (split_at (fun y hy => pM y hy b (by simp)) (by omega) (fun y hy => hall y (by simp [hy]))) hall (oM b (by simp)) (by simp at hl ⊢; omega), snoc_app (A := a :: A), snoc_app (A := mergeE (a :: A) B)]
        exact merge_makes (a :: A) B (P ++ [b]) hL k2 (pL.snoc (fun y hy => by have := hall y hy; exact cmp_neg this)) (pM.tail.snoc k1) (fun e he => oM e (by simp [he])) (by simp at hl ⊢; omega)
      · rw [if_neg c2]
        have c0 : cmpE a b = 0 := by rcases cmpE_three a b with h | h | h <;> omega
        have hbA : ∀ y ∈ A, cmpE b y < 0 := fun y hy => eq_lt c0 (h1 y hy)
        show applyF (stepF (P ++ a :: A) ⟨b, false⟩) _ = _
        rw [step_rep (split_at (fun y hy => pM y hy b (by simp)) (by omega) (fun y hy => cmp_pos (hbA y hy))) c0 (oM b (by simp)), snoc_app (A := A), snoc_app (A := mergeE A B)]
        exact merge_makes A B (P ++ [b]) h2 k2 (pL.tail.snoc hbA) (pM.tail.snoc k1) (fun e he => oM e (by simp [he])) (by simp at hl ⊢; omega)
termination_by L M => L.length + M.length
theorem diff_self : ∀ (L : List En), diffF L L = []
  | [] => by rw [diffF]
  | a :: A => by rw [diffF, if_neg (by rw [cmpE_self']; decide), if_neg (by rw [cmpE_self']; decide), if_pos (sameE_iff.2 rfl), diff_self A]
theorem diff_nil {L M : List En} (hL : GoodE L) (hM : GoodE M) (hl : L.length + M.length < 512) : diffF L M = [] ↔ L = M := by
  constructor
  · intro h
    have := diff_makes L M [] hL.rise hM.rise (fun p hp => by cases hp) (fun p hp => by cases hp) hL.one hM.one (by simpa using hl)
    rw [h] at this
    exact this
  · rintro rfl; exact diff_self L
theorem ofE_two {L M : List En} (hL : GoodE L) (hM : GoodE M) (hl : L.length + M.length < 512) : applyF [] ((L ++ M).map fun e => ⟨e, false⟩) = mergeE L M := by
  have h1 := merge_makes [] L [] List.Pairwise.nil hL.rise (fun p hp => by cases hp) (fun p hp => by cases hp) hL.one (by simp; omega)
  have h2 := merge_makes L M [] hL.rise hM.rise (fun p hp => by cases hp) (fun p hp => by cases hp) hM.one (by simpa using hl)
  have h3 : mergeE [] L = L := by rw [mergeE]
  rw [h3] at h1
  simp only [List.nil_append] at h1 h2
  unfold applyF at h1 h2 ⊢
  rw [List.map_append, List.foldl_append, h1, h2]
def lookE (L : List En) (x : En) : Option En := L.find? fun a => cmpE a x == 0
def chgE (L M : List En) (x : En) : List Ch := match lookE M x with
  | none => [⟨voidE x, true⟩]
  | some b => match lookE L x with
    | none => [⟨b, false⟩]
    | some a => if sameF a.ex b.ex a.src b.src then [] else [⟨b, false⟩]
theorem look_skip {A : List En} {a x : En} (h : cmpE a x ≠ 0) : lookE (a :: A) x = lookE A x := by
  have e : (cmpE a x == 0) = false := by simpa using h
  unfold lookE
  rw [List.find?_cons, e]
theorem look_hit {A : List En} {a x : En} (h : cmpE a x = 0) : lookE (a :: A) x = some a := by
  have e : (cmpE a x == 0) = true := by simpa using h
  unfold lookE
  rw [List.find?_cons, e]
theorem look_none {A : List En} {x : En} (h : ∀ a ∈ A, cmpE a x ≠ 0) : lookE A x = none := by unfold lookE; rw [List.find?_eq_none]; intro a ha; simpa using h a ha
theorem merge_mem : ∀ {L M : List En} {y : En}, y ∈ mergeE L M → y ∈ L ∨ y ∈ M
  | [], M, y, h => by rw [mergeE] at h; exact .inr h
  | a :: A, [], y, h => by rw [mergeE] at h; exact .inl h
  | a :: A, b :: B, y, h => by
    rw [mergeE] at h
    split at h
    · rcases List.mem_cons.1 h with rfl | h
      · simp
      · rcases merge_mem h with h | h
        · left; simp [h]
        · right; exact h
    · split at h
      · rcases List.mem_cons.1 h with rfl | h
        · simp
        · rcases merge_mem h with h | h
          · left; exact h
          · right; simp [h]
      · rcases List.mem_cons.1 h with rfl | h
        · simp
        · rcases merge_mem h with h | h
          · left; simp [h]
          · right; simp [h]
termination_by L M => L.length + M.length
theorem flat_congr {f g : En → List Ch} : ∀ {L : List En}, (∀ x ∈ L, f x = g x) → L.flatMap f = L.flatMap g
  | [], _ => rfl
  | a :: L, h => by rw [List.flatMap_cons, List.flatMap_cons, h a (by simp), flat_congr (fun x hx => h x (by simp [hx]))]
theorem diff_flat : ∀ (L M : List En), RiseE L → RiseE M → (∀ e ∈ L, oneE e = true) → (∀ e ∈ M, oneE e = true) → diffF L M = (mergeE L M).flatMap (chgE L M)
  | [], [], _, _, _, _ => by rw [diffF, mergeE]; rfl
  | a :: A, [], hL, hM, oL, oM => by
    obtain ⟨h1, h2⟩ := List.pairwise_cons.1 hL
    have ih := diff_flat A [] h2 hM (fun e he => oL e (by simp [he])) oM
    have e : mergeE A [] = A := by cases A <;> rw [mergeE]
    rw [e] at ih
    rw [diffF, ih, mergeE, List.flatMap_cons]
    have e1 : ∀ x, chgE (a :: A) [] x = [⟨voidE x, true⟩] := fun x => rfl
    have e2 : ∀ x, chgE A [] x = [⟨voidE x, true⟩] := fun x => rfl
    rw [e1, flat_congr (fun x _ => (e1 x).trans (e2 x).symm)]
    rfl
  | [], b :: B, hL, hM, oL, oM => by
    obtain ⟨h1, h2⟩ := List.pairwise_cons.1 hM
    have ih := diff_flat [] B hL h2 oL (fun e he => oM e (by simp [he]))
    have e : mergeE [] B = B := by rw [mergeE]
    rw [e] at ih
    rw [diffF, ih, mergeE, List.flatMap_cons]
    have e1 : chgE [] (b :: B) b = [⟨b, false⟩] := by unfold chgE; rw [look_hit (cmpE_self' b)]; rfl
    rw [e1, flat_congr (f := chgE [] (b :: B)) (g := chgE [] B) (fun x hx => by unfold chgE; rw [look_skip (by have := h1 x hx; omega)])]
    rfl
  | a :: A, b :: B, hL, hM, oL, oM => by
    have oA : ∀ e ∈ A, oneE e = true := fun e he => oL e (by simp [he])
    have oB : ∀ e ∈ B, oneE e = true := fun e he => oM e (by simp [he])
    obtain ⟨h1, h2⟩ := List.pairwise_cons.1 hL
    obtain ⟨k1, k2⟩ := List.pairwise_cons.1 hM
    rw [diffF, mergeE]
    by_cases c1 : cmpE a b = -1
    · have hab : ∀ y ∈ b :: B, cmpE a y < 0 := fun y hy => by
        rcases List.mem_cons.1 hy with rfl | hy
        · omega
        · exact cmpE_trans (show cmpE a b < 0 by omega) (k1 y hy)
      rw [if_pos c1, if_pos c1, List.flatMap_cons, diff_flat A (b :: B) h2 hM oA oM]
      have e1 : chgE (a :: A) (b :: B) a = [⟨voidE a, true⟩] := by
        unfold chgE
        rw [look_none (fun y hy => by have := cmp_pos (hab y hy); omega)]
      rw [e1, flat_congr (f := chgE (a :: A) (b :: B)) (g := chgE A (b :: B)) (fun x hx => by
        have : cmpE a x < 0 := by rcases merge_mem hx with h | h; exact h1 x h; exact hab x h
        unfold chgE; rw [look_skip (A := A) (a := a) (by omega)])]
      rfl
    · rw [if_neg c1, if_neg c1]
      by_cases c2 : cmpE a b = 1
      · have hba : cmpE b a < 0 := cmp_neg (by omega)
        have hb : ∀ y ∈ a :: A, cmpE b y < 0 := fun y hy => by
          rcases List.mem_cons.1 hy with rfl | hy
          · exact hba
          · exact cmpE_trans hba (h1 y hy)
        rw [if_pos c2, if_pos c2, List.flatMap_cons, diff_flat (a :: A) B hL k2 oL oB]
        have e1 : chgE (a :: A) (b :: B) b = [⟨b, false⟩] := by
          unfold chgE
          rw [look_hit (cmpE_self' b), look_none (A := a :: A) (fun y hy => by have := cmp_pos (hb y hy); omega)]
        rw [e1, flat_congr (f := chgE (a :: A) (b :: B)) (g := chgE (a :: A) B) (fun x hx => by
          have : cmpE b x < 0 := by rcases merge_mem hx with h | h; exact hb x h; exact k1 x h
          unfold chgE; rw [look_skip (A := B) (a := b) (by omega)])]
        rfl
      · have c0 : cmpE a b = 0 := by rcases cmpE_three a b with h | h | h <;> omega
        rw [if_neg c2, if_neg c2, List.flatMap_cons, diff_flat A B h2 k2 oA oB]
        have e1 : chgE (a :: A) (b :: B) b = if sameF a.ex b.ex a.src b.src then [] else [⟨b, false⟩] := by
          unfold chgE
          rw [look_hit (cmpE_self' b), look_hit c0]
        rw [e1, flat_congr (f := chgE (a :: A) (b :: B)) (g := chgE A B) (fun x hx => by
          have ha : cmpE a x < 0 := by rcases merge_mem hx with h | h; exact h1 x h; exact eq_lt (zero_comm c0) (k1 x h)
          have hb : cmpE b x < 0 := by rcases merge_mem hx with h | h; exact eq_lt c0 (h1 x h); exact k1 x h
          unfold chgE; rw [look_skip (A := B) (a := b) (by omega), look_skip (A := A) (a := a) (by omega)])]
        have hg : a.grp = b.grp := cmpA_eq (one_gd (one_placed (oL a (by simp)))) (one_gd (one_placed (oM b (by simp)))) (cmpE_0 c0).2
        have hs : sameE a b = sameF a.ex b.ex a.src b.src := by unfold sameE; rw [(cmpE_0 c0).1, hg]; simp
        rw [hs]
        cases sameF a.ex b.ex a.src b.src <;> rfl
termination_by L M => L.length + M.length
end
section
open Go.ChangeShapes Go.WideShapes Go.ChangeAt Go.RowKit
set_option linter.unusedVariables false
set_option linter.unusedSimpArgs false
set_option maxRecDepth 20000
attribute [local irreducible] wpList

open Classical in
noncomputable def eqE (L M : List En) : Bool := decide (L = M)
theorem eqE_self (L : List En) : eqE L L = true := by unfold eqE; simp
open Classical in
theorem eqE_no {L M : List En} (h : L ≠ M) : eqE L M = false := by unfold eqE; exact decide_eq_false h
section
variable {w : World} {p p' : Option Addr} {c c' : Nat} {L M : List En}
set_option maxHeartbeats 8000000 in
theorem rSameEn_any (h : EnsAt w p L) (h' : EnsAt w p' M) (gL : ∀ e ∈ L, gdA e.grp = true) (gM : ∀ e ∈ M, gdA e.grp = true) : Gives Try.prog 24 #[.slice p L.length c, .slice p' M.length c'] w (.bool (eqE L M)) := by
  have hl := h.1
  have hl' := h'.1
  have HA := Lib.hid h
  have HB := Lib.hid h'
  have GL := Lib.hid gL
  have GM := Lib.hid gM
  clear h h' gL gM
  refine Gives.of ?_
  have hH := Hp.refl w
  by_cases hlen : L.length = M.length
  rotate_left
  · have e : eqE L M = false := eqE_no (fun h => hlen (by rw [h]))
    rw [e]
    clear e
    have hn : ((L.length : Int) != (M.length : Int)) = true := by simp; omega
    go_enter Try.func24, Try.ntmps24
    go_wp2_with (fail)
    go_ret
    exact ⟨rfl, hH.below⟩
  have hn : ((L.length : Int) != (M.length : Int)) = false := by simp; omega
  obtain ⟨res, hres⟩ : ∃ r, eqE L M = r := ⟨_, rfl⟩
  rw [hres]
  have HY := Lib.hid (show L = M → res = true from fun e => by rw [← hres, e]; exact eqE_self M)
  have HN := Lib.hid (show L ≠ M → res = false from fun e => by rw [← hres]; exact eqE_no e)
  clear hres
  go_enter Try.func24, Try.ntmps24
  go_wp2_with (fail)
  go_loopw [5] (fun i wr => ∃ j : Nat, i = .int .i64 (j : Int) ∧ j ≤ L.length ∧ L.take j = M.take j ∧ Hp w.heap.size w wr []) (fun i _ => L.length - (intOf i).toNat)
  case atStart => exact ⟨0, rfl, by omega, rfl, hH⟩
  case round =>
    clear hH
    obtain ⟨j, rfl, hj, hT, hH⟩ := hrel
    by_cases hjl : j < L.length
    · have hj2 : j < M.length := by omega
      obtain ⟨q, s, cs, hq, fA, fS⟩ := HA.out.get hjl
      obtain ⟨q', s', cs', hq', fB, fS'⟩ := HB.out.get hj2
      subst hq
      subst hq'
      have dj : decide ((j : Int) < (L.length : Int)) = true := decide_eq_true (by omega)
      have HS := Lib.hid (fun e => take_snoc_eq hT hjl hj2 e)
      have HD := Lib.hid (fun e => HN.out (ne_of_at hjl hj2 e))
      have g1 := GL.out _ (List.getElem_mem hjl)
      have g2 := GM.out _ (List.getElem_mem hj2)
      clear hT hlen hn
      have fX := fA.cellS enS_18
      have fX' := fB.cellS enS_18
      have fL := fA.cellS enS_19
      have fL' := fB.cellS enS_19
      have fC : ∀ w, Gives Try.prog 33 #[.agg (fls (enS L[j] s cs)).toArray, .agg (fls (enS M[j] s' cs')).toArray] w (.int .i64 (cmpE L[j] M[j])) := fun w => rCompare_any
      clear HA HB HN HY GL GM
      have hz0 : cmpE L[j] M[j] = 0 → L[j].vlan = M[j].vlan ∧ L[j].grp = M[j].grp := fun hz => ⟨(cmpE_0 hz).1, cmpA_eq g1 g2 (cmpE_0 hz).2⟩
      have HZ := Lib.hid hz0
      clear hz0 g1 g2
      unfold enS at fA fB fC
      generalize L[j] = x at *
      generalize M[j] = y at *
      obtain ⟨kx, Gx, ex, lx⟩ := x
      obtain ⟨ky, Gy, ey, ly⟩ := y
      simp only at fA fB fC fX fX' fL fL' fS fS' HZ
      have FS := Lib.hid fS
      have FS' := Lib.hid fS'
      clear fS fS'
      have oA := adL_ok Gx
      have oB := adL_ok Gy
      obtain ⟨z, hz⟩ : ∃ z, cmpE ⟨kx, Gx, ex, lx⟩ ⟨ky, Gy, ey, ly⟩ = z := ⟨_, rfl⟩
      rw [hz] at fC HZ
      have hzne : z ≠ 0 → (⟨kx, Gx, ex, lx⟩ : En) ≠ ⟨ky, Gy, ey, ly⟩ := fun hn e => hn (by rw [← hz, e]; exact cmpE_self _)
      clear hz
      generalize adL Gx = YX at *
      generalize adL Gy = YY at *
      by_cases hz : z = 0
      rotate_left
      · have dz : (z != 0) = true := by simpa using hz
        obtain rfl := HD.out (hzne hz)
        clear HS HD HZ hzne hz FS FS'
        go_wp2_with (fail)
        ((with_reducible refine regKN [] hH (SubH.refl) (by kernel_rfl) ?_); (clear hH; intro W hH); (refine hk_pures (fuel := 36) (pk 0 rfl (pk 1 rfl (pk 2 rfl (pk 4 rfl (pk 5 rfl (pk 6 rfl (PickR.nil))))))) (by kernel_rfl) (by kernel_rfl) (fun _ _ _ _ _ h => h) ?_; (repeat (go_big_quiet_step (fail))); refine hk_nil ?_); (refine hk_loads (fuel := 34) (pk 3 rfl (pk 7 rfl (PickR.nil))) (by kernel_rfl) (by kernel_rfl) (fun _ _ _ _ _ h => h) hH ?_ ?_; (focus (exact SubI.h)); intro hne; (repeat (first | (go_big_quiet_want; (first | ((first | (refine qLoR tab_ok rfl rfl rfl rfl ?_; (first | refine ⟨_, fA, ⟨rfl, oA, rfl, rfl, trivial⟩, rfl, ?_⟩ | refine ⟨_, fB, ⟨rfl, oB, rfl, rfl, trivial⟩, rfl, ?_⟩)) | (refine qLo tab_ok rfl rfl rfl rfl ?_; refine ⟨?_, ?_, ?_⟩; rotate_left; (focus (first | exact fX | exact fX' | exact fL | exact fL')))))); (try simp only [Act.put, pA, pB, pC]); go_big_quiet_on) | go_big_quiet_step (fail))); refine hk_nil ?_; clear hne); (refine hk_one (fuel := 33) 8 rfl (by kernel_rfl) ?_; go_wp2_with (first | ((first | ((with_reducible refine callH hH ?_); refine ⟨?_, ?_, ?_⟩; rotate_left; (focus (first | (with_reducible exact fC _))))); clear hH; (first | intro W g hH | intro W hH); ((try simp only [Act.put, pA, pB, pC])))); refine hkQ_normal hH ?_ ?_; (focus (exact SubI.h)); (try simp only [Act.put, pA, pB, pC])); (refine hk_pures (fuel := 21) (pk 9 rfl (pk 10 rfl (pk 11 rfl (pk 12 rfl (pk 13 rfl (pk 14 rfl (pk 15 rfl (pk 17 rfl (pk 18 rfl (pk 19 rfl (pk 20 rfl (pk 21 rfl (PickR.nil))))))))))))) (by kernel_rfl) (by kernel_rfl) (fun _ _ _ _ _ h => h) ?_; (repeat (go_big_quiet_step (fail))); refine hk_nil ?_); (refine hk_loads (fuel := 19) (pk 16 rfl (pk 22 rfl (PickR.nil))) (by kernel_rfl) (by kernel_rfl) (fun _ _ _ _ _ h => h) hH ?_ ?_; (focus (exact SubI.h)); intro hne; (repeat (go_big_quiet_step (fail))); refine hk_nil ?_; clear hne); (refine hk_pures (fuel := 6) (pk 23 rfl (pk 24 rfl (pk 25 rfl (pk 26 rfl (pk 27 rfl (pk 28 rfl (pk 29 rfl (pk 30 rfl (pk 33 rfl (pk 34 rfl (pk 35 rfl (pk 36 rfl (pk 37 rfl (PickR.nil)))))))))))))) (by kernel_rfl) (by kernel_rfl) (fun _ _ _ _ _ h => h) ?_; (repeat (go_big_quiet_step (fail))); refine hk_nil ?_); (refine hk_loads (fuel := 5) (pk 31 rfl (PickR.nil)) (by kernel_rfl) (by kernel_rfl) (fun _ _ _ _ _ h => h) hH ?_ ?_; (focus (exact SubI.h)); intro hne; (repeat (go_big_quiet_step (fail))); refine hk_nil ?_; clear hne); (refine hk_pures (fuel := 4) (pk 32 rfl (PickR.nil)) (by kernel_rfl) (by kernel_rfl) (fun _ _ _ _ _ h => h) ?_; (repeat (go_big_quiet_step (fail))); refine hk_nil ?_); (refine hk_loads (fuel := 3) (pk 38 rfl (PickR.nil)) (by kernel_rfl) (by kernel_rfl) (fun _ _ _ _ _ h => h) hH ?_ ?_; (focus (exact SubI.h)); intro hne; (repeat (go_big_quiet_step (fail))); refine hk_nil ?_; clear hne); (refine hk_pures (fuel := 0) (pk 39 rfl (pk 40 rfl (pk 41 rfl (PickR.nil)))) (by kernel_rfl) (by kernel_rfl) (fun _ _ _ _ _ h => h) ?_; (repeat (go_big_quiet_step (fail))); refine hk_nil ?_); refine hk_endN (by kernel_rfl) ?_)
        go_wp2_with (fail)
        go_ret
        exact ⟨rfl, hH.below⟩
      subst hz
      obtain ⟨e1, e2⟩ := HZ.out rfl
      by_cases he : ex = ey
      rotate_left
      · have de : (ex != ey) = true := by simpa using he
        have de2 : (ex ^^ ey) = true := by simpa using he
        have de3 : (ex == ey) = false := by simpa using he
        obtain rfl := HD.out (fun e => he (by injection e))
        clear HS HD HZ hzne FS FS' e1 e2
        go_wp2_with (fail)
        ((with_reducible refine regKN [] hH (SubH.refl) (by kernel_rfl) ?_); (clear hH; intro W hH); (refine hk_pures (fuel := 36) (pk 0 rfl (pk 1 rfl (pk 2 rfl (pk 4 rfl (pk 5 rfl (pk 6 rfl (PickR.nil))))))) (by kernel_rfl) (by kernel_rfl) (fun _ _ _ _ _ h => h) ?_; (repeat (go_big_quiet_step (fail))); refine hk_nil ?_); (refine hk_loads (fuel := 34) (pk 3 rfl (pk 7 rfl (PickR.nil))) (by kernel_rfl) (by kernel_rfl) (fun _ _ _ _ _ h => h) hH ?_ ?_; (focus (exact SubI.h)); intro hne; (repeat (first | (go_big_quiet_want; (first | ((first | (refine qLoR tab_ok rfl rfl rfl rfl ?_; (first | refine ⟨_, fA, ⟨rfl, oA, rfl, rfl, trivial⟩, rfl, ?_⟩ | refine ⟨_, fB, ⟨rfl, oB, rfl, rfl, trivial⟩, rfl, ?_⟩)) | (refine qLo tab_ok rfl rfl rfl rfl ?_; refine ⟨?_, ?_, ?_⟩; rotate_left; (focus (first | exact fX | exact fX' | exact fL | exact fL')))))); (try simp only [Act.put, pA, pB, pC]); go_big_quiet_on) | go_big_quiet_step (fail))); refine hk_nil ?_; clear hne); (refine hk_one (fuel := 33) 8 rfl (by kernel_rfl) ?_; go_wp2_with (first | ((first | ((with_reducible refine callH hH ?_); refine ⟨?_, ?_, ?_⟩; rotate_left; (focus (first | (with_reducible exact fC _))))); clear hH; (first | intro W g hH | intro W hH); ((try simp only [Act.put, pA, pB, pC])))); refine hkQ_normal hH ?_ ?_; (focus (exact SubI.h)); (try simp only [Act.put, pA, pB, pC])); (refine hk_pures (fuel := 21) (pk 9 rfl (pk 10 rfl (pk 11 rfl (pk 12 rfl (pk 13 rfl (pk 14 rfl (pk 15 rfl (pk 17 rfl (pk 18 rfl (pk 19 rfl (pk 20 rfl (pk 21 rfl (PickR.nil))))))))))))) (by kernel_rfl) (by kernel_rfl) (fun _ _ _ _ _ h => h) ?_; (repeat (go_big_quiet_step (fail))); refine hk_nil ?_); (refine hk_loads (fuel := 19) (pk 16 rfl (pk 22 rfl (PickR.nil))) (by kernel_rfl) (by kernel_rfl) (fun _ _ _ _ _ h => h) hH ?_ ?_; (focus (exact SubI.h)); intro hne; (repeat (first | (go_big_quiet_want; (first | ((first | (refine qLoR tab_ok rfl rfl rfl rfl ?_; (first | refine ⟨_, fA, ⟨rfl, oA, rfl, rfl, trivial⟩, rfl, ?_⟩ | refine ⟨_, fB, ⟨rfl, oB, rfl, rfl, trivial⟩, rfl, ?_⟩)) | (refine qLo tab_ok rfl rfl rfl rfl ?_; refine ⟨?_, ?_, ?_⟩; rotate_left; (focus (first | exact fX | exact fX' | exact fL | exact fL')))))); (try simp only [Act.put, pA, pB, pC]); go_big_quiet_on) | go_big_quiet_step (fail))); refine hk_nil ?_; clear hne); (refine hk_pures (fuel := 6) (pk 23 rfl (pk 24 rfl (pk 25 rfl (pk 26 rfl (pk 27 rfl (pk 28 rfl (pk 29 rfl (pk 30 rfl (pk 33 rfl (pk 34 rfl (pk 35 rfl (pk 36 rfl (pk 37 rfl (PickR.nil)))))))))))))) (by kernel_rfl) (by kernel_rfl) (fun _ _ _ _ _ h => h) ?_; (repeat (go_big_quiet_step (fail))); refine hk_nil ?_); (refine hk_loads (fuel := 5) (pk 31 rfl (PickR.nil)) (by kernel_rfl) (by kernel_rfl) (fun _ _ _ _ _ h => h) hH ?_ ?_; (focus (exact SubI.h)); intro hne; (repeat (go_big_quiet_step (fail))); refine hk_nil ?_; clear hne); (refine hk_pures (fuel := 4) (pk 32 rfl (PickR.nil)) (by kernel_rfl) (by kernel_rfl) (fun _ _ _ _ _ h => h) ?_; (repeat (go_big_quiet_step (fail))); refine hk_nil ?_); (refine hk_loads (fuel := 3) (pk 38 rfl (PickR.nil)) (by kernel_rfl) (by kernel_rfl) (fun _ _ _ _ _ h => h) hH ?_ ?_; (focus (exact SubI.h)); intro hne; (repeat (go_big_quiet_step (fail))); refine hk_nil ?_; clear hne); (refine hk_pures (fuel := 0) (pk 39 rfl (pk 40 rfl (pk 41 rfl (PickR.nil)))) (by kernel_rfl) (by kernel_rfl) (fun _ _ _ _ _ h => h) ?_; (repeat (go_big_quiet_step (fail))); refine hk_nil ?_); refine hk_endN (by kernel_rfl) ?_)
        go_wp2_with (fail)
        go_ret
        exact ⟨rfl, hH.below⟩
      subst he
      have de : (ex != ex) = false := by simp
      by_cases hll : lx.length = ly.length
      rotate_left
      · have dl : ((lx.length : Int) != (ly.length : Int)) = true := by simp; omega
        obtain rfl := HD.out (fun e => hll (by injection e with _ _ _ e; rw [e]))
        have hl1 : lx.length ≤ 9223372036854775807 := FS.out.1
        have hl2 : ly.length ≤ 9223372036854775807 := FS'.out.1
        clear HS HD HZ hzne FS FS' e1 e2 hll
        go_wp2_with (fail)
        ((with_reducible refine regKN [] hH (SubH.refl) (by kernel_rfl) ?_); (clear hH; intro W hH); (refine hk_pures (fuel := 36) (pk 0 rfl (pk 1 rfl (pk 2 rfl (pk 4 rfl (pk 5 rfl (pk 6 rfl (PickR.nil))))))) (by kernel_rfl) (by kernel_rfl) (fun _ _ _ _ _ h => h) ?_; (repeat (go_big_quiet_step (fail))); refine hk_nil ?_); (refine hk_loads (fuel := 34) (pk 3 rfl (pk 7 rfl (PickR.nil))) (by kernel_rfl) (by kernel_rfl) (fun _ _ _ _ _ h => h) hH ?_ ?_; (focus (exact SubI.h)); intro hne; (repeat (first | (go_big_quiet_want; (first | ((first | (refine qLoR tab_ok rfl rfl rfl rfl ?_; (first | refine ⟨_, fA, ⟨rfl, oA, rfl, rfl, trivial⟩, rfl, ?_⟩ | refine ⟨_, fB, ⟨rfl, oB, rfl, rfl, trivial⟩, rfl, ?_⟩)) | (refine qLo tab_ok rfl rfl rfl rfl ?_; refine ⟨?_, ?_, ?_⟩; rotate_left; (focus (first | exact fX | exact fX' | exact fL | exact fL')))))); (try simp only [Act.put, pA, pB, pC]); go_big_quiet_on) | go_big_quiet_step (fail))); refine hk_nil ?_; clear hne); (refine hk_one (fuel := 33) 8 rfl (by kernel_rfl) ?_; go_wp2_with (first | ((first | ((with_reducible refine callH hH ?_); refine ⟨?_, ?_, ?_⟩; rotate_left; (focus (first | (with_reducible exact fC _))))); clear hH; (first | intro W g hH | intro W hH); ((try simp only [Act.put, pA, pB, pC])))); refine hkQ_normal hH ?_ ?_; (focus (exact SubI.h)); (try simp only [Act.put, pA, pB, pC])); (refine hk_pures (fuel := 21) (pk 9 rfl (pk 10 rfl (pk 11 rfl (pk 12 rfl (pk 13 rfl (pk 14 rfl (pk 15 rfl (pk 17 rfl (pk 18 rfl (pk 19 rfl (pk 20 rfl (pk 21 rfl (PickR.nil))))))))))))) (by kernel_rfl) (by kernel_rfl) (fun _ _ _ _ _ h => h) ?_; (repeat (go_big_quiet_step (fail))); refine hk_nil ?_); (refine hk_loads (fuel := 19) (pk 16 rfl (pk 22 rfl (PickR.nil))) (by kernel_rfl) (by kernel_rfl) (fun _ _ _ _ _ h => h) hH ?_ ?_; (focus (exact SubI.h)); intro hne; (repeat (first | (go_big_quiet_want; (first | ((first | (refine qLoR tab_ok rfl rfl rfl rfl ?_; (first | refine ⟨_, fA, ⟨rfl, oA, rfl, rfl, trivial⟩, rfl, ?_⟩ | refine ⟨_, fB, ⟨rfl, oB, rfl, rfl, trivial⟩, rfl, ?_⟩)) | (refine qLo tab_ok rfl rfl rfl rfl ?_; refine ⟨?_, ?_, ?_⟩; rotate_left; (focus (first | exact fX | exact fX' | exact fL | exact fL')))))); (try simp only [Act.put, pA, pB, pC]); go_big_quiet_on) | go_big_quiet_step (fail))); refine hk_nil ?_; clear hne); (refine hk_pures (fuel := 6) (pk 23 rfl (pk 24 rfl (pk 25 rfl (pk 26 rfl (pk 27 rfl (pk 28 rfl (pk 29 rfl (pk 30 rfl (pk 33 rfl (pk 34 rfl (pk 35 rfl (pk 36 rfl (pk 37 rfl (PickR.nil)))))))))))))) (by kernel_rfl) (by kernel_rfl) (fun _ _ _ _ _ h => h) ?_; (repeat (go_big_quiet_step (fail))); refine hk_nil ?_); (refine hk_loads (fuel := 5) (pk 31 rfl (PickR.nil)) (by kernel_rfl) (by kernel_rfl) (fun _ _ _ _ _ h => h) hH ?_ ?_; (focus (exact SubI.h)); intro hne; (repeat (first | (go_big_quiet_want; (first | ((first | (refine qLoR tab_ok rfl rfl rfl rfl ?_; (first | refine ⟨_, fA, ⟨rfl, oA, rfl, rfl, trivial⟩, rfl, ?_⟩ | refine ⟨_, fB, ⟨rfl, oB, rfl, rfl, trivial⟩, rfl, ?_⟩)) | (refine qLo tab_ok rfl rfl rfl rfl ?_; refine ⟨?_, ?_, ?_⟩; rotate_left; (focus (first | exact fX | exact fX' | exact fL | exact fL')))))); (try simp only [Act.put, pA, pB, pC]); go_big_quiet_on) | go_big_quiet_step (fail))); refine hk_nil ?_; clear hne); (refine hk_pures (fuel := 4) (pk 32 rfl (PickR.nil)) (by kernel_rfl) (by kernel_rfl) (fun _ _ _ _ _ h => h) ?_; (repeat (go_big_quiet_step (fail))); refine hk_nil ?_); (refine hk_loads (fuel := 3) (pk 38 rfl (PickR.nil)) (by kernel_rfl) (by kernel_rfl) (fun _ _ _ _ _ h => h) hH ?_ ?_; (focus (exact SubI.h)); intro hne; (repeat (first | (go_big_quiet_want; (first | ((first | (refine qLoR tab_ok rfl rfl rfl rfl ?_; (first | refine ⟨_, fA, ⟨rfl, oA, rfl, rfl, trivial⟩, rfl, ?_⟩ | refine ⟨_, fB, ⟨rfl, oB, rfl, rfl, trivial⟩, rfl, ?_⟩)) | (refine qLo tab_ok rfl rfl rfl rfl ?_; refine ⟨?_, ?_, ?_⟩; rotate_left; (focus (first | exact fX | exact fX' | exact fL | exact fL')))))); (try simp only [Act.put, pA, pB, pC]); go_big_quiet_on) | go_big_quiet_step (fail))); refine hk_nil ?_; clear hne); (refine hk_pures (fuel := 0) (pk 39 rfl (pk 40 rfl (pk 41 rfl (PickR.nil)))) (by kernel_rfl) (by kernel_rfl) (fun _ _ _ _ _ h => h) ?_; (repeat (go_big_quiet_step (fail))); refine hk_nil ?_); refine hk_endN (by kernel_rfl) ?_)
        go_wp2_with (fail)
        go_ret
        exact ⟨rfl, hH.below⟩
      have dl : ((lx.length : Int) != (ly.length : Int)) = false := by simp; omega
      have HSRC := Lib.hid (show lx = ly → (⟨kx, Gx, ex, lx⟩ : En) = ⟨ky, Gy, ex, ly⟩ from fun e => by rw [e1, e2, e])
      have HSNE := Lib.hid (show lx ≠ ly → (⟨kx, Gx, ex, lx⟩ : En) ≠ ⟨ky, Gy, ex, ly⟩ from fun e h => e (by injection h))
      have HLL := Lib.hid hll
      clear HZ hzne e1 e2 hll
      go_wp2_with (fail)
      ((with_reducible refine regKN [] hH (SubH.refl) (by kernel_rfl) ?_); (clear hH; intro W hH); (refine hk_pures (fuel := 36) (pk 0 rfl (pk 1 rfl (pk 2 rfl (pk 4 rfl (pk 5 rfl (pk 6 rfl (PickR.nil))))))) (by kernel_rfl) (by kernel_rfl) (fun _ _ _ _ _ h => h) ?_; (repeat (go_big_quiet_step (fail))); refine hk_nil ?_); (refine hk_loads (fuel := 34) (pk 3 rfl (pk 7 rfl (PickR.nil))) (by kernel_rfl) (by kernel_rfl) (fun _ _ _ _ _ h => h) hH ?_ ?_; (focus (exact SubI.h)); intro hne; (repeat (first | (go_big_quiet_want; (first | ((first | (refine qLoR tab_ok rfl rfl rfl rfl ?_; (first | refine ⟨_, fA, ⟨rfl, oA, rfl, rfl, trivial⟩, rfl, ?_⟩ | refine ⟨_, fB, ⟨rfl, oB, rfl, rfl, trivial⟩, rfl, ?_⟩)) | (refine qLo tab_ok rfl rfl rfl rfl ?_; refine ⟨?_, ?_, ?_⟩; rotate_left; (focus (first | exact fX | exact fX' | exact fL | exact fL')))))); (try simp only [Act.put, pA, pB, pC]); go_big_quiet_on) | go_big_quiet_step (fail))); refine hk_nil ?_; clear hne); (refine hk_one (fuel := 33) 8 rfl (by kernel_rfl) ?_; go_wp2_with (first | ((first | ((with_reducible refine callH hH ?_); refine ⟨?_, ?_, ?_⟩; rotate_left; (focus (first | (with_reducible exact fC _))))); clear hH; (first | intro W g hH | intro W hH); ((try simp only [Act.put, pA, pB, pC])))); refine hkQ_normal hH ?_ ?_; (focus (exact SubI.h)); (try simp only [Act.put, pA, pB, pC])); (refine hk_pures (fuel := 21) (pk 9 rfl (pk 10 rfl (pk 11 rfl (pk 12 rfl (pk 13 rfl (pk 14 rfl (pk 15 rfl (pk 17 rfl (pk 18 rfl (pk 19 rfl (pk 20 rfl (pk 21 rfl (PickR.nil))))))))))))) (by kernel_rfl) (by kernel_rfl) (fun _ _ _ _ _ h => h) ?_; (repeat (go_big_quiet_step (fail))); refine hk_nil ?_); (refine hk_loads (fuel := 19) (pk 16 rfl (pk 22 rfl (PickR.nil))) (by kernel_rfl) (by kernel_rfl) (fun _ _ _ _ _ h => h) hH ?_ ?_; (focus (exact SubI.h)); intro hne; (repeat (first | (go_big_quiet_want; (first | ((first | (refine qLoR tab_ok rfl rfl rfl rfl ?_; (first | refine ⟨_, fA, ⟨rfl, oA, rfl, rfl, trivial⟩, rfl, ?_⟩ | refine ⟨_, fB, ⟨rfl, oB, rfl, rfl, trivial⟩, rfl, ?_⟩)) | (refine qLo tab_ok rfl rfl rfl rfl ?_; refine ⟨?_, ?_, ?_⟩; rotate_left; (focus (first | exact fX | exact fX' | exact fL | exact fL')))))); (try simp only [Act.put, pA, pB, pC]); go_big_quiet_on) | go_big_quiet_step (fail))); refine hk_nil ?_; clear hne); (refine hk_pures (fuel := 6) (pk 23 rfl (pk 24 rfl (pk 25 rfl (pk 26 rfl (pk 27 rfl (pk 28 rfl (pk 29 rfl (pk 30 rfl (pk 33 rfl (pk 34 rfl (pk 35 rfl (pk 36 rfl (pk 37 rfl (PickR.nil)))))))))))))) (by kernel_rfl) (by kernel_rfl) (fun _ _ _ _ _ h => h) ?_; (repeat (go_big_quiet_step (fail))); refine hk_nil ?_); (refine hk_loads (fuel := 5) (pk 31 rfl (PickR.nil)) (by kernel_rfl) (by kernel_rfl) (fun _ _ _ _ _ h => h) hH ?_ ?_; (focus (exact SubI.h)); intro hne; (repeat (first | (go_big_quiet_want; (first | ((first | (refine qLoR tab_ok rfl rfl rfl rfl ?_; (first | refine ⟨_, fA, ⟨rfl, oA, rfl, rfl, trivial⟩, rfl, ?_⟩ | refine ⟨_, fB, ⟨rfl, oB, rfl, rfl, trivial⟩, rfl, ?_⟩)) | (refine qLo tab_ok rfl rfl rfl rfl ?_; refine ⟨?_, ?_, ?_⟩; rotate_left; (focus (first | exact fX | exact fX' | exact fL | exact fL')))))); (try simp only [Act.put, pA, pB, pC]); go_big_quiet_on) | go_big_quiet_step (fail))); refine hk_nil ?_; clear hne); (refine hk_pures (fuel := 4) (pk 32 rfl (PickR.nil)) (by kernel_rfl) (by kernel_rfl) (fun _ _ _ _ _ h => h) ?_; (repeat (go_big_quiet_step (fail))); refine hk_nil ?_); (refine hk_loads (fuel := 3) (pk 38 rfl (PickR.nil)) (by kernel_rfl) (by kernel_rfl) (fun _ _ _ _ _ h => h) hH ?_ ?_; (focus (exact SubI.h)); intro hne; (repeat (first | (go_big_quiet_want; (first | ((first | (refine qLoR tab_ok rfl rfl rfl rfl ?_; (first | refine ⟨_, fA, ⟨rfl, oA, rfl, rfl, trivial⟩, rfl, ?_⟩ | refine ⟨_, fB, ⟨rfl, oB, rfl, rfl, trivial⟩, rfl, ?_⟩)) | (refine qLo tab_ok rfl rfl rfl rfl ?_; refine ⟨?_, ?_, ?_⟩; rotate_left; (focus (first | exact fX | exact fX' | exact fL | exact fL')))))); (try simp only [Act.put, pA, pB, pC]); go_big_quiet_on) | go_big_quiet_step (fail))); refine hk_nil ?_; clear hne); (refine hk_pures (fuel := 0) (pk 39 rfl (pk 40 rfl (pk 41 rfl (PickR.nil)))) (by kernel_rfl) (by kernel_rfl) (fun _ _ _ _ _ h => h) ?_; (repeat (go_big_quiet_step (fail))); refine hk_nil ?_); refine hk_endN (by kernel_rfl) ?_)
      go_wp2_with (fail)
      go_loopw [6] (fun i wr => ∃ m : Nat, i = .int .i64 (m : Int) ∧ m ≤ lx.length ∧ lx.take m = ly.take m ∧ Hp w.heap.size w wr []) (fun i _ => lx.length - (intOf i).toNat)
      case atStart => exact ⟨0, rfl, by omega, rfl, hH⟩
      case round =>
        clear hH
        obtain ⟨m, rfl, hm, hTm, hH⟩ := hrel
        have hlm : lx.length ≤ 9223372036854775807 := FS.out.1
        by_cases hml : m < lx.length
        · have hml2 : m < ly.length := by have := HLL.out; omega
          obtain ⟨u, hu, fY, _⟩ := FS.out.get hml
          obtain ⟨u', hu', fY', _⟩ := FS'.out.get hml2
          subst hu
          subst hu'
          have dm : decide ((m : Int) < (lx.length : Int)) = true := decide_eq_true (by omega)
          have HTS := Lib.hid (fun e => take_snoc_eq hTm hml hml2 e)
          have HTN := Lib.hid (fun e => HD.out (HSNE.out (ne_of_at hml hml2 e)))
          have oZ := adL_ok lx[m]
          have oZ' := adL_ok ly[m]
          have fE := ad_neq lx[m] ly[m]
          clear FS FS' HS HD HSRC HSNE hTm
          generalize lx[m] = a at *
          generalize ly[m] = b at *
          cases hab : (a != b)
          · rw [hab] at fE
            have HT2 := Lib.hid (HTS.out (by simpa using hab))
            clear HTS HTN hab
            generalize adL a = Z at *
            generalize adL b = Z' at *
            go_wp2_with (first | ((refine gL rfl ?_; refine hLo tab_ok rfl ?_ rfl hH rfl rfl ?_; (focus first|exact wN rfl|exact rfl); refine ⟨?_, ?_, ?_⟩; rotate_left; (focus (first | exact fL | exact fL')); (clear hH; (first | intro W g hH | intro W hH); (try simp only [Act.put, pA, pB, pC])))))
            ((with_reducible refine regQ hH (by kernel_rfl) (by kernel_rfl) ?_); intro hne; (repeat (first | (go_big_quiet_want; (first | ((first | (refine qLoR tab_ok rfl rfl rfl rfl ?_; (first | refine ⟨_, fY, ⟨oZ, trivial⟩, rfl, ?_⟩ | refine ⟨_, fY', ⟨oZ', trivial⟩, rfl, ?_⟩)) | (refine qLo tab_ok rfl rfl rfl rfl ?_; refine ⟨?_, ?_, ?_⟩; rotate_left; (focus (first | exact fL | exact fL')))))); (try simp only [Act.put, pA, pB, pC]); go_big_quiet_on) | go_big_quiet_step (fail))); refine wpQuiet_nil ?_; clear hne hH; intro W hH)
            go_wp2_with (fail)
            exact ⟨⟨m + 1, by simp, by omega, HT2.out, hH⟩, by simp [intOf]; omega⟩
          · rw [hab] at fE
            obtain rfl := HTN.out (by simpa using hab)
            clear HTS HTN hab
            generalize adL a = Z at *
            generalize adL b = Z' at *
            go_wp2_with (first | ((refine gL rfl ?_; refine hLo tab_ok rfl ?_ rfl hH rfl rfl ?_; (focus first|exact wN rfl|exact rfl); refine ⟨?_, ?_, ?_⟩; rotate_left; (focus (first | exact fL | exact fL')); (clear hH; (first | intro W g hH | intro W hH); (try simp only [Act.put, pA, pB, pC])))))
            ((with_reducible refine regQ hH (by kernel_rfl) (by kernel_rfl) ?_); intro hne; (repeat (first | (go_big_quiet_want; (first | ((first | (refine qLoR tab_ok rfl rfl rfl rfl ?_; (first | refine ⟨_, fY, ⟨oZ, trivial⟩, rfl, ?_⟩ | refine ⟨_, fY', ⟨oZ', trivial⟩, rfl, ?_⟩)) | (refine qLo tab_ok rfl rfl rfl rfl ?_; refine ⟨?_, ?_, ?_⟩; rotate_left; (focus (first | exact fL | exact fL')))))); (try simp only [Act.put, pA, pB, pC]); go_big_quiet_on) | go_big_quiet_step (fail))); refine wpQuiet_nil ?_; clear hne hH; intro W hH)
            go_wp2_with (fail)
            go_ret
            exact ⟨rfl, hH.below⟩
        · have dm : decide ((m : Int) < (lx.length : Int)) = false := decide_eq_false (by omega)
          have HT2 := Lib.hid (HS.out (HSRC.out (by have := HLL.out; rwa [List.take_of_length_le (by omega), List.take_of_length_le (by omega)] at hTm)))
          clear FS FS' HS HD HSRC HSNE hTm
          go_wp2_with (first | ((refine gL rfl ?_; refine hLo tab_ok rfl ?_ rfl hH rfl rfl ?_; (focus first|exact wN rfl|exact rfl); refine ⟨?_, ?_, ?_⟩; rotate_left; (focus (first | exact fL | exact fL')); (clear hH; (first | intro W g hH | intro W hH); (try simp only [Act.put, pA, pB, pC])))))
          exact ⟨⟨j + 1, by simp, by omega, HT2.out, hH⟩, by simp [intOf]; omega⟩
    · have dj : decide ((j : Int) < (L.length : Int)) = false := decide_eq_false (by omega)
      obtain rfl := HY.out (by rwa [List.take_of_length_le (by omega), List.take_of_length_le (by omega)] at hT)
      clear HA HB hT HY HN
      go_wp2_with (fail)
      go_ret
      exact ⟨rfl, hH.below⟩
end
end
section
open Go.ChangeShapes Go.WideShapes Go.ChangeAt Go.RowKit
set_option linter.unusedVariables false
set_option linter.unusedSimpArgs false
set_option maxRecDepth 20000
attribute [local irreducible] wpList

section
variable {w : World} {p p' : Option Addr} {c c' : Nat} {L M : List En}
set_option maxHeartbeats 4000000 in
theorem equalEn_any (h : EnsAt w p L) (h' : EnsAt w p' M) : Gives Try.prog 53 #[.slice p L.length c, .slice p' M.length c', .func (.func 51) #[] #[]] w (.bool (eqE L M)) := by
  have hl := h.1
  have hl' := h'.1
  have HA := Lib.hid h
  have HB := Lib.hid h'
  clear h h'
  refine Gives.of ?_
  have hH := Hp.refl w
  by_cases hlen : L.length = M.length
  rotate_left
  · rw [eqE_no (fun h => hlen (by rw [h]))]
    have hn : ((L.length : Int) != (M.length : Int)) = true := by simp; omega
    go_enter Try.func53, Try.ntmps53
    go_wp2_with (fail)
    go_ret
    exact ⟨rfl, hH.below⟩
  have hn : ((L.length : Int) != (M.length : Int)) = false := by simp; omega
  obtain ⟨res, hres⟩ : ∃ r, eqE L M = r := ⟨_, rfl⟩
  rw [hres]
  have HY := Lib.hid (show L = M → res = true from fun e => by rw [← hres, e]; exact eqE_self M)
  have HN := Lib.hid (show L ≠ M → res = false from fun e => by rw [← hres]; exact eqE_no e)
  clear hres
  go_enter Try.func53, Try.ntmps53
  go_wp2_with (fail)
  go_loopw [17] (fun i wr => ∃ j : Nat, i = .int .i64 (j : Int) ∧ j ≤ L.length ∧ L.take j = M.take j ∧ Hp w.heap.size w wr []) (fun i _ => L.length - (intOf i).toNat)
  case atStart => exact ⟨0, rfl, by omega, rfl, hH⟩
  case round =>
    clear hH
    obtain ⟨j, rfl, hj, hT, hH⟩ := hrel
    by_cases hjl : j < L.length
    · have hj2 : j < M.length := by omega
      obtain ⟨q, s, cs, hq, fA, fS⟩ := HA.out.get hjl
      obtain ⟨q', s', cs', hq', fB, fS'⟩ := HB.out.get hj2
      subst hq
      subst hq'
      have dj : decide ((j : Int) < (L.length : Int)) = true := decide_eq_true (by omega)
      have HS := Lib.hid (fun (e : sameE L[j] M[j] = true) => take_snoc_eq hT hjl hj2 (sameE_iff.1 e))
      have HD := Lib.hid (fun (e : sameE L[j] M[j] = false) => HN.out (ne_of_at hjl hj2 (fun h => by rw [sameE_iff.2 h] at e; cases e)))
      have FC := Lib.hid (fun W (hb : Below w.heap.size w W) => dSame_any (c := cs) (c' := cs') (fS.below hb) (fS'.below hb))
      clear hT HA HB HN HY hlen hn fS fS'
      generalize sameE L[j] M[j] = z at *
      have oA := adL_ok L[j].grp
      have oB := adL_ok M[j].grp
      unfold enS at fA fB FC
      generalize L[j].src.length = lx at *
      generalize M[j].src.length = ly at *
      generalize L[j].vlan = kx at *
      generalize M[j].vlan = ky at *
      generalize L[j].ex = ex at *
      generalize M[j].ex = ey at *
      generalize adL L[j].grp = YX at *
      generalize adL M[j].grp = YY at *
      cases z
      · obtain rfl := HD.out rfl
        clear HS HD
        go_wp2_with (first | ((refine gL rfl ?_; refine hLoR tab_ok rfl ?_ rfl hH rfl rfl ?_; (focus first|exact wN rfl|exact rfl); (first | refine ⟨_, fA, ⟨rfl, oA, rfl, rfl, trivial⟩, rfl, ?_⟩ | refine ⟨_, fB, ⟨rfl, oB, rfl, rfl, trivial⟩, rfl, ?_⟩); (clear hH; (first | intro W g hH | intro W hH); (try simp only [Act.put, pA, pB, pC])))) | ((first | (refine iL tab_ok rfl ?_ rfl hH ?_; (focus first|exact wN rfl|exact rfl); refine ⟨_, _, rfl, rfl, ?_⟩) | (refine iSR tab_ok rfl ?_ rfl hH ?_; (focus first|exact wN rfl|exact rfl); refine ⟨_, _, _, _, rfl, rfl, rfl, rfl, rfl, ?_, ?_⟩; (focus (repeat (first | exact trivial | assumption | exact OkA.z (by kernel_rfl) (by kernel_rfl) | refine ⟨rfl, ?_⟩ | refine ⟨?_, ?_⟩)))) | (refine hAl tab_ok rfl ?_ hH rfl ?_; (focus first|exact wN rfl|exact rfl)) | ((with_reducible refine callH hH ?_); refine ⟨?_, ?_, ?_⟩; rotate_left; (focus (first | (exact FC.out _ hH.below))))); clear hH; (first | intro W g hH | intro W hH); ((try simp only [Act.put, pA, pB, pC]))))
        go_ret
        exact ⟨rfl, hH.below⟩
      · have hs := Lib.hid (HS.out rfl)
        clear HS HD
        go_wp2_with (first | ((refine gL rfl ?_; refine hLoR tab_ok rfl ?_ rfl hH rfl rfl ?_; (focus first|exact wN rfl|exact rfl); (first | refine ⟨_, fA, ⟨rfl, oA, rfl, rfl, trivial⟩, rfl, ?_⟩ | refine ⟨_, fB, ⟨rfl, oB, rfl, rfl, trivial⟩, rfl, ?_⟩); (clear hH; (first | intro W g hH | intro W hH); (try simp only [Act.put, pA, pB, pC])))) | ((first | (refine iL tab_ok rfl ?_ rfl hH ?_; (focus first|exact wN rfl|exact rfl); refine ⟨_, _, rfl, rfl, ?_⟩) | (refine iSR tab_ok rfl ?_ rfl hH ?_; (focus first|exact wN rfl|exact rfl); refine ⟨_, _, _, _, rfl, rfl, rfl, rfl, rfl, ?_, ?_⟩; (focus (repeat (first | exact trivial | assumption | exact OkA.z (by kernel_rfl) (by kernel_rfl) | refine ⟨rfl, ?_⟩ | refine ⟨?_, ?_⟩)))) | (refine hAl tab_ok rfl ?_ hH rfl ?_; (focus first|exact wN rfl|exact rfl)) | ((with_reducible refine callH hH ?_); refine ⟨?_, ?_, ?_⟩; rotate_left; (focus (first | (exact FC.out _ hH.below))))); clear hH; (first | intro W g hH | intro W hH); ((try simp only [Act.put, pA, pB, pC]))))
        exact ⟨⟨j + 1, by simp, by omega, hs.out, hH.nil⟩, by simp [intOf]; omega⟩
    · have dj : decide ((j : Int) < (L.length : Int)) = false := decide_eq_false (by omega)
      obtain rfl := HY.out (by rwa [List.take_of_length_le (by omega), List.take_of_length_le (by omega)] at hT)
      clear HA HB hT HY HN
      go_wp2_with (fail)
      go_ret
      exact ⟨rfl, hH.below⟩
theorem dSameL_any (h : EnsAt w p L) (h' : EnsAt w p' M) : Gives Try.prog 28 #[.slice p L.length c, .slice p' M.length c'] w (.bool (eqE L M)) := by
  have F := Lib.hid (fun W (hb : Below w.heap.size w W) => equalEn_any (c := c) (c' := c') (h.below hb) (h'.below hb))
  clear h h'
  refine Gives.of ?_
  have hH := Hp.refl w
  generalize eqE L M = r at *
  generalize L.length = n at *
  generalize M.length = m at *
  go_enter Try.func28, Try.ntmps28
  go_wp2_with (first | ((first | ((with_reducible refine callH hH ?_); refine ⟨?_, ?_, ?_⟩; rotate_left; (focus (first | (exact F.out _ hH.below))))); clear hH; (first | intro W g hH | intro W hH); ((try simp only [Act.put, pA, pB, pC]))))
  go_ret
  exact ⟨rfl, hH.below⟩
end
end
section
open Go.ChangeShapes Go.WideShapes Go.ChangeAt Go.RowKit
set_option linter.unusedVariables false
set_option linter.unusedSimpArgs false
set_option maxRecDepth 20000
attribute [local irreducible] wpList

theorem CellsAt.cells {w : World} {q : Addr} {X : List Ev} (h : CellsAt w (some q) X) : OldS w q (evsL X) := by
  intro j u hj
  have hlt : j < X.length * 20 := by rw [← evsL_len]; exact (List.getElem?_eq_some_iff.1 hj).1
  have hi : j / 20 < X.length := by omega
  obtain ⟨q', h1, h2⟩ := h _ hi
  injection h1 with h1
  subst h1
  obtain ⟨pre, post, e1, e2⟩ := evsL_at hi
  have hr : j % 20 < 20 := Nat.mod_lt _ (by omega)
  have hj2 : (fls (evS X[j / 20]))[j % 20]? = some u := by
    rw [e1, List.getElem?_append_right (by omega), List.getElem?_append_left (by rw [evS_fls_len]; omega)] at hj
    rwa [show j - pre.length = j % 20 by omega] at hj
  have := h2.1 _ _ hj2
  rw [Addr_addadd, show j / 20 * 20 + j % 20 = j by omega] at this
  exact this
theorem findR_look {x : En} : ∀ {L : List En} {k : Nat}, (findR L x k = -1 ∧ lookE L x = none) ∨ ∃ j, ∃ h : j < L.length, findR L x k = ((k + j : Nat) : Int) ∧ lookE L x = some L[j]
  | [], k => .inl ⟨rfl, rfl⟩
  | a :: L, k => by
    rw [findR_cons]
    by_cases hc : cmpE a x = 0
    · rw [if_pos hc, look_hit hc]
      exact .inr ⟨0, by simp, by simp, by simp⟩
    · rw [if_neg hc, look_skip hc]
      rcases findR_look (L := L) (k := k + 1) with ⟨h1, h2⟩ | ⟨j, hj, h1, h2⟩
      · exact .inl ⟨h1, h2⟩
      · exact .inr ⟨j + 1, by simpa using hj, by rw [h1]; congr 1; omega, by simpa using h2⟩
def ChCells (w : World) (p : Option Addr) (X : List Cv) : Prop := ∀ j (h : j < X.length), ∃ q, p = some q ∧ OldR w (q.add (j * 21)) (fls (cvS X[j]))
theorem ChCells.row {W : World} {g : Nat} {t : TypeId} {X : List Cv} {J : List Value} (hr : Row W g t (cvsL X ++ J).toArray) : ChCells W (some ⟨g, 0, none⟩) X := fun j hj => ⟨_, rfl, row_old hr (cvsL_at hj).app⟩
def RDiffP (w : World) (X Z : List Ev) (e : Ending) (w' : World) : Prop := ∃ p c Xc D, e = .returned (.slice p Xc.length c) ∧ Made w w' D ∧ Xc.map Cv.x = diffF (X.map Ev.e) (Z.map Ev.e) ∧ (∀ v ∈ Xc, v.x.e.src = [] ∨ ∃ z ∈ Z, v = ⟨⟨z.e, false⟩, z.p, z.c⟩) ∧ Xc.length ≤ 1000 ∧ ∀ B w0 W, Hp B w0 W D → ChCells W p Xc
theorem evS_part1 (x : Ev) : fls (evS x) = [.int .i64 x.e.vlan] ++ (fls [.many (adL x.e.grp) 17] ++ [.bool x.e.ex, .slice x.p x.e.src.length x.c]) := by simp [evS, enS, fls]
theorem evS_part2 (x : Ev) : fls (evS x) = (.int .i64 x.e.vlan :: adL x.e.grp) ++ (fls [.one (.bool x.e.ex), .one (.slice x.p x.e.src.length x.c)] ++ []) := by simp [evS, enS, fls]
theorem mergeE_len : ∀ {L M : List En}, (mergeE L M).length ≤ L.length + M.length
  | [], M => by rw [mergeE]; simp
  | a :: A, [] => by rw [mergeE]; simp
  | a :: A, b :: B => by
    rw [mergeE]
    split
    · have := mergeE_len (L := A) (M := b :: B); simp at this ⊢; omega
    · split
      · have := mergeE_len (L := a :: A) (M := B); simp at this ⊢; omega
      · have := mergeE_len (L := A) (M := B); simp at this ⊢; omega
termination_by L M => L.length + M.length
theorem zFil : zeroL Try.prog 28 = [.bool false, .slice none 0 0] := by kernel_rfl
section
variable {w : World} {q q' : Addr} {c c' : Nat} {X Z : List Ev}
set_option maxHeartbeats 16000000 in
theorem rDiff_any (hX : CellsAt w (some q) X) (hZ : CellsAt w (some q') Z) (aX : ∀ x ∈ X, AdsAt w x.p x.e.src) (aZ : ∀ x ∈ Z, AdsAt w x.p x.e.src) (gX : GoodE (X.map Ev.e)) (gZ : GoodE (Z.map Ev.e)) (lX : X.length ≤ 100) (lZ : Z.length ≤ 100) (sX : ∀ x ∈ X, x.e.src.length ≤ 1000) (sZ : ∀ x ∈ Z, x.e.src.length ≤ 1000) :
    Calls Try.prog 27 #[.slice (some q) X.length c, .slice (some q') Z.length c'] w fun e w' => RDiffP w X Z e w' := by
  have hm : ofE ((X ++ Z).map Ev.e) = mergeE (X.map Ev.e) (Z.map Ev.e) := by
    rw [List.map_append]
    exact ofE_two gX gZ (by simp; omega)
  have hd := diff_flat (X.map Ev.e) (Z.map Ev.e) gX.rise gZ.rise gX.one gZ.one
  have HOX := Lib.hid hX.cells
  have HOZ := Lib.hid hZ.cells
  have HCX := Lib.hid hX
  have HCZ := Lib.hid hZ
  have HAX := Lib.hid aX
  have HAZ := Lib.hid aZ
  have HM := Lib.hid hm
  have HD := Lib.hid hd
  have HSX := Lib.hid sX
  have HSZ := Lib.hid sZ
  have oLX := evsL_ok X
  have oLZ := evsL_ok Z
  have HOF := Lib.hid (show ∀ (W : World) (H : HB) (Q : Ending → World → Prop) (g cc : Nat) (J : List Value), Hp w.heap.size w W H → Row W g 30 (evsL X ++ evsL Z ++ J).toArray → (∀ W' p c Y D, Hid (Y.map Ev.e = mergeE (X.map Ev.e) (Z.map Ev.e)) → Hid (∀ B w0 W, Hp B w0 W D → CellsAt W p Y) → Hid (∀ r ∈ D, r.2.2.1 = true) → Hp w.heap.size w W' (H ++ D) → Q (.returned (.slice p Y.length c)) W') → Calls Try.prog 45 #[.slice (some ⟨g, 0, none⟩) (X.length + Z.length) cc] W Q from fun W H Q g cc J hH hr hQ => by
    have := hOfE (X := X ++ Z) (p := some ⟨g, 0, none⟩) (c := cc) (Q := Q) hH (CellsAt.row (by rw [evsL_app]; exact hr)) (fun x hx => by
      rcases List.mem_append.1 hx with hx | hx
      · exact (HAX.out x hx).below hH.below
      · exact (HAZ.out x hx).below hH.below) (by simp; omega) (fun x hx => by
      rcases List.mem_append.1 hx with hx | hx
      · exact HSX.out x hx
      · exact HSZ.out x hx) (fun W' p c Y D h1 h2 h3 h4 h5 => hQ W' p c Y D (Lib.hid (by rw [h1.out, HM.out])) h3 h4 h5)
    rwa [List.length_append] at this)
  clear hX hZ aX aZ gX gZ sX sZ hm hd
  obtain ⟨LX, hLX⟩ : ∃ T, T = evsL X := ⟨_, rfl⟩
  obtain ⟨LZ, hLZ⟩ : ∃ T, T = evsL Z := ⟨_, rfl⟩
  rw [← hLX] at HOX HOF oLX
  rw [← hLZ] at HOZ HOF oLZ
  clear hLX hLZ
  have HF1 := Lib.hid (fun (W : World) (y : Ev) (hb : Below w.heap.size w W) => rFind_any (x := y.e) (s := y.p) (cs := y.c) (c := c) (HCX.out.below hb) (by omega))
  have HF2 := Lib.hid (fun (W : World) (y : Ev) (hb : Below w.heap.size w W) => rFind_any (x := y.e) (s := y.p) (cs := y.c) (c := c') (HCZ.out.below hb) (by omega))
  have hH := Hp.refl w
  go_enter Try.func27, Try.ntmps27
  go_wp2_with (first | ((refine hSl0 tab_ok rfl ?_ tabs_ok rfl rfl rfl hH ?_; (focus first|exact wN rfl|exact rfl); clear hH; intro W g hH; (try simp only [Act.put, pA, pB, pC]))) | ((refine hAppO 0 tab_ok tabs_ok rfl rfl rfl rfl rfl rfl rfl hH rfl rfl ?_; refine ⟨LX, (HOX.out.below hH.below), oLX, (show Grow 20 0 0 0 0 from ⟨rfl, rfl, Nat.le_refl _, by simp [maxLen]⟩), ?_, ?_⟩; (focus (first | omega | (simp; omega))); clear hH; intro W g c p q J hG hL hJ hH; (try simp only [putH, fls, List.append_nil, List.nil_append] at hH hL); (try simp only [Act.put, pA, pB, pC]))) | ((refine hAppO 0 tab_ok tabs_ok rfl rfl rfl rfl rfl rfl rfl hH rfl rfl ?_; refine ⟨LZ, HOZ.out.below hH.below, oLZ, ?_, ?_, ?_⟩; (focus (first | exact hG | simpa using hG)); (focus (first | omega | (simp; omega))); clear hH hG; intro W g c p q J hG hL hJ hH; (try simp only [putH, fls, List.append_nil, List.nil_append] at hH hL); ((try simp only [Act.put, pA, pB, pC])))) | ((go_at_call 45; refine HOF.out _ _ _ _ _ _ hH (by have := (hH.rows.mem (i := 0) rfl).1; rwa [fls_two] at this) ?_; (clear hH; intro W py cy Y Dy hY1 hY2 hY3 hH); (try simp only [List.cons_append, List.nil_append] at hH); ((try simp only [Act.put, pA, pB, pC])))))
  have hY1' := Lib.hid (show (mergeE (X.map Ev.e) (Z.map Ev.e)).flatMap (chgE (X.map Ev.e) (Z.map Ev.e)) = diffF (X.map Ev.e) (Z.map Ev.e) from HD.out.symm)
  have hYl : Y.length ≤ 200 := by have h1 := congrArg List.length hY1.out; have h2 := mergeE_len (L := X.map Ev.e) (M := Z.map Ev.e); rw [List.length_map] at h1; simp only [List.length_map] at h2; omega
  obtain ⟨res, hres⟩ : ∃ r, diffF (X.map Ev.e) (Z.map Ev.e) = r := ⟨_, rfl⟩
  have HEND := Lib.hid (show ∀ (w' : World) (g cc qq : Nat) (J : List Value) (Xc : List Cv) (D : HB), Xc.map Cv.x = res → (∀ v ∈ Xc, v.x.e.src = [] ∨ ∃ z ∈ Z, v = ⟨⟨z.e, false⟩, z.p, z.c⟩) → Xc.length ≤ 1000 → Hp w.heap.size w w' ((g, 37, true, [.many (cvsL Xc) (Xc.length * 21), .many J qq]) :: D) → (∀ r ∈ D, r.2.2.1 = true) → RDiffP w X Z (.returned (.slice (some ⟨g, 0, none⟩) Xc.length cc)) w' from fun w' g cc qq J Xc D h1 h2 h3 h4 h5 => ⟨some ⟨g, 0, none⟩, cc, Xc, _, rfl, ⟨h4, fun r hr => by
    rcases List.mem_cons.1 hr with rfl | hr
    · rfl
    · exact h5 r hr⟩, by rw [h1, hres], h2, h3, fun B w0 W h => ChCells.row (by have := (h.rows.mem (i := 0) rfl).1; rwa [fls_two] at this)⟩)
  have HRES := Lib.hid (show (Y.map Ev.e).flatMap (chgE (X.map Ev.e) (Z.map Ev.e)) = res by rw [hY1.out, hY1'.out, hres])
  clear hres hY1 hY1' HOX HOZ HM HD HOF hG hL hJ
  go_loopw [5, 7] (fun s5 s7 wr => ∃ (j : Nat) (Xc : List Cv) (gc cc qc : Nat) (Jc : List Value), s7 = .int .i64 (j : Int) ∧ j ≤ Y.length ∧ s5 = .slice (some ⟨gc, 0, none⟩) Xc.length cc ∧ Hid (Xc.map Cv.x ++ ((Y.map Ev.e).drop j).flatMap (chgE (X.map Ev.e) (Z.map Ev.e)) = res) ∧ Xc.length ≤ j ∧ Hid (∀ v ∈ Xc, v.x.e.src = [] ∨ ∃ z ∈ Z, v = ⟨⟨z.e, false⟩, z.p, z.c⟩) ∧ Grow 21 Xc.length cc (Xc.length * 21) qc ∧ OkA Jc qc ∧ Hp w.heap.size w wr ((gc, 37, true, [.many (cvsL Xc) (Xc.length * 21), .many Jc qc]) :: Dy)) (fun _ s7 _ => Y.length - (intOf s7).toNat)
  case atStart => exact ⟨0, [], _, 0, 0, [], rfl, by omega, rfl, Lib.hid (by rw [List.drop_zero]; exact HRES.out), by simp, Lib.hid (by simp), ⟨rfl, rfl, Nat.le_refl _, by simp [maxLen]⟩, ⟨rfl, by simp⟩, hH.sub (SubH.drop SubH.refl)⟩
  case round =>
    clear hH HRES
    obtain ⟨j, Xc, gc, cc, qc, Jc, rfl, hj, rfl, HR, hXj, HV, hG, oJ, hH⟩ := hrel
    have hX2 : Xc.length ≤ 200 := by omega
    by_cases hjl : j < Y.length
    · have dj : decide ((j : Int) < (Y.length : Int)) = true := decide_eq_true (by omega)
      have hpy : ∃ qy, py = some qy := by
        obtain ⟨qy, h, _⟩ := hY2.out _ _ _ (hH.sub (SubH.drop SubH.refl)) j hjl
        exact ⟨qy, h⟩
      obtain ⟨qy, rfl⟩ := hpy
      have HLX := Lib.hid (show ∀ W, Hp w.heap.size w W Dy → OldR W (qy.add (j * 20)) (fls (evS Y[j])) from fun W h => by
        obtain ⟨q', e, h2⟩ := hY2.out _ _ _ h j hjl
        injection e with e
        subst e
        exact h2)
      have hr := HR.out
      rw [List.drop_eq_getElem_cons (by simpa using hjl), List.flatMap_cons, List.getElem_map] at hr
      have f1 := fun W hb => HF1.out W Y[j] hb
      have f2 := fun W hb => HF2.out W Y[j] hb
      have hlkX := findR_look (x := Y[j].e) (L := X.map Ev.e) (k := 0)
      have hlkZ := findR_look (x := Y[j].e) (L := Z.map Ev.e) (k := 0)
      obtain ⟨rest, hrest⟩ : ∃ r, ((Y.map Ev.e).drop (j + 1)).flatMap (chgE (X.map Ev.e) (Z.map Ev.e)) = r := ⟨_, rfl⟩
      rw [hrest] at hr
      have HREST := Lib.hid hrest
      clear HR hrest
      have HL0 := Lib.hid (show ∀ W, Hp w.heap.size w W Dy → OldC W (qy.add (j * 20)) (.int .i64 Y[j].e.vlan) from fun W h => (HLX.out W h).cell0 rfl)
      have HL1 := Lib.hid (show ∀ W, Hp w.heap.size w W Dy → OldR W ⟨(qy.add (j * 20)).block, (qy.add (j * 20)).off + 1, none⟩ (fls [.many (adL Y[j].e.grp) 17]) from fun W h => (HLX.out W h).partS (k := 0) (evS_part1 _) rfl)
      have HLE := HLX
      clear HLX HF1 HF2
      generalize Y[j] = y at *
      obtain ⟨⟨ky, Gy, exy, ly⟩, pe, ce⟩ := y
      unfold evS enS at HLE
      unfold enS at f1 f2
      simp only at HLE HL0 HL1 hr f1 f2 hlkX hlkZ
      have oY := adL_ok Gy
      obtain ⟨YY, hYY⟩ : ∃ T, T = adL Gy := ⟨_, rfl⟩
      rw [← hYY] at oY HLE HL1 f1 f2
      have HYY := Lib.hid hYY
      clear hYY
      have F1 := Lib.hid f1
      have F2 := Lib.hid f2
      clear f1 f2
      unfold chgE at hr
      rcases hlkZ with ⟨hb, hlz⟩ | ⟨jb, hjb, hb, hlz⟩
      · rw [hlz] at hr
        rw [hb] at F2
        obtain ⟨ia, hia⟩ : ∃ i, findR (X.map Ev.e) ⟨ky, Gy, exy, ly⟩ 0 = i := ⟨_, rfl⟩
        rw [hia] at F1
        have HR := Lib.hid (show (Xc ++ [(⟨⟨⟨ky, Gy, false, []⟩, true⟩, none, 0⟩ : Cv)]).map Cv.x ++ rest = res by have := hr; simpa [voidE] using this)
        clear hr hb hlz hia hlkX
        go_wp2_with (fail)
        ((with_reducible refine regKN [] hH (SubH.refl) (by kernel_rfl) ?_); (clear hH; intro W hH); (refine hk_pures (fuel := 6) (pk 0 rfl (pk 1 rfl (pk 2 rfl (pk 3 rfl (pk 6 rfl (pk 7 rfl (pk 8 rfl (pk 9 rfl (PickR.nil))))))))) (by kernel_rfl) (by kernel_rfl) (fun _ _ _ _ _ h => h) ?_; (repeat (go_big_quiet_step (fail))); refine hk_nil ?_); (refine hk_loads (fuel := 4) (pk 4 rfl (pk 10 rfl (PickR.nil))) (by kernel_rfl) (by kernel_rfl) (fun _ _ _ _ _ h => h) hH ?_ ?_; (focus (exact SubI.h)); intro hne; (repeat (first | (go_big_quiet_want; (first | ((first | (refine qD1 tab_ok rfl rfl rfl rfl ?_; refine ⟨_, fun W h => HL0.out W (h.sub (SubH.drop SubH.refl)), ?_⟩) | (refine qDR tab_ok rfl rfl rfl rfl ?_; (first | refine ⟨_, fun W h => HLE.out W (h.sub (SubH.drop SubH.refl)), ⟨rfl, oY, rfl, rfl, trivial⟩, rfl, ?_⟩ | refine ⟨_, fun W h => HL1.out W (h.sub (SubH.drop SubH.refl)), ⟨oY, trivial⟩, rfl, ?_⟩))))); (try simp only [Act.put, pA, pB, pC]); go_big_quiet_on) | go_big_quiet_step (fail))); refine hk_nil ?_; clear hne); (refine hk_one (fuel := 3) 5 rfl (by kernel_rfl) ?_; go_wp2_with (first | ((first | ((with_reducible refine callH hH ?_); refine ⟨?_, ?_, ?_⟩; rotate_left; (focus (first | (exact F1.out _ hH.below) | (exact F2.out _ hH.below))))); clear hH; (first | intro W g hH | intro W hH); ((try simp only [Act.put, pA, pB, pC])))); refine hkQ_normal hH ?_ ?_; (focus (exact SubI.h)); (try simp only [Act.put, pA, pB, pC])); (refine hk_one (fuel := 2) 11 rfl (by kernel_rfl) ?_; go_wp2_with (first | ((first | ((with_reducible refine callH hH ?_); refine ⟨?_, ?_, ?_⟩; rotate_left; (focus (first | (exact F1.out _ hH.below) | (exact F2.out _ hH.below))))); clear hH; (first | intro W g hH | intro W hH); ((try simp only [Act.put, pA, pB, pC])))); refine hkQ_normal hH ?_ ?_; (focus (exact SubI.h)); (try simp only [Act.put, pA, pB, pC])); (refine hk_pures (fuel := 0) (pk 12 rfl (pk 13 rfl (PickR.nil))) (by kernel_rfl) (by kernel_rfl) (fun _ _ _ _ _ h => h) ?_; (repeat (go_big_quiet_step (fail))); refine hk_nil ?_); refine hk_endN (by kernel_rfl) ?_)
        go_wp2_with (fail)
        ((with_reducible refine regKN [] hH (SubH.drop SubH.refl) (by kernel_rfl) ?_); (clear hH; intro W hH); (refine hk_pures (fuel := 7) (pk 0 rfl (pk 1 rfl (pk 2 rfl (pk 3 rfl (pk 4 rfl (pk 6 rfl (pk 7 rfl (pk 8 rfl (pk 9 rfl (PickR.nil)))))))))) (by kernel_rfl) (by kernel_rfl) (fun _ _ _ _ _ h => h) ?_; (repeat (go_big_quiet_step (fail))); refine hk_nil ?_); (refine hk_loads (fuel := 5) (pk 5 rfl (pk 10 rfl (PickR.nil))) (by kernel_rfl) (by kernel_rfl) (fun _ _ _ _ _ h => h) hH ?_ ?_; (focus (exact SubI.h)); intro hne; (repeat (first | (go_big_quiet_want; (first | ((first | (refine qD1 tab_ok rfl rfl rfl rfl ?_; refine ⟨_, fun W h => HL0.out W h, ?_⟩) | (refine qDR tab_ok rfl rfl rfl rfl ?_; (first | refine ⟨_, fun W h => HLE.out W h, ⟨rfl, oY, rfl, rfl, trivial⟩, rfl, ?_⟩ | refine ⟨_, fun W h => HL1.out W h, ⟨oY, trivial⟩, rfl, ?_⟩))))); (try simp only [Act.put, pA, pB, pC]); go_big_quiet_on) | go_big_quiet_step (fail))); refine hk_nil ?_; clear hne); (refine hk_pures (fuel := 3) (pk 11 rfl (pk 12 rfl (PickR.nil))) (by kernel_rfl) (by kernel_rfl) (fun _ _ _ _ _ h => h) ?_; (repeat (first | (go_big_quiet_want; (refine qBd tab_ok rfl rfl rfl rfl ?_; refine ⟨?_, ?_, ?_⟩; rotate_left; (focus (repeat (first | exact BR.nil | refine BR.one rfl rfl rfl ?_ | (refine BR.row rfl rfl rfl rfl ?_ ?_; (focus (repeat (first | exact trivial | assumption | exact OkA.z (by kernel_rfl) (by kernel_rfl) | refine ⟨rfl, ?_⟩ | refine ⟨?_, ?_⟩)))))))); (try simp only [Act.put, pA, pB, pC]); go_big_quiet_on) | go_big_quiet_step (fail))); refine hk_nil ?_); (refine hk_one (fuel := 2) 13 rfl (by kernel_rfl) ?_; go_wp2_with (first | ((refine hSl tab_ok rfl ?_ rfl tabs_ok rfl rfl rfl rfl rfl hH ?_; (focus first|exact wN rfl|exact rfl); refine ⟨?_, ?_, ?_⟩; rotate_left; (focus (repeat (first | exact BR.nil | refine BR.one rfl rfl rfl ?_ | (refine BR.row rfl rfl rfl rfl ?_ ?_; (focus (repeat (first | exact trivial | assumption | exact OkA.z (by kernel_rfl) (by kernel_rfl) | refine ⟨rfl, ?_⟩ | refine ⟨?_, ?_⟩))))))); clear hH; intro W g hH; (try simp only [Act.put, pA, pB, pC])))); refine hkQ_normal hH ?_ ?_; (focus (exact SubI.h)); (try simp only [Act.put, pA, pB, pC])); (refine hk_one (fuel := 1) 14 rfl (by kernel_rfl) ?_; go_wp2_with (first | (((first | (refine hApp 1 0 tab_ok tabs_ok rfl rfl rfl rfl rfl rfl rfl hH rfl rfl rfl rfl ?_; refine ⟨?_, ?_, ?_⟩; (focus assumption); (focus (first | omega | (simp; omega))))); clear hH; intro W g c p q J hG hL hJ hH; (try simp only [putH, fls, List.append_nil] at hH hL); (try simp only [Act.put, pA, pB, pC])))); refine hkQ_normal hH ?_ ?_; (focus (exact SubI.h)); (try simp only [Act.put, pA, pB, pC])); (refine hk_pures (fuel := 0) (pk 15 rfl (PickR.nil)) (by kernel_rfl) (by kernel_rfl) (fun _ _ _ _ _ h => h) ?_; (repeat (go_big_quiet_step (fail))); refine hk_nil ?_); refine hk_endN (by kernel_rfl) ?_)
        go_wp2_with (fail)
        have hp := hG.hp
        have hq := hG.hq
        have hle := hG.le
        have hmo := hG.most
        clear hG
        have e1 : (Xc ++ [(⟨⟨⟨ky, Gy, false, []⟩, true⟩, none, 0⟩ : Cv)]).length = Xc.length + 1 := by simp
        have e2 : cvsL (Xc ++ [(⟨⟨⟨ky, Gy, false, []⟩, true⟩, none, 0⟩ : Cv)]) = cvsL Xc ++ (.int .i64 ky :: (YY ++ (zeroL Try.prog 28 ++ [.bool true]))) := by rw [cvsL_snoc, HYY.out, zFil]; rfl
        refine ⟨⟨j + 1, Xc ++ [(⟨⟨⟨ky, Gy, false, []⟩, true⟩, none, 0⟩ : Cv)], g, c, q, J, by simp, by omega, by rw [e1] <;> simp, Lib.hid (by rw [HREST.out]; exact HR.out), by rw [e1]; omega, Lib.hid (fun v hv => ?_), by rw [e1]; exact ⟨rfl, by rw [← hq, hp] <;> rfl, hle, hmo⟩, hJ, ?_⟩, by simp [intOf]; omega⟩
        · rcases List.mem_append.1 hv with hv | hv
          · exact HV.out v hv
          · obtain rfl := List.mem_singleton.1 hv
            exact .inl rfl
        · rw [show (Xc ++ [(⟨⟨⟨ky, Gy, false, []⟩, true⟩, none, 0⟩ : Cv)]).length * 21 = p by rw [hp, e1] <;> rfl, e2]
          exact hH.sub (SubH.drop SubH.refl)
      · have hjb' : jb < Z.length := by simpa using hjb
        rw [hlz, List.getElem_map] at hr
        rw [hb, Nat.zero_add] at F2
        obtain ⟨qz, hqz, fB0⟩ := HCZ.out jb hjb'
        injection hqz with hqz
        subst hqz
        have fBF := fB0.partS (k := 17) (evS_part2 _) (by simp [adL_len])
        have HzM := Lib.hid (List.getElem_mem hjb')
        have aZ := HAZ.out _ (List.getElem_mem hjb')
        have db : decide ((jb : Int) < 0) = false := decide_eq_false (by omega)
        have fB := fB0
        clear fB0 hb hlz
        generalize Z[jb] = z at *
        clear hjb
        obtain ⟨⟨kz, Gz, exz, lz⟩, pz, cz⟩ := z
        unfold evS enS at fB
        simp only at fB fBF hr aZ
        have oZ := adL_ok Gz
        obtain ⟨YZ, hYZ⟩ : ∃ T, T = adL Gz := ⟨_, rfl⟩
        rw [← hYZ] at fB oZ
        have HYZ := Lib.hid hYZ
        clear hYZ
        rcases hlkX with ⟨ha, hlx⟩ | ⟨ja, hja, ha, hlx⟩
        · rw [hlx] at hr
          rw [ha] at F1
          have HR := Lib.hid (show (Xc ++ [(⟨⟨⟨kz, Gz, exz, lz⟩, false⟩, pz, cz⟩ : Cv)]).map Cv.x ++ rest = res by have := hr; simpa using this)
          clear hr ha hlx aZ
          go_wp2_with (fail)
          ((with_reducible refine regKN [] hH (SubH.refl) (by kernel_rfl) ?_); (clear hH; intro W hH); (refine hk_pures (fuel := 6) (pk 0 rfl (pk 1 rfl (pk 2 rfl (pk 3 rfl (pk 6 rfl (pk 7 rfl (pk 8 rfl (pk 9 rfl (PickR.nil))))))))) (by kernel_rfl) (by kernel_rfl) (fun _ _ _ _ _ h => h) ?_; (repeat (go_big_quiet_step (fail))); refine hk_nil ?_); (refine hk_loads (fuel := 4) (pk 4 rfl (pk 10 rfl (PickR.nil))) (by kernel_rfl) (by kernel_rfl) (fun _ _ _ _ _ h => h) hH ?_ ?_; (focus (exact SubI.h)); intro hne; (repeat (first | (go_big_quiet_want; (first | ((first | (refine qD1 tab_ok rfl rfl rfl rfl ?_; refine ⟨_, fun W h => HL0.out W (h.sub (SubH.drop SubH.refl)), ?_⟩) | (refine qDR tab_ok rfl rfl rfl rfl ?_; (first | refine ⟨_, fun W h => HLE.out W (h.sub (SubH.drop SubH.refl)), ⟨rfl, oY, rfl, rfl, trivial⟩, rfl, ?_⟩ | refine ⟨_, fun W h => HL1.out W (h.sub (SubH.drop SubH.refl)), ⟨oY, trivial⟩, rfl, ?_⟩))))); (try simp only [Act.put, pA, pB, pC]); go_big_quiet_on) | go_big_quiet_step (fail))); refine hk_nil ?_; clear hne); (refine hk_one (fuel := 3) 5 rfl (by kernel_rfl) ?_; go_wp2_with (first | ((first | ((with_reducible refine callH hH ?_); refine ⟨?_, ?_, ?_⟩; rotate_left; (focus (first | (exact F1.out _ hH.below) | (exact F2.out _ hH.below))))); clear hH; (first | intro W g hH | intro W hH); ((try simp only [Act.put, pA, pB, pC])))); refine hkQ_normal hH ?_ ?_; (focus (exact SubI.h)); (try simp only [Act.put, pA, pB, pC])); (refine hk_one (fuel := 2) 11 rfl (by kernel_rfl) ?_; go_wp2_with (first | ((first | ((with_reducible refine callH hH ?_); refine ⟨?_, ?_, ?_⟩; rotate_left; (focus (first | (exact F1.out _ hH.below) | (exact F2.out _ hH.below))))); clear hH; (first | intro W g hH | intro W hH); ((try simp only [Act.put, pA, pB, pC])))); refine hkQ_normal hH ?_ ?_; (focus (exact SubI.h)); (try simp only [Act.put, pA, pB, pC])); (refine hk_pures (fuel := 0) (pk 12 rfl (pk 13 rfl (PickR.nil))) (by kernel_rfl) (by kernel_rfl) (fun _ _ _ _ _ h => h) ?_; (repeat (go_big_quiet_step (fail))); refine hk_nil ?_); refine hk_endN (by kernel_rfl) ?_)
          go_wp2_with (fail)
          ((with_reducible refine regKN [] hH (SubH.refl) (by kernel_rfl) ?_); (clear hH; intro W hH); (refine hk_pures (fuel := 5) (pk 0 rfl (pk 1 rfl (pk 2 rfl (pk 3 rfl (pk 4 rfl (pk 5 rfl (pk 6 rfl (pk 8 rfl (pk 9 rfl (pk 10 rfl (pk 11 rfl (PickR.nil)))))))))))) (by kernel_rfl) (by kernel_rfl) (fun _ _ _ _ _ h => h) ?_; (repeat (go_big_quiet_step (fail))); refine hk_nil ?_); (refine hk_loads (fuel := 3) (pk 7 rfl (pk 12 rfl (PickR.nil))) (by kernel_rfl) (by kernel_rfl) (fun _ _ _ _ _ h => h) hH ?_ ?_; (focus (exact SubI.h)); intro hne; (repeat (go_big_quiet_step (fail))); refine hk_nil ?_; clear hne); (refine hk_one (fuel := 2) 13 rfl (by kernel_rfl) ?_; go_wp2_with (fail); refine hkQ_normal hH ?_ ?_; (focus (exact SubI.h)); (try simp only [Act.put, pA, pB, pC])); (refine hk_pures (fuel := 0) (pk 14 rfl (pk 15 rfl (PickR.nil))) (by kernel_rfl) (by kernel_rfl) (fun _ _ _ _ _ h => h) ?_; (repeat (go_big_quiet_step (fail))); refine hk_nil ?_); refine hk_endN (by kernel_rfl) ?_)
          go_wp2_with (first | ((refine gL rfl ?_; refine hLoR tab_ok rfl ?_ rfl hH rfl rfl ?_; (focus first|exact wN rfl|exact rfl); refine ⟨_, fB, ⟨rfl, oZ, rfl, rfl, trivial⟩, rfl, ?_⟩; (clear hH; (first | intro W g hH | intro W hH); (try simp only [Act.put, pA, pB, pC])))) | ((refine hSl tab_ok rfl ?_ rfl tabs_ok rfl rfl rfl rfl rfl hH ?_; (focus first|exact wN rfl|exact rfl); refine ⟨?_, ?_, ?_⟩; rotate_left; (focus (repeat (first | exact BR.nil | refine BR.one rfl rfl rfl ?_ | (refine BR.row rfl rfl rfl rfl ?_ ?_; (focus (repeat (first | exact trivial | assumption | exact OkA.z (by kernel_rfl) (by kernel_rfl) | refine ⟨rfl, ?_⟩ | refine ⟨?_, ?_⟩))))))); clear hH; intro W g hH; (try simp only [Act.put, pA, pB, pC]))) | (((first | (refine hApp 1 0 tab_ok tabs_ok rfl rfl rfl rfl rfl rfl rfl hH rfl rfl rfl rfl ?_; refine ⟨?_, ?_, ?_⟩; (focus assumption); (focus (first | omega | (simp; omega))))); clear hH; intro W g c p q J hG hL hJ hH; (try simp only [putH, fls, List.append_nil] at hH hL); (try simp only [Act.put, pA, pB, pC]))) | ((first | (refine hBd tab_ok rfl ?_ rfl rfl rfl hH ?_; (focus first|exact wN rfl|exact rfl); refine ⟨?_, ?_, ?_⟩; rotate_left; (focus (repeat (first | exact BR.nil | refine BR.one rfl rfl rfl ?_ | (refine BR.row rfl rfl rfl rfl ?_ ?_; (focus (repeat (first | exact trivial | assumption | exact OkA.z (by kernel_rfl) (by kernel_rfl) | refine ⟨rfl, ?_⟩ | refine ⟨?_, ?_⟩))))))))); clear hH; (first | intro W g hH | intro W hH); ((try simp only [Act.put, pA, pB, pC]))))
          have hp := hG.hp
          have hq := hG.hq
          have hle := hG.le
          have hmo := hG.most
          clear hG
          have e1 : (Xc ++ [(⟨⟨⟨kz, Gz, exz, lz⟩, false⟩, pz, cz⟩ : Cv)]).length = Xc.length + 1 := by simp
          have e2 : cvsL (Xc ++ [(⟨⟨⟨kz, Gz, exz, lz⟩, false⟩, pz, cz⟩ : Cv)]) = cvsL Xc ++ (.int .i64 kz :: (YZ ++ [.bool exz, .slice pz lz.length cz, .bool false])) := by rw [cvsL_snoc, HYZ.out]; rfl
          refine ⟨⟨j + 1, Xc ++ [(⟨⟨⟨kz, Gz, exz, lz⟩, false⟩, pz, cz⟩ : Cv)], g, c, q, J, by simp, by omega, by rw [e1] <;> simp, Lib.hid (by rw [HREST.out]; exact HR.out), by rw [e1]; omega, Lib.hid (fun v hv => ?_), by rw [e1]; exact ⟨rfl, by rw [← hq, hp] <;> rfl, hle, hmo⟩, hJ, ?_⟩, by simp [intOf]; omega⟩
          · rcases List.mem_append.1 hv with hv | hv
            · exact HV.out v hv
            · obtain rfl := List.mem_singleton.1 hv
              exact .inr ⟨_, HzM.out, rfl⟩
          · rw [show (Xc ++ [(⟨⟨⟨kz, Gz, exz, lz⟩, false⟩, pz, cz⟩ : Cv)]).length * 21 = p by rw [hp, e1] <;> rfl, e2]
            exact hH.sub (SubH.drop SubH.refl)
        · have hja' : ja < X.length := by simpa using hja
          rw [hlx, List.getElem_map] at hr
          rw [ha, Nat.zero_add] at F1
          obtain ⟨qx, hqx, fA0⟩ := HCX.out ja hja'
          injection hqx with hqx
          subst hqx
          have fAF := fA0.partS (k := 17) (evS_part2 _) (by simp [adL_len])
          have aX := HAX.out _ (List.getElem_mem hja')
          have da : decide ((ja : Int) < 0) = false := decide_eq_false (by omega)
          clear fA0 ha hlx
          generalize X[ja] = x at *
          clear hja
          obtain ⟨⟨kx, Gx, exx, lx⟩, px, cx⟩ := x
          simp only at fAF hr aX
          have FS := Lib.hid (fun W (hb : Below w.heap.size w W) => rSameF_any (x := exx) (y := exz) (c := cx) (c' := cz) (aX.below hb) (aZ.below hb))
          unfold flS at FS
          clear aX aZ
          cases hs : sameF exx exz lx lz
          · rw [hs] at hr FS
            have HR := Lib.hid (show (Xc ++ [(⟨⟨⟨kz, Gz, exz, lz⟩, false⟩, pz, cz⟩ : Cv)]).map Cv.x ++ rest = res by have := hr; simpa using this)
            clear hr hs
            go_wp2_with (fail)
            ((with_reducible refine regKN [] hH (SubH.refl) (by kernel_rfl) ?_); (clear hH; intro W hH); (refine hk_pures (fuel := 6) (pk 0 rfl (pk 1 rfl (pk 2 rfl (pk 3 rfl (pk 6 rfl (pk 7 rfl (pk 8 rfl (pk 9 rfl (PickR.nil))))))))) (by kernel_rfl) (by kernel_rfl) (fun _ _ _ _ _ h => h) ?_; (repeat (go_big_quiet_step (fail))); refine hk_nil ?_); (refine hk_loads (fuel := 4) (pk 4 rfl (pk 10 rfl (PickR.nil))) (by kernel_rfl) (by kernel_rfl) (fun _ _ _ _ _ h => h) hH ?_ ?_; (focus (exact SubI.h)); intro hne; (repeat (first | (go_big_quiet_want; (first | ((first | (refine qD1 tab_ok rfl rfl rfl rfl ?_; refine ⟨_, fun W h => HL0.out W (h.sub (SubH.drop SubH.refl)), ?_⟩) | (refine qDR tab_ok rfl rfl rfl rfl ?_; (first | refine ⟨_, fun W h => HLE.out W (h.sub (SubH.drop SubH.refl)), ⟨rfl, oY, rfl, rfl, trivial⟩, rfl, ?_⟩ | refine ⟨_, fun W h => HL1.out W (h.sub (SubH.drop SubH.refl)), ⟨oY, trivial⟩, rfl, ?_⟩))))); (try simp only [Act.put, pA, pB, pC]); go_big_quiet_on) | go_big_quiet_step (fail))); refine hk_nil ?_; clear hne); (refine hk_one (fuel := 3) 5 rfl (by kernel_rfl) ?_; go_wp2_with (first | ((first | ((with_reducible refine callH hH ?_); refine ⟨?_, ?_, ?_⟩; rotate_left; (focus (first | (exact F1.out _ hH.below) | (exact F2.out _ hH.below))))); clear hH; (first | intro W g hH | intro W hH); ((try simp only [Act.put, pA, pB, pC])))); refine hkQ_normal hH ?_ ?_; (focus (exact SubI.h)); (try simp only [Act.put, pA, pB, pC])); (refine hk_one (fuel := 2) 11 rfl (by kernel_rfl) ?_; go_wp2_with (first | ((first | ((with_reducible refine callH hH ?_); refine ⟨?_, ?_, ?_⟩; rotate_left; (focus (first | (exact F1.out _ hH.below) | (exact F2.out _ hH.below))))); clear hH; (first | intro W g hH | intro W hH); ((try simp only [Act.put, pA, pB, pC])))); refine hkQ_normal hH ?_ ?_; (focus (exact SubI.h)); (try simp only [Act.put, pA, pB, pC])); (refine hk_pures (fuel := 0) (pk 12 rfl (pk 13 rfl (PickR.nil))) (by kernel_rfl) (by kernel_rfl) (fun _ _ _ _ _ h => h) ?_; (repeat (go_big_quiet_step (fail))); refine hk_nil ?_); refine hk_endN (by kernel_rfl) ?_)
            go_wp2_with (fail)
            ((with_reducible refine regKN [] hH (SubH.refl) (by kernel_rfl) ?_); (clear hH; intro W hH); (refine hk_pures (fuel := 5) (pk 0 rfl (pk 1 rfl (pk 2 rfl (pk 3 rfl (pk 4 rfl (pk 5 rfl (pk 6 rfl (pk 8 rfl (pk 9 rfl (pk 10 rfl (pk 11 rfl (PickR.nil)))))))))))) (by kernel_rfl) (by kernel_rfl) (fun _ _ _ _ _ h => h) ?_; (repeat (go_big_quiet_step (fail))); refine hk_nil ?_); (refine hk_loads (fuel := 3) (pk 7 rfl (pk 12 rfl (PickR.nil))) (by kernel_rfl) (by kernel_rfl) (fun _ _ _ _ _ h => h) hH ?_ ?_; (focus (exact SubI.h)); intro hne; (repeat (first | (go_big_quiet_want; (first | ((refine qLoR tab_ok rfl rfl rfl rfl ?_; (first | refine ⟨_, fAF, ⟨rfl, rfl, trivial⟩, rfl, ?_⟩ | refine ⟨_, fBF, ⟨rfl, rfl, trivial⟩, rfl, ?_⟩)))); (try simp only [Act.put, pA, pB, pC]); go_big_quiet_on) | go_big_quiet_step (fail))); refine hk_nil ?_; clear hne); (refine hk_one (fuel := 2) 13 rfl (by kernel_rfl) ?_; go_wp2_with (first | ((first | ((with_reducible refine callH hH ?_); refine ⟨?_, ?_, ?_⟩; rotate_left; (focus (first | (exact FS.out _ hH.below))))); clear hH; (first | intro W g hH | intro W hH); ((try simp only [Act.put, pA, pB, pC])))); refine hkQ_normal hH ?_ ?_; (focus (exact SubI.h)); (try simp only [Act.put, pA, pB, pC])); (refine hk_pures (fuel := 0) (pk 14 rfl (pk 15 rfl (PickR.nil))) (by kernel_rfl) (by kernel_rfl) (fun _ _ _ _ _ h => h) ?_; (repeat (go_big_quiet_step (fail))); refine hk_nil ?_); refine hk_endN (by kernel_rfl) ?_)
            go_wp2_with (first | ((refine gL rfl ?_; refine hLoR tab_ok rfl ?_ rfl hH rfl rfl ?_; (focus first|exact wN rfl|exact rfl); refine ⟨_, fB, ⟨rfl, oZ, rfl, rfl, trivial⟩, rfl, ?_⟩; (clear hH; (first | intro W g hH | intro W hH); (try simp only [Act.put, pA, pB, pC])))) | ((refine hSl tab_ok rfl ?_ rfl tabs_ok rfl rfl rfl rfl rfl hH ?_; (focus first|exact wN rfl|exact rfl); refine ⟨?_, ?_, ?_⟩; rotate_left; (focus (repeat (first | exact BR.nil | refine BR.one rfl rfl rfl ?_ | (refine BR.row rfl rfl rfl rfl ?_ ?_; (focus (repeat (first | exact trivial | assumption | exact OkA.z (by kernel_rfl) (by kernel_rfl) | refine ⟨rfl, ?_⟩ | refine ⟨?_, ?_⟩))))))); clear hH; intro W g hH; (try simp only [Act.put, pA, pB, pC]))) | (((first | (refine hApp 1 0 tab_ok tabs_ok rfl rfl rfl rfl rfl rfl rfl hH rfl rfl rfl rfl ?_; refine ⟨?_, ?_, ?_⟩; (focus assumption); (focus (first | omega | (simp; omega))))); clear hH; intro W g c p q J hG hL hJ hH; (try simp only [putH, fls, List.append_nil] at hH hL); (try simp only [Act.put, pA, pB, pC]))) | ((first | (refine hBd tab_ok rfl ?_ rfl rfl rfl hH ?_; (focus first|exact wN rfl|exact rfl); refine ⟨?_, ?_, ?_⟩; rotate_left; (focus (repeat (first | exact BR.nil | refine BR.one rfl rfl rfl ?_ | (refine BR.row rfl rfl rfl rfl ?_ ?_; (focus (repeat (first | exact trivial | assumption | exact OkA.z (by kernel_rfl) (by kernel_rfl) | refine ⟨rfl, ?_⟩ | refine ⟨?_, ?_⟩))))))))); clear hH; (first | intro W g hH | intro W hH); ((try simp only [Act.put, pA, pB, pC]))))
            have hp := hG.hp
            have hq := hG.hq
            have hle := hG.le
            have hmo := hG.most
            clear hG
            have e1 : (Xc ++ [(⟨⟨⟨kz, Gz, exz, lz⟩, false⟩, pz, cz⟩ : Cv)]).length = Xc.length + 1 := by simp
            have e2 : cvsL (Xc ++ [(⟨⟨⟨kz, Gz, exz, lz⟩, false⟩, pz, cz⟩ : Cv)]) = cvsL Xc ++ (.int .i64 kz :: (YZ ++ [.bool exz, .slice pz lz.length cz, .bool false])) := by rw [cvsL_snoc, HYZ.out]; rfl
            refine ⟨⟨j + 1, Xc ++ [(⟨⟨⟨kz, Gz, exz, lz⟩, false⟩, pz, cz⟩ : Cv)], g, c, q, J, by simp, by omega, by rw [e1] <;> simp, Lib.hid (by rw [HREST.out]; exact HR.out), by rw [e1]; omega, Lib.hid (fun v hv => ?_), by rw [e1]; exact ⟨rfl, by rw [← hq, hp] <;> rfl, hle, hmo⟩, hJ, ?_⟩, by simp [intOf]; omega⟩
            · rcases List.mem_append.1 hv with hv | hv
              · exact HV.out v hv
              · obtain rfl := List.mem_singleton.1 hv
                exact .inr ⟨_, HzM.out, rfl⟩
            · rw [show (Xc ++ [(⟨⟨⟨kz, Gz, exz, lz⟩, false⟩, pz, cz⟩ : Cv)]).length * 21 = p by rw [hp, e1] <;> rfl, e2]
              exact hH.sub (SubH.drop SubH.refl)
          · rw [hs] at hr FS
            have HR := Lib.hid (show Xc.map Cv.x ++ rest = res by have := hr; simpa using this)
            clear hr hs
            go_wp2_with (fail)
            ((with_reducible refine regKN [] hH (SubH.refl) (by kernel_rfl) ?_); (clear hH; intro W hH); (refine hk_pures (fuel := 6) (pk 0 rfl (pk 1 rfl (pk 2 rfl (pk 3 rfl (pk 6 rfl (pk 7 rfl (pk 8 rfl (pk 9 rfl (PickR.nil))))))))) (by kernel_rfl) (by kernel_rfl) (fun _ _ _ _ _ h => h) ?_; (repeat (go_big_quiet_step (fail))); refine hk_nil ?_); (refine hk_loads (fuel := 4) (pk 4 rfl (pk 10 rfl (PickR.nil))) (by kernel_rfl) (by kernel_rfl) (fun _ _ _ _ _ h => h) hH ?_ ?_; (focus (exact SubI.h)); intro hne; (repeat (first | (go_big_quiet_want; (first | ((first | (refine qD1 tab_ok rfl rfl rfl rfl ?_; refine ⟨_, fun W h => HL0.out W (h.sub (SubH.drop SubH.refl)), ?_⟩) | (refine qDR tab_ok rfl rfl rfl rfl ?_; (first | refine ⟨_, fun W h => HLE.out W (h.sub (SubH.drop SubH.refl)), ⟨rfl, oY, rfl, rfl, trivial⟩, rfl, ?_⟩ | refine ⟨_, fun W h => HL1.out W (h.sub (SubH.drop SubH.refl)), ⟨oY, trivial⟩, rfl, ?_⟩))))); (try simp only [Act.put, pA, pB, pC]); go_big_quiet_on) | go_big_quiet_step (fail))); refine hk_nil ?_; clear hne); (refine hk_one (fuel := 3) 5 rfl (by kernel_rfl) ?_; go_wp2_with (first | ((first | ((with_reducible refine callH hH ?_); refine ⟨?_, ?_, ?_⟩; rotate_left; (focus (first | (exact F1.out _ hH.below) | (exact F2.out _ hH.below))))); clear hH; (first | intro W g hH | intro W hH); ((try simp only [Act.put, pA, pB, pC])))); refine hkQ_normal hH ?_ ?_; (focus (exact SubI.h)); (try simp only [Act.put, pA, pB, pC])); (refine hk_one (fuel := 2) 11 rfl (by kernel_rfl) ?_; go_wp2_with (first | ((first | ((with_reducible refine callH hH ?_); refine ⟨?_, ?_, ?_⟩; rotate_left; (focus (first | (exact F1.out _ hH.below) | (exact F2.out _ hH.below))))); clear hH; (first | intro W g hH | intro W hH); ((try simp only [Act.put, pA, pB, pC])))); refine hkQ_normal hH ?_ ?_; (focus (exact SubI.h)); (try simp only [Act.put, pA, pB, pC])); (refine hk_pures (fuel := 0) (pk 12 rfl (pk 13 rfl (PickR.nil))) (by kernel_rfl) (by kernel_rfl) (fun _ _ _ _ _ h => h) ?_; (repeat (go_big_quiet_step (fail))); refine hk_nil ?_); refine hk_endN (by kernel_rfl) ?_)
            go_wp2_with (fail)
            ((with_reducible refine regKN [] hH (SubH.refl) (by kernel_rfl) ?_); (clear hH; intro W hH); (refine hk_pures (fuel := 5) (pk 0 rfl (pk 1 rfl (pk 2 rfl (pk 3 rfl (pk 4 rfl (pk 5 rfl (pk 6 rfl (pk 8 rfl (pk 9 rfl (pk 10 rfl (pk 11 rfl (PickR.nil)))))))))))) (by kernel_rfl) (by kernel_rfl) (fun _ _ _ _ _ h => h) ?_; (repeat (go_big_quiet_step (fail))); refine hk_nil ?_); (refine hk_loads (fuel := 3) (pk 7 rfl (pk 12 rfl (PickR.nil))) (by kernel_rfl) (by kernel_rfl) (fun _ _ _ _ _ h => h) hH ?_ ?_; (focus (exact SubI.h)); intro hne; (repeat (first | (go_big_quiet_want; (first | ((refine qLoR tab_ok rfl rfl rfl rfl ?_; (first | refine ⟨_, fAF, ⟨rfl, rfl, trivial⟩, rfl, ?_⟩ | refine ⟨_, fBF, ⟨rfl, rfl, trivial⟩, rfl, ?_⟩)))); (try simp only [Act.put, pA, pB, pC]); go_big_quiet_on) | go_big_quiet_step (fail))); refine hk_nil ?_; clear hne); (refine hk_one (fuel := 2) 13 rfl (by kernel_rfl) ?_; go_wp2_with (first | ((first | ((with_reducible refine callH hH ?_); refine ⟨?_, ?_, ?_⟩; rotate_left; (focus (first | (exact FS.out _ hH.below))))); clear hH; (first | intro W g hH | intro W hH); ((try simp only [Act.put, pA, pB, pC])))); refine hkQ_normal hH ?_ ?_; (focus (exact SubI.h)); (try simp only [Act.put, pA, pB, pC])); (refine hk_pures (fuel := 0) (pk 14 rfl (pk 15 rfl (PickR.nil))) (by kernel_rfl) (by kernel_rfl) (fun _ _ _ _ _ h => h) ?_; (repeat (go_big_quiet_step (fail))); refine hk_nil ?_); refine hk_endN (by kernel_rfl) ?_)
            go_wp2_with (fail)
            exact ⟨⟨j + 1, Xc, gc, cc, qc, Jc, by simp, by omega, rfl, Lib.hid (by rw [HREST.out]; exact HR.out), by omega, HV, hG, oJ, hH⟩, by simp [intOf]; omega⟩
    · have dj : decide ((j : Int) < (Y.length : Int)) = false := decide_eq_false (by omega)
      have hr := HR.out
      rw [List.drop_of_length_le (by simp; omega), List.flatMap_nil, List.append_nil] at hr
      have HR2 := Lib.hid hr
      have HY3 := Lib.hid hY3.out
      clear hr HR HF1 HF2 hG
      go_wp2_with (fail)
      go_ret
      exact HEND.out _ _ _ _ _ _ _ HR2.out HV.out (by omega) hH HY3.out
end
end
section
open Go.ChangeShapes Go.WideShapes Go.ChangeAt Go.RowKit
set_option linter.unusedVariables false
set_option linter.unusedSimpArgs false
set_option maxRecDepth 20000
attribute [local irreducible] wpList

def OwnCP (w : World) (R : List En) (e : Ending) (w' : World) : Prop := ∃ g c q J X D, e = .returned (.slice (some ⟨g, 0, none⟩) R.length c) ∧ X.map Ev.e = R ∧ R.length ≤ c ∧ (∀ x ∈ X, ∀ B w0 W, Hp B w0 W D → AdsAt W x.p x.e.src) ∧ Made w w' ((g, 30, true, [.many (evsL X) (X.length * 20), .many J q]) :: D)
section
variable {w : World} {p p' : Option Addr} {c c' : Nat}
set_option maxHeartbeats 1000000 in
theorem ownC_any {R : List En} (hm : R.length ≤ 1000) (h : EnsAt w p R) : Calls Try.prog 10 #[.slice p R.length c] w fun e w' => OwnCP w (R.map fewE) e w' := by
  have HR := Lib.hid h
  clear h
  have hH := Hp.refl w
  go_enter Try.func10, Try.ntmps10
  go_wp2_with (fail)
  have hH := hH.alloc 30 (S := [.many [] 0, .many [] 0]) ⟨⟨rfl, by simp⟩, ⟨rfl, by simp⟩, trivial⟩
  go_loopw [3, 4] (fun s i wr => ∃ (j : Nat) (X : List Ev) (g cc q : Nat) (J : List Value) (D : HB), i = .int .i64 (j : Int) ∧ j ≤ R.length ∧ X.map Ev.e = (R.take j).map fewE ∧ X.length = j ∧ s = .slice (some ⟨g, 0, none⟩) X.length cc ∧ Grow 20 X.length cc (X.length * 20) q ∧ OkA J q ∧ Hp w.heap.size w wr ((g, 30, true, [.many (evsL X) (X.length * 20), .many J q]) :: D) ∧ (∀ r ∈ D, r.2.2.1 = true) ∧ ∀ x ∈ X, ∀ B w0 W, Hp B w0 W D → AdsAt W x.p x.e.src) (fun _ i _ => 1000 - (intOf i).toNat)
  case atStart => exact ⟨0, [], _, 0, 0, [], [], rfl, by omega, rfl, rfl, rfl, ⟨rfl, rfl, Nat.le_refl _, by simp [maxLen]⟩, ⟨rfl, by simp⟩, hH, by simp, by simp⟩
  case round =>
    clear hH
    obtain ⟨j, X, g, cc, q, J, D, rfl, hjR, hX, hXj, rfl, hG, oJ, hH, hD, hXD⟩ := hrel
    have hXD := Lib.hid hXD
    have hD := Lib.hid hD
    by_cases hjl : j < R.length
    · obtain ⟨a, s, c1, ha, fO, fA⟩ := HR.out.get hjl
      subst ha
      have dj : decide ((j : Int) < (R.length : Int)) = true := decide_eq_true (by omega)
      have hTake := Lib.hid (show (R.take (j + 1)).map fewE = X.map Ev.e ++ [fewE R[j]] by rw [hX, ← List.take_append_getElem hjl, List.map_append]; rfl)
      have HXj := Lib.hid hXj
      have hX1 : X.length ≤ 1000 := by omega
      have hj1 : j < 1000 := by omega
      have HjR := Lib.hid hjl
      clear hX HR hXj hjR
      generalize hr : R[j] = r at *
      clear hr
      obtain ⟨k, G, b, l⟩ := r
      unfold enS at fO
      simp only at fO fA hTake
      have oG := adL_ok G
      obtain ⟨Y, hYY⟩ : ∃ Y, Y = adL G := ⟨_, rfl⟩
      rw [← hYY] at fO oG
      have HY := Lib.hid hYY
      clear hYY
      go_wp2_with (first | ((refine gL rfl ?_; refine hLoR tab_ok rfl ?_ rfl hH rfl rfl ?_; (focus first|exact wN rfl|exact rfl); refine ⟨_, fO, ⟨rfl, oG, rfl, rfl, trivial⟩, rfl, ?_⟩; (clear hH; (first | intro W g hH | intro W hH); (try simp only [Act.put, pA, pB, pC])))) | ((go_at_call 8; refine hEntryS HY hH (fA.below hH.below) ?_; (clear hH; intro W ga ca qa Ja l6 hl6 hH); ((try simp only [Act.put, pA, pB, pC])))) | ((refine hSl tab_ok rfl ?_ rfl tabs_ok rfl rfl rfl rfl rfl hH ?_; (focus first|exact wN rfl|exact rfl); refine ⟨?_, ?_, ?_⟩; rotate_left; (focus (repeat (first | exact BR.nil | refine BR.one rfl rfl rfl ?_ | (refine BR.row rfl rfl rfl rfl ?_ ?_; (focus (repeat (first | exact trivial | assumption | exact OkA.z (by kernel_rfl) (by kernel_rfl) | refine ⟨rfl, ?_⟩ | refine ⟨?_, ?_⟩))))))); clear hH; intro W g hH; (try simp only [Act.put, pA, pB, pC]))) | (((first | (refine hApp 2 0 tab_ok tabs_ok rfl rfl rfl rfl rfl rfl rfl hH rfl rfl rfl rfl ?_; refine ⟨?_, ?_, ?_⟩; (focus assumption); (focus (first | omega | (simp; omega))))); clear hH; intro W g c p q J hG hL hJ hH; (try simp only [putH, fls, List.append_nil] at hH hL); (try simp only [Act.put, pA, pB, pC]))))
      have hp := hG.hp
      have hq := hG.hq
      have hle := hG.le
      have hmo := hG.most
      clear hG
      have h6 : l6.length ≤ 6 := by rw [hl6.out, List.length_take]; omega
      refine ⟨⟨j + 1, X ++ [⟨⟨k, G, b, l6⟩, some ⟨ga, 0, none⟩, ca⟩], g, c, q, J, (ga, 25, true, [.many (adsL l6) (l6.length * 17), .many Ja qa]) :: D, by simp, HjR.out, ?_, by simp [HXj.out], by simp, ?_, hJ, ?_, ?_, ?_⟩, by simp [intOf]; omega⟩
      · rw [hTake.out, List.map_append]
        unfold fewE
        rw [← hl6.out]
        rfl
      · have e1 : (X ++ [(⟨⟨k, G, b, l6⟩, some ⟨ga, 0, none⟩, ca⟩ : Ev)]).length = X.length + 1 := by simp
        rw [e1]
        exact ⟨rfl, by rw [← hq, hp], hle, hmo⟩
      · have e1 : (X ++ [(⟨⟨k, G, b, l6⟩, some ⟨ga, 0, none⟩, ca⟩ : Ev)]).length * 20 = p := by rw [hp]; simp
        have e2 : evsL (X ++ [(⟨⟨k, G, b, l6⟩, some ⟨ga, 0, none⟩, ca⟩ : Ev)]) = evsL X ++ (.int .i64 k :: (Y ++ [.bool b, .slice (some ⟨ga, 0, none⟩) l6.length ca])) := by rw [evsL_snoc, HY.out]; rfl
        rw [e1, e2]
        exact (hH.sub (SubH.drop SubH.refl)).perm (List.Perm.swap _ _ _)
      · intro r hr
        rcases List.mem_cons.1 hr with rfl | hr
        · rfl
        · exact hD.out r hr
      · intro x hx B w0 W h
        rcases List.mem_append.1 hx with hx | hx
        · exact hXD.out x hx _ _ _ (h.sub (SubH.drop SubH.refl))
        · obtain rfl := List.mem_singleton.1 hx
          exact adsAt_row (L := l6) (Nat.le_trans h6 (by decide)) (by have := (h.rows.mem (i := 0) rfl).1; rwa [fls_two] at this)
    · have hend := Lib.hid (show R.map fewE = X.map Ev.e by rw [hX, List.take_of_length_le (by omega)])
      have dj : decide ((j : Int) < (R.length : Int)) = false := decide_eq_false (by omega)
      have hXm : X.length ≤ 9223372036854775807 := by omega
      have hjl2 : R.length ≤ j := by omega
      have hcap := Lib.hid hG.le
      clear hX HR hjl hjR
      go_wp2_with (fail)
      go_ret
      refine ⟨g, cc, q, J, X, D, by rw [hend.out, List.length_map]; rfl, hend.out.symm, by have := hcap.out; rwa [hend.out, List.length_map], hXD.out, hH, fun r hr => ?_⟩
      rcases List.mem_cons.1 hr with rfl | hr
      · rfl
      · exact hD.out r hr
theorem hOwnC {B : Nat} {w0 W : World} {H : HB} {R : List En} {Q : Ending → World → Prop} (hm : R.length ≤ 1000) (h6 : ∀ e ∈ R, e.src.length ≤ 6) (hH : Hp B w0 W H) (h : EnsAt W p R) (hR : ∀ W' g c D, Hid (∀ B w0 W, Hp B w0 W D → EnsAt W (some ⟨g, 0, none⟩) R) → Hid (R.length ≤ c) → Hid (∀ r ∈ D, r.2.2.1 = true) → Hp B w0 W' (H ++ D) → Q (.returned (.slice (some ⟨g, 0, none⟩) R.length c)) W') :
    Calls Try.prog 10 #[.slice p R.length c] W Q :=
  (ownC_any hm h).mono fun _ _ ⟨g, c, q, J, X, D, he, hX, hc, hA, hM⟩ => by
    subst he
    rw [fewE_id h6] at hX hc ⊢
    have hXl : X.length ≤ 1000 := by have := congrArg List.length hX; rw [List.length_map] at this; omega
    refine hR _ g c _ (Lib.hid fun B w0 W h => ?_) (Lib.hid hc) (Lib.hid hM.2) (hH.join hM)
    have := ensAt_row (R := X) (by omega) (by have := (h.rows.mem (i := 0) rfl).1; rwa [fls_two] at this) (fun x hx => hA x hx _ _ _ (h.sub (SubH.drop SubH.refl)))
    rwa [hX] at this
theorem stepF_len {R : List En} {x : Ch} : (stepF R x).length ≤ R.length + 1 := by
  unfold stepF
  split
  · omega
  · split
    · split
      · have := List.length_eraseIdx_le R (bsF R x.e R.length 0 R.length); omega
      · simp
    · split
      · simp; omega
      · omega
theorem applyF_len : ∀ {C : List Ch} {R : List En}, (applyF R C).length ≤ R.length + C.length
  | [], R => by unfold applyF; simp
  | x :: C, R => by
    have h1 := applyF_len (C := C) (R := stepF R x)
    have h2 := stepF_len (R := R) (x := x)
    show (applyF (stepF R x) C).length ≤ _
    simp; omega
theorem fewD_len (L : List En) : (fewD L).length ≤ 8 := by
  have := applyF_len (C := ((L.take 8).map fewO).map chN) (R := [])
  simp only [List.length_map, List.length_take, List.length_nil] at this
  show (applyF [] (((L.take 8).map fewO).map chN)).length ≤ 8
  omega
theorem GoodE.gd {R : List En} (h : GoodE R) : ∀ e ∈ R, gdA e.grp = true := fun e he => one_gd (one_placed (h.one e he))
theorem hRDiff {B : Nat} {w0 W : World} {H : HB} {q q' : Addr} {L M : List En} {Q : Ending → World → Prop} (hH : Hp B w0 W H) (h : EnsAt W (some q) L) (h' : EnsAt W (some q') M) (gL : GoodE L) (gM : GoodE M) (lL : L.length ≤ 100) (lM : M.length ≤ 100) (sL : ∀ e ∈ L, e.src.length ≤ 6) (sM : ∀ e ∈ M, e.src.length ≤ 6)
    (hQ : ∀ W' p c D, ChsAt W' p (diffF L M) → Hid (∀ r ∈ D, r.2.2.1 = true) → Hp B w0 W' (H ++ D) → Q (.returned (.slice p (diffF L M).length c)) W') : Calls Try.prog 27 #[.slice (some q) L.length c, .slice (some q') M.length c'] W Q := by
  obtain ⟨X, rfl, hX, aX⟩ := h.ev
  obtain ⟨Z, rfl, hZ, aZ⟩ := h'.ev
  rw [List.length_map] at lL lM
  have := rDiff_any (c := c) (c' := c') hX hZ aX aZ gL gM lL lM (fun x hx => by have := sL x.e (List.mem_map_of_mem hx); omega) (fun x hx => by have := sM x.e (List.mem_map_of_mem hx); omega)
  rw [List.length_map, List.length_map]
  refine this.mono fun _ w' ⟨p, c, Xc, D, he, hm, h1, h2, h3, h4⟩ => ?_
  subst he
  have hl : Xc.length = (diffF (X.map Ev.e) (Z.map Ev.e)).length := by rw [← h1, List.length_map]
  rw [hl]
  refine hQ w' p c D ⟨by rw [← hl]; omega, Xc, h1, fun i hi => ⟨h4 _ _ _ hm.1 i hi, ?_⟩⟩ (Lib.hid hm.2) (hH.join hm)
  rcases h2 _ (List.getElem_mem hi) with h5 | ⟨z, hz, h5⟩
  · rw [h5]; exact AdsAt.nil
  · rw [h5]
    exact (aZ z hz).below hm.1.below
end
end
end Go.Proofs.Ytdbdlhmgokllaaa
