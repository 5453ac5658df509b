/-
  Digests in plain Lean: they rise; the package's way behind a change is the reference's.
-/
import Derived.Test.YtdbdlhmgokllaaaS9
import Derived.Test.YtdbdlhmgokllaaaS6
namespace Go.Proofs.Ytdbdlhmgokllaaa
set_option linter.unusedVariables false
set_option linter.unusedSimpArgs false
set_option maxRecDepth 20000

theorem cmpI_anti (x y : Int) : cmpI y x = - cmpI x y := by
  unfold cmpI
  by_cases h1 : x < y
  · rw [if_pos h1, if_neg (by omega), if_pos h1]; rfl
  · by_cases h2 : y < x
    · rw [if_pos h2, if_neg h1, if_pos h2]
    · rw [if_neg h1, if_neg h2, if_neg h2, if_neg h1]; rfl
theorem cmpI_zero {x y : Int} (h : cmpI x y = 0) : x = y := by
  unfold cmpI at h
  by_cases h1 : x < y
  · rw [if_pos h1] at h; cases h
  · rw [if_neg h1] at h
    by_cases h2 : y < x
    · rw [if_pos h2] at h; cases h
    · omega
theorem cmpI_neg {x y : Int} : cmpI x y < 0 ↔ x < y := by
  unfold cmpI
  by_cases h1 : x < y
  · rw [if_pos h1]; exact ⟨fun _ => h1, fun _ => by decide⟩
  · rw [if_neg h1]
    refine ⟨fun h => ?_, fun h => absurd h h1⟩
    split at h
    · exact absurd h (by decide)
    · exact absurd h (by decide)
theorem cmpA_zero {a b : Ad} (h : cmpA a b = 0) (c : Ad) : cmpA a c = cmpA b c := by
  unfold cmpA at h ⊢
  by_cases hv : a.v = b.v
  · rw [if_pos hv] at h
    have e := cb_eq h
    rw [hv] at e ⊢
    rw [e]
  · rw [if_neg hv] at h
    split at h <;> cases h
theorem cmpE_anti (a b : En) : cmpE b a = - cmpE a b := by
  unfold cmpE orI
  rw [cmpI_anti a.vlan b.vlan, cmpA_anti (a := a.grp) (b := b.grp)]
  by_cases h : cmpI a.vlan b.vlan = 0
  · rw [if_pos h, if_pos (by omega)]
  · rw [if_neg h, if_neg (by omega)]
theorem cmpE_0 {a b : En} (h : cmpE a b = 0) : a.vlan = b.vlan ∧ cmpA a.grp b.grp = 0 := by
  unfold cmpE orI at h
  by_cases h1 : cmpI a.vlan b.vlan = 0
  · rw [if_pos h1] at h
    exact ⟨cmpI_zero h1, h⟩
  · rw [if_neg h1] at h
    exact absurd h h1
theorem cmpE_zero {a b : En} (h : cmpE a b = 0) (c : En) : cmpE a c = cmpE b c := by
  obtain ⟨h1, h2⟩ := cmpE_0 h
  unfold cmpE
  rw [h1, cmpA_zero h2]
theorem cmpE_neg {a b : En} : cmpE a b < 0 ↔ a.vlan < b.vlan ∨ (a.vlan = b.vlan ∧ cmpA a.grp b.grp < 0) := by
  unfold cmpE orI
  by_cases h1 : cmpI a.vlan b.vlan = 0
  · rw [if_pos h1]
    have := cmpI_zero h1
    constructor
    · intro h; exact .inr ⟨this, h⟩
    · rintro (h | h)
      · omega
      · exact h.2
  · rw [if_neg h1, cmpI_neg]
    constructor
    · intro h; exact .inl h
    · rintro (h | h)
      · exact h
      · exfalso; apply h1; rw [h.1]; unfold cmpI; rw [if_neg (by omega), if_neg (by omega)]
theorem cmpE_trans {a b c : En} (h : cmpE a b < 0) (k : cmpE b c < 0) : cmpE a c < 0 := by
  rw [cmpE_neg] at *
  rcases h with h | ⟨h, h'⟩ <;> rcases k with k | ⟨k, k'⟩
  · exact .inl (by omega)
  · exact .inl (by omega)
  · exact .inl (by omega)
  · exact .inr ⟨by omega, cmpA_trans h' k'⟩
def RiseE (R : List En) : Prop := R.Pairwise fun a b => cmpE a b < 0
inductive SplitE (x : En) : List En → List En → List En → Prop
  | last {A} (h : ∀ a ∈ A, cmpE a x < 0) : SplitE x A A []
  | here {A b B} (h : ∀ a ∈ A, cmpE a x < 0) (h1 : 0 ≤ cmpE b x) (h2 : ∀ c ∈ B, 0 < cmpE c x) : SplitE x (A ++ b :: B) A (b :: B)
theorem rise_split (x : En) : ∀ {R : List En}, RiseE R → ∃ A Bn, SplitE x R A Bn
  | [], _ => ⟨[], [], .last (by simp)⟩
  | a :: R, h => by
    obtain ⟨h1, h2⟩ := List.pairwise_cons.1 h
    by_cases hc : cmpE a x < 0
    · obtain ⟨A, Bn, hs⟩ := rise_split x h2
      refine ⟨a :: A, Bn, ?_⟩
      cases hs with
      | last h' => exact .last (fun b hb => by rcases List.mem_cons.1 hb with rfl | hb; exact hc; exact h' b hb)
      | here h' k1 k2 => exact .here (A := a :: A) (fun b hb => by rcases List.mem_cons.1 hb with rfl | hb; exact hc; exact h' b hb) k1 k2
    · refine ⟨[], a :: R, .here (A := []) (by simp) (by omega) (fun c hc2 => ?_)⟩
      have hac := h1 c hc2
      have hxc : cmpE x c < 0 := by
        by_cases hz : cmpE a x = 0
        · rw [← cmpE_zero hz c]; exact hac
        · have : cmpE x a < 0 := by rw [cmpE_anti a x]; omega
          exact cmpE_trans this hac
      rw [cmpE_anti x c]
      omega
inductive NextE (x : En) (R : List En) : List En → Prop
  | same : NextE x R R
  | del {A b B} (h : SplitE x R A (b :: B)) (h0 : cmpE b x = 0) : NextE x R (A ++ B)
  | rep {A b B} (h : SplitE x R A (b :: B)) (h0 : cmpE b x = 0) (hx : oneE x = true) : NextE x R (A ++ x :: B)
  | ins {A Bn} (h : SplitE x R A Bn) (h0 : ∀ b ∈ Bn, 0 < cmpE b x) (hx : oneE x = true) (hl : R.length < 512) : NextE x R (A ++ x :: Bn)
section
variable {x : En} {R A Bn : List En}
theorem SplitE.eq (h : SplitE x R A Bn) : R = A ++ Bn := by cases h <;> simp
theorem SplitE.lo (h : SplitE x R A Bn) : ∀ a ∈ A, cmpE a x < 0 := by cases h <;> assumption
theorem SplitE.hi (h : SplitE x R A Bn) : ∀ b ∈ Bn, 0 ≤ cmpE b x := by
  cases h with
  | last h => simp
  | here h h1 h2 => intro c hc; rcases List.mem_cons.1 hc with rfl | hc; exact h1; have := h2 c hc; omega
theorem bsF_split (h : SplitE x R A Bn) : ∀ (f i j : Nat), i ≤ A.length → A.length ≤ j → j ≤ R.length → j - i ≤ f → bsF R x f i j = A.length
  | 0, i, j, hi, hj, hR, hf => by unfold bsF; omega
  | f + 1, i, j, hi, hj, hR, hf => by
    have hl : R.length = A.length + Bn.length := by rw [h.eq, List.length_append]
    unfold bsF
    by_cases hij : i < j
    · rw [if_pos hij, List.getElem?_eq_getElem (by omega)]
      simp only
      by_cases hm : (i + j) / 2 < A.length
      · have e : R[(i + j) / 2]'(by omega) = A[(i + j) / 2] := by
          have := h.eq
          subst this
          rw [List.getElem_append_left hm]
        rw [e, if_pos (h.lo _ (List.getElem_mem _))]
        exact bsF_split h f _ _ (by omega) hj hR (by omega)
      · have e : R[(i + j) / 2]'(by omega) = Bn[(i + j) / 2 - A.length]'(by omega) := by
          have := h.eq
          subst this
          rw [List.getElem_append_right (by omega)]
        have h0 := h.hi _ (List.getElem_mem (l := Bn) (n := (i + j) / 2 - A.length) (by omega))
        rw [e, if_neg (by omega)]
        exact bsF_split h f _ _ hi (by omega) (by omega) (by omega)
    · rw [if_neg hij]
      omega
theorem bs_split (h : SplitE x R A Bn) : bsF R x R.length 0 R.length = A.length := bsF_split h _ _ _ (by omega) (by rw [h.eq, List.length_append]; omega) (Nat.le_refl _) (by omega)
theorem isF_last (h : SplitE x R A []) : isF R x A.length = false := by
  have e := h.eq
  unfold isF
  rw [List.getElem?_eq_none (by rw [e]; simp)]
theorem isF_here {b : En} {B : List En} (h : SplitE x R A (b :: B)) : isF R x A.length = (cmpE b x == 0) := by
  have e := h.eq
  unfold isF
  rw [e, List.getElem?_append_right (Nat.le_refl _), Nat.sub_self]
  rfl
theorem findR_cons {a : En} {L : List En} {k : Nat} : findR (a :: L) x k = if cmpE a x = 0 then (k : Int) else findR L x (k + 1) := rfl
theorem goR_cons {α : Type} {ins : α → Bool} {y a : α} {i : Int} {k : Nat} {d : Bool} {L acc : List α} : goR ins y i k d (a :: L) acc = goR ins y i (k + 1) (d || ins a) L (acc ++ (if !d && ins a then [y] else []) ++ (if (k : Int) = i then [] else [a])) := rfl
theorem findR_skip : ∀ {A L : List En} {k : Nat}, (∀ a ∈ A, cmpE a x ≠ 0) → findR (A ++ L) x k = findR L x (k + A.length)
  | [], L, k, h => rfl
  | a :: A, L, k, h => by
    rw [List.cons_append, findR_cons, if_neg (h a (by simp)), findR_skip (fun b hb => h b (by simp [hb])), show k + (a :: A).length = k + 1 + A.length by simp; omega]
theorem findR_none {A : List En} {k : Nat} (h : ∀ a ∈ A, cmpE a x ≠ 0) : findR A x k = -1 := by
  have := findR_skip (L := []) (k := k) h
  rw [List.append_nil] at this
  rw [this]; rfl
theorem goR_skip {α : Type} {ins : α → Bool} {y : α} {i : Int} : ∀ {A L acc : List α} {k : Nat} {d : Bool}, (∀ a ∈ A, d = true ∨ ins a = false) → (i < (k : Int) ∨ ((k + A.length : Nat) : Int) ≤ i) → goR ins y i k d (A ++ L) acc = goR ins y i (k + A.length) d L (acc ++ A)
  | [], L, acc, k, d, h, hi => by rw [List.append_nil]; rfl
  | a :: A, L, acc, k, d, h, hi => by
    have hk : ¬ ((k : Int) = i) := by simp at hi; omega
    have hd : (!d && ins a) = false := by rcases h a (by simp) with h | h <;> simp [h]
    have hd2 : (d || ins a) = d := by rcases h a (by simp) with h | h <;> simp [h]
    rw [List.cons_append, goR_cons, hd, hd2, if_neg hk, goR_skip (fun b hb => h b (by simp [hb])) (by simp at hi ⊢; omega), show k + (a :: A).length = k + 1 + A.length by simp; omega]
    simp only [Bool.false_eq_true, if_false, List.append_nil, List.append_assoc, List.singleton_append]
theorem insR_lo {a : En} (h : cmpE a x < 0) : insR x a = false := by
  unfold insR
  have h1 := cmpE_sign a x h
  have h2 := cmpE_anti a x
  simp; omega
theorem insR_hi {a : En} (h : 0 ≤ cmpE a x) : insR x a = true := by
  unfold insR
  have h2 := cmpE_anti a x
  simp; omega
theorem step_both {g : Bool} (hR : RiseE R) : refStep R ⟨x, g⟩ = stepF R ⟨x, g⟩ ∧ NextE x R (stepF R ⟨x, g⟩) := by
  by_cases hp : (!placedE x || (!g && !oneE x)) = true
  · have e1 : refStep R ⟨x, g⟩ = R := by unfold refStep; rw [if_pos hp]
    have e2 : stepF R ⟨x, g⟩ = R := by unfold stepF; rw [if_pos hp]
    rw [e1, e2]
    exact ⟨rfl, .same⟩
  have hpl : placedE x = true := by cases h : placedE x <;> simp_all
  have hon : g = false → oneE x = true := fun hg => by cases h : oneE x <;> simp_all
  obtain ⟨A, Bn, hs⟩ := rise_split x hR
  have hbs := bs_split hs
  have hlo : ∀ a ∈ A, cmpE a x ≠ 0 := fun a ha => by have := hs.lo a ha; omega
  have hins : ∀ a ∈ A, g = true ∨ insR x a = false := fun a ha => .inr (insR_lo (hs.lo a ha))
  have href : refStep R ⟨x, g⟩ = if findR R x 0 < 0 ∧ (g = true ∨ 512 ≤ R.length) then R else endR x (goR (insR x) x (findR R x 0) 0 g R []) := by unfold refStep; rw [if_neg hp]
  cases Bn with
  | nil =>
    have hf := isF_last hs
    have hfr : findR R x 0 = -1 := by have e := hs.eq; rw [e, findR_skip hlo]; rfl
    have e : R = A := by simpa using hs.eq
    cases g with
    | true =>
      rw [stepF_gone (by rw [hbs]; exact hf), href, if_pos ⟨by rw [hfr]; decide, .inl rfl⟩]
      exact ⟨rfl, .same⟩
    | false =>
      by_cases hl : R.length < 512
      · have es := stepF_ins hpl (hon rfl) (by rw [hbs]; exact hf) hl
        rw [hbs] at es
        have e3 : R.take A.length ++ x :: R.drop A.length = A ++ [x] := by rw [e, List.take_of_length_le (Nat.le_refl _), List.drop_of_length_le (Nat.le_refl _)]
        rw [es, e3, href, if_neg (by rw [hfr]; simp; omega)]
        refine ⟨?_, .ins hs (by simp) (hon rfl) hl⟩
        have := goR_skip (ins := insR x) (y := x) (i := findR R x 0) (A := A) (L := []) (acc := []) (k := 0) (d := false) hins (by rw [hfr]; left; decide)
        rw [List.append_nil] at this
        rw [← e] at this
        rw [this]
        simp [goR, endR]
        exact e
      · rw [stepF_full (by rw [hbs]; exact hf) hl, href, if_pos ⟨by rw [hfr]; decide, .inr (by omega)⟩]
        exact ⟨rfl, .same⟩
  | cons b B =>
    have hf := isF_here hs
    have e : R = A ++ b :: B := hs.eq
    have h2 : ∀ c ∈ B, 0 < cmpE c x := by cases hs with | here h h1 h2 => exact h2
    have h1 : 0 ≤ cmpE b x := hs.hi b (by simp)
    by_cases h0 : cmpE b x = 0
    · rw [h0] at hf
      have hfr : findR R x 0 = A.length := by
        rw [e, findR_skip hlo, findR_cons, if_pos h0]
        simp
      have hno : ¬ (findR R x 0 < 0 ∧ (g = true ∨ 512 ≤ R.length)) := fun h => by rw [hfr] at h; omega
      rw [href, if_neg hno, hfr]
      have hgo : goR (insR x) x (A.length : Int) 0 g R [] = goR (insR x) x (A.length : Int) A.length g (b :: B) A := by
        have := goR_skip (ins := insR x) (y := x) (i := (A.length : Int)) (A := A) (L := b :: B) (acc := []) (k := 0) (d := g) hins (by right; simp)
        rw [← e] at this
        simpa using this
      rw [hgo, goR_cons, insR_hi h1, if_pos rfl]
      have hB : ∀ acc, goR (insR x) x (A.length : Int) (A.length + 1) (g || true) B acc = (acc ++ B, true) := fun acc => by
        have := goR_skip (ins := insR x) (y := x) (i := (A.length : Int)) (A := B) (L := []) (acc := acc) (k := A.length + 1) (d := true) (fun a _ => .inl rfl) (by left; omega)
        rw [List.append_nil] at this
        rw [Bool.or_true, this]
        rfl
      rw [hB]
      cases g with
      | true =>
        have es := stepF_del (R := R) (e := x) hpl (by rw [hbs]; exact hf)
        rw [hbs] at es
        have e3 : R.eraseIdx A.length = A ++ B := by rw [e, List.eraseIdx_append_of_length_le (Nat.le_refl _), Nat.sub_self]; rfl
        rw [es, e3]
        exact ⟨by simp [endR], .del hs h0⟩
      | false =>
        have es := stepF_rep (R := R) (e := x) hpl (hon rfl) (by rw [hbs]; exact hf)
        rw [hbs] at es
        have e3 : R.set A.length x = A ++ x :: B := by rw [e, List.set_append_right _ _ (Nat.le_refl _), Nat.sub_self]; rfl
        rw [es, e3]
        exact ⟨by simp [endR], .rep hs h0 (hon rfl)⟩
    · have hf2 : isF R x A.length = false := by rw [hf]; simpa using h0
      have hall : ∀ c ∈ b :: B, 0 < cmpE c x := fun c hc => by
        rcases List.mem_cons.1 hc with rfl | hc
        · omega
        · exact h2 c hc
      have hfr : findR R x 0 = -1 := by
        rw [e]
        exact findR_none (fun a ha => by
          rcases List.mem_append.1 ha with ha | ha
          · exact hlo a ha
          · have := hall a ha; omega)
      cases g with
      | true =>
        rw [stepF_gone (by rw [hbs]; exact hf2), href, if_pos ⟨by rw [hfr]; decide, .inl rfl⟩]
        exact ⟨rfl, .same⟩
      | false =>
        by_cases hl : R.length < 512
        · have es := stepF_ins hpl (hon rfl) (by rw [hbs]; exact hf2) hl
          rw [hbs] at es
          have e3 : R.take A.length ++ x :: R.drop A.length = A ++ x :: b :: B := by rw [e, List.take_left, List.drop_left]
          rw [es, e3, href, if_neg (by rw [hfr]; simp; omega), hfr]
          refine ⟨?_, .ins hs hall (hon rfl) hl⟩
          have hgo : goR (insR x) x (-1) 0 false R [] = goR (insR x) x (-1) A.length false (b :: B) A := by
            have := goR_skip (ins := insR x) (y := x) (i := -1) (A := A) (L := b :: B) (acc := []) (k := 0) (d := false) hins (by left; decide)
            rw [← e] at this
            simpa using this
          rw [hgo, goR_cons, insR_hi h1, if_neg (show ¬ ((A.length : Int) = -1) by omega)]
          have := goR_skip (ins := insR x) (y := x) (i := -1) (A := B) (L := []) (acc := A ++ (if (!false && true) = true then [x] else []) ++ [b]) (k := A.length + 1) (d := true) (fun a _ => .inl rfl) (by left; omega)
          rw [List.append_nil] at this
          rw [Bool.false_or, this]
          simp [goR, endR]
        · rw [stepF_full (by rw [hbs]; exact hf2) hl, href, if_pos ⟨by rw [hfr]; decide, .inr (by omega)⟩]
          exact ⟨rfl, .same⟩
end
structure GoodE (R : List En) : Prop where
  rise : RiseE R
  one : ∀ e ∈ R, oneE e = true
  len : R.length ≤ 512
theorem GoodE.nil : GoodE [] := ⟨List.Pairwise.nil, by simp, by simp⟩
theorem GoodE.good {R : List En} (h : GoodE R) : goodD R = true := by
  unfold goodD
  rw [goodD1_true (fun i hi _ => ⟨h.one _ (List.getElem_mem hi), fun k e => ?_⟩), decide_eq_true h.len]
  · rfl
  · subst e
    exact List.pairwise_iff_getElem.1 h.rise k (k + 1) (by omega) hi (by omega)
theorem NextE.good {x : En} {R R' : List En} (h : GoodE R) (hn : NextE x R R') : GoodE R' := by
  cases hn with
  | same => exact h
  | @del A b B hs h0 =>
    have e := hs.eq
    have hsub : (A ++ B).Sublist R := by rw [e]; exact List.Sublist.append_left (List.sublist_cons_self b B) A
    exact ⟨h.rise.sublist hsub, fun y hy => h.one y (hsub.subset hy), Nat.le_trans hsub.length_le h.len⟩
  | @rep A b B hs h0 hx =>
    have e := hs.eq
    have hr := h.rise
    rw [e] at hr
    obtain ⟨p1, p2, p3⟩ := List.pairwise_append.1 hr
    obtain ⟨p4, p5⟩ := List.pairwise_cons.1 p2
    refine ⟨List.pairwise_append.2 ⟨p1, List.pairwise_cons.2 ⟨fun c hc => ?_, p5⟩, fun a ha c hc => ?_⟩, fun y hy => ?_, ?_⟩
    · rw [← cmpE_zero h0 c]; exact p4 c hc
    · rcases List.mem_cons.1 hc with rfl | hc
      · exact hs.lo a ha
      · exact p3 a ha c (by simp [hc])
    · rcases List.mem_append.1 hy with hy | hy
      · exact h.one y (by rw [e]; simp [hy])
      · rcases List.mem_cons.1 hy with rfl | hy
        · exact hx
        · exact h.one y (by rw [e]; simp [hy])
    · have := h.len
      rw [e] at this
      simpa using this
  | @ins A Bn hs h0 hx hl =>
    have e := hs.eq
    have hr := h.rise
    rw [e] at hr
    obtain ⟨p1, p2, p3⟩ := List.pairwise_append.1 hr
    refine ⟨List.pairwise_append.2 ⟨p1, List.pairwise_cons.2 ⟨fun c hc => ?_, p2⟩, fun a ha c hc => ?_⟩, fun y hy => ?_, ?_⟩
    · have := h0 c hc; rw [cmpE_anti c x]; omega
    · rcases List.mem_cons.1 hc with rfl | hc
      · exact hs.lo a ha
      · exact p3 a ha c hc
    · rcases List.mem_append.1 hy with hy | hy
      · exact h.one y (by rw [e]; simp [hy])
      · rcases List.mem_cons.1 hy with rfl | hy
        · exact hx
        · exact h.one y (by rw [e]; simp [hy])
    · rw [e] at hl
      simp at hl ⊢
      omega
theorem NextE.mem {x : En} {R R' : List En} (hn : NextE x R R') : ∀ y ∈ R', y ∈ R ∨ y = x := by
  intro y hy
  cases hn with
  | same => exact .inl hy
  | del hs h0 => rw [hs.eq]; left; simp at hy ⊢; rcases hy with h | h <;> simp [h]
  | rep hs h0 hx => rw [hs.eq]; simp at hy ⊢; rcases hy with h | h | h <;> simp [h]
  | ins hs h0 hx hl => rw [hs.eq]; simp at hy ⊢; rcases hy with h | h | h <;> simp [h]
theorem step_good {R : List En} {x : Ch} (h : GoodE R) : GoodE (stepF R x) ∧ refStep R x = stepF R x ∧ ∀ y ∈ stepF R x, y ∈ R ∨ y = x.e := by
  obtain ⟨x, g⟩ := x
  have hb := step_both (x := x) (g := g) h.rise
  exact ⟨hb.2.good h, hb.1, hb.2.mem⟩
theorem apply_good : ∀ {C : List Ch} {R : List En}, GoodE R → GoodE (applyF R C) ∧ C.foldl refStep R = applyF R C ∧ ∀ y ∈ applyF R C, y ∈ R ∨ ∃ x ∈ C, y = x.e
  | [], R, h => ⟨h, rfl, fun y hy => .inl hy⟩
  | x :: C, R, h => by
    obtain ⟨h1, h2, h3⟩ := step_good (x := x) h
    obtain ⟨k1, k2, k3⟩ := apply_good (C := C) h1
    refine ⟨k1, ?_, fun y hy => ?_⟩
    · show C.foldl refStep (refStep R x) = _
      rw [h2, k2]; rfl
    · rcases k3 y hy with h | ⟨z, hz, e⟩
      · rcases h3 y h with h | h
        · exact .inl h
        · exact .inr ⟨x, by simp, h⟩
      · exact .inr ⟨z, by simp [hz], e⟩
end Go.Proofs.Ytdbdlhmgokllaaa
