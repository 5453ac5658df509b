/-
  Regions that draw their order: what looks at no memory is taken whenever it may come up, loads ahead of what changes their blocks, where that waits for them. No program in sight.
-/
import Derived.Test.YtnobencogihbnaaGreatSg
namespace Go.Proofs.YtnobencogihbnaaGreat
open Go.ChangeShapes Go.WideShapes Go.ChangeAt Go.RowKit
set_option linter.unusedVariables false
set_option linter.unusedSimpArgs false

/-- the order's edges are kept by what has come up -/
def ClosedK (ops : Array Oper) (listed : Array Bool) : Prop := ∀ k o, ops[k]? = some o → listed.getD k false = true → ∀ e ∈ o.after, Region.binds .any e = true → listed.getD e.on false = true
/-- operation j waits for operation i -/
def waitsK (ops : Array Oper) (i : Nat) : Nat → Nat → Bool
  | 0, _ => false
  | n + 1, j => match ops[j]? with
    | some o => o.after.any fun e => Region.binds .any e && (e.on == i || waitsK ops i n e.on)
    | none => false
section
variable {P : Program} {ops : Array Oper} {Q : Exit → Act → World → Prop} {S : World → Prop} {nb : List Nat}
theorem waits_listed {listed : Array Bool} (hc : ClosedK ops listed) {i : Nat} : ∀ (n j : Nat), waitsK ops i n j = true → (∀ o, ops[j]? = some o → ∀ e ∈ o.after, Region.binds .any e = true → listed.getD e.on false = true) → listed.getD i false = true
  | 0, j, h, _ => by simp [waitsK] at h
  | n + 1, j, h, hj => by
    unfold waitsK at h
    cases ho : ops[j]? with
    | none => rw [ho] at h; simp at h
    | some o =>
      rw [ho] at h
      simp only at h
      obtain ⟨k, hk, he⟩ := Array.any_eq_true.1 h
      generalize hee : o.after[k] = e at he
      have hm : e ∈ o.after := by rw [← hee]; exact Array.getElem_mem hk
      rw [Bool.and_eq_true, Bool.or_eq_true] at he
      obtain ⟨hb, he⟩ := he
      have hl := hj o ho e hm hb
      rcases he with he | he
      · rw [beq_iff_eq] at he
        rw [← he]
        exact hl
      · exact waits_listed hc n e.on he (fun o' ho' => hc e.on o' ho' hl)
theorem closed_set {listed : Array Bool} (hc : ClosedK ops listed) {i : Nat} (hr : i ∈ Region.ready .any ops listed) : ClosedK ops (listed.setIfInBounds i true) := by
  intro k o ho hk e he hb
  by_cases hki : i = k
  · subst hki
    obtain ⟨_, o', ho', hall⟩ := mem_ready.1 hr
    rw [ho] at ho'
    obtain rfl := Option.some.inj ho'
    exact getD_set_true (hall e he hb)
  · rw [getD_set_ne false hki] at hk
    exact getD_set_true (hc k o ho hk e he hb)
theorem closed_none (n : Nat) : ClosedK ops (Array.replicate n false) := by
  intro k o _ hk
  simp [Array.getElem?_replicate] at hk
  split at hk <;> simp at hk
def wpAnyK (P : Program) (ops : Array Oper) (Q : Exit → Act → World → Prop) (S : World → Prop) (nb : List Nat) : Nat → Array Bool → Act → World → Prop
  | 0, listed, a, w => Region.ready .any ops listed = [] ∧ Q .normal a w
  | fuel + 1, listed, a, w =>
    (Region.ready .any ops listed = [] → Q .normal a w) ∧
    ∀ i ∈ Region.ready .any ops listed, wpOp P ops Q i (fun a' w' => (nb.contains i = false → S w → S w') ∧ wpAnyK P ops Q S nb fuel (listed.setIfInBounds i true) a' w') a w
theorem wpAny_of_K : ∀ (fuel : Nat) (listed : Array Bool) (a : Act) (w : World), wpAnyK P ops Q S nb fuel listed a w → wpAny P .any ops Q fuel listed a w
  | 0, _, _, _, h => h
  | fuel + 1, _, _, _, h => ⟨h.1, fun i hi => wpOp_mono (fun a' w' h' => wpAny_of_K fuel _ a' w' h'.2) (h.2 i hi)⟩
/-- an operation may be taken first, if it yields its value in every world of T, and T holds behind whatever may come up ahead of it -/
theorem wpAnyK_first {T : World → Prop} {i : Nat} {oi : Oper} {v : Value} (hi : ops[i]? = some oi) (hsel : ∀ (j : Nat) (o : Oper) cs b, ops[j]? = some o → o.op ≠ .select cs b)
    (hQ : ∀ c a w, Q (.panic c) (a.put oi.dst v) w → Q (.panic c) a w)
    (hT : ∀ (listed : Array Bool) (j : Nat) (w w' : World), ClosedK ops listed → j ∈ Region.ready .any ops listed → listed.getD i true = false → T w → (nb.contains j = false → S w → S w') → T w') :
    ∀ (fuel : Nat) (listed : Array Bool) (a : Act) (w : World), ClosedK ops listed →
      (∀ j oj, ops[j]? = some oj → j ≠ i → listed.getD j true = false → (∀ e ∈ oj.after, Region.binds .any e = true → e.on ≠ i) → oi.apart ops oj = true) →
      i ∈ Region.ready .any ops listed → YieldsIf P ops T oi v a → T w →
      wpAnyK P ops Q S nb fuel (listed.setIfInBounds i true) (a.put oi.dst v) w → wpAnyK P ops Q S nb (fuel + 1) listed a w := by
  intro fuel
  induction fuel with
  | zero =>
    intro listed a w _ _ hr hy hTw H
    refine ⟨fun h => (by rw [h] at hr; cases hr), fun j hj => ?_⟩
    by_cases hji : j = i
    · subst hji; exact hy.wpOp hi hTw ⟨fun _ h => h, H⟩
    · have := ready_mono hj hji
      rw [H.1] at this
      cases this
  | succ fuel ih =>
    intro listed a w hc hfree hr hy hTw H
    refine ⟨fun h => (by rw [h] at hr; cases hr), fun j hj => ?_⟩
    by_cases hji : j = i
    · subst hji; exact hy.wpOp hi hTw ⟨fun _ h => h, H⟩
    · have h1 := H.2 j (ready_mono hj hji)
      obtain ⟨hjun, oj, hoj, hall⟩ := mem_ready.1 hj
      have hiun := (mem_ready.1 hr).1
      have hnot : ∀ e ∈ oj.after, Region.binds .any e = true → e.on ≠ i := fun e he hb heq => by
        have h1 := hall e he hb
        rw [heq] at h1
        rcases Nat.lt_or_ge i listed.size with h' | h'
        · simp [h'] at hiun h1; rw [hiun] at h1; cases h1
        · simp [Array.getElem?_eq_none h'] at h1
      have h2 := wpOp_putIf hoj (hfree j oj hoj hji hjun hnot) (fun cs b => hsel i oi cs b hi) (fun cs b => hsel j oj cs b hoj) hQ hy h1
      refine wpOp_mono (fun a' w' h3 => ⟨h3.2.1, ?_⟩) h2
      have hT' : T w' := hT listed j w w' hc hj hiun hTw h3.2.1
      refine ih (listed.setIfInBounds j true) a' w' (closed_set hc hj) (fun k ok hk hki hun hno => ?_) (ready_mono hr (Ne.symm hji)) h3.1 hT' ?_
      · refine hfree k ok hk hki ?_ hno
        by_cases hjk : j = k
        · subst hjk; exact hjun
        · rw [getD_set_ne true hjk] at hun; exact hun
      · rw [Array.setIfInBounds_comm _ _ hji]
        exact h3.2.2
theorem wpAnyK_done {listed : Array Bool} {a : Act} {w : World} (hr : Region.ready .any ops listed = []) (h : Q .normal a w) : ∀ fuel, wpAnyK P ops Q S nb fuel listed a w
  | 0 => ⟨hr, h⟩
  | _ + 1 => ⟨fun _ => h, by rw [hr]; simp⟩
end
section
variable {P : Program} {B : Nat} {w0 W : World} {H H0 : HB} {a : Act} {Q : Exit → Act → World → Prop} {l : List Oper} {fuel : Nat} {listed : Array Bool} {nb : List Nat}
/-- the walk stands where the operations 'listed' are done; nb: those that may change the blocks H0 -/
def WMK (P : Program) (l : List Oper) (Q : Exit → Act → World → Prop) (B : Nat) (w0 : World) (H0 : HB) (nb : List Nat) (fuel : Nat) (listed : Array Bool) (a : Act) (w : World) : Prop :=
  ClosedK l.toArray listed → wpAnyK P l.toArray Q (fun W' => ∃ y : HW B w0 H0, W' = y.w) nb fuel listed a w
theorem regK {id : Nat} (nb : List Nat) (hH : Hp B w0 W H) (_hS : SubH H H0) (hm : P.follows .mixedOrders = true) (h : ∀ W', Hp B w0 W' H → WMK P l Q B w0 H0 nb l.length (Array.replicate l.length false) a W') : (Code.region id l.toArray true).wp P Q a W :=
  wp_region_any hm (by have := wpAny_of_K _ _ _ _ (h _ hH.drew (closed_none _)); simpa using this)
theorem yields_of {o : Oper} {C : World → Prop} (hk : valueKindH o = true) (hw : Region.wanted o (yielded l.toArray a.tmps) = true) {v : Value} (h1 : ∀ w, C w → o.quietAt P a C w v) : YieldsIf P l.toArray C o v a := by
  refine Or.inl ⟨hw, fun w1 hw1 => ?_⟩
  have h3 := h1 w1 hw1
  unfold Oper.quietAt at h3
  cases hrun : (execOp a.eval o).run P w1 with
  | ok n w2 =>
    obtain ⟨u, rfl⟩ := exec_valueH hk hrun
    rw [hrun] at h3
    obtain ⟨e1, e2⟩ := h3
    rw [e1, e2]
  | halt x w2 => rw [hrun] at h3; exact h3.elim
def kOk (l : List Oper) (listed : Array Bool) (i : Nat) : Bool := Region.free .any l.toArray listed i && ((Region.ready .any l.toArray listed).contains i && (match l[i]? with | some o => valueKindH o | none => false))
/-- the core: number i is taken first, its value the same in all worlds of C, which lasts till it comes up -/
theorem hk_take {o : Oper} {C : World → Prop} (i : Nat) (ho : l[i]? = some o) (hs : Region.noSelect l.toArray = true) (hf : kOk l listed i = true) (hQ : ∀ c a v w, Q (.panic c) (a.put o.dst v) w → Q (.panic c) a w)
    (hT : ∀ (listed : Array Bool) (j : Nat) (w w' : World), ClosedK l.toArray listed → j ∈ Region.ready .any l.toArray listed → listed.getD i true = false → C w → (nb.contains j = false → (∃ y : HW B w0 H0, w = y.w) → (∃ y : HW B w0 H0, w' = y.w)) → C w') (hC : C W)
    (h : wpQuiet P l.toArray C (fun a' => WMK P l Q B w0 H0 nb fuel (listed.setIfInBounds i true) a' W) [o] a) : WMK P l Q B w0 H0 nb (fuel + 1) listed a W := by
  intro hc
  unfold kOk at hf
  simp only [Bool.and_eq_true, ho] at hf
  obtain ⟨hf, hr, hk⟩ := hf
  have hr' : i ∈ Region.ready .any l.toArray listed := by simpa using hr
  have ho' : l.toArray[i]? = some o := by simpa using ho
  unfold wpQuiet at h
  by_cases hw : Region.wanted o (yielded l.toArray a.tmps) = true
  · rw [if_pos hw] at h
    obtain ⟨v, h1, h2⟩ := h
    exact wpAnyK_first ho' (Region.noSelect_spec hs) (fun c a w => hQ c a v w) hT fuel listed a W hc (Region.free_spec ho' hf) hr' (yields_of hk hw h1) hC (h2 (closed_set hc hr'))
  · rw [if_neg hw] at h
    exact wpAnyK_first (v := undef) ho' (Region.noSelect_spec hs) (fun c a w => hQ c a undef w) hT fuel listed a W hc (Region.free_spec ho' hf) hr' (Or.inr ⟨by simpa using hw, rfl⟩) hC (h (closed_set hc hr'))
def pureOk (l : List Oper) : Array Bool → List Nat → Bool
  | _, [] => true
  | listed, i :: ix => kOk l listed i && pureOk l (listed.setIfInBounds i true) ix
def loadOk (l : List Oper) (nb : List Nat) : Array Bool → List Nat → Bool
  | _, [] => true
  | listed, i :: ix => kOk l listed i && (nb.all (fun j => waitsK l.toArray i l.length j) && loadOk l nb (listed.setIfInBounds i true) ix)
/-- several that look at no memory -/
theorem hk_pures {ix : List Nat} {os : List Oper} (hp : PickR l ix os) (hs : Region.noSelect l.toArray = true) (hc : pureOk l listed ix = true) (hQ : ∀ c a v w (t : Tmp), Q (.panic c) (a.put (some t) v) w → Q (.panic c) a w)
    (h : wpQuiet P l.toArray (fun _ => True) (fun a' => WMK P l Q B w0 H0 nb fuel (setAllB listed ix) a' W) os a) : WMK P l Q B w0 H0 nb (fuel + ix.length) listed a W := by
  induction hp generalizing listed a with
  | nil => exact h
  | @cons i o ix os ho hp ih =>
    unfold pureOk at hc
    rw [Bool.and_eq_true] at hc
    have e : fuel + (i :: ix).length = (fuel + ix.length) + 1 := by simp; omega
    rw [e]
    refine hk_take (C := fun _ => True) i ho hs hc.1 (fun c a v w hq => by
      cases hd : o.dst with
      | none => rw [hd] at hq; exact hq
      | some t => rw [hd] at hq; exact hQ c a v w t hq) (fun _ _ _ _ _ _ _ _ _ => trivial) trivial ?_
    unfold wpQuiet at h ⊢
    split
    · rename_i hw
      rw [if_pos hw] at h
      obtain ⟨v, h1, h2⟩ := h
      exact ⟨v, h1, ih hc.2 h2⟩
    · rename_i hw
      rw [if_neg hw] at h
      exact ih hc.2 h
/-- several loads -/
theorem hk_loads {ix : List Nat} {os : List Oper} (hp : PickR l ix os) (hs : Region.noSelect l.toArray = true) (hc : loadOk l nb listed ix = true) (hQ : ∀ c a v w (t : Tmp), Q (.panic c) (a.put (some t) v) w → Q (.panic c) a w) (hH : Hp B w0 W H) (hS : SubH H H0)
    (h : ∀ [Nonempty (HW B w0 H0)], wpQuiet P l.toArray (fun W' => ∃ y : HW B w0 H0, W' = y.w) (fun a' => WMK P l Q B w0 H0 nb fuel (setAllB listed ix) a' W) os a) : WMK P l Q B w0 H0 nb (fuel + ix.length) listed a W := by
  haveI : Nonempty (HW B w0 H0) := ⟨⟨W, hH.sub hS⟩⟩
  have h := @h this
  have hSS : ∃ y : HW B w0 H0, W = y.w := ⟨⟨W, hH.sub hS⟩, rfl⟩
  induction hp generalizing listed a with
  | nil => exact h
  | @cons i o ix os ho hp ih =>
    unfold loadOk at hc
    rw [Bool.and_eq_true, Bool.and_eq_true] at hc
    obtain ⟨hc1, hc2, hc3⟩ := hc
    have e : fuel + (i :: ix).length = (fuel + ix.length) + 1 := by simp; omega
    rw [e]
    refine hk_take (C := fun W' => ∃ y : HW B w0 H0, W' = y.w) i ho hs hc1 (fun c a v w hq => by
      cases hd : o.dst with
      | none => rw [hd] at hq; exact hq
      | some t => rw [hd] at hq; exact hQ c a v w t hq) (fun lst j w w' hcl hj hun hCw hk => ?_) hSS ?_
    · refine hk ?_ hCw
      by_cases hn : nb.contains j = true
      · have hw := List.all_eq_true.1 hc2 j (by simpa using hn)
        obtain ⟨_, oj, hoj, hall⟩ := mem_ready.1 hj
        have := waits_listed hcl _ j hw (fun o' ho' => by rw [hoj] at ho'; obtain rfl := Option.some.inj ho'; exact hall)
        exfalso
        rcases Nat.lt_or_ge i lst.size with h' | h'
        · simp [h'] at hun this; rw [hun] at this; cases this
        · simp [Array.getElem?_eq_none h'] at this
      · simpa using hn
    · unfold wpQuiet at h ⊢
      split
      · rename_i hw
        rw [if_pos hw] at h
        obtain ⟨v, h1, h2⟩ := h
        exact ⟨v, h1, ih hc3 (fun {_} => h2) h2⟩
      · rename_i hw
        rw [if_neg hw] at h
        exact ih hc3 (fun {_} => h) h
theorem hk_nil {C : World → Prop} {ops' : Array Oper} (h : WMK P l Q B w0 H0 nb fuel listed a W) : wpQuiet P ops' C (fun a' => WMK P l Q B w0 H0 nb fuel listed a' W) [] a := h
/-- behind one forced operation; br: it may change the blocks -/
def hkQ (P : Program) (l : List Oper) (Q : Exit → Act → World → Prop) (B : Nat) (w0 : World) (H0 : HB) (nb : List Nat) (br : Bool) (fuel : Nat) (listed : Array Bool) : Exit → Act → World → Prop
  | .normal, a, w => (br = false → ∃ y : HW B w0 H0, w = y.w) ∧ WMK P l Q B w0 H0 nb fuel listed a w
  | e, a, w => Q e a w
theorem hkQ_normal (hH : Hp B w0 W H) (hS : SubH H H0) (h2 : WMK P l Q B w0 H0 nb fuel listed a W) : hkQ P l Q B w0 H0 nb false fuel listed .normal a W := ⟨fun _ => ⟨⟨W, hH.sub hS⟩, rfl⟩, h2⟩
theorem hkQ_break (h2 : WMK P l Q B w0 H0 nb fuel listed a W) : hkQ P l Q B w0 H0 nb true fuel listed .normal a W := ⟨fun h => (by cases h), h2⟩
theorem hk_op {o : Oper} (i : Nat) (ho : l[i]? = some o) (hr : i ∈ Region.ready .any l.toArray listed) (hc : ClosedK l.toArray listed) (h : wpList P l.toArray (hkQ P l Q B w0 H0 nb (nb.contains i) fuel (listed.setIfInBounds i true)) [o] a W) :
    wpOp P l.toArray Q i (fun a' w' => (nb.contains i = false → (∃ y : HW B w0 H0, W = y.w) → (∃ y : HW B w0 H0, w' = y.w)) ∧ wpAnyK P l.toArray Q (fun W' => ∃ y : HW B w0 H0, W' = y.w) nb fuel (listed.setIfInBounds i true) a' w') a W := by
  have ho' : l.toArray[i]? = some o := by simpa using ho
  have hcs := closed_set hc hr
  unfold wpOp
  rw [ho']
  simp only
  have hout : LetsOut (hkQ P l Q B w0 H0 nb (nb.contains i) fuel (listed.setIfInBounds i true)) → LetsOut Q := fun ⟨a1, w1, h1⟩ => ⟨a1, w1, h1⟩
  have hn : ∀ a w, hkQ P l Q B w0 H0 nb (nb.contains i) fuel (listed.setIfInBounds i true) .normal a w → (nb.contains i = false → (∃ y : HW B w0 H0, W = y.w) → (∃ y : HW B w0 H0, w = y.w)) ∧ wpAnyK P l.toArray Q (fun W' => ∃ y : HW B w0 H0, W' = y.w) nb fuel (listed.setIfInBounds i true) a w :=
    fun a w h => ⟨fun hb _ => h.1 hb, h.2 hcs⟩
  unfold wpList at h
  by_cases hw : Region.wanted o (yielded l.toArray a.tmps) = true
  · rw [if_pos hw] at h ⊢
    refine h.imp (fun h => ?_) (fun h => ⟨h.1, hout h.2⟩)
    unfold Oper.wp at *
    generalize (execOp a.eval o).run P W = r at *
    cases r with
    | ok n w' =>
      cases n <;> simp only [Oper.upon] at h ⊢ <;>
        first
          | exact hn _ _ h
          | exact Calls.mono h (fun e w'' he => by cases e <;> first | exact hn _ _ he | exact he | exact hout he)
          | exact Rows.mono h (fun _ _ he => hn _ _ he)
          | exact h
    | halt x w' => cases x <;> simp only [Oper.upon] at h ⊢ <;> exact h
  · rw [if_neg hw] at h ⊢
    exact hn _ _ h
theorem hk_one {o : Oper} (i : Nat) (ho : l[i]? = some o) (hr : Region.ready .any l.toArray listed = [i]) (h : wpList P l.toArray (hkQ P l Q B w0 H0 nb (nb.contains i) fuel (listed.setIfInBounds i true)) [o] a W) : WMK P l Q B w0 H0 nb (fuel + 1) listed a W := by
  intro hc
  refine ⟨fun h0 => by (rw [hr] at h0; exact absurd h0 (by simp)), fun j hj => ?_⟩
  have hj' := hj
  rw [hr] at hj
  obtain rfl : j = i := by simpa using hj
  exact hk_op j ho hj' hc h
theorem hk_two {o o2 : Oper} (i j : Nat) (ho : l[i]? = some o) (ho2 : l[j]? = some o2) (hr : Region.ready .any l.toArray listed = [i, j]) (h : wpList P l.toArray (hkQ P l Q B w0 H0 nb (nb.contains i) fuel (listed.setIfInBounds i true)) [o] a W)
    (h2 : wpList P l.toArray (hkQ P l Q B w0 H0 nb (nb.contains j) fuel (listed.setIfInBounds j true)) [o2] a W) : WMK P l Q B w0 H0 nb (fuel + 1) listed a W := by
  intro hc
  refine ⟨fun h0 => by (rw [hr] at h0; exact absurd h0 (by simp)), fun k hk => ?_⟩
  have hk' := hk
  rw [hr] at hk
  simp at hk
  rcases hk with rfl | rfl
  · exact hk_op k ho hk' hc h
  · exact hk_op k ho2 hk' hc h2
theorem hk_end (hr : Region.ready .any l.toArray listed = []) (h : Q .normal a W) : WMK P l Q B w0 H0 nb fuel listed a W := fun _ => wpAnyK_done hr h _
/-- no order ends in a panic -/
def nrm (Q : Exit → Act → World → Prop) : Exit → Act → World → Prop
  | .normal, a, w => Q .normal a w
  | _, _, _ => False
theorem regKN {id : Nat} (nb : List Nat) (hH : Hp B w0 W H) (hS : SubH H H0) (hm : P.follows .mixedOrders = true) (h : ∀ W', Hp B w0 W' H → WMK P l (nrm Q) B w0 H0 nb l.length (Array.replicate l.length false) a W') : (Code.region id l.toArray true).wp P Q a W := by
  refine Code.wp_mono (fun e a w hq => ?_) (regK nb hH hS hm h)
  cases e <;> first | exact hq.elim | exact hq
theorem hk_endN (hr : Region.ready .any l.toArray listed = []) (h : Q .normal a W) : WMK P l (nrm Q) B w0 H0 nb fuel listed a W := hk_end hr h
/-- whatever the order, one end: with one new block, or none -/
theorem regK1 {af : Nat → Act} {Hf : Nat → HB} {id : Nat} (nb : List Nat) (hH : Hp B w0 W H) (hS : SubH H H0) (hm : P.follows .mixedOrders = true) (h : ∀ W', Hp B w0 W' H → WMK P l (mixF B w0 af Hf) B w0 H0 nb l.length (Array.replicate l.length false) a W')
    (hk : ∀ W' g, Hp B w0 W' (Hf g) → Q .normal (af g) W') : (Code.region id l.toArray true).wp P Q a W := by
  refine Code.wp_mono (fun e a w hq => ?_) (regK nb hH hS hm h)
  cases e <;> first | exact hq.elim | (obtain ⟨g, rfl, hg⟩ := hq; exact hk _ _ hg)
theorem regK0 {af : Act} {Hf : HB} {id : Nat} (nb : List Nat) (hH : Hp B w0 W H) (hS : SubH H H0) (hm : P.follows .mixedOrders = true) (h : ∀ W', Hp B w0 W' H → WMK P l (mixF0 B w0 af Hf) B w0 H0 nb l.length (Array.replicate l.length false) a W')
    (hk : ∀ W', Hp B w0 W' Hf → Q .normal af W') : (Code.region id l.toArray true).wp P Q a W := by
  refine Code.wp_mono (fun e a w hq => ?_) (regK nb hH hS hm h)
  cases e <;> first | exact hq.elim | (obtain ⟨rfl, hg⟩ := hq; exact hk _ hg)
end
end Go.Proofs.YtnobencogihbnaaGreat
