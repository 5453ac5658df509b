/-
  Changes: as data, and where they lie in memory.
-/
import Derived.Test.YtjegjgdihpihoaaGreatDoorE1
namespace Go.Proofs.YtjegjgdihpihoaaGreatDoor
open Go.ChangeShapes Go.WideShapes Go.ChangeAt Go.RowKit
set_option linter.unusedVariables false
set_option linter.unusedSimpArgs false
set_option maxRecDepth 20000
attribute [local irreducible] wpList

/-- a change, as data -/
structure Ch where
  e : En
  gone : Bool
/-- a change in memory: its value, where its sources lie -/
structure Cv where
  x : Ch
  p : Option Addr
  c : Nat
def chS (x : Ch) (p : Option Addr) (c : Nat) : List Seg := [.one (.int .i64 x.e.vlan), .many (adL x.e.grp) 17, .one (.bool x.e.ex), .one (.slice p x.e.src.length c), .one (.bool x.gone)]
def cvS (v : Cv) : List Seg := chS v.x v.p v.c
theorem chS_ok (x : Ch) (p : Option Addr) (c : Nat) : okS (chS x p c) := ⟨rfl, adL_ok _, rfl, rfl, rfl, trivial⟩
theorem cvS_ok (v : Cv) : okS (cvS v) := chS_ok _ _ _
theorem cvS_len (v : Cv) : lenS (cvS v) = 21 := rfl
def ChsAt (w : World) (p : Option Addr) (R : List Ch) : Prop := R.length ≤ 9223372036854775807 ∧ ∃ RR : List Cv, RR.map Cv.x = R ∧ ∀ i (h : i < RR.length), (∃ q, p = some q ∧ OldR w (q.add (i * 21)) (fls (cvS RR[i]))) ∧ AdsAt w RR[i].p RR[i].x.e.src
theorem ChsAt.below {w W : World} {p : Option Addr} {R : List Ch} (h : ChsAt w p R) (hb : Below w.heap.size w W) : ChsAt W p R := by
  obtain ⟨h0, RR, h1, h2⟩ := h
  exact ⟨h0, RR, h1, fun i hi => ⟨by obtain ⟨q, h3, h4⟩ := (h2 i hi).1; exact ⟨q, h3, h4.below hb⟩, (h2 i hi).2.below hb⟩⟩
theorem ChsAt.get {w : World} {p : Option Addr} {R : List Ch} (h : ChsAt w p R) {j : Nat} (hj : j < R.length) : ∃ q s c, p = some q ∧ OldR w (q.add (j * 21)) (fls (chS R[j] s c)) ∧ AdsAt w s R[j].e.src := by
  obtain ⟨_, RR, rfl, h2⟩ := h
  have hj : j < RR.length := by simpa using hj
  obtain ⟨⟨q, h3, h4⟩, h5⟩ := h2 j hj
  simp only [List.getElem_map]
  exact ⟨q, RR[j].p, RR[j].c, h3, h4, h5⟩
theorem ChsAt.nil {w : World} {p : Option Addr} : ChsAt w p [] := ⟨by simp, [], rfl, fun i h => by simp at h⟩
def cvsL (R : List Cv) : List Value := R.flatMap fun x => fls (cvS x)
theorem cvsL_len : ∀ R : List Cv, (cvsL R).length = R.length * 21
  | [] => rfl
  | x :: R => by
    have := cvsL_len R
    simp only [cvsL, List.flatMap_cons, List.length_append, List.length_cons] at *
    rw [okS_len (cvS_ok x), cvS_len]
    omega
theorem cvsL_snoc (R : List Cv) (x : Cv) : cvsL (R ++ [x]) = cvsL R ++ fls (cvS x) := by simp [cvsL]
theorem cvsL_at {R : List Cv} {k : Nat} (hk : k < R.length) : AtL (cvsL R) (k * 21) (fls (cvS R[k])) := by
  refine ⟨cvsL (R.take k), cvsL (R.drop (k + 1)), ?_, ?_⟩
  · have : R = R.take k ++ (R[k] :: R.drop (k + 1)) := by rw [← List.drop_eq_getElem_cons hk, List.take_append_drop]
    have e : cvsL R = cvsL (R.take k ++ (R[k] :: R.drop (k + 1))) := congrArg cvsL this
    rw [e]
    simp only [cvsL, List.flatMap_append, List.flatMap_cons]
  · rw [cvsL_len, List.length_take]; congr 1; omega
theorem chsAt_row {W : World} {g : Nat} {t : TypeId} {R : List Cv} {J : List Value} (hl : R.length ≤ 9223372036854775807) (hr : Row W g t (cvsL R ++ J).toArray) (h : ∀ x ∈ R, AdsAt W x.p x.x.e.src) : ChsAt W (some ⟨g, 0, none⟩) (R.map Cv.x) :=
  ⟨by simpa using hl, R, rfl, fun i hi => ⟨⟨_, rfl, row_old hr (cvsL_at hi).app⟩, h _ (List.getElem_mem hi)⟩⟩
def ChsPost (w : World) (R : List Ch) (e : Ending) (w' : World) : Prop := ∃ p c D, e = .returned (.slice p R.length c) ∧ Made w w' D ∧ ∀ B w0 W, Hp B w0 W D → ChsAt W p R
theorem ChsPost.mk {w : World} {R : List Ch} {e : Ending} {w' : World} {p : Option Addr} {c : Nat} {D : HB} (h1 : e = .returned (.slice p R.length c)) (h2 : Made w w' D) (h3 : ∀ B w0 W, Hp B w0 W D → ChsAt W p R) : ChsPost w R e w' := ⟨p, c, D, h1, h2, h3⟩
theorem own_app {D E : HB} (h : Hid (∀ r ∈ D, r.2.2.1 = true)) (h' : Hid (∀ r ∈ E, r.2.2.1 = true)) : Hid (∀ r ∈ D ++ E, r.2.2.1 = true) := Lib.hid fun r hr => (List.mem_append.1 hr).elim (h.out r) (h'.out r)
def InC (X : List Cv) (D : HB) : Prop := ∀ x ∈ X, ∀ B w0 W, Hp B w0 W D → AdsAt W x.p x.x.e.src
theorem InC.snoc {X : List Cv} {D E : HB} {y : Cv} (h : InC X D) (h' : ∀ B w0 W, Hp B w0 W E → AdsAt W y.p y.x.e.src) : InC (X ++ [y]) (D ++ E) := fun x hx B w0 W hH => by
  rcases List.mem_append.1 hx with hx | hx
  · exact h x hx B w0 W (hH.sub SubH.appL)
  · obtain rfl := List.mem_singleton.1 hx
    exact h' B w0 W (hH.sub SubH.appR)
theorem InC.snoc0 {X : List Cv} {D : HB} {y : Cv} (h : InC X D) (h' : y.x.e.src = []) : InC (X ++ [y]) D := fun x hx B w0 W hH => by
  rcases List.mem_append.1 hx with hx | hx
  · exact h x hx B w0 W hH
  · obtain rfl := List.mem_singleton.1 hx
    rw [h']
    exact AdsAt.nil
theorem InC.nil {D : HB} : InC [] D := fun x hx => by simp at hx
theorem Addr_add0 (q : Addr) : q.add 0 = q := by unfold Addr.add; rw [if_pos rfl]
theorem Addr_addadd (q : Addr) (a b : Nat) : (q.add a).add b = q.add (a + b) := by
  unfold Addr.add
  by_cases hk : a = 0 <;> by_cases hj : b = 0 <;> simp [hk, hj, Nat.add_assoc]
theorem EnsAt.head {w : World} {p : Option Addr} {a : En} {A : List En} (h : EnsAt w p (a :: A)) : ∃ q s c, p = some q ∧ OldR w q (fls (enS a s c)) ∧ AdsAt w s a.src := by
  obtain ⟨q, s, c, h1, h2, h3⟩ := h.get (j := 0) (by simp)
  rw [Nat.zero_mul, Addr_add0] at h2
  exact ⟨q, s, c, h1, h2, h3⟩
theorem EnsAt.tail {w : World} {q : Addr} {a : En} {A : List En} (h : EnsAt w (some q) (a :: A)) {c : Nat} (hc : A.length + 1 ≤ c) : EnsAt w (if c = 1 then some q else some ⟨q.block, q.off + 20, none⟩) A := by
  obtain ⟨h0, RR, h1, h2⟩ := h
  cases RR with
  | nil => simp at h1
  | cons x RR =>
    simp only [List.map_cons, List.cons.injEq] at h1
    obtain ⟨rfl, rfl⟩ := h1
    refine ⟨by simp at h0 ⊢; omega, RR, rfl, fun i hi => ?_⟩
    have h3 := h2 (i + 1) (by simpa using hi)
    simp only [List.getElem_cons_succ] at h3
    obtain ⟨⟨q', e, h4⟩, h5⟩ := h3
    injection e with e
    subst e
    have hc1 : ¬ c = 1 := by simp at hc hi; omega
    rw [if_neg hc1, ← add_succ q 19]
    refine ⟨⟨_, rfl, ?_⟩, h5⟩
    rw [Addr_addadd, show 20 + i * 20 = (i + 1) * 20 by omega]
    exact h4
/-- the changes that make one digest of another one -/
def diffF : List En → List En → List Ch
  | [], [] => []
  | a :: A, [] => ⟨voidE a, true⟩ :: diffF A []
  | [], b :: Bn => ⟨b, false⟩ :: diffF [] Bn
  | a :: A, b :: Bn => if cmpE a b = -1 then ⟨voidE a, true⟩ :: diffF A (b :: Bn) else if cmpE a b = 1 then ⟨b, false⟩ :: diffF (a :: A) Bn else if sameE a b then diffF A Bn else ⟨b, false⟩ :: diffF A Bn
termination_by A B => A.length + B.length
def lenV : Value → Nat
  | .slice _ n _ => n
  | _ => 0
end Go.Proofs.YtjegjgdihpihoaaGreatDoor
