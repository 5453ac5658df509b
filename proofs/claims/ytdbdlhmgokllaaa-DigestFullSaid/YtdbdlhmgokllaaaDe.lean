/-
  Entries: as data, and where they lie in memory.
-/
import Derived.Test.YtdbdlhmgokllaaaAd
namespace Go.Proofs.Ytdbdlhmgokllaaa
open Go.ChangeShapes Go.WideShapes Go.ChangeAt Go.RowKit
set_option linter.unusedVariables false
set_option linter.unusedSimpArgs false
set_option maxRecDepth 20000
attribute [local irreducible] wpList

/-- an entry, as data -/
structure En where
  vlan : Int
  grp : Ad
  ex : Bool
  src : List Ad
/-- an entry in memory: its value, where its sources lie -/
structure Ev where
  e : En
  p : Option Addr
  c : Nat
def enS (e : En) (p : Option Addr) (c : Nat) : List Seg := [.one (.int .i64 e.vlan), .many (adL e.grp) 17, .one (.bool e.ex), .one (.slice p e.src.length c)]
def evS (x : Ev) : List Seg := enS x.e x.p x.c
theorem enS_ok (e : En) (p : Option Addr) (c : Nat) : okS (enS e p c) := ⟨rfl, adL_ok _, rfl, rfl, trivial⟩
theorem evS_ok (x : Ev) : okS (evS x) := enS_ok _ _ _
theorem evS_len (x : Ev) : lenS (evS x) = 20 := rfl
def EnsAt (w : World) (p : Option Addr) (R : List En) : Prop := R.length ≤ 9223372036854775807 ∧ ∃ RR : List Ev, RR.map Ev.e = R ∧ ∀ i (h : i < RR.length), (∃ q, p = some q ∧ OldR w (q.add (i * 20)) (fls (evS RR[i]))) ∧ AdsAt w RR[i].p RR[i].e.src
theorem EnsAt.below {w W : World} {p : Option Addr} {R : List En} (h : EnsAt w p R) (hb : Below w.heap.size w W) : EnsAt W p R := by
  obtain ⟨h0, RR, h1, h2⟩ := h
  exact ⟨h0, RR, h1, fun i hi => ⟨by obtain ⟨q, h3, h4⟩ := (h2 i hi).1; exact ⟨q, h3, h4.below hb⟩, (h2 i hi).2.below hb⟩⟩
theorem EnsAt.get {w : World} {p : Option Addr} {R : List En} (h : EnsAt w p R) {j : Nat} (hj : j < R.length) : ∃ q s c, p = some q ∧ OldR w (q.add (j * 20)) (fls (enS R[j] s c)) ∧ AdsAt w s R[j].src := by
  obtain ⟨_, RR, rfl, h2⟩ := h
  have hj : j < RR.length := by simpa using hj
  obtain ⟨⟨q, h3, h4⟩, h5⟩ := h2 j hj
  simp only [List.getElem_map]
  exact ⟨q, RR[j].p, RR[j].c, h3, h4, h5⟩
theorem EnsAt.nil {w : World} {p : Option Addr} : EnsAt w p [] := ⟨by simp, [], rfl, fun i h => by simp at h⟩
def evsL (R : List Ev) : List Value := R.flatMap fun x => fls (evS x)
theorem evsL_len : ∀ R : List Ev, (evsL R).length = R.length * 20
  | [] => rfl
  | x :: R => by
    have := evsL_len R
    simp only [evsL, List.flatMap_cons, List.length_append, List.length_cons] at *
    rw [okS_len (evS_ok x), evS_len]
    omega
theorem evsL_ok (R : List Ev) : OkA (evsL R) (R.length * 20) := ⟨evsL_len R, fun v hv => by obtain ⟨x, _, hx⟩ := List.mem_flatMap.1 hv; exact okS_one (evS_ok x) v hx⟩
theorem evsL_snoc (R : List Ev) (x : Ev) : evsL (R ++ [x]) = evsL R ++ fls (evS x) := by simp [evsL]
theorem evsL_at {R : List Ev} {k : Nat} (hk : k < R.length) : AtL (evsL R) (k * 20) (fls (evS R[k])) := by
  refine ⟨evsL (R.take k), evsL (R.drop (k + 1)), ?_, ?_⟩
  · have : R = R.take k ++ (R[k] :: R.drop (k + 1)) := by rw [← List.drop_eq_getElem_cons hk, List.take_append_drop]
    have e : evsL R = evsL (R.take k ++ (R[k] :: R.drop (k + 1))) := congrArg evsL this
    rw [e]
    simp only [evsL, List.flatMap_append, List.flatMap_cons]
  · rw [evsL_len, List.length_take]; congr 1; omega
theorem ensAt_row {W : World} {g : Nat} {t : TypeId} {R : List Ev} {J : List Value} (hl : R.length ≤ 9223372036854775807) (hr : Row W g t (evsL R ++ J).toArray) (h : ∀ x ∈ R, AdsAt W x.p x.e.src) : EnsAt W (some ⟨g, 0, none⟩) (R.map Ev.e) :=
  ⟨by simpa using hl, R, rfl, fun i hi => ⟨⟨_, rfl, row_old hr (evsL_at hi).app⟩, h _ (List.getElem_mem hi)⟩⟩
section
variable {H : Type} {enc : TypeId × Value → H} {W : World} {base : Nat} {held : Bool} {fuel : Nat} {cs : List Value} {x : DataW H × List MemPlace}
end
end Go.Proofs.Ytdbdlhmgokllaaa
