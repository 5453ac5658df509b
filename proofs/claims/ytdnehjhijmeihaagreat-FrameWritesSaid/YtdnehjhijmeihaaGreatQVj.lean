/-
  Joined texts: Vj, Vk.
-/
import Derived.Test.YtdnehjhijmeihaaGreatQVp
import Derived.Test.YtdnehjhijmeihaaGreatQSl
namespace Go.Proofs.YtdnehjhijmeihaaGreat.V
open Go.ChangeShapes Go.WideShapes Go.ChangeAt Go.RowKit
set_option linter.unusedVariables false
set_option linter.unusedSimpArgs false
set_option maxRecDepth 20000
attribute [local irreducible] wpList
def ad16 (s : ByteArray) (k : Nat) : Ad := adR (s.extract k (k + 16))
def srcAt (s : ByteArray) (k n : Nat) : List Ad := (List.range n).map fun i => ad16 s (k + 16 * i)
def rSrcF (s : ByteArray) (k n : Nat) : List Ad × Int := if 64 < n then ([], 6) else if s.size < k + 16 * n then ([], 3) else (srcAt s k n, 0)
theorem srcAt_len (s : ByteArray) (k n : Nat) : (srcAt s k n).length = n := by simp [srcAt]
def SrcPost (w : World) (L : List Ad) (c : Int) (e : Ending) (w' : World) : Prop := ∃ p cc D, e = .returned (.tuple #[.slice p L.length cc, .int .i64 c]) ∧ Made w w' D ∧ ∀ B w0 W, Hp B w0 W D → AdsAt W p L
theorem SrcPost.mk {w : World} {L : List Ad} {c : Int} {e : Ending} {w' : World} {p : Option Addr} {cc : Nat} {D : HB} (h1 : e = .returned (.tuple #[.slice p L.length cc, .int .i64 c])) (h2 : Made w w' D) (h3 : ∀ B w0 W, Hp B w0 W D → AdsAt W p L) : SrcPost w L c e w' := ⟨p, cc, D, h1, h2, h3⟩
section
variable {w : World} {s : ByteArray}
end
def recAt (s : ByteArray) (k : Nat) : Rc := ⟨numAt s k 1, ad16 s (k + 4), (rSrcF s (k + 20) (numAt s (k + 2) 2)).1⟩
def okAt (s : ByteArray) (k : Nat) : Bool := decide (0 < numAt s k 1) && (decide (numAt s k 1 < 7) && grp6 (ad16 s (k + 4)))
def endAt (s : ByteArray) (k : Nat) : Nat := k + 20 + 16 * numAt s (k + 2) 2 + 4 * numAt s (k + 1) 1
def rRecL (s : ByteArray) (n : Nat) : Nat → Nat → Nat → List Rc → List Rc × Int
  | 0, _, _, X => (X, 0)
  | f + 1, i, k, X => if i < n then (if s.size < k + 20 then (X, 3) else if (rSrcF s (k + 20) (numAt s (k + 2) 2)).2 ≠ 0 then (X, (rSrcF s (k + 20) (numAt s (k + 2) 2)).2) else if s.size < endAt s k then (X, 3) else rRecL s n f (i + 1) (endAt s k) (if okAt s k then X ++ [recAt s k] else X)) else (X, 0)
def rRecF (s : ByteArray) : List Rc × Int := if 64 < numAt s 6 2 then ([], 6) else rRecL s (numAt s 6 2) 65 0 8 []
theorem rRecL_end {s : ByteArray} {n f i k : Nat} {X : List Rc} (h : ¬i < n) : rRecL s n f i k X = (X, 0) := by
  cases f with
  | zero => rfl
  | succ f => rw [rRecL, if_neg h]
def RecsPost (w : World) (R : List Rc) (c : Int) (e : Ending) (w' : World) : Prop := ∃ p cc D, e = .returned (.tuple #[.slice p R.length cc, .int .i64 c]) ∧ Made w w' D ∧ ∀ B w0 W, Hp B w0 W D → RcsAt W p R
theorem RecsPost.mk {w : World} {R : List Rc} {c : Int} {e : Ending} {w' : World} {p : Option Addr} {cc : Nat} {D : HB} (h1 : e = .returned (.tuple #[.slice p R.length cc, .int .i64 c])) (h2 : Made w w' D) (h3 : ∀ B w0 W, Hp B w0 W D → RcsAt W p R) : RecsPost w R c e w' := ⟨p, cc, D, h1, h2, h3⟩
theorem RecsPost.own {w w' : World} {R : List Rc} {c : Int} {e : Ending} {X : List Rv} {go cc q : Nat} {J : List Value} {D : HB} (hR : R = X.map Rv.r) (h1 : e = .returned (.tuple #[.slice (some ⟨go, 0, none⟩) X.length cc, .int .i64 c])) (hXm : X.length ≤ 1000)
    (hH : Hp w.heap.size w w' ((go, 119, true, [.many (rvsL X) (X.length * 19), .many J q]) :: D)) (HD : Hid (∀ r ∈ D, r.2.2.1 = true)) (HXD : Hid (∀ x ∈ X, ∀ B w0 W, Hp B w0 W D → AdsAt W x.p x.r.src)) : RecsPost w R c e w' := by
  subst hR
  refine RecsPost.mk (D := (go, 119, true, [.many (rvsL X) (X.length * 19), .many J q]) :: D) (p := some ⟨go, 0, none⟩) (cc := cc) (by rw [List.length_map]; exact h1) ⟨hH, fun r hr => ?_⟩ (fun B w0 W h => rcsAt_row (by omega) (by have := (h.rows.mem (i := 0) rfl).1; rwa [fls_two] at this) (fun x hx => HXD.out x hx _ _ _ (h.sub (SubH.drop SubH.refl))))
  rcases List.mem_cons.1 hr with rfl | hr
  · rfl
  · exact HD.out r hr
theorem rSrcF_ok {s : ByteArray} {k n : Nat} (h : (rSrcF s k n).2 = 0) : n ≤ 64 ∧ k + 16 * n ≤ s.size ∧ (rSrcF s k n).1 = srcAt s k n := by
  unfold rSrcF at *
  split at h
  · simp at h
  · split at h
    · simp at h
    · rename_i h1 h2
      rw [if_neg h1, if_neg h2]
      exact ⟨by omega, by omega, rfl⟩
section
variable {B : Nat} {w0 w : World} {s : ByteArray}
end
end Go.Proofs.YtdnehjhijmeihaaGreat.V
