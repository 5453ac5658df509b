/-
  General lemmas, for any program: worlds that only grew (BW), regions whose callees make memory, a law's row out of its walk, and arguments out of their types. No program in sight.
-/
import Derived.WalkKit
import Derived.ProofKit
import Derived.OpenShut
import Derived.Outline
import Derived.Deep.QuietTactic
import Derived.BigQuiet
import Derived.BigGuardPart
import Derived.ShutString
import Derived.WalkSpells
import Derived.WalkLawsBesides
import Derived.Lib.Hide
import Derived.StillTailTactics
import Derived.Deep.RegionLaw
namespace Go.Proofs.YtjegjgdihpihoaaGreatDoor
open Go.ChangeShapes Go.WideShapes Go.ChangeAt Go.RowKit

/-- Worlds that are as W was below block B. -/
def BW (B : Nat) (W : World) : Type := { w' : World // Below B W w' }
instance (B : Nat) (W : World) : Nonempty (BW B W) := ⟨⟨W, Below.refl _ _⟩⟩
def BW.w {B : Nat} {W : World} (x : BW B W) : World := x.1
theorem BW.below {B : Nat} {W : World} (x : BW B W) : Below B W x.w := x.2
def BW.mk {B : Nat} {W w' : World} (h : Below B W w') : BW B W := ⟨w', h⟩
@[go_sem] theorem BW.cell {B : Nat} {W : World} (x : BW B W) (b o : Nat) (h : b < B) : x.w.cell? ⟨b, o, none⟩ = W.cell? ⟨b, o, none⟩ := x.2.cell (p := ⟨b, o, none⟩) h
@[go_sem] theorem BW.frozen {B : Nat} {W : World} (x : BW B W) (b o : Nat) (h : b < B) : x.w.frozen? ⟨b, o, none⟩ = W.frozen? ⟨b, o, none⟩ := x.2.frozen (p := ⟨b, o, none⟩) h
@[simp, go_sem] theorem BW.lt {B : Nat} {W : World} (x : BW B W) (b : Nat) (h : b < W.heap.size) : (b < x.w.heap.size) = True := by
  have h' : W.heap.size ≤ x.w.heap.size := x.2.size
  simp; omega

/-- f, called so, hands back v; below the heap's size all is as it was. -/
@[irreducible] def Gives (P : Program) (f : FuncId) (args : Array Value) (w : World) (v : Value) : Prop :=
  Calls P f args w fun e w' => e = .returned v ∧ ∃ x : BW w.heap.size w, w' = x.w
theorem Gives.calls {P : Program} {f : FuncId} {args : Array Value} {w : World} {v : Value} (h : Gives P f args w v) :
    Calls P f args w fun e w' => e = .returned v ∧ ∃ x : BW w.heap.size w, w' = x.w := by unfold Gives at h; exact h
theorem Gives.of {P : Program} {f : FuncId} {args : Array Value} {w : World} {v : Value} (h : Calls P f args w fun e w' => e = .returned v ∧ Below w.heap.size w w') : Gives P f args w v := by
  unfold Gives
  exact h.mono fun _ _ ⟨he, hb⟩ => ⟨he, BW.mk hb, rfl⟩
theorem Gives.to {P : Program} {f : FuncId} {args : Array Value} {w : World} {v : Value} (h : Gives P f args w v) : Calls P f args w fun e w' => e = .returned v ∧ Below w.heap.size w w' :=
  h.calls.mono fun _ _ ⟨he, x, hx⟩ => ⟨he, by rw [hx]; exact x.below⟩
theorem Gives.same {P : Program} {f : FuncId} {args : Array Value} {w : World} {v : Value} (h : Calls P f args w fun e w' => e = .returned v ∧ w = w') : Gives P f args w v := by
  unfold Gives
  exact h.mono fun _ _ ⟨he, hb⟩ => ⟨he, BW.mk (Below.refl _ _), hb.symm⟩
/-- at a call, in a world of the class or in any other: behind it the world is of the class -/
theorem Gives.call_bw {P : Program} {f : FuncId} {args : Array Value} {B : Nat} {W : World} {v : Value} {R : Ending → World → Prop} {x : BW B W} (hB : B ≤ W.heap.size) (h : Gives P f args x.w v)
    (hR : ∀ y : BW B W, R (.returned v) y.w) : Calls P f args x.w R :=
  h.calls.mono fun _ _ ⟨he, y, hy⟩ => by subst he; subst hy; exact hR (BW.mk (x.below.trans (y.below.mono (Nat.le_trans hB x.below.size))))
theorem Gives.call {P : Program} {f : FuncId} {args : Array Value} {w : World} {v : Value} {R : Ending → World → Prop} (h : Gives P f args w v)
    (hR : ∀ y : BW w.heap.size w, R (.returned v) y.w) : Calls P f args w R :=
  h.calls.mono fun _ _ ⟨he, y, hy⟩ => by subst he; subst hy; exact hR y
/-- the callee inside a region that is walked over the class -/
theorem Gives.bw {P : Program} {f : FuncId} {args : Array Value} {B : Nat} {W : World} {v : Value} {x : BW B W} (hB : B ≤ W.heap.size) (h : Gives P f args x.w v) :
    Calls P f args x.w fun e w'' => e = .returned v ∧ ∃ y : BW B W, w'' = y.w :=
  h.calls.mono fun _ _ ⟨he, y, hy⟩ => ⟨he, BW.mk (x.below.trans (y.below.mono (Nat.le_trans hB x.below.size))), hy⟩

/-- A region that draws its order, walked once in the text's order, its callees making memory. -/
theorem wp_region_bw {P : Program} {id : Nat} {Q : Exit → Act → World → Prop} {a : Act} {w : World} {l : List Oper} (hm : P.follows .mixedOrders = true) (hB : Region.lexB .any l.toArray = true)
    (h : wpQuiet P l.toArray (fun w' => ∃ x : BW w.heap.size w, w' = x.w) (fun a' => ∀ w', (∃ x : BW w.heap.size w, w' = x.w) → Q .normal a' w') l a) : (Code.region id l.toArray true).wp P Q a w :=
  wp_region_quiet (C := fun w' => ∃ x : BW w.heap.size w, w' = x.w) hm hB ⟨BW.mk (Below.refl _ _).drew, rfl⟩ (by simpa using h)

/-- .. in a world of the class: the class stays. -/
theorem wp_region_bx {P : Program} {id : Nat} {Q : Exit → Act → World → Prop} {a : Act} {B : Nat} {W : World} {x : BW B W} {l : List Oper} (_hb : B ≤ W.heap.size) (hm : P.follows .mixedOrders = true) (hB : Region.lexB .any l.toArray = true)
    (h : wpQuiet P l.toArray (fun w' => ∃ y : BW B W, w' = y.w) (fun a' => ∀ w', (∃ y : BW B W, w' = y.w) → Q .normal a' w') l a) : (Code.region id l.toArray true).wp P Q a x.w :=
  wp_region_quiet (C := fun w' => ∃ y : BW B W, w' = y.w) hm hB ⟨BW.mk x.below.drew, rfl⟩ (by simpa using h)
theorem below_drewN {B : Nat} {a w : World} (h : Below B a w) (n : Nat) : Below B a (w.drewN n) := ⟨h.os, h.tape, h.output, h.size, h.block⟩

@[simp] theorem drew_heap (w : World) : w.drew.heap = w.heap := rfl
@[simp] theorem drewN_heap (w : World) (n : Nat) : (w.drewN n).heap = w.heap := rfl
/-! What stands at a walk's end: 'by simp' closes it. -/
theorem below_bw {B B' : Nat} {a W : World} (x : BW B' W) (h : Below B a W) (hB : B ≤ B') : Below B a x.w := h.trans (x.below.mono hB)
@[simp] theorem bs_refl (B : Nat) (w : World) : Below B w w = True := by simp [Below.refl]
@[simp] theorem bs_alloc {B : Nat} {a w : World} (o : Obj) (h : Below B a w) (hB : B ≤ w.heap.size) : Below B a (w.alloc o) = True := by simp [h.alloc hB]
@[simp] theorem bs_set {B : Nat} {a w : World} (p : Addr) (u : Value) (h : Below B a w) (hB : B ≤ p.block) : Below B a (w.setCell p u) = True := by simp [h.setCell hB]
@[simp] theorem bs_drew {B : Nat} {a w : World} (h : Below B a w) : Below B a w.drew = True := by simp [h.drew]
@[simp] theorem bs_drewN {B : Nat} {a w : World} (n : Nat) (h : Below B a w) : Below B a (w.drewN n) = True := by
  have : Below B a (w.drewN n) := ⟨h.os, h.tape, h.output, h.size, h.block⟩
  simp [this]
@[simp] theorem bs_bw {B B' : Nat} {a W : World} (x : BW B' W) (h : Below B a W) (hB : B ≤ B') : Below B a x.w = True := by simp [below_bw x h hB]
@[simp, go_sem] theorem BW.le {B : Nat} {W : World} (x : BW B W) (b : Nat) (h : b ≤ W.heap.size) : (b ≤ x.w.heap.size) = True := by
  have h' : W.heap.size ≤ x.w.heap.size := x.2.size
  simp; omega
@[simp] theorem BW.le_add {B : Nat} {W : World} (x : BW B W) (b n : Nat) (h : b ≤ W.heap.size) : (b ≤ x.w.heap.size + n) = True := by
  have h' : W.heap.size ≤ x.w.heap.size := x.2.size
  simp; omega
@[simp, go_sem] theorem BW.lt_add {B : Nat} {W : World} (x : BW B W) (b n : Nat) (h : b ≤ W.heap.size) : (b < x.w.heap.size + (n + 1)) = True := by
  have h' : W.heap.size ≤ x.w.heap.size := x.2.size
  simp; omega

theorem BW.le_of {B b : Nat} {W : World} {x : BW B W} (h : b ≤ W.heap.size) : b ≤ x.w.heap.size := Nat.le_trans h x.2.size
theorem le_alloc {b : Nat} {w : World} {o : Obj} (h : b ≤ w.heap.size) : b ≤ (w.alloc o).heap.size := by simp; omega
theorem le_drew {b : Nat} {w : World} (h : b ≤ w.heap.size) : b ≤ w.drew.heap.size := h
theorem le_drewN {b n : Nat} {w : World} (h : b ≤ w.heap.size) : b ≤ (w.drewN n).heap.size := h
theorem le_set {b : Nat} {w : World} {p : Addr} {u : Value} (h : b ≤ w.heap.size) : b ≤ (w.setCell p u).heap.size := by simpa [World.setCell] using h
theorem le_plus {b n k : Nat} (h : b ≤ n) : b ≤ n + k := Nat.le_trans h (Nat.le_add_right _ _)
/-! Arguments, opened by their types alone. -/
def CellsAll (P : Program) (w : World) (r : Reach) (base : Nat) : List TypeId → List Value → Prop
  | [], [] => True
  | t :: ts, v :: vs => Cell.okWide P w r base t v ∧ CellsAll P w r base ts vs
  | _, _ => False
section
variable {P : Program} {w : World} {r : Reach} {base : Nat}
theorem cellsAll_of : ∀ (ts : List TypeId) (cs : List Value), cs.length = ts.length → (∀ (i : Nat) (v : Value), cs[i]? = some v → ∃ u, ts[i]? = some u ∧ Cell.okWide P w r base u v) → CellsAll P w r base ts cs
  | [], [], _, _ => trivial
  | t :: ts, v :: vs, hl, h => by
    refine ⟨?_, cellsAll_of ts vs (by simpa using hl) fun i x hx => ?_⟩
    · obtain ⟨u, hu, hc⟩ := h 0 v rfl
      simp at hu
      rw [hu]
      exact hc
    · obtain ⟨u, hu, hc⟩ := h (i + 1) x (by simpa using hx)
      exact ⟨u, by simpa using hu, hc⟩
  | [], _ :: _, hl, _ => by simp at hl
  | _ :: _, [], hl, _ => by simp at hl
theorem cellsAll_row {t : TypeId} {ts : List TypeId} {cs : Array Value} (ht : P.cellTypes P.depth t = some ts) (hs : cs.size = ts.length) (h : Row.okWide P w r base t cs) : CellsAll P w r base ts cs.toList := by
  obtain ⟨ts', h1, _, h3⟩ := h
  rw [ht] at h1
  obtain rfl := Option.some.inj h1
  refine cellsAll_of _ _ (by simpa using hs) fun i v hv => ?_
  have hv' : cs[i]? = some v := by simpa using hv
  have hi : i < ts.length := by
    have := (Array.getElem?_eq_some_iff.1 hv').1
    omega
  have := h3 i v hv'
  rwa [Nat.mod_eq_of_lt hi] at this
/-- A struct or an array by value: its cells, each of its type. -/
theorem open_agg_struct {t : TypeId} {fs : Array Field} {ts : List TypeId} {v : Value} (hu : P.underlying t = some (.struct fs)) (ht : P.cellTypes P.depth t = some ts) (hn : P.cellsOf t = ts.length) (h : Value.okWide P w r base t v) :
    ∃ cs : List Value, v = .agg cs.toArray ∧ CellsAll P w r base ts cs := by
  unfold Value.okWide at h
  rw [hu] at h
  obtain ⟨cs, rfl, hs, hr⟩ := h
  exact ⟨cs.toList, by simp, cellsAll_row ht (hs.trans hn) hr⟩
theorem cell_string {t : TypeId} {v : Value} (hu : P.underlying t = some .string) (h : Cell.okWide P w r base t v) : ∃ s : ByteArray, v = .string s ∧ s.size ≤ 9223372036854775807 := by
  unfold Cell.okWide at h
  rw [hu] at h
  cases v <;> simp [Cell.ok, hu] at h
  refine ⟨_, rfl, ?_⟩
  omega
/-- a parameter that is no struct and no array -/
theorem open_cell {t : TypeId} {v : Value} (h1 : ∀ fs, P.underlying t ≠ some (.struct fs)) (h2 : ∀ n e, P.underlying t ≠ some (.array n e)) (h : Value.okWide P w r base t v) : Cell.okWide P w r base t v := by
  unfold Value.okWide at h
  split at h
  · exact absurd (by assumption) (h1 _)
  · exact absurd (by assumption) (h2 _ _)
  · exact h
theorem open_str {t : TypeId} {v : Value} (hu : P.underlying t = some .string) (h : Value.okWide P w r base t v) : ∃ s : ByteArray, v = .string s ∧ s.size ≤ 9223372036854775807 :=
  cell_string hu (open_cell (by simp [hu]) (by simp [hu]) h)
end

end Go.Proofs.YtjegjgdihpihoaaGreatDoor
