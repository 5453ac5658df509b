/-
  sync.Mutex: its numbers in this seat (printed by tools/gen-mu.py); Lock and the deferred Unlock in a world known by a list of blocks.
-/
import Derived.Test.YtknlhhmcidimaaaOld
import Derived.Test.YtknlhhmcidimaaaRows
import Derived.Conc.MuLone
namespace Go.Proofs.Ytknlhhmcidimaaa
open Go.ChangeShapes Go.WideShapes Go.ChangeAt Go.RowKit Go.MuLone
set_option linter.unusedVariables false
set_option linter.unusedSimpArgs false

abbrev muLink : Go.Conc.Locks.MuLink := { lock := 25, unlock := 26, ilock := 33, iunlock := 34, lockSlow := 41, unlockSlow := 44, disable := 37, enable := 39, acquire := 40, relMerge := 42, cas32 := 38, add32 := 43, tMutex := 58, tIMutex := 56, tPMutex := 65, tPIMutex := 68, tPI32 := 70, tUP := 72, tNoCopy := 54, tU32 := 28 }
theorem muLib : Go.Conc.Locks.MuLib Try.prog muLink :=
  ⟨Try.func25, Try.func26, Try.func33, Try.func34, Try.func37, Try.func39, Try.func40, Try.func42, Try.func38, Try.func43, Try.underlying56, Try.runUnderlying56, Try.sizeOf56, Try.isAgg56, Try.zeroValue56, Try.underlying58, Try.runUnderlying58, Try.sizeOf58, Try.isAgg58, Try.zeroValue58, Try.underlying65, Try.runUnderlying65, Try.sizeOf65, Try.isAgg65, Try.zeroValue65, Try.underlying68, Try.runUnderlying68, Try.sizeOf68, Try.isAgg68, Try.zeroValue68, Try.underlying70, Try.runUnderlying70, Try.sizeOf70, Try.isAgg70, Try.zeroValue70, Try.underlying72, Try.runUnderlying72, Try.sizeOf72, Try.isAgg72, Try.zeroValue72, Try.underlying54, Try.runUnderlying54, Try.sizeOf54, Try.isAgg54, Try.zeroValue54, Try.underlying21, Try.runUnderlying21, Try.sizeOf21, Try.isAgg21, Try.zeroValue21, (by kernel_rfl)⟩
theorem zmu : zeroL Try.prog 58 = [.int .i32 0, .int .u32 0] := by kernel_rfl
section
variable {B : Nat} {w0 W : World} {H H' : HB} {g : Nat} {t : TypeId} {S : List Seg} {Q : Ending → World → Prop}
theorem hLock (i : Nat) (hH : Hp B w0 W H) (hi : nthH H i = some (g, t, true, .one (.int .i32 0) :: S)) (hu : updH H i (.one (.int .i32 1) :: S) = some H') (hQ : ∀ W', Hp B w0 W' H' → Q (.returned (.tuple #[])) W') : Calls Try.prog 25 #[.pointer (some ⟨g, 0, none⟩)] W Q := by
  obtain ⟨hr, hS, hB⟩ := hH.rows.mem hi
  refine (lock_free muLib ⟨g, 0, none⟩ W ?_ (hr.frozen 0)).mono ?_
  · rw [hr.cell]; simp [fls]
  · rintro e w' ⟨rfl, rfl⟩
    refine hQ _ (hH.upd hi hu ⟨rfl, hS.2⟩ ?_ (gb_set (World.grownBy.refl W _) 0 _))
    have := hr.set 0 (.int .i32 1)
    simpa [fls] using this
theorem hUnlockD {u : FrameMode} {Q : Ending → FrameMode → World → Prop} (i : Nat) (hH : Hp B w0 W H) (hi : nthH H i = some (g, t, true, .one (.int .i32 1) :: S)) (hu : updH H i (.one (.int .i32 0) :: S) = some H') (hQ : ∀ W', Hp B w0 W' H' → Q (.returned (.tuple #[])) u W') : CallsD Try.prog 26 #[.pointer (some ⟨g, 0, none⟩)] u W Q := by
  obtain ⟨hr, hS, hB⟩ := hH.rows.mem hi
  refine (unlock_deferred muLib ⟨g, 0, none⟩ u W ?_ (hr.frozen 0)).mono ?_
  · rw [hr.cell]; simp [fls]
  · rintro e u' w' ⟨rfl, rfl, rfl⟩
    refine hQ _ (hH.upd hi hu ⟨rfl, hS.2⟩ ?_ (gb_set (World.grownBy.refl W _) 0 _))
    have := hr.set 0 (.int .i32 0)
    simpa [fls] using this
end
end Go.Proofs.Ytknlhhmcidimaaa
