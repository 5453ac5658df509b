/-
  Contracts of packages acequiaref08, acequiaref09: groups, sources, times that can be said.
-/
import Derived.Test.YtealimfmognglaaTs
import Derived.Test.YtealimfmognglaaCd
import Derived.Test.YtealimfmognglaaIn
namespace Go.Proofs.Ytealimfmognglaa
-- %in
open Go.ChangeShapes Go.WideShapes Go.ChangeAt Go.RowKit
set_option linter.unusedVariables false
set_option linter.unusedSimpArgs false
set_option maxRecDepth 20000
attribute [local irreducible] wpList

def grp6 (a : Ad) : Bool := a.v && groupA a.v a.b
def zero6 (a : Ad) : Bool := a.v && zeroA a.b
def srcs6 (L : List Ad) : Bool := L.all (·.v) && decide (L.length < 65)
theorem exists_code8 (n : Nat) : ∃ r, IsCode 16 n r := exists_code 16 (by omega) n
theorem exists_code16 (n : Nat) : ∃ r, IsCode 4096 n r := exists_code 4096 (by omega) n
noncomputable def cod8 (n : Int) : Nat := Classical.choose (exists_code8 n.toNat)
noncomputable def cod16 (n : Int) : Nat := Classical.choose (exists_code16 n.toNat)
theorem cod8_is (n : Int) : IsCode 16 n.toNat (cod8 n) := Classical.choose_spec (exists_code8 n.toNat)
theorem cod16_is (n : Int) : IsCode 4096 n.toNat (cod16 n) := Classical.choose_spec (exists_code16 n.toNat)
theorem cod8_le (n : Int) : cod8 n ≤ 255 := by have := (cod8_is n).1; omega
theorem cod16_le (n : Int) : cod16 n ≤ 65535 := by have := (cod16_is n).1; omega
noncomputable def ex8 (n : Int) : Bool := decide (0 ≤ n) && ((valN 16 (cod8 n) : Int) == n)
noncomputable def ex16 (n : Int) : Bool := decide (0 ≤ n) && ((valN 4096 (cod16 n) : Int) == n)
section
variable {w : World} {p p' : Option Addr} {c c' : Nat} {L M : List Ad} {a : Ad} {n : Int}
theorem rv8 {r : Nat} (h : r ≤ 255) : Gives Try.prog 28 #[.int .i64 (r : Int)] w (.int .i64 (valN 16 r : Int)) := by
  have := rValue8_any (c := (r : Int)) (w := w)
  rwa [clampN_in h] at this
theorem rv16 {r : Nat} (h : r ≤ 65535) : Gives Try.prog 26 #[.int .i64 (r : Int)] w (.int .i64 (valN 4096 r : Int)) := by
  have := rValue16_any (c := (r : Int)) (w := w)
  rwa [clampN_in h] at this
theorem rg_segs (a : Ad) : addrV a.v a.b = (fls [.many (adL a) 17]).toArray := (addr_segs1 a.v a.b).symm
theorem rGroup6_any : Gives Try.prog 22 #[.agg (fls [.many (adL a) 17]).toArray] w (.bool (grp6 a)) := by
  have f2 : ∀ w, Gives Try.prog 51 #[.agg (fls [.many (adL a) 17]).toArray] w (.bool (groupA a.v a.b)) := fun w => by rw [← rg_segs]; exact raGroup_any a.h
  have oA := adL_ok a
  have cA := adL_0 a
  unfold grp6
  generalize adL a = A at *
  generalize groupA a.v a.b = y at *
  generalize a.v = v at *
  refine Gives.of ?_
  have hH := Hp.refl w
  go_enter Try.func22, Try.ntmps22
  cases v <;> cases y
  all_goals
    go_wp2_with (first | ((first | (refine iL tab_ok rfl ?_ rfl hH ?_; (focus (first | exact wN rfl | exact rfl)); refine ⟨_, _, rfl, rfl, ?_⟩) | (refine iLi tab_ok rfl ?_ rfl hH ?_; (focus (first | exact wN rfl | exact rfl)); refine ⟨_, _, _, ?_, rfl, rfl, rfl, ?_, ?_⟩; rotate_left; (focus assumption)) | (refine hBx rfl ?_ rfl hH ?_ ?_; (focus (first | exact wN rfl | exact rfl)); (focus (repeat (first | exact trivial | assumption | exact OkA.z (by kernel_rfl) (by kernel_rfl) | refine ⟨rfl, ?_⟩ | refine ⟨?_, ?_⟩)))) | ((with_reducible refine callH hH ?_); refine ⟨?_, ?_, ?_⟩; rotate_left; (focus (first | (with_reducible exact f2 _))))); clear hH; (first | intro W g hH | intro W hH); ((try simp only [Act.put, pA, pB, pC]))))
    go_ret
    exact ⟨by simp, hH.below⟩
theorem rzero6_any : Gives Try.prog 25 #[.agg (fls [.many (adL a) 17]).toArray] w (.bool (zero6 a)) := by
  have f2 : ∀ w, Gives Try.prog 24 #[.agg (fls [.many (adL a) 17]).toArray] w (.bool (zeroA a.b)) := fun w => by rw [← rg_segs]; exact raZero_any a.h
  have oA := adL_ok a
  have cA := adL_0 a
  unfold zero6
  generalize adL a = A at *
  generalize zeroA a.b = y at *
  generalize a.v = v at *
  refine Gives.of ?_
  have hH := Hp.refl w
  go_enter Try.func25, Try.ntmps25
  cases v <;> cases y
  all_goals
    go_wp2_with (first | ((first | (refine iL tab_ok rfl ?_ rfl hH ?_; (focus (first | exact wN rfl | exact rfl)); refine ⟨_, _, rfl, rfl, ?_⟩) | (refine iLi tab_ok rfl ?_ rfl hH ?_; (focus (first | exact wN rfl | exact rfl)); refine ⟨_, _, _, ?_, rfl, rfl, rfl, ?_, ?_⟩; rotate_left; (focus assumption)) | (refine hBx rfl ?_ rfl hH ?_ ?_; (focus (first | exact wN rfl | exact rfl)); (focus (repeat (first | exact trivial | assumption | exact OkA.z (by kernel_rfl) (by kernel_rfl) | refine ⟨rfl, ?_⟩ | refine ⟨?_, ?_⟩)))) | ((with_reducible refine callH hH ?_); refine ⟨?_, ?_, ?_⟩; rotate_left; (focus (first | (with_reducible exact f2 _))))); clear hH; (first | intro W g hH | intro W hH); ((try simp only [Act.put, pA, pB, pC]))))
    go_ret
    exact ⟨by simp, hH.below⟩
theorem all_snoc {α : Type} {f : α → Bool} {L : List α} {j : Nat} (h : (L.take j).all f = true) (hj : j < L.length) (hx : f L[j] = true) : (L.take (j + 1)).all f = true := by
  rw [← List.take_append_getElem hj, List.all_append, h]
  simp [hx]
theorem all_no {α : Type} {f : α → Bool} {L : List α} {j : Nat} (hj : j < L.length) (hx : f L[j] = false) : L.all f = false := by
  rw [Bool.eq_false_iff]
  intro h
  have := List.all_eq_true.1 h _ (List.getElem_mem hj)
  rw [hx] at this
  cases this
theorem rSrcs6_any (h : AdsAt w p L) : Gives Try.prog 23 #[.slice p L.length c] w (.bool (srcs6 L)) := by
  have hl := h.1
  have HA := Lib.hid h
  clear h
  obtain ⟨res, hres⟩ : ∃ r, srcs6 L = r := ⟨_, rfl⟩
  rw [hres]
  have HR := Lib.hid hres
  clear hres
  refine Gives.of ?_
  have hH := Hp.refl w
  go_enter Try.func23, Try.ntmps23
  go_wp2_with (fail)
  go_loopw [3] (fun i wr => ∃ j : Nat, i = .int .i64 (j : Int) ∧ j ≤ L.length ∧ (L.take j).all (·.v) = true ∧ Hp w.heap.size w wr []) (fun i _ => L.length - (intOf i).toNat)
  case atStart => exact ⟨0, rfl, by omega, rfl, hH⟩
  case round =>
    clear hH
    obtain ⟨j, rfl, hj, hT, hH⟩ := hrel
    by_cases hjl : j < L.length
    · obtain ⟨q, hq, fA, fC⟩ := HA.out.get hjl
      subst hq
      have dj : decide ((j : Int) < (L.length : Int)) = true := decide_eq_true (by omega)
      have HS := Lib.hid (fun e => all_snoc hT hjl e)
      have HN := Lib.hid (show L[j].v = false → res = false from fun e => by rw [← HR.out]; unfold srcs6; rw [all_no hjl e]; rfl)
      clear hT HA fA
      generalize L[j].v = v at *
      cases v
      · have e := HN.out rfl
        subst e
        clear HS HN
        go_wp2_with (first | ((refine gL rfl ?_; refine hLo tab_ok rfl ?_ rfl hH rfl rfl ?_; (focus (first | exact wN rfl | exact rfl)); refine ⟨_, fC, ?_⟩; (clear hH; (first | intro W g hH | intro W hH); (try simp only [Act.put, pA, pB, pC])))))
        go_ret
        exact ⟨rfl, hH.below⟩
      · have e := Lib.hid (HS.out rfl)
        clear HS HN
        go_wp2_with (first | ((refine gL rfl ?_; refine hLo tab_ok rfl ?_ rfl hH rfl rfl ?_; (focus (first | exact wN rfl | exact rfl)); refine ⟨_, fC, ?_⟩; (clear hH; (first | intro W g hH | intro W hH); (try simp only [Act.put, pA, pB, pC])))))
        exact ⟨⟨j + 1, by simp, by omega, e.out, hH⟩, by simp [intOf]; omega⟩
    · have e : decide ((L.length : Int) < 65) = res := by
        rw [← HR.out]; unfold srcs6
        rw [List.take_of_length_le (by omega)] at hT
        rw [hT, Bool.true_and]
        exact decide_eq_decide.2 (by omega)
      have dj : decide ((j : Int) < (L.length : Int)) = false := decide_eq_false (by omega)
      clear hT HA HR
      go_wp2_with (fail)
      go_ret
      exact ⟨by simp [e], hH.below⟩
end
end Go.Proofs.Ytealimfmognglaa
