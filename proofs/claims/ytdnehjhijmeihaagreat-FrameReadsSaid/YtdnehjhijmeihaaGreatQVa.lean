/-
  Joined texts: Va.
-/
import Derived.Test.YtdnehjhijmeihaaGreatQTg
import Derived.Test.YtdnehjhijmeihaaGreatQSl
namespace Go.Proofs.YtdnehjhijmeihaaGreat.V
-- %in
open Go.ChangeShapes Go.WideShapes Go.ChangeAt Go.RowKit
set_option linter.unusedVariables false
set_option linter.unusedSimpArgs false
set_option maxRecDepth 20000
attribute [local irreducible] wpList

section
variable {w : World} {a : Ad} {p : Option Addr} {c : Nat} {L : List Ad}
theorem vgroup_any : Gives Tryz.prog 167 #[.agg (fls [.many (adL a) 17]).toArray] w (.bool (grp6 a)) := by
  have f2 : ∀ w, Gives Tryz.prog 19 #[.agg (fls [.many (adL a) 17]).toArray] w (.bool (groupA a.v a.b)) := fun w => by rw [← rg_segs]; exact aGroup_any a.h
  have oA := adL_ok a
  have cA := adL_0 a
  unfold grp6
  generalize adL a = A at *
  generalize groupA a.v a.b = y at *
  generalize a.v = v at *
  refine Gives.of ?_
  have hH := Hp.refl w
  go_enter Tryz.func167, Tryz.ntmps167
  cases v <;> cases y
  all_goals
    go_wp2_with (first | (refine st ?_; clear hH; (first | intro W g hH | intro W hH)))
    go_ret
    exact ⟨by simp, hH.below⟩
theorem zero6_eq (a : Ad) : (a == Ad.z6) = zero6 a := by
  rw [Bool.eq_iff_iff]
  unfold zero6 zeroA
  simp only [Bool.and_eq_true, beq_iff_eq]
  exact ⟨fun h => by subst h; exact ⟨rfl, rfl⟩, fun h => Ad.ext2 h.1 h.2⟩
theorem z6Ad_eq : (fls [.one (.bool true), .many (zeroL Tryz.prog 23) 16]).toArray = (fls [.many (adL Ad.z6) 17]).toArray := by
  have z16 : zero16.map byteV = zeroL Tryz.prog 23 := by kernel_rfl
  rw [← z16]
  rfl
theorem vzero_any : Gives Tryz.prog 166 #[.agg (fls [.many (adL a) 17]).toArray] w (.bool (zero6 a)) := by
  have f2 := ad_eql a Ad.z6
  rw [zero6_eq, ← z6Ad_eq] at f2
  have oA := adL_ok a
  generalize adL a = A at *
  generalize zero6 a = y at *
  refine Gives.of ?_
  have hH := Hp.refl w
  go_enter Tryz.func166, Tryz.ntmps166
  go_wp2_with (first | (refine st ?_; clear hH; (first | intro W g hH | intro W hH)))
  go_ret
  exact ⟨by simp, hH.below⟩
theorem vodd_any : Gives Tryz.prog 165 #[.agg (fls [.many (adL a) 17]).toArray] w (.bool (!a.v)) := by
  have oA := adL_ok a
  have cA := adL_0 a
  generalize adL a = A at *
  generalize a.v = v at *
  refine Gives.of ?_
  have hH := Hp.refl w
  go_enter Tryz.func165, Tryz.ntmps165
  cases v
  all_goals
    go_wp2_with (first | (refine st ?_; clear hH; (first | intro W g hH | intro W hH)))
    go_ret
    exact ⟨by simp, hH.below⟩
/-- the place of the first address that is none -/
def oddAv (L : List Ad) : Int := match L.findIdx? (fun a => !a.v) with
  | some i => (i : Int)
  | none => -1
theorem oddAv_some {j : Nat} (h : (L.take j).all (·.v) = true) (hj : j < L.length) (hx : L[j].v = false) : oddAv L = (j : Int) := by
  have : L.findIdx? (fun a => !a.v) = some j := by
    rw [List.findIdx?_eq_some_iff_getElem]
    refine ⟨hj, by simp [hx], fun k hk => ?_⟩
    have hk2 : k < (L.take j).length := by rw [List.length_take]; omega
    have := List.all_eq_true.1 h _ (List.getElem_mem hk2)
    rw [List.getElem_take] at this
    simp [this]
  unfold oddAv
  rw [this]
theorem oddAv_none (h : L.all (·.v) = true) : oddAv L = -1 := by
  have : L.findIdx? (fun a => !a.v) = none := by
    rw [List.findIdx?_eq_none_iff]
    intro a ha
    simp [List.all_eq_true.1 h a ha]
  unfold oddAv
  rw [this]
theorem oddAv_iff : decide (0 ≤ oddAv L) = !L.all (·.v) := by
  cases h : L.all (·.v)
  · unfold oddAv
    cases hf : L.findIdx? (fun a => !a.v) with
    | some i => simp
    | none =>
      rw [List.findIdx?_eq_none_iff] at hf
      have : L.all (·.v) = true := List.all_eq_true.2 fun a ha => by have := hf a ha; simpa using this
      rw [h] at this; cases this
  · rw [oddAv_none h]; rfl
theorem vindex_any (h : AdsAt w p L) : Gives Tryz.prog 197 #[.slice p L.length c, .func (.func 165) #[] #[]] w (.int .i64 (oddAv L)) := by
  have hl := h.1
  have HA := Lib.hid h
  clear h
  obtain ⟨res, hres⟩ : ∃ r, oddAv L = r := ⟨_, rfl⟩
  rw [hres]
  have HR := Lib.hid hres
  clear hres
  refine Gives.of ?_
  have hH := Hp.refl w
  go_enter Tryz.func197, Tryz.ntmps197
  go_wp2_with (first | (refine st ?_; clear hH; (first | intro W g hH | intro W hH)))
  go_loopw [5, 8] (fun _ i wr => ∃ j : Nat, i = .int .i64 (j : Int) ∧ j ≤ L.length ∧ (L.take j).all (·.v) = true ∧ Hp w.heap.size w wr []) (fun _ i _ => L.length - (intOf i).toNat)
  case atStart => exact ⟨0, rfl, by omega, rfl, hH⟩
  case round =>
    clear hH
    obtain ⟨j, rfl, hj, hT, hH⟩ := hrel
    by_cases hjl : j < L.length
    · obtain ⟨q, hq, fA, _⟩ := HA.out.get hjl
      subst hq
      have dj : decide ((j : Int) < (L.length : Int)) = true := decide_eq_true (by omega)
      have HS := Lib.hid (fun e => all_snoc hT hjl e)
      have HN := Lib.hid (fun e => HR.out.symm.trans (oddAv_some hT hjl e))
      clear hT HA
      have oA := adL_ok L[j]
      have f1 : ∀ w, Gives Tryz.prog 165 #[.agg (fls [.many (adL L[j]) 17]).toArray] w (.bool (!L[j].v)) := fun w => vodd_any
      generalize adL L[j] = A at *
      generalize L[j].v = b at *
      cases b
      · have e := HN.out rfl
        subst e
        clear HS HN
        go_wp2_with (first | ((refine gL rfl ?_; refine hLoR tab_ok rfl ?_ rfl hH rfl rfl ?_; (focus (first | exact wN rfl | exact rfl)); refine ⟨_, fA, ⟨oA, trivial⟩, rfl, ?_⟩; (clear hH; (first | intro W g hH | intro W hH); (try simp only [Act.put, pA, pB, pC])))) | (refine st ?_; clear hH; (first | intro W g hH | intro W hH)))
        go_ret
        exact ⟨rfl, hH.below⟩
      · have e := Lib.hid (HS.out rfl)
        clear HS HN
        go_wp2_with (first | ((refine gL rfl ?_; refine hLoR tab_ok rfl ?_ rfl hH rfl rfl ?_; (focus (first | exact wN rfl | exact rfl)); refine ⟨_, fA, ⟨oA, trivial⟩, rfl, ?_⟩; (clear hH; (first | intro W g hH | intro W hH); (try simp only [Act.put, pA, pB, pC])))) | (refine st ?_; clear hH; (first | intro W g hH | intro W hH)))
        exact ⟨⟨j + 1, by simp, by omega, e.out, hH⟩, by simp [intOf]; omega⟩
    · have e : res = -1 := HR.out.symm.trans (oddAv_none (by rwa [List.take_of_length_le (by omega)] at hT))
      subst e
      have dj : decide ((j : Int) < (L.length : Int)) = false := decide_eq_false (by omega)
      clear hT HA HR
      go_wp2_with (first | (refine st ?_; clear hH; (first | intro W g hH | intro W hH)))
      go_ret
      exact ⟨rfl, hH.below⟩
theorem vcontains_any (h : AdsAt w p L) : Gives Tryz.prog 164 #[.slice p L.length c, .func (.func 165) #[] #[]] w (.bool (!L.all (·.v))) := by
  have f1 := Lib.hid (show ∀ W, Below w.heap.size w W → Gives Tryz.prog 197 #[.slice p L.length c, .func (.func 165) #[] #[]] W (.int .i64 (oddAv L)) from fun W hb => vindex_any (h.below hb))
  have e := oddAv_iff (L := L)
  generalize oddAv L = k at *
  generalize L.all (·.v) = b at *
  have hl := h.1
  clear h
  refine Gives.of ?_
  have hH := Hp.refl w
  go_enter Tryz.func164, Tryz.ntmps164
  go_wp2_with (first | (refine st ?_; clear hH; (first | intro W g hH | intro W hH)) | ((with_reducible refine callH hH ?_); refine ⟨?_, ?_, ?_⟩; rotate_left; (focus (first | (exact f1.out _ hH.below))); clear hH; (first | intro W g hH | intro W hH); ((try simp only [Act.put, pA, pB, pC]))))
  go_ret
  exact ⟨by simp [e], hH.below⟩
theorem vsix_any (h : AdsAt w p L) : Gives Tryz.prog 124 #[.slice p L.length c] w (.bool (L.all (·.v))) := by
  have f1 := Lib.hid (show ∀ W, Below w.heap.size w W → Gives Tryz.prog 164 #[.slice p L.length c, .func (.func 165) #[] #[]] W (.bool (!L.all (·.v))) from fun W hb => vcontains_any (h.below hb))
  have hl := h.1
  clear h
  generalize L.all (·.v) = b at *
  generalize L.length = n at *
  refine Gives.of ?_
  have hH := Hp.refl w
  go_enter Tryz.func124, Tryz.ntmps124
  go_wp2_with (first | (refine st ?_; clear hH; (first | intro W g hH | intro W hH)) | ((with_reducible refine callH hH ?_); refine ⟨?_, ?_, ?_⟩; rotate_left; (focus (first | (exact f1.out _ hH.below))); clear hH; (first | intro W g hH | intro W hH); ((try simp only [Act.put, pA, pB, pC]))))
  go_ret
  exact ⟨by simp, hH.below⟩
theorem vlisted_any (h : AdsAt w p L) : Gives Tryz.prog 199 #[.slice p L.length c] w (.bool (srcs6 L)) := by
  have f1 := Lib.hid (show ∀ W, Below w.heap.size w W → Gives Tryz.prog 124 #[.slice p L.length c] W (.bool (L.all (·.v))) from fun W hb => vsix_any (h.below hb))
  have hl := h.1
  clear h
  have e : srcs6 L = (L.all (·.v) && decide (L.length < 65)) := rfl
  rw [e]
  clear e
  generalize L.all (·.v) = b at *
  generalize L.length = n at *
  refine Gives.of ?_
  have hH := Hp.refl w
  go_enter Tryz.func199, Tryz.ntmps199
  by_cases hn : n ≤ 64
  · have d1 : decide ((n : Int) ≤ 64) = true := decide_eq_true (by omega)
    have d2 : decide (n < 65) = true := decide_eq_true (by omega)
    rw [d2]
    cases b
    all_goals
      go_wp2_with (first | (refine st ?_; clear hH; (first | intro W g hH | intro W hH)) | ((with_reducible refine callH hH ?_); refine ⟨?_, ?_, ?_⟩; rotate_left; (focus (first | (exact f1.out _ hH.below))); clear hH; (first | intro W g hH | intro W hH); ((try simp only [Act.put, pA, pB, pC]))))
      go_ret
      exact ⟨rfl, hH.below⟩
  · have d1 : decide ((n : Int) ≤ 64) = false := decide_eq_false (by omega)
    have d2 : decide (n < 65) = false := decide_eq_false (by omega)
    rw [d2]
    have hn2 : 64 < n := by omega
    clear hn
    go_wp2_with (first | (refine st ?_; clear hH; (first | intro W g hH | intro W hH)) | ((with_reducible refine callH hH ?_); refine ⟨?_, ?_, ?_⟩; rotate_left; (focus (first | (exact f1.out _ hH.below))); clear hH; (first | intro W g hH | intro W hH); ((try simp only [Act.put, pA, pB, pC]))))
    go_ret
    exact ⟨by simp, hH.below⟩
end
end Go.Proofs.YtdnehjhijmeihaaGreat.V
