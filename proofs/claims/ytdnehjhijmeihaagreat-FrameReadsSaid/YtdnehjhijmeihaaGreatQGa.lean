/-
  Joined texts: Ga.
-/
import Derived.Test.YtdnehjhijmeihaaGreatQTg
import Derived.Test.YtdnehjhijmeihaaGreatQSl
namespace Go.Proofs.YtdnehjhijmeihaaGreat
-- %in
open Go.ChangeShapes Go.WideShapes Go.ChangeAt Go.RowKit
set_option linter.unusedVariables false
set_option linter.unusedSimpArgs false
set_option maxRecDepth 20000
attribute [local irreducible] wpList

section
variable {w : World} {a : Ad} {p : Option Addr} {c : Nat} {L : List Ad}
theorem iplain_any : Gives Tryz.prog 196 #[.agg (fls [.many (adL a) 17]).toArray] w (.bool (src4 a)) := by
  have f1 : ∀ w, Gives Tryz.prog 71 #[.agg (fls [.many (adL a) 17]).toArray] w (.bool (goodA a.v a.b)) := fun w => by rw [← rg_segs]; exact aGood_any a.h
  have oA := adL_ok a
  have cA := adL_0 a
  unfold src4
  generalize adL a = A at *
  generalize goodA a.v a.b = x at *
  generalize a.v = v at *
  refine Gives.of ?_
  have hH := Hp.refl w
  go_enter Tryz.func196, Tryz.ntmps196
  cases v <;> cases x
  all_goals
    go_wp2_with (first | (refine st ?_; clear hH; (first | intro W g hH | intro W hH)))
    go_ret
    exact ⟨by simp, hH.below⟩
theorem igroup_any : Gives Tryz.prog 160 #[.agg (fls [.many (adL a) 17]).toArray] w (.bool (grp4 a)) := by
  have f1 : ∀ w, Gives Tryz.prog 196 #[.agg (fls [.many (adL a) 17]).toArray] w (.bool (src4 a)) := fun w => iplain_any
  have f2 : ∀ w, Gives Tryz.prog 19 #[.agg (fls [.many (adL a) 17]).toArray] w (.bool (groupA a.v a.b)) := fun w => by rw [← rg_segs]; exact aGroup_any a.h
  have oA := adL_ok a
  have e : grp4 a = (src4 a && groupA a.v a.b) := rfl
  rw [e]
  clear e
  generalize adL a = A at *
  generalize src4 a = x at *
  generalize groupA a.v a.b = y at *
  refine Gives.of ?_
  have hH := Hp.refl w
  go_enter Tryz.func160, Tryz.ntmps160
  cases x <;> cases y
  all_goals
    go_wp2_with (first | (refine st ?_; clear hH; (first | intro W g hH | intro W hH)))
    go_ret
    exact ⟨by simp, hH.below⟩
theorem iasked_any : Gives Tryz.prog 179 #[.agg (fls [.many (adL a) 17]).toArray] w (.bool (a == Ad.z || grp4 a)) := by
  have f1 : ∀ w, Gives Tryz.prog 160 #[.agg (fls [.many (adL a) 17]).toArray] w (.bool (grp4 a)) := fun w => igroup_any
  have f2 := ad_eql a Ad.z
  rw [← zAd_eq] at f2
  have oA := adL_ok a
  generalize adL a = A at *
  generalize grp4 a = x at *
  generalize (a == Ad.z) = y at *
  refine Gives.of ?_
  have hH := Hp.refl w
  go_enter Tryz.func179, Tryz.ntmps179
  cases x <;> cases y
  all_goals
    go_wp2_with (first | (refine st ?_; clear hH; (first | intro W g hH | intro W hH)))
    go_ret
    exact ⟨by simp, hH.below⟩
theorem iodd_any : Gives Tryz.prog 205 #[.agg (fls [.many (adL a) 17]).toArray] w (.bool (!src4 a)) := by
  have f1 : ∀ w, Gives Tryz.prog 196 #[.agg (fls [.many (adL a) 17]).toArray] w (.bool (src4 a)) := fun w => iplain_any
  have oA := adL_ok a
  generalize adL a = A at *
  generalize src4 a = x at *
  refine Gives.of ?_
  have hH := Hp.refl w
  go_enter Tryz.func205, Tryz.ntmps205
  go_wp2_with (first | (refine st ?_; clear hH; (first | intro W g hH | intro W hH)))
  go_ret
  exact ⟨by simp, hH.below⟩
/-- the place of the first address that is none -/
def oddAt (L : List Ad) : Int := match L.findIdx? (fun a => !src4 a) with
  | some i => (i : Int)
  | none => -1
theorem oddAt_some {j : Nat} (h : (L.take j).all src4 = true) (hj : j < L.length) (hx : src4 L[j] = false) : oddAt L = (j : Int) := by
  have : L.findIdx? (fun a => !src4 a) = some j := by
    rw [List.findIdx?_eq_some_iff_getElem]
    refine ⟨hj, by simp [hx], fun k hk => ?_⟩
    have hk2 : k < (L.take j).length := by rw [List.length_take]; omega
    have := List.all_eq_true.1 h _ (List.getElem_mem hk2)
    rw [List.getElem_take] at this
    simp [this]
  unfold oddAt
  rw [this]
theorem oddAt_none (h : L.all src4 = true) : oddAt L = -1 := by
  have : L.findIdx? (fun a => !src4 a) = none := by
    rw [List.findIdx?_eq_none_iff]
    intro a ha
    simp [List.all_eq_true.1 h a ha]
  unfold oddAt
  rw [this]
theorem oddAt_iff : decide (0 ≤ oddAt L) = !L.all src4 := by
  cases h : L.all src4
  · unfold oddAt
    cases hf : L.findIdx? (fun a => !src4 a) with
    | some i => simp
    | none =>
      rw [List.findIdx?_eq_none_iff] at hf
      have : L.all src4 = true := List.all_eq_true.2 fun a ha => by have := hf a ha; simpa using this
      rw [h] at this; cases this
  · rw [oddAt_none h]; rfl
theorem iindex_any (h : AdsAt w p L) : Gives Tryz.prog 197 #[.slice p L.length c, .func (.func 205) #[] #[]] w (.int .i64 (oddAt L)) := by
  have hl := h.1
  have HA := Lib.hid h
  clear h
  obtain ⟨res, hres⟩ : ∃ r, oddAt L = r := ⟨_, rfl⟩
  rw [hres]
  have HR := Lib.hid hres
  clear hres
  refine Gives.of ?_
  have hH := Hp.refl w
  go_enter Tryz.func197, Tryz.ntmps197
  go_wp2_with (first | (refine st ?_; clear hH; (first | intro W g hH | intro W hH)))
  go_loopw [5, 8] (fun _ i wr => ∃ j : Nat, i = .int .i64 (j : Int) ∧ j ≤ L.length ∧ (L.take j).all src4 = true ∧ Hp w.heap.size w wr []) (fun _ i _ => L.length - (intOf i).toNat)
  case atStart => exact ⟨0, rfl, by omega, rfl, hH⟩
  case round =>
    clear hH
    obtain ⟨j, rfl, hj, hT, hH⟩ := hrel
    by_cases hjl : j < L.length
    · obtain ⟨q, hq, fA, _⟩ := HA.out.get hjl
      subst hq
      have dj : decide ((j : Int) < (L.length : Int)) = true := decide_eq_true (by omega)
      have HS := Lib.hid (fun e => all_snoc hT hjl e)
      have HN := Lib.hid (fun e => HR.out.symm.trans (oddAt_some hT hjl e))
      clear hT HA
      have oA := adL_ok L[j]
      have f1 : ∀ w, Gives Tryz.prog 205 #[.agg (fls [.many (adL L[j]) 17]).toArray] w (.bool (!src4 L[j])) := fun w => iodd_any
      generalize adL L[j] = A at *
      generalize src4 L[j] = b at *
      cases b
      · have e := HN.out rfl
        subst e
        clear HS HN
        go_wp2_with (first | ((refine gL rfl ?_; refine hLoR tab_ok rfl ?_ rfl hH rfl rfl ?_; (focus (first | exact wN rfl | exact rfl)); refine ⟨_, fA, ⟨oA, trivial⟩, rfl, ?_⟩; (clear hH; (first | intro W g hH | intro W hH); (try simp only [Act.put, pA, pB, pC])))) | (refine st ?_; clear hH; (first | intro W g hH | intro W hH)))
        go_ret
        exact ⟨rfl, hH.below⟩
      · have e := Lib.hid (HS.out rfl)
        clear HS HN
        go_wp2_with (first | ((refine gL rfl ?_; refine hLoR tab_ok rfl ?_ rfl hH rfl rfl ?_; (focus (first | exact wN rfl | exact rfl)); refine ⟨_, fA, ⟨oA, trivial⟩, rfl, ?_⟩; (clear hH; (first | intro W g hH | intro W hH); (try simp only [Act.put, pA, pB, pC])))) | (refine st ?_; clear hH; (first | intro W g hH | intro W hH)))
        exact ⟨⟨j + 1, by simp, by omega, e.out, hH⟩, by simp [intOf]; omega⟩
    · have e : res = -1 := HR.out.symm.trans (oddAt_none (by rwa [List.take_of_length_le (by omega)] at hT))
      subst e
      have dj : decide ((j : Int) < (L.length : Int)) = false := decide_eq_false (by omega)
      clear hT HA HR
      go_wp2_with (first | (refine st ?_; clear hH; (first | intro W g hH | intro W hH)))
      go_ret
      exact ⟨rfl, hH.below⟩
theorem icontains_any (h : AdsAt w p L) : Gives Tryz.prog 164 #[.slice p L.length c, .func (.func 205) #[] #[]] w (.bool (!L.all src4)) := by
  have f1 := Lib.hid (show ∀ W, Below w.heap.size w W → Gives Tryz.prog 197 #[.slice p L.length c, .func (.func 205) #[] #[]] W (.int .i64 (oddAt L)) from fun W hb => iindex_any (h.below hb))
  have e := oddAt_iff (L := L)
  generalize oddAt L = k at *
  generalize L.all src4 = b at *
  have hl := h.1
  clear h
  refine Gives.of ?_
  have hH := Hp.refl w
  go_enter Tryz.func164, Tryz.ntmps164
  go_wp2_with (first | (refine st ?_; clear hH; (first | intro W g hH | intro W hH)) | ((with_reducible refine callH hH ?_); refine ⟨?_, ?_, ?_⟩; rotate_left; (focus (first | (exact f1.out _ hH.below))); clear hH; (first | intro W g hH | intro W hH); ((try simp only [Act.put, pA, pB, pC]))))
  go_ret
  exact ⟨by simp [e], hH.below⟩
theorem ilisted_any (h : AdsAt w p L) : Gives Tryz.prog 182 #[.slice p L.length c] w (.bool (srcs4 L)) := by
  have f1 := Lib.hid (show ∀ W, Below w.heap.size w W → Gives Tryz.prog 164 #[.slice p L.length c, .func (.func 205) #[] #[]] W (.bool (!L.all src4)) from fun W hb => icontains_any (h.below hb))
  have hl := h.1
  clear h
  have e : srcs4 L = (L.all src4 && decide (L.length < 65)) := rfl
  rw [e]
  clear e
  generalize L.all src4 = b at *
  generalize L.length = n at *
  refine Gives.of ?_
  have hH := Hp.refl w
  go_enter Tryz.func182, Tryz.ntmps182
  by_cases hn : n ≤ 64
  · have d1 : decide ((n : Int) ≤ 64) = true := decide_eq_true (by omega)
    have d2 : decide (n < 65) = true := decide_eq_true (by omega)
    rw [d2]
    cases b
    all_goals
      go_wp2_with (first | (refine st ?_; clear hH; (first | intro W g hH | intro W hH)) | ((with_reducible refine callH hH ?_); refine ⟨?_, ?_, ?_⟩; rotate_left; (focus (first | (exact f1.out _ hH.below))); clear hH; (first | intro W g hH | intro W hH); ((try simp only [Act.put, pA, pB, pC]))))
      go_ret
      exact ⟨rfl, hH.below⟩
  · have d1 : decide ((n : Int) ≤ 64) = false := decide_eq_false (by omega)
    have d2 : decide (n < 65) = false := decide_eq_false (by omega)
    rw [d2]
    have hn2 : 64 < n := by omega
    clear hn
    go_wp2_with (first | (refine st ?_; clear hH; (first | intro W g hH | intro W hH)) | ((with_reducible refine callH hH ?_); refine ⟨?_, ?_, ?_⟩; rotate_left; (focus (first | (exact f1.out _ hH.below))); clear hH; (first | intro W g hH | intro W hH); ((try simp only [Act.put, pA, pB, pC]))))
    go_ret
    exact ⟨by simp, hH.below⟩
end
end Go.Proofs.YtdnehjhijmeihaaGreat
