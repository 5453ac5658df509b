/-
  Joined texts: Gh.
-/
import Derived.Test.YtdnehjhijmeihaaGreatQGf
import Derived.Test.YtdnehjhijmeihaaGreatQSl
namespace Go.Proofs.YtdnehjhijmeihaaGreat
open Go.ChangeShapes Go.WideShapes Go.ChangeAt Go.RowKit
set_option linter.unusedVariables false
set_option linter.unusedSimpArgs false
set_option maxRecDepth 20000
attribute [local irreducible] wpList
noncomputable def qryF (s : ByteArray) (t : St) (c : Nat) : Tk × St :=
  let a := addrS s 4 t
  let t1 := stepS s 4 t
  let t2 := failS (!(a == Ad.z || grp4 a)) 2 t1
  if s.size - t2.k = 0 then
    if c = 0 then (⟨false, 1, 1, (c : Int), a, false, 0, 0, [], []⟩, failS (!(a == Ad.z)) 2 t2)
    else (⟨false, 2, 1, (c : Int), a, false, 0, 0, [], []⟩, t2)
  else
    let f := numV s 1 t2
    let t3 := stepS s 1 t2
    let t4 := stepS s 1 t3
    let n := numV s 2 t4
    let L := srcF s n (failS (a == Ad.z && decide (0 < n)) 2 (stepS s 2 t4))
    (⟨false, 3, 1, (valN 16 c : Int), a, decide (f / 8 % 2 = 1), ((f % 8 : Nat) : Int), (valN 16 (numV s 1 t3) : Int), L.1, []⟩, L.2)
theorem and8 (v : Nat) (h : v < 256) : bits .and .i64 (v : Int) 8 = (((if v / 8 % 2 = 1 then 8 else 0 : Nat)) : Int) := by
  have e := i64_and v 8 (by omega) (by omega)
  rw [show ((8 : Nat) : Int) = 8 from rfl] at e
  rw [e]
  congr 1
  have : ∀ v : Fin 256, v.val &&& 8 = if v.val / 8 % 2 = 1 then 8 else 0 := by decide
  exact this ⟨v, h⟩
theorem and7 (v : Nat) (h : v < 256) : bits .and .i64 (v : Int) 7 = ((v % 8 : Nat) : Int) := by
  have e := i64_and v 7 (by omega) (by omega)
  rw [show ((7 : Nat) : Int) = 7 from rfl] at e
  rw [e]
  congr 1
  exact Nat.and_two_pow_sub_one_eq_mod v 3
theorem failS_eq (is : Bool) (c : Int) (t : St) : failS is c t = ⟨t.k, t.b, (failS is c t).e⟩ := by unfold failS; split <;> rfl
theorem cV8 (k : Nat) (hk : k ≤ 255) (w : World) : Gives Tryz.prog 192 #[.int .i64 (k : Int)] w (.int .i64 (valN 16 k : Int)) := by
  have := Value8_any (c := (k : Int)) (w := w)
  rwa [clampN_in hk] at this
section
variable {B : Nat} {w0 W w : World} {H : HB} {g gr gt : Nat} {s : ByteArray} {t : St} {Q : Ending → World → Prop}
set_option maxHeartbeats 2000000 in
theorem iqueries_any {c : Nat} {ver0 resp0 : Int} {Z : List Value} (oZ : OkA Z 17) (hc : c ≤ 255) (hs : s.size ≤ 100000) (hk : t.k ≤ s.size)
    (hH : Hp B w0 W (rdH g gr s t ((gt, 29, true, [.one (.bool false), .one (.int .i64 ver0), .one (.int .i64 1), .one (.int .i64 resp0), .many Z 17, .one (.bool false), .one (.int .i64 0), .one (.int .i64 0), .one (.slice none 0 0), .one (.slice none 0 0)]) :: H)))
    (hQ : ∀ W' T t' D sp sc, Hid (qryF s t c = (T, t')) → Hid (∀ B w0 W, Hp B w0 W D → AdsAt W sp T.src) → Hid (∀ r ∈ D, r.2.2.1 = true) → Hp B w0 W' (rdH g gr s t' ((gt, 29, true, tkS T sp sc none 0) :: (H ++ D))) → Q (.returned (.tuple #[])) W') : Calls Tryz.prog 157 #[.pointer (some ⟨g, 0, none⟩), .pointer (some ⟨gt, 0, none⟩), .int .i64 (c : Int)] W Q := by
  have HQ := Lib.hid hQ
  clear hQ
  have A1 := Lib.hid (addrC (B := B) (w0 := w0) (g := g) (gr := gr) hs hk)
  have hk1 := stepS_k (n := 4) hk
  obtain ⟨a, e1⟩ : ∃ v, addrS s 4 t = v := ⟨_, rfl⟩
  obtain ⟨t1, e2⟩ : ∃ v, stepS s 4 t = v := ⟨_, rfl⟩
  rw [e1, e2] at A1
  rw [e2] at hk1
  have f1 : ∀ w, Gives Tryz.prog 179 #[.agg (fls [.many (adL a) 17]).toArray] w (.bool (a == Ad.z || grp4 a)) := fun w => iasked_any
  have f2 := ad_eql a Ad.z
  have f3 := ad_neq a Ad.z
  rw [← zAd_eq] at f2 f3
  have e4 : (a != Ad.z) = !(a == Ad.z) := rfl
  rw [e4] at f3
  clear e4
  have F2 := Lib.hid (failC (B := B) (w0 := w0) (g := g) (gr := gr) (s := s) (is := !(a == Ad.z || grp4 a)) (c := 2) (t := t1))
  obtain ⟨t2, e3⟩ : ∃ v, failS (!(a == Ad.z || grp4 a)) 2 t1 = v := ⟨_, rfl⟩
  have e3' : failS (!(a == Ad.z || grp4 a)) 2 t1 = ⟨t1.k, t1.b, t2.e⟩ := by rw [failS_eq, e3]
  rw [e3] at F2
  have hk2 : t2.k ≤ s.size := by rw [← e3, failS_k]; exact hk1
  obtain ⟨T', hres⟩ : ∃ r, qryF s t c = r := ⟨_, rfl⟩
  rw [hres] at HQ
  unfold qryF at hres
  simp only [e1, e2, e3] at hres
  have ht2 : t2 = ⟨t1.k, t1.b, t2.e⟩ := by rw [← e3', e3]
  clear e1 e2 e3 e3' hk
  obtain ⟨k1, b1, e1⟩ := t1
  obtain ⟨k2, b2, e2⟩ := t2
  simp only at ht2
  injection ht2 with h1 h2 h3
  subst h1
  subst h2
  clear h3
  simp only at hk2 hres hk1
  have oA := adL_ok a
  obtain ⟨A, hA⟩ : ∃ Y, Y = adL a := ⟨_, rfl⟩
  have HA := Lib.hid hA
  rw [← hA] at A1 f1 f2 f3 oA
  clear hA
  obtain ⟨ab, hab⟩ : ∃ v, (a == Ad.z || grp4 a) = v := ⟨_, rfl⟩
  rw [hab] at f1 F2
  clear hab
  obtain ⟨zq, hzq⟩ : ∃ v, (a == Ad.z) = v := ⟨_, rfl⟩
  rw [hzq] at f2 f3 hres
  clear hzq
  have HLF := Lib.hid (show ∀ (W : World) (H : HB) (i : Nat) {R : Ending → World → Prop}, Hp B w0 W H → nthH H i = some (gr, 129, true, rdSegs s ⟨k2, b2, e2⟩) → (∀ W', Hp B w0 W' H → R (.returned (.int .i64 ((s.size - k2 : Nat) : Int))) W') → Calls Tryz.prog 187 #[.pointer (some ⟨gr, 0, none⟩)] W R from fun W H i R h h1 hR => hLeft (s := s) (k := k2) (bad := b2) i h h1 hk2 (by omega) hR)
  obtain ⟨l0, hl0⟩ : ∃ v, s.size - k2 = v := ⟨_, rfl⟩
  rw [hl0] at HLF hres
  clear hl0
  unfold rdH at hH
  by_cases hl : l0 = 0
  · subst hl
    rw [if_pos rfl] at hres
    by_cases hc0 : c = 0
    · subst hc0
      rw [if_pos rfl] at hres
      have F3 := Lib.hid (failC (B := B) (w0 := w0) (g := g) (gr := gr) (s := s) (is := !zq) (c := 2) (t := ⟨k2, b2, e2⟩))
      have e4 := failS_eq (!zq) 2 ⟨k2, b2, e2⟩
      rw [e4] at hres
      clear e4
      generalize (failS (!zq) 2 ⟨k2, b2, e2⟩).e = e3 at *
      have HRES := Lib.hid hres
      clear hres
      go_enter Tryz.func157, Tryz.ntmps157
      go_wp2_with (first | ((go_at_call 159; refine A1.out _ _ _ _ _ 0 1 hH rfl rfl rfl rfl ?_; (clear hH; (first | intro W g hH | intro W hH); (try simp only [Act.put, pA, pB, pC])))) | ((go_at_call 187; refine HLF.out _ _ 1 hH rfl ?_; (clear hH; (first | intro W g hH | intro W hH); (try simp only [Act.put, pA, pB, pC])))) | ((go_at_call 156; (first | refine F2.out _ _ _ _ _ _ _ 0 1 rfl rfl hH rfl rfl rfl rfl ?_ | refine F3.out _ _ _ _ _ _ _ 0 1 rfl rfl hH rfl rfl rfl rfl ?_); (clear hH; (first | intro W g hH | intro W hH); (try simp only [Act.put, pA, pB, pC])))) | (refine st ?_; clear hH; first | intro W g hH | intro W hH))
      go_end0
      refine HQ.out _ _ _ [] none 0 (Lib.hid HRES.out.symm) (Lib.hid fun _ _ _ _ => AdsAt.nil) (Lib.hid fun r hr => by simp at hr) ?_
      unfold rdH tkS
      simp only
      rw [List.append_nil, ← HA.out]
      exact hH
    · rw [if_neg hc0] at hres
      have HRES := Lib.hid hres
      clear hres
      have dc : ((c : Int) == 0) = false := by simpa using hc0
      have hc1 : (c : Int) ≠ 0 := by omega
      go_enter Tryz.func157, Tryz.ntmps157
      go_wp2_with (first | ((go_at_call 159; refine A1.out _ _ _ _ _ 0 1 hH rfl rfl rfl rfl ?_; (clear hH; (first | intro W g hH | intro W hH); (try simp only [Act.put, pA, pB, pC])))) | ((go_at_call 187; refine HLF.out _ _ 1 hH rfl ?_; (clear hH; (first | intro W g hH | intro W hH); (try simp only [Act.put, pA, pB, pC])))) | ((go_at_call 156; (first | refine F2.out _ _ _ _ _ _ _ 0 1 rfl rfl hH rfl rfl rfl rfl ?_); (clear hH; (first | intro W g hH | intro W hH); (try simp only [Act.put, pA, pB, pC])))) | (refine st ?_; clear hH; first | intro W g hH | intro W hH))
      go_end0
      refine HQ.out _ _ _ [] none 0 (Lib.hid HRES.out.symm) (Lib.hid fun _ _ _ _ => AdsAt.nil) (Lib.hid fun r hr => by simp at hr) ?_
      unfold rdH tkS
      simp only
      rw [List.append_nil, ← HA.out]
      exact hH
  · rw [if_neg hl] at hres
    have dl : ((l0 : Int) == 0) = false := by simpa using hl
    have hl1 : (l0 : Int) ≠ 0 := by omega
    have N3 := Lib.hid (numC (B := B) (w0 := w0) (g := g) (gr := gr) (t := ⟨k2, b2, e2⟩) (n := 1) (by omega) hs hk2)
    have hv3 : numV s 1 ⟨k2, b2, e2⟩ < 256 := numV_lt s 1 _
    have hk3 := stepS_k (s := s) (t := ⟨k2, b2, e2⟩) (n := 1) hk2
    obtain ⟨v3, e3⟩ : ∃ v, numV s 1 ⟨k2, b2, e2⟩ = v := ⟨_, rfl⟩
    obtain ⟨t3, e4⟩ : ∃ v, stepS s 1 ⟨k2, b2, e2⟩ = v := ⟨_, rfl⟩
    rw [e3, e4] at N3 hres
    rw [e3] at hv3
    rw [e4] at hk3
    clear e3 e4
    have N4 := Lib.hid (numC (B := B) (w0 := w0) (g := g) (gr := gr) (t := t3) (n := 1) (by omega) hs hk3)
    have hv4 : numV s 1 t3 < 256 := numV_lt s 1 _
    have hk4 := stepS_k (s := s) (t := t3) (n := 1) hk3
    obtain ⟨v4, e3⟩ : ∃ v, numV s 1 t3 = v := ⟨_, rfl⟩
    obtain ⟨t4, e4⟩ : ∃ v, stepS s 1 t3 = v := ⟨_, rfl⟩
    rw [e3, e4] at N4 hres
    rw [e3] at hv4
    rw [e4] at hk4
    clear e3 e4
    have N5 := Lib.hid (numC (B := B) (w0 := w0) (g := g) (gr := gr) (t := t4) (n := 2) (by omega) hs hk4)
    have hv5 : numV s 2 t4 < 65536 := numV_lt s 2 _
    have hk5 := stepS_k (s := s) (t := t4) (n := 2) hk4
    obtain ⟨n, e3⟩ : ∃ v, numV s 2 t4 = v := ⟨_, rfl⟩
    obtain ⟨t5, e4⟩ : ∃ v, stepS s 2 t4 = v := ⟨_, rfl⟩
    rw [e3, e4] at N5 hres
    rw [e3] at hv5
    rw [e4] at hk5
    clear e3 e4
    have F6 := Lib.hid (failC (B := B) (w0 := w0) (g := g) (gr := gr) (s := s) (is := (zq && decide (0 < n))) (c := 2) (t := t5))
    have e6 := failS_eq (zq && decide (0 < n)) 2 t5
    rw [e6] at hres
    clear e6
    generalize (failS (zq && decide (0 < n)) 2 t5).e = e6 at *
    obtain ⟨k5, b5, e5⟩ := t5
    simp only at hres hk5
    obtain ⟨L, t7, eL⟩ : ∃ L t, srcF s n ⟨k5, b5, e6⟩ = (L, t) := ⟨_, _, rfl⟩
    have S7 := Lib.hid (srcC (B := B) (w0 := w0) (g := g) (gr := gr) (t := ⟨k5, b5, e6⟩) hv5 hs hk5 eL)
    rw [eL] at hres
    simp only at hres
    clear eL hk1 hk2 hk3 hk4 hk5 hv5
    have b8 := and8 v3 hv3
    have b7 := and7 v3 hv3
    have eq : decide (v3 / 8 % 2 = 1) = (((if v3 / 8 % 2 = 1 then 8 else 0 : Nat) : Int) != 0) := by by_cases h : v3 / 8 % 2 = 1 <;> simp [h]
    rw [eq] at hres
    clear eq
    generalize (((if v3 / 8 % 2 = 1 then 8 else 0 : Nat)) : Int) = x8 at *
    generalize (((v3 % 8 : Nat)) : Int) = x7 at *
    obtain ⟨qb, hqb⟩ : ∃ v, (x8 != 0) = v := ⟨_, rfl⟩
    rw [hqb] at hres
    have fV := cV8 c (by omega)
    have fE := cV8 v4 (by omega)
    generalize ((valN 16 c : Nat) : Int) = xr at *
    generalize ((valN 16 v4 : Nat) : Int) = xe at *
    have HRES := Lib.hid hres
    clear hres hv3 hv4
    have hF6 : (zq = false ∧ Hid (FailC B w0 g gr s false 2 ⟨k5, b5, e5⟩ e6)) ∨ (zq = true ∧ Hid (FailC B w0 g gr s (decide (0 < n)) 2 ⟨k5, b5, e5⟩ e6)) := by
      cases zq
      · exact .inl ⟨rfl, F6⟩
      · exact .inr ⟨rfl, F6⟩
    clear F6
    rcases hF6 with ⟨rfl, F6⟩ | ⟨rfl, F6⟩
    all_goals
      go_enter Tryz.func157, Tryz.ntmps157
      go_wp2_with (first | ((go_at_call 159; refine A1.out _ _ _ _ _ 0 1 hH rfl rfl rfl rfl ?_; (clear hH; (first | intro W g hH | intro W hH); (try simp only [Act.put, pA, pB, pC])))) | ((go_at_call 187; refine HLF.out _ _ 1 hH rfl ?_; (clear hH; (first | intro W g hH | intro W hH); (try simp only [Act.put, pA, pB, pC])))) | ((go_at_call 156; (first | refine F2.out _ _ _ _ _ _ _ 0 1 rfl rfl hH rfl rfl rfl rfl ?_ | refine F6.out _ _ _ _ _ _ _ 0 1 rfl rfl hH rfl rfl rfl rfl ?_); (clear hH; (first | intro W g hH | intro W hH); (try simp only [Act.put, pA, pB, pC])))) | ((go_at_call 155; (first | refine N3.out _ _ _ _ _ _ 0 1 rfl hH rfl rfl rfl rfl ?_ | refine N4.out _ _ _ _ _ _ 0 1 rfl hH rfl rfl rfl rfl ?_ | refine N5.out _ _ _ _ _ _ 0 1 rfl hH rfl rfl rfl rfl ?_); (clear hH; (first | intro W g hH | intro W hH); (try simp only [Act.put, pA, pB, pC])))) | ((go_at_call 194; refine S7.out _ _ _ _ _ 0 1 hH rfl rfl rfl rfl ?_; (clear hH; intro W sp sc D hA hD hH); (try simp only [List.cons_append, List.append_assoc] at hH); (try simp only [Act.put, List.setIfInBounds_toArray, List.set_cons_succ, List.set_cons_zero]))) | (refine st ?_; clear hH; first | intro W g hH | intro W hH))
      go_end0
      refine HQ.out _ _ _ D sp sc (Lib.hid HRES.out.symm) hA hD ?_
      unfold rdH tkS
      simp only
      rw [← HA.out]
      exact hH
end
end Go.Proofs.YtdnehjhijmeihaaGreat
