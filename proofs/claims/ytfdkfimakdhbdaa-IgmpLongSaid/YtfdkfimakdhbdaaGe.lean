/-
  Contracts of package igmp: the reader's sources.
-/
import Derived.Test.YtfdkfimakdhbdaaGd
import Derived.Test.YtfdkfimakdhbdaaIn
namespace Go.Proofs.Ytfdkfimakdhbdaa
-- %in
open Go.ChangeShapes Go.WideShapes Go.ChangeAt Go.RowKit
set_option linter.unusedVariables false
set_option linter.unusedSimpArgs false
set_option maxRecDepth 20000
attribute [local irreducible] wpList

def srcL (s : ByteArray) (n : Nat) : Nat → List Ad → St → List Ad × St
  | 0, X, t => (X, t)
  | f + 1, X, t => if X.length < n ∧ t.e = 0 then srcL s n f (X ++ [addrS s 4 t]) (stepS s 4 t) else (X, t)
def srcF (s : ByteArray) (n : Nat) (t : St) : List Ad × St := srcL s n 65 [] (failS (decide (64 < n)) 6 t)
theorem srcL_more {s : ByteArray} {n f : Nat} {X : List Ad} {t : St} (h : X.length < n ∧ t.e = 0) : srcL s n (f + 1) X t = srcL s n f (X ++ [addrS s 4 t]) (stepS s 4 t) := by rw [srcL, if_pos h]
theorem srcL_end {s : ByteArray} {n f : Nat} {X : List Ad} {t : St} (h : ¬(X.length < n ∧ t.e = 0)) : srcL s n f X t = (X, t) := by
  cases f with
  | zero => rfl
  | succ f => rw [srcL, if_neg h]
theorem srcL_k {s : ByteArray} {n : Nat} : ∀ {f : Nat} {X : List Ad} {t : St}, t.k ≤ s.size → (srcL s n f X t).2.k ≤ s.size
  | 0, X, t, h => h
  | f + 1, X, t, h => by
    rw [srcL]
    split
    · exact srcL_k (stepS_k h)
    · exact h
theorem srcF_k {s : ByteArray} {n : Nat} {t : St} (h : t.k ≤ s.size) : (srcF s n t).2.k ≤ s.size := by
  unfold srcF
  exact srcL_k (by rw [failS_k]; exact h)
section
variable {B : Nat} {w0 W w : World} {H : HB} {g gr : Nat} {s : ByteArray} {t : St} {Q : Ending → World → Prop}
set_option maxHeartbeats 2000000 in
theorem isources_any {n : Nat} (hn : n < 65536) (hs : s.size ≤ 100000) (hk : t.k ≤ s.size) (hH : Hp B w0 W (rdH g gr s t H)) (hQ : ∀ W' p c D L t', Hid (srcF s n t = (L, t')) → Hid (∀ B w0 W, Hp B w0 W D → AdsAt W p L) → Hid (∀ r ∈ D, r.2.2.1 = true) → Hp B w0 W' (rdH g gr s t' (D ++ H)) → Q (.returned (.slice p L.length c)) W') : Calls Try.prog 54 #[.pointer (some ⟨g, 0, none⟩), .int .i64 (n : Int)] W Q := by
  have HQ := Lib.hid hQ
  clear hQ
  obtain ⟨res, hres⟩ : ∃ r, srcF s n t = r := ⟨_, rfl⟩
  have HR := Lib.hid hres
  have hk0 : (failS (decide (64 < n)) 6 t).k ≤ s.size := by rw [failS_k]; exact hk
  have h64 : n ≤ 64 ∨ (failS (decide (64 < n)) 6 t).e ≠ 0 := by
    by_cases h : n ≤ 64
    · exact .inl h
    · right
      rw [failS_e, decide_eq_true (show 64 < n by omega), Bool.true_and]
      by_cases he : t.e = 0
      · rw [he]; simp
      · rw [if_neg (by simpa using he)]; exact he
  have hF : ∀ {W : World} {Q : Ending → World → Prop}, Hp B w0 W (rdH g gr s t H) → (∀ W', Hp B w0 W' (rdH g gr s (failS (decide (64 < n)) 6 t) H) → Q (.returned (.tuple #[])) W') → Calls Try.prog 21 #[.pointer (some ⟨g, 0, none⟩), .bool (decide (64 < (n : Int))), .int .i64 6] W Q := fun h k' => by
    rw [show decide (64 < (n : Int)) = decide (64 < n) from decide_eq_decide.2 (by omega)]
    exact ifail_any h k'
  have HF := @hF
  clear hF
  have HL := Lib.hid (show srcL s n 65 [] (failS (decide (64 < n)) 6 t) = res from hres)
  clear hres hk
  generalize failS (decide (64 < n)) 6 t = t1 at *
  unfold rdH at *
  go_enter Try.func54, Try.ntmps54
  go_wp2_with (first | ((go_at_call 21; refine HF hH ?_; (clear hH; (first | intro W g hH | intro W hH); (try simp only [Act.put, pA, pB, pC])))))
  go_loopw [5] (fun sl wr => ∃ (X : List Ad) (t' : St) (f : Nat), Hid (srcL s n f X t' = res) ∧ f + X.length = 65 ∧ t'.k ≤ s.size ∧ (n ≤ 64 ∨ t'.e ≠ 0) ∧ X.length ≤ 64 ∧ ((Hid (X = []) ∧ sl = .slice none 0 0 ∧ Hp B w0 wr ((g, 48, true, [.one (.pointer (some ⟨gr, 0, none⟩)), .one (.int .i64 t'.e)]) :: (gr, 80, true, rdSegs s t') :: H)) ∨ (∃ (go cc q : Nat) (J : List Value), sl = .slice (some ⟨go, 0, none⟩) X.length cc ∧ Grow 17 X.length cc (X.length * 17) q ∧ OkA J q ∧ Hp B w0 wr ((go, 25, true, [.many (adsL X) (X.length * 17), .many J q]) :: (g, 48, true, [.one (.pointer (some ⟨gr, 0, none⟩)), .one (.int .i64 t'.e)]) :: (gr, 80, true, rdSegs s t') :: H)))) (fun sl _ => match sl with | .slice _ m _ => 64 - m | _ => 0)
  case atStart => exact ⟨[], t1, 65, HL, rfl, hk0, h64, by simp, .inl ⟨Lib.hid rfl, rfl, hH⟩⟩
  case round =>
    clear hH HL HF
    obtain ⟨X, t', f, HL, hf, hk', h64', hX64, hor⟩ := hrel
    by_cases hc : X.length < n ∧ t'.e = 0
    · obtain ⟨hXn, he⟩ := hc
      have hn64 : n ≤ 64 := by rcases h64' with h | h; exact h; exact absurd he h
      obtain ⟨f', rfl⟩ : ∃ f', f = f' + 1 := ⟨f - 1, by omega⟩
      have HL2 := Lib.hid ((srcL_more ⟨hXn, he⟩).symm.trans HL.out)
      have hk2 := stepS_k (n := 4) hk'
      have dj : decide ((X.length : Int) < (n : Int)) = true := decide_eq_true (by omega)
      have hSnoc := Lib.hid (adsL_snoc X (addrS s 4 t'))
      have oY := adL_ok (addrS s 4 t')
      obtain ⟨k', b', e'⟩ := t'
      simp only at he
      subst he
      have HA := Lib.hid (show ∀ (W : World) (H H1 H2 : HB) (Q : Ending → World → Prop) (i j : Nat), Hp B w0 W H → nthH H i = some (g, 48, true, [.one (.pointer (some ⟨gr, 0, none⟩)), .one (.int .i64 0)]) → updH H i [.one (.pointer (some ⟨gr, 0, none⟩)), .one (.int .i64 (stepS s 4 ⟨k', b', 0⟩).e)] = some H1 → nthH H1 j = some (gr, 80, true, rdSegs s ⟨k', b', 0⟩) → updH H1 j (rdSegs s (stepS s 4 ⟨k', b', 0⟩)) = some H2 → (∀ W', Hp B w0 W' H2 → Q (.returned (.agg (fls [.many (adL (addrS s 4 ⟨k', b', 0⟩)) 17]).toArray)) W') → Calls Try.prog 24 #[.pointer (some ⟨g, 0, none⟩)] W Q from fun W H H1 H2 Q i j h h1 h2 h3 h4 hQ => hIAddr (t := ⟨k', b', 0⟩) i j hs hk' h h1 h2 h3 h4 hQ)
      generalize addrS s 4 ⟨k', b', 0⟩ = y at *
      generalize stepS s 4 ⟨k', b', 0⟩ = t2 at *
      obtain ⟨Y, hY⟩ : ∃ Y, Y = adL y := ⟨_, rfl⟩
      rw [← hY] at oY HA hSnoc
      have HY := Lib.hid hY
      clear hY
      rcases hor with ⟨hX, rfl, hH⟩ | ⟨go, cc, q, J, rfl, hG, oJ, hH⟩
      · have hX := hX.out
        subst hX
        have d0 : decide ((0 : Int) < (n : Int)) = true := decide_eq_true (by simp at hXn; omega)
        go_wp2_with (first | ((go_at_call 24; refine HA.out _ _ _ _ _ 0 1 hH rfl rfl rfl rfl ?_; (clear hH; (first | intro W g hH | intro W hH); (try simp only [Act.put, pA, pB, pC])))) | ((refine hSl tab_ok rfl ?_ rfl tabs_ok rfl rfl rfl rfl rfl hH ?_; (focus (first | exact wN rfl | exact rfl)); refine ⟨?_, ?_, ?_⟩; rotate_left; (focus (repeat (first | exact BR.nil | refine BR.one rfl rfl rfl ?_ | (refine BR.row rfl rfl rfl rfl ?_ ?_; (focus (repeat (first | exact trivial | assumption | exact OkA.z (by kernel_rfl) (by kernel_rfl) | refine ⟨rfl, ?_⟩ | refine ⟨?_, ?_⟩))))))); clear hH; intro W g hH; (try simp only [Act.put, pA, pB, pC]))) | (((first | (refine hApp0 0 tab_ok tabs_ok rfl rfl rfl rfl rfl rfl rfl hH rfl rfl rfl ?_; refine ⟨?_, ?_, ?_⟩; (focus (first | omega | (simp; omega))); (focus (first | omega | (simp; omega))))); clear hH; intro W g c p q J hG hL hJ hH; (try simp only [putH, fls, List.append_nil] at hH hL); (try simp only [Act.put, pA, pB, pC]))) | ((first | (refine iL tab_ok rfl ?_ rfl hH ?_; (focus (first | exact wN rfl | exact rfl)); refine ⟨_, _, rfl, rfl, ?_⟩)); clear hH; (first | intro W g hH | intro W hH); ((try simp only [Act.put, pA, pB, pC]))))
        have hp := hG.hp
        have hq := hG.hq
        have hle := hG.le
        have hmo := hG.most
        refine ⟨⟨[y], t2, f', HL2, by simp at *; omega, hk2, by omega, by simp, .inr ⟨_, c, q, J, rfl, ⟨rfl, by rw [← hq, hp]; rfl, hle, hmo⟩, hJ, ?_⟩⟩, by simp⟩
        have e2 : adsL [y] = Y := by rw [HY.out]; simp [adsL]
        have e1 : [y].length * 17 = p := by rw [hp]; simp
        rw [e2, e1]
        exact hH.sub (SubH.keep (SubH.drop SubH.refl))
      · go_wp2_with (first | ((go_at_call 24; refine HA.out _ _ _ _ _ 1 2 hH rfl rfl rfl rfl ?_; (clear hH; (first | intro W g hH | intro W hH); (try simp only [Act.put, pA, pB, pC])))) | ((refine hSl tab_ok rfl ?_ rfl tabs_ok rfl rfl rfl rfl rfl hH ?_; (focus (first | exact wN rfl | exact rfl)); refine ⟨?_, ?_, ?_⟩; rotate_left; (focus (repeat (first | exact BR.nil | refine BR.one rfl rfl rfl ?_ | (refine BR.row rfl rfl rfl rfl ?_ ?_; (focus (repeat (first | exact trivial | assumption | exact OkA.z (by kernel_rfl) (by kernel_rfl) | refine ⟨rfl, ?_⟩ | refine ⟨?_, ?_⟩))))))); clear hH; intro W g hH; (try simp only [Act.put, pA, pB, pC]))) | (((first | (refine hApp 1 0 tab_ok tabs_ok rfl rfl rfl rfl rfl rfl rfl hH rfl rfl rfl rfl ?_; refine ⟨?_, ?_, ?_⟩; (focus assumption); (focus (first | omega | (simp; omega))))); clear hH; intro W g c p q J hG hL hJ hH; (try simp only [putH, fls, List.append_nil] at hH hL); (try simp only [Act.put, pA, pB, pC]))) | ((first | (refine iL tab_ok rfl ?_ rfl hH ?_; (focus (first | exact wN rfl | exact rfl)); refine ⟨_, _, rfl, rfl, ?_⟩)); clear hH; (first | intro W g hH | intro W hH); ((try simp only [Act.put, pA, pB, pC]))))
        have hp := hG.hp
        have hq := hG.hq
        have hle := hG.le
        have hmo := hG.most
        have e1 : (X ++ [y]).length = X.length + 1 := by simp
        refine ⟨⟨X ++ [y], t2, f', HL2, by simp; omega, hk2, by omega, by simp; omega, .inr ⟨g, c, q, J, by simp, by rw [e1]; exact ⟨rfl, by rw [← hq, hp], hle, hmo⟩, hJ, ?_⟩⟩, by simp; omega⟩
        have e2 : (X ++ [y]).length * 17 = p := by rw [hp]; simp
        rw [e2, hSnoc.out]
        exact hH.sub (SubH.drop SubH.refl)
    · obtain ⟨k', b', e'⟩ := t'
      simp only at hc hor
      have hcase : (n ≤ X.length ∧ decide ((X.length : Int) < (n : Int)) = false) ∨ (X.length < n ∧ e' ≠ 0 ∧ decide ((X.length : Int) < (n : Int)) = true ∧ (e' == 0) = false) := by
        by_cases h1 : X.length < n
        · have h2 : e' ≠ 0 := fun h => hc ⟨h1, h⟩
          exact .inr ⟨h1, h2, decide_eq_true (by omega), by simpa using h2⟩
        · exact .inl ⟨by omega, decide_eq_false (by omega)⟩
      have HL2 := Lib.hid ((srcL_end hc).symm.trans HL.out)
      have HE := Lib.hid (show srcF s n t = (X, ⟨k', b', e'⟩) from HR.out.trans HL2.out.symm)
      clear hc HL HL2 HR
      rcases hor with ⟨hX, rfl, hH⟩ | ⟨go, cc, q, J, rfl, hG, oJ, hH⟩
      · have hX := hX.out
        subst hX
        rcases hcase with ⟨h1, dj⟩ | ⟨h1, h2, dj, de⟩
        all_goals
          have d0 := show decide ((0 : Int) < (n : Int)) = _ from dj
          clear dj
          simp only [List.length_nil] at h1
          go_wp2_with (first | ((first | (refine iL tab_ok rfl ?_ rfl hH ?_; (focus (first | exact wN rfl | exact rfl)); refine ⟨_, _, rfl, rfl, ?_⟩)); clear hH; (first | intro W g hH | intro W hH); ((try simp only [Act.put, pA, pB, pC]))))
          exact HQ.out _ none 0 [] [] ⟨k', b', e'⟩ HE (Lib.hid (fun _ _ _ _ => AdsAt.nil)) (Lib.hid (fun r hr => by simp at hr)) hH
      · have hp := hG
        clear hG
        rcases hcase with ⟨h1, dj⟩ | ⟨h1, h2, dj, de⟩
        all_goals
          go_wp2_with (first | ((first | (refine iL tab_ok rfl ?_ rfl hH ?_; (focus (first | exact wN rfl | exact rfl)); refine ⟨_, _, rfl, rfl, ?_⟩)); clear hH; (first | intro W g hH | intro W hH); ((try simp only [Act.put, pA, pB, pC]))))
          exact HQ.out _ (some ⟨go, 0, none⟩) cc [(go, _, true, [.many (adsL X) (X.length * 17), .many J q])] X ⟨k', b', e'⟩ HE (Lib.hid (fun B w0 W h => by exact adsAt_row (J := J) (by omega) (by simpa [fls] using (h.rows.mem (i := 0) rfl).1))) (Lib.hid (fun r hr => by simp at hr; rw [hr])) (hH.perm ((List.Perm.swap _ _ _).trans ((List.Perm.swap _ _ _).cons _)))
end
end Go.Proofs.Ytfdkfimakdhbdaa
