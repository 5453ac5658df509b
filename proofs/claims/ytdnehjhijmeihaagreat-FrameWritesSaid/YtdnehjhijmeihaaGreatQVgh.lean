/-
  Joined texts: Vgh.
-/
import Derived.Test.YtdnehjhijmeihaaGreatQVp
import Derived.Test.YtdnehjhijmeihaaGreatQSl
namespace Go.Proofs.YtdnehjhijmeihaaGreat.V
section
open Go.ChangeShapes Go.WideShapes Go.ChangeAt Go.RowKit
set_option linter.unusedVariables false
set_option linter.unusedSimpArgs false
set_option maxRecDepth 20000
attribute [local irreducible] wpList

section
variable {v6 qt : Bool} {ver kd rs rob ev : Int} {GA : List Value} {xp : Option Addr} {xn xc : Nat}
variable {B : Nat} {w0 W w : World} {H : HB} {g gr : Nat} {s : ByteArray} {t : St} {Q : Ending → World → Prop}
def RowsAt (X : List Rv) (E : HB) (yp : Option Addr) (yc : Nat) : Prop :=
  (X = [] ∧ E = [] ∧ yp = none ∧ yc = 0) ∨ ∃ (go q : Nat) (J : List Value), yp = some ⟨go, 0, none⟩ ∧ Grow 19 X.length yc (X.length * 19) q ∧ OkA J q ∧ E = [(go, 119, true, [.many (rvsL X) (X.length * 19), .many J q])]
set_option maxHeartbeats 8000000 in
theorem vrecords_any (oA : OkA GA 17) (hs : s.size ≤ 100000) (hk : t.k ≤ s.size) (hH : Hp B w0 W (rdH g gr s t v6 ver kd rs GA qt rob ev xp xn xc none 0 0 H))
    (hQ : ∀ W' R t' D rp rc, Hid (repF s t = (R, t')) → Hid (∀ B w0 W, Hp B w0 W D → RcsAt W rp R) → Hid (∀ r ∈ D, r.2.2.1 = true) → Hp B w0 W' (rdH g gr s t' v6 ver kd rs GA qt rob ev xp xn xc rp R.length rc (H ++ D)) → Q (.returned (.tuple #[])) W') : Calls Tryz.prog 154 #[.pointer (some ⟨g, 0, none⟩)] W Q := by
  have HQ := Lib.hid hQ
  clear hQ
  have N1 := numC (B := B) (w0 := w0) (g := g) (gr := gr) (n := 2) (by omega) hs hk
  have hk1 := stepS_k (n := 2) hk
  obtain ⟨v1, e1⟩ : ∃ v, numV s 2 t = v := ⟨_, rfl⟩
  obtain ⟨t1, e2⟩ : ∃ v, stepS s 2 t = v := ⟨_, rfl⟩
  rw [e1, e2] at N1
  rw [e2] at hk1
  have N2 := numC (B := B) (w0 := w0) (g := g) (gr := gr) (n := 2) (by omega) hs hk1
  have hn : numV s 2 t1 < 65536 := numV_lt s 2 t1
  have hk2 := stepS_k (n := 2) hk1
  obtain ⟨n, e3⟩ : ∃ v, numV s 2 t1 = v := ⟨_, rfl⟩
  obtain ⟨t2, e4⟩ : ∃ v, stepS s 2 t1 = v := ⟨_, rfl⟩
  rw [e3, e4] at N2
  rw [e3] at hn
  rw [e4] at hk2
  have F3 := failC (B := B) (w0 := w0) (g := g) (gr := gr) (s := s) (is := decide (64 < n)) (c := 6) (t := t2)
  rw [show decide (64 < n) = decide (64 < (n : Int)) from decide_eq_decide.2 (by omega)] at F3
  have hk3 : (failS (decide (64 < n)) 6 t2).k ≤ s.size := by rw [failS_k]; exact hk2
  have h64 : n ≤ 64 ∨ (failS (decide (64 < n)) 6 t2).e ≠ 0 := by
    by_cases h : n ≤ 64
    · exact .inl h
    · right
      rw [failS_e, decide_eq_true (show 64 < n by omega), Bool.true_and]
      by_cases he : t2.e = 0
      · rw [he]; simp
      · rw [if_neg (by simpa using he)]; exact he
  have e5 : failS (decide (64 < n)) 6 t2 = ⟨t2.k, t2.b, (failS (decide (64 < (n : Int))) 6 t2).e⟩ := by
    rw [show decide (64 < n) = decide (64 < (n : Int)) from decide_eq_decide.2 (by omega)]
    have a := failS_k (decide (64 < (n : Int))) 6 t2
    have b := failS_b (decide (64 < (n : Int))) 6 t2
    rw [← a, ← b]
  have hR : repF s t = repL s n 65 0 [] ⟨t2.k, t2.b, (failS (decide (64 < (n : Int))) 6 t2).e⟩ := by
    unfold repF
    rw [e2, e3, e4, e5]
  rw [e5] at hk3 h64
  clear e5 hk hk1 hk2 e1 e2 e3 e4
  generalize (failS (decide (64 < (n : Int))) 6 t2).e = e' at *
  obtain ⟨k2, b2, ez⟩ := t2
  simp only at hR hk3 h64
  obtain ⟨res, hres⟩ : ∃ r, repF s t = r := ⟨_, rfl⟩
  rw [hres] at hR HQ
  have HL := Lib.hid hR.symm
  replace N1 := Lib.hid N1
  replace N2 := Lib.hid N2
  replace F3 := Lib.hid F3
  clear hR hres
  unfold rdH rgS at hH
  go_enter Tryz.func154, Tryz.ntmps154
  go_wp2_with (first | ((go_at_call 152; (first | refine N1.out _ _ _ _ _ _ 0 1 ?_ rfl hH rfl rfl rfl rfl ?_ | refine N2.out _ _ _ _ _ _ 0 1 ?_ rfl hH rfl rfl rfl rfl ?_); (focus assumption); (clear hH; (first | intro W g hH | intro W hH); (try simp only [Act.put, pA, pB, pC])))) | ((go_at_call 189; refine F3.out _ _ _ _ _ _ _ 0 1 ?_ rfl rfl hH rfl rfl rfl rfl ?_; (focus assumption); (clear hH; (first | intro W g hH | intro W hH); (try simp only [Act.put, pA, pB, pC])))) | (refine st ?_; clear hH; first | intro W g hH | intro W hH))
  clear N1 N2 F3
  go_loopw [3] (fun sl wr => ∃ (j f : Nat) (X : List Rv) (t' : St) (D E : HB) (yp : Option Addr) (yc : Nat), sl = .int .i64 (j : Int) ∧ Hid (repL s n f j (X.map Rv.r) t' = res) ∧ f + j = 65 ∧ t'.k ≤ s.size ∧ (n ≤ 64 ∨ t'.e ≠ 0) ∧ j ≤ 64 ∧ X.length ≤ j ∧ Hid (∀ r ∈ D, r.2.2.1 = true) ∧ Hid (∀ x ∈ X, ∀ B w0 W, Hp B w0 W D → AdsAt W x.p x.r.src) ∧ RowsAt X E yp yc ∧ Hp B w0 wr ((g, 159, true, rgS gr v6 ver kd rs GA qt rob ev xp xn xc yp X.length yc t'.e) :: (gr, 129, true, rdSegs s t') :: (E ++ (H ++ D)))) (fun sl _ => 65 - (intOf sl).toNat)
  case atStart => exact ⟨0, 65, [], ⟨k2, b2, e'⟩, [], [], none, 0, rfl, HL, rfl, hk3, h64, by omega, by simp, Lib.hid (by simp), Lib.hid (by simp), .inl ⟨rfl, rfl, rfl, rfl⟩, by rw [List.append_nil]; exact hH⟩
  case round =>
    clear hH HL hk3 h64 k2 b2 e'
    obtain ⟨j, f, X, t', D, E, yp, yc, rfl, HL, hf, hk', h64', hj64, hXj, HD, HXD, hE, hH⟩ := hrel
    unfold rgS at hH
    obtain ⟨k', b', e'⟩ := t'
    simp only at hk' h64' hH
    by_cases hc : j < n ∧ e' = 0
    rotate_left
    · have hcase : (n ≤ j ∧ decide ((j : Int) < (n : Int)) = false) ∨ (j < n ∧ e' ≠ 0 ∧ decide ((j : Int) < (n : Int)) = true ∧ (e' == 0) = false) := by
        by_cases h1 : j < n
        · have h2 : e' ≠ 0 := fun h => hc ⟨h1, h⟩
          exact .inr ⟨h1, h2, decide_eq_true (by omega), by simpa using h2⟩
        · exact .inl ⟨by omega, decide_eq_false (by omega)⟩
      have HE := Lib.hid ((repL_end (f := f) (X := X.map Rv.r) hc).symm.trans HL.out)
      have hXm : X.length ≤ 9223372036854775807 := by omega
      have HRW := Lib.hid hE
      clear hc HL hE hXj
      rcases hcase with ⟨h1, dj⟩ | ⟨h1, h2, dj, de⟩
      all_goals
        go_wp2_with (refine st ?_; clear hH; first | intro W g hH | intro W hH)
        go_end0
        rcases HRW.out with ⟨hX, rfl, rfl, rfl⟩ | ⟨go, q, J, rfl, hG, oJ, rfl⟩
        · subst hX
          exact HQ.out _ [] _ D none 0 (Lib.hid HE.out.symm) (Lib.hid fun _ _ _ _ => RcsAt.nil) HD hH
        · refine HQ.out _ (X.map Rv.r) _ ((go, 119, true, [.many (rvsL X) (X.length * 19), .many J q]) :: D) (some ⟨go, 0, none⟩) yc (Lib.hid HE.out.symm) (Lib.hid fun B w0 W h => rcsAt_row hXm (by have := (h.rows.mem (i := 0) rfl).1; rwa [fls_two] at this) (fun x hx => HXD.out x hx _ _ _ (h.sub (SubH.drop SubH.refl)))) (Lib.hid fun r hr => ?_) ?_
          · rcases List.mem_cons.1 hr with rfl | hr
            · rfl
            · exact HD.out r hr
          · rw [List.length_map]
            refine hH.perm (List.Perm.cons _ (List.Perm.cons _ ?_))
            exact (show List.Perm (_ :: (H ++ D)) _ from List.perm_middle.symm)
    obtain ⟨hjn, he⟩ := hc
    subst he
    have hn64 : n ≤ 64 := by rcases h64' with h | h; exact h; exact absurd rfl h
    obtain ⟨f', rfl⟩ : ∃ f', f = f' + 1 := ⟨f - 1, by omega⟩
    obtain ⟨v1, v2, v3, a, L, t5, ⟨t1, t2, t3, t4, N1, N2, N3, A4, S5⟩, hv1, hv2, hk5, er⟩ := recPre (B := B) (w0 := w0) (g := g) (gr := gr) (t := ⟨k', b', 0⟩) hs hk'
    have hk2 := recF_k (s := s) (t := ⟨k', b', 0⟩) hk'
    have HL2 := Lib.hid ((repL_more (f := f') ⟨hjn, rfl⟩).symm.trans HL.out)
    rw [er] at HL2 hk2
    clear er
    have dj : decide ((j : Int) < (n : Int)) = true := decide_eq_true (by omega)
    have f7 : ∀ w, Gives Tryz.prog 167 #[.agg (fls [.many (adL a) 17]).toArray] w (.bool (grp6 a)) := fun w => vgroup_any
    have oG1 := adL_ok a
    obtain ⟨G1, hG1⟩ : ∃ Y, Y = adL a := ⟨_, rfl⟩
    have HG1 := Lib.hid hG1
    rw [← hG1] at oG1 f7 A4
    replace N1 := Lib.hid N1
    replace N2 := Lib.hid N2
    replace N3 := Lib.hid N3
    replace A4 := Lib.hid A4
    replace S5 := Lib.hid S5
    have hXc : X.length ≤ 64 := by omega
    have HXj := Lib.hid hXj
    have HRW := Lib.hid hE
    clear hG1 HL h64' hk' hE hXj
    have e6 := stepS_eq (s := s) (v2 * 4) t5
    have T6 := takeC (B := B) (w0 := w0) (gr := gr) (n := v2 * 4) (by omega) hs hk5
    have F6 := failC (B := B) (w0 := w0) (g := g) (gr := gr) (s := s) (is := rdB s t5.k t5.b (v2 * 4)) (c := 3) (t := ⟨rdK s t5.k t5.b (v2 * 4), rdB s t5.k t5.b (v2 * 4), t5.e⟩)
    rw [e6] at HL2 hk2
    clear e6
    generalize (failS (rdB s t5.k t5.b (v2 * 4)) 3 ⟨rdK s t5.k t5.b (v2 * 4), rdB s t5.k t5.b (v2 * 4), t5.e⟩).e = e6 at *
    generalize rdS s t5.k t5.b (v2 * 4) = x6 at *
    generalize rdK s t5.k t5.b (v2 * 4) = k6 at *
    generalize rdB s t5.k t5.b (v2 * 4) = b6 at *
    obtain ⟨k5, b5, e5⟩ := t5
    simp only at HL2 F6 T6 hk2 hk5
    have hm4 : decide ((v2 : Int) * 4 ≤ 9223372036854775807) = true := decide_eq_true (by omega)
    replace T6 := Lib.hid T6
    replace F6 := Lib.hid F6
    have hok : ((decide (1 ≤ v1) && (decide (v1 ≤ 6) && grp6 a)) = false ∧ ((decide ((1 : Int) ≤ (v1 : Int)) = false ∧ (v1 : Int) < 1) ∨ (decide ((1 : Int) ≤ (v1 : Int)) = true ∧ decide ((v1 : Int) ≤ 6) = false ∧ (6 : Int) < (v1 : Int)) ∨ (decide ((1 : Int) ≤ (v1 : Int)) = true ∧ decide ((v1 : Int) ≤ 6) = true ∧ grp6 a = false))) ∨ ((decide (1 ≤ v1) && (decide (v1 ≤ 6) && grp6 a)) = true ∧ decide ((1 : Int) ≤ (v1 : Int)) = true ∧ decide ((v1 : Int) ≤ 6) = true ∧ grp6 a = true) := by
      by_cases h1 : 1 ≤ v1
      · by_cases h2 : v1 ≤ 6
        · have a1 : decide ((1 : Int) ≤ (v1 : Int)) = true := decide_eq_true (by omega)
          have a2 : decide ((v1 : Int) ≤ 6) = true := decide_eq_true (by omega)
          rw [decide_eq_true h1, decide_eq_true h2, a1, a2]
          cases grp6 a <;> simp
        · refine .inl ⟨by rw [decide_eq_false h2]; simp, .inr (.inl ⟨decide_eq_true (by omega), decide_eq_false (by omega), by omega⟩)⟩
      · exact .inl ⟨by rw [decide_eq_false h1]; rfl, .inl ⟨decide_eq_false (by omega), by omega⟩⟩
    generalize grp6 a = gb at *
    by_cases he : e5 = 0
    · subst he
      rw [if_pos rfl] at HL2 hk2
      simp only at HL2 hk2
      rcases hok with ⟨ho, hno⟩ | ⟨ho, d1, d2, rfl⟩
      · have HL3 := Lib.hid (show repL s n f' (j + 1) (X.map Rv.r) ⟨k6, b6, e6⟩ = res by have := HL2.out; rw [ho] at this; exact this)
        clear HL2 ho
        rcases hno with ⟨d1, d1'⟩ | ⟨d1, d2, d2'⟩ | ⟨d1, d2, rfl⟩
        all_goals
          go_wp2_with (first | ((go_at_call 152; (first | refine N1.out _ _ _ _ _ _ 0 1 ?_ rfl hH rfl rfl rfl rfl ?_ | refine N2.out _ _ _ _ _ _ 1 2 ?_ rfl hH rfl rfl rfl rfl ?_ | refine N3.out _ _ _ _ _ _ 1 2 ?_ rfl hH rfl rfl rfl rfl ?_); (focus assumption); (clear hH; (first | intro W g hH | intro W hH); (try simp only [Act.put, pA, pB, pC])))) | ((go_at_call 190; refine A4.out _ _ _ _ _ 1 2 ?_ hH rfl rfl rfl rfl ?_; (focus assumption); (clear hH; (first | intro W g hH | intro W hH); (try simp only [Act.put, pA, pB, pC])))) | ((go_at_call 193; refine S5.out _ _ _ _ _ 1 2 ?_ hH rfl rfl rfl rfl ?_; (focus assumption); (clear hH; intro W sp sc D' hA hD' hH); (try simp only [List.cons_append, List.append_assoc] at hH); ((try simp only [Act.put, pA, pB, pC])))) | ((go_at_call 101; refine T6.out _ _ _ _ _ 2 rfl hH rfl rfl ?_; (clear hH; (first | intro W g hH | intro W hH); (try simp only [Act.put, pA, pB, pC])))) | ((go_at_call 52; refine hBad (s := s) (k := k6) (bad := b6) 2 hH rfl ?_; (clear hH; (first | intro W g hH | intro W hH); (try simp only [Act.put, pA, pB, pC])))) | ((go_at_call 189; refine F6.out _ _ _ _ _ _ _ 1 2 ?_ rfl rfl hH rfl rfl rfl rfl ?_; (focus assumption); (clear hH; (first | intro W g hH | intro W hH); (try simp only [Act.put, pA, pB, pC])))) | (refine st ?_; clear hH; first | intro W g hH | intro W hH))
          refine ⟨⟨j + 1, f', X, ⟨k6, b6, e6⟩, D ++ D', E, yp, yc, by simp, HL3, by omega, hk2, .inl hn64, by omega, by have := HXj.out; omega, own_app HD hD', in_app HXD, HRW.out, ?_⟩, by simp [intOf]; omega⟩
          exact hH.sub (SubH.drop SubH.refl)
      · have HL3 := Lib.hid (show repL s n f' (j + 1) (X.map Rv.r ++ [⟨v1, a, L⟩]) ⟨k6, b6, e6⟩ = res by have := HL2.out; rw [ho] at this; exact this)
        clear HL2 ho
        go_wp2_with (first | ((go_at_call 152; (first | refine N1.out _ _ _ _ _ _ 0 1 ?_ rfl hH rfl rfl rfl rfl ?_ | refine N2.out _ _ _ _ _ _ 1 2 ?_ rfl hH rfl rfl rfl rfl ?_ | refine N3.out _ _ _ _ _ _ 1 2 ?_ rfl hH rfl rfl rfl rfl ?_); (focus assumption); (clear hH; (first | intro W g hH | intro W hH); (try simp only [Act.put, pA, pB, pC])))) | ((go_at_call 190; refine A4.out _ _ _ _ _ 1 2 ?_ hH rfl rfl rfl rfl ?_; (focus assumption); (clear hH; (first | intro W g hH | intro W hH); (try simp only [Act.put, pA, pB, pC])))) | ((go_at_call 193; refine S5.out _ _ _ _ _ 1 2 ?_ hH rfl rfl rfl rfl ?_; (focus assumption); (clear hH; intro W sp sc D' hA hD' hH); (try simp only [List.cons_append, List.append_assoc] at hH); ((try simp only [Act.put, pA, pB, pC])))) | ((go_at_call 101; refine T6.out _ _ _ _ _ 2 rfl hH rfl rfl ?_; (clear hH; (first | intro W g hH | intro W hH); (try simp only [Act.put, pA, pB, pC])))) | ((go_at_call 52; refine hBad (s := s) (k := k6) (bad := b6) 2 hH rfl ?_; (clear hH; (first | intro W g hH | intro W hH); (try simp only [Act.put, pA, pB, pC])))) | ((go_at_call 189; refine F6.out _ _ _ _ _ _ _ 1 2 ?_ rfl rfl hH rfl rfl rfl rfl ?_; (focus assumption); (clear hH; (first | intro W g hH | intro W hH); (try simp only [Act.put, pA, pB, pC])))) | (refine st ?_; clear hH; first | intro W g hH | intro W hH))
        rcases HRW.out with ⟨hX, rfl, rfl, rfl⟩ | ⟨go, q, J, rfl, hG, oJ, rfl⟩
        · subst hX
          simp only [List.nil_append] at hH
          ((with_reducible refine regKN [12] hH (SubH.refl) (by kernel_rfl) ?_); (clear hH; intro W hH); refine kt [0, 1, 2, 3, 4] ?_; refine kl [5, 6] ?_; refine ko 7 ?_; go_wp2_with (refine st ?_; clear hH; first | intro W g hH | intro W hH); refine ke ?_; refine ko 8 ?_; go_wp2_with (first | (((first | (refine hApp0 0 tab_ok tabs_ok rfl rfl rfl rfl rfl rfl rfl hH rfl rfl rfl ?_; refine ⟨?_, ?_, ?_⟩; (focus (first | omega | (simp; omega))); (focus (first | omega | (simp; omega))))); clear hH; intro W g c p q J hG hL hJ hH; (try simp only [putH, fls, List.append_nil] at hH hL); (try simp only [Act.put, pA, pB, pC]))) | (refine st ?_; clear hH; first | intro W g hH | intro W hH)); refine ke ?_; refine kt [9, 10, 11] ?_; refine ko 12 ?_; go_wp2_with (refine st ?_; clear hH; first | intro W g hH | intro W hH); refine kz ?_; refine hk_endN (by kernel_rfl) ?_)
          go_wp2_with (refine st ?_; clear hH; first | intro W g hH | intro W hH)
          have hp := hG.hp
          have hq := hG.hq
          have hle := hG.le
          have hmo := hG.most
          refine ⟨⟨j + 1, f', [⟨⟨v1, a, L⟩, sp, sc⟩], ⟨k6, b6, e6⟩, D ++ D', _, some ⟨g, 0, none⟩, c, by simp, HL3, by omega, hk2, .inl hn64, by omega, by simp, own_app HD hD', in_one hA, .inr ⟨g, q, J, rfl, ⟨rfl, by rw [← hq, hp]; rfl, hle, hmo⟩, hJ, rfl⟩, ?_⟩, by simp [intOf]; omega⟩
          rw [show [(⟨⟨v1, a, L⟩, sp, sc⟩ : Rv)].length * 19 = p by rw [hp]; rfl, show rvsL [(⟨⟨v1, a, L⟩, sp, sc⟩ : Rv)] = .int .i64 v1 :: (G1 ++ [.slice sp L.length sc]) by rw [HG1.out]; simp [rvsL, rvS, fls]]
          exact (hH.sub (SubH.keep (SubH.drop (SubH.drop SubH.refl)))).perm ((List.Perm.swap _ _ _).trans ((List.Perm.swap _ _ _).cons _))
        · simp only [List.cons_append, List.nil_append] at hH
          ((with_reducible refine regKN [12] hH (SubH.keep (SubH.keep (SubH.keep (SubH.drop SubH.refl)))) (by kernel_rfl) ?_); (clear hH; intro W hH); refine kt [0, 1, 2, 3, 4] ?_; refine kl [5, 6] ?_; refine ko 7 ?_; go_wp2_with (refine st ?_; clear hH; first | intro W g hH | intro W hH); refine ke ?_; refine ko 8 ?_; go_wp2_with (first | (((first | (refine hApp 4 0 tab_ok tabs_ok rfl rfl rfl rfl rfl rfl rfl hH rfl rfl rfl rfl ?_; refine ⟨?_, ?_, ?_⟩; (focus assumption); (focus (first | omega | (simp; omega))))); clear hH; intro W g c p q J hG hL hJ hH; (try simp only [putH, fls, List.append_nil] at hH hL); (try simp only [Act.put, pA, pB, pC]))) | (refine st ?_; clear hH; first | intro W g hH | intro W hH)); refine ke ?_; refine kt [9, 10, 11] ?_; refine ko 12 ?_; go_wp2_with (refine st ?_; clear hH; first | intro W g hH | intro W hH); refine kz ?_; refine hk_endN (by kernel_rfl) ?_)
          go_wp2_with (refine st ?_; clear hH; first | intro W g hH | intro W hH)
          have hp := hG.hp
          have hq := hG.hq
          have hle := hG.le
          have hmo := hG.most
          have e1 : (X ++ [(⟨⟨v1, a, L⟩, sp, sc⟩ : Rv)]).length = X.length + 1 := by simp
          refine ⟨⟨j + 1, f', X ++ [⟨⟨v1, a, L⟩, sp, sc⟩], ⟨k6, b6, e6⟩, D ++ D', _, some ⟨g, 0, none⟩, c, by simp, Lib.hid (by rw [List.map_append]; exact HL3.out), by omega, hk2, .inl hn64, by omega, by have := HXj.out; simp; omega, own_app HD hD', in_snoc HXD hA, .inr ⟨g, q, J, rfl, by rw [e1]; exact ⟨rfl, by rw [← hq, hp], hle, hmo⟩, hJ, rfl⟩, ?_⟩, by simp [intOf]; omega⟩
          rw [show (X ++ [(⟨⟨v1, a, L⟩, sp, sc⟩ : Rv)]).length * 19 = p by rw [hp, e1], show rvsL (X ++ [(⟨⟨v1, a, L⟩, sp, sc⟩ : Rv)]) = rvsL X ++ (.int .i64 v1 :: (G1 ++ [.slice sp L.length sc])) by rw [rvsL_snoc, HG1.out]; rfl, e1]
          exact hH.sub (SubH.drop (SubH.drop SubH.refl))
    · have de : (e5 == 0) = false := by simpa using he
      rw [if_neg he] at HL2 hk2
      simp only at HL2 hk2
      rcases hok with ⟨ho, hno⟩ | ⟨ho, d1, d2, rfl⟩
      · have HL3 := Lib.hid (show repL s n f' (j + 1) (X.map Rv.r) ⟨k5, b5, e5⟩ = res by have := HL2.out; rw [ho] at this; exact this)
        clear HL2 ho
        rcases hno with ⟨d1, d1'⟩ | ⟨d1, d2, d2'⟩ | ⟨d1, d2, rfl⟩
        all_goals
          go_wp2_with (first | ((go_at_call 152; (first | refine N1.out _ _ _ _ _ _ 0 1 ?_ rfl hH rfl rfl rfl rfl ?_ | refine N2.out _ _ _ _ _ _ 1 2 ?_ rfl hH rfl rfl rfl rfl ?_ | refine N3.out _ _ _ _ _ _ 1 2 ?_ rfl hH rfl rfl rfl rfl ?_); (focus assumption); (clear hH; (first | intro W g hH | intro W hH); (try simp only [Act.put, pA, pB, pC])))) | ((go_at_call 190; refine A4.out _ _ _ _ _ 1 2 ?_ hH rfl rfl rfl rfl ?_; (focus assumption); (clear hH; (first | intro W g hH | intro W hH); (try simp only [Act.put, pA, pB, pC])))) | ((go_at_call 193; refine S5.out _ _ _ _ _ 1 2 ?_ hH rfl rfl rfl rfl ?_; (focus assumption); (clear hH; intro W sp sc D' hA hD' hH); (try simp only [List.cons_append, List.append_assoc] at hH); ((try simp only [Act.put, pA, pB, pC])))) | (refine st ?_; clear hH; first | intro W g hH | intro W hH))
          refine ⟨⟨j + 1, f', X, ⟨k5, b5, e5⟩, D ++ D', E, yp, yc, by simp, HL3, by omega, hk2, .inl hn64, by omega, by have := HXj.out; omega, own_app HD hD', in_app HXD, HRW.out, ?_⟩, by simp [intOf]; omega⟩
          exact hH.sub (SubH.drop SubH.refl)
      · have HL3 := Lib.hid (show repL s n f' (j + 1) (X.map Rv.r ++ [⟨v1, a, L⟩]) ⟨k5, b5, e5⟩ = res by have := HL2.out; rw [ho] at this; exact this)
        clear HL2 ho
        go_wp2_with (first | ((go_at_call 152; (first | refine N1.out _ _ _ _ _ _ 0 1 ?_ rfl hH rfl rfl rfl rfl ?_ | refine N2.out _ _ _ _ _ _ 1 2 ?_ rfl hH rfl rfl rfl rfl ?_ | refine N3.out _ _ _ _ _ _ 1 2 ?_ rfl hH rfl rfl rfl rfl ?_); (focus assumption); (clear hH; (first | intro W g hH | intro W hH); (try simp only [Act.put, pA, pB, pC])))) | ((go_at_call 190; refine A4.out _ _ _ _ _ 1 2 ?_ hH rfl rfl rfl rfl ?_; (focus assumption); (clear hH; (first | intro W g hH | intro W hH); (try simp only [Act.put, pA, pB, pC])))) | ((go_at_call 193; refine S5.out _ _ _ _ _ 1 2 ?_ hH rfl rfl rfl rfl ?_; (focus assumption); (clear hH; intro W sp sc D' hA hD' hH); (try simp only [List.cons_append, List.append_assoc] at hH); ((try simp only [Act.put, pA, pB, pC])))) | (refine st ?_; clear hH; first | intro W g hH | intro W hH))
        rcases HRW.out with ⟨hX, rfl, rfl, rfl⟩ | ⟨go, q, J, rfl, hG, oJ, rfl⟩
        · subst hX
          simp only [List.nil_append] at hH
          ((with_reducible refine regKN [12] hH (SubH.refl) (by kernel_rfl) ?_); (clear hH; intro W hH); refine kt [0, 1, 2, 3, 4] ?_; refine kl [5, 6] ?_; refine ko 7 ?_; go_wp2_with (refine st ?_; clear hH; first | intro W g hH | intro W hH); refine ke ?_; refine ko 8 ?_; go_wp2_with (first | (((first | (refine hApp0 0 tab_ok tabs_ok rfl rfl rfl rfl rfl rfl rfl hH rfl rfl rfl ?_; refine ⟨?_, ?_, ?_⟩; (focus (first | omega | (simp; omega))); (focus (first | omega | (simp; omega))))); clear hH; intro W g c p q J hG hL hJ hH; (try simp only [putH, fls, List.append_nil] at hH hL); (try simp only [Act.put, pA, pB, pC]))) | (refine st ?_; clear hH; first | intro W g hH | intro W hH)); refine ke ?_; refine kt [9, 10, 11] ?_; refine ko 12 ?_; go_wp2_with (refine st ?_; clear hH; first | intro W g hH | intro W hH); refine kz ?_; refine hk_endN (by kernel_rfl) ?_)
          go_wp2_with (refine st ?_; clear hH; first | intro W g hH | intro W hH)
          have hp := hG.hp
          have hq := hG.hq
          have hle := hG.le
          have hmo := hG.most
          refine ⟨⟨j + 1, f', [⟨⟨v1, a, L⟩, sp, sc⟩], ⟨k5, b5, e5⟩, D ++ D', _, some ⟨g, 0, none⟩, c, by simp, HL3, by omega, hk2, .inl hn64, by omega, by simp, own_app HD hD', in_one hA, .inr ⟨g, q, J, rfl, ⟨rfl, by rw [← hq, hp]; rfl, hle, hmo⟩, hJ, rfl⟩, ?_⟩, by simp [intOf]; omega⟩
          rw [show [(⟨⟨v1, a, L⟩, sp, sc⟩ : Rv)].length * 19 = p by rw [hp]; rfl, show rvsL [(⟨⟨v1, a, L⟩, sp, sc⟩ : Rv)] = .int .i64 v1 :: (G1 ++ [.slice sp L.length sc]) by rw [HG1.out]; simp [rvsL, rvS, fls]]
          exact (hH.sub (SubH.keep (SubH.drop (SubH.drop SubH.refl)))).perm ((List.Perm.swap _ _ _).trans ((List.Perm.swap _ _ _).cons _))
        · simp only [List.cons_append, List.nil_append] at hH
          ((with_reducible refine regKN [12] hH (SubH.keep (SubH.keep (SubH.keep (SubH.drop SubH.refl)))) (by kernel_rfl) ?_); (clear hH; intro W hH); refine kt [0, 1, 2, 3, 4] ?_; refine kl [5, 6] ?_; refine ko 7 ?_; go_wp2_with (refine st ?_; clear hH; first | intro W g hH | intro W hH); refine ke ?_; refine ko 8 ?_; go_wp2_with (first | (((first | (refine hApp 4 0 tab_ok tabs_ok rfl rfl rfl rfl rfl rfl rfl hH rfl rfl rfl rfl ?_; refine ⟨?_, ?_, ?_⟩; (focus assumption); (focus (first | omega | (simp; omega))))); clear hH; intro W g c p q J hG hL hJ hH; (try simp only [putH, fls, List.append_nil] at hH hL); (try simp only [Act.put, pA, pB, pC]))) | (refine st ?_; clear hH; first | intro W g hH | intro W hH)); refine ke ?_; refine kt [9, 10, 11] ?_; refine ko 12 ?_; go_wp2_with (refine st ?_; clear hH; first | intro W g hH | intro W hH); refine kz ?_; refine hk_endN (by kernel_rfl) ?_)
          go_wp2_with (refine st ?_; clear hH; first | intro W g hH | intro W hH)
          have hp := hG.hp
          have hq := hG.hq
          have hle := hG.le
          have hmo := hG.most
          have e1 : (X ++ [(⟨⟨v1, a, L⟩, sp, sc⟩ : Rv)]).length = X.length + 1 := by simp
          refine ⟨⟨j + 1, f', X ++ [⟨⟨v1, a, L⟩, sp, sc⟩], ⟨k5, b5, e5⟩, D ++ D', _, some ⟨g, 0, none⟩, c, by simp, Lib.hid (by rw [List.map_append]; exact HL3.out), by omega, hk2, .inl hn64, by omega, by have := HXj.out; simp; omega, own_app HD hD', in_snoc HXD hA, .inr ⟨g, q, J, rfl, by rw [e1]; exact ⟨rfl, by rw [← hq, hp], hle, hmo⟩, hJ, rfl⟩, ?_⟩, by simp [intOf]; omega⟩
          rw [show (X ++ [(⟨⟨v1, a, L⟩, sp, sc⟩ : Rv)]).length * 19 = p by rw [hp, e1], show rvsL (X ++ [(⟨⟨v1, a, L⟩, sp, sc⟩ : Rv)]) = rvsL X ++ (.int .i64 v1 :: (G1 ++ [.slice sp L.length sc])) by rw [rvsL_snoc, HG1.out]; rfl, e1]
          exact hH.sub (SubH.drop (SubH.drop SubH.refl))
end
end
section
open Go.ChangeShapes Go.WideShapes Go.ChangeAt Go.RowKit
set_option linter.unusedVariables false
set_option linter.unusedSimpArgs false
set_option maxRecDepth 20000
attribute [local irreducible] wpList

theorem failX (is : Bool) (c : Int) (k : Nat) (b : Bool) (e : Int) : ∃ e', failS is c ⟨k, b, e⟩ = ⟨k, b, e'⟩ ∧ ∀ B w0 g gr s, FailC B w0 g gr s is c ⟨k, b, e⟩ e' :=
  ⟨(failS is c ⟨k, b, e⟩).e, by unfold failS; split <;> rfl, fun _ _ _ _ _ => failC⟩
theorem numX {s : ByteArray} {n : Nat} (hn : n ≤ 4) (hs : s.size ≤ 100000) {k : Nat} (b : Bool) (e : Int) (hk : k ≤ s.size) : ∃ v k' b' e', numV s n ⟨k, b, e⟩ = v ∧ stepS s n ⟨k, b, e⟩ = ⟨k', b', e'⟩ ∧ v < 256 ^ n ∧ k' ≤ s.size ∧ ∀ B w0 g gr, NumC B w0 g gr s n ⟨k, b, e⟩ v ⟨k', b', e'⟩ :=
  ⟨_, _, _, _, rfl, rfl, numV_lt _ _ _, stepS_k hk, fun _ _ _ _ => numC hn hs hk⟩
theorem addrX {s : ByteArray} (hs : s.size ≤ 100000) {k : Nat} (b : Bool) (e : Int) (hk : k ≤ s.size) : ∃ a k' b' e', addrS s 16 ⟨k, b, e⟩ = a ∧ stepS s 16 ⟨k, b, e⟩ = ⟨k', b', e'⟩ ∧ k' ≤ s.size ∧ ∀ B w0 g gr, AddrC B w0 g gr s ⟨k, b, e⟩ (adL a) ⟨k', b', e'⟩ :=
  ⟨_, _, _, _, rfl, rfl, stepS_k hk, fun _ _ _ _ => addrC hs hk⟩
theorem srcX {s : ByteArray} {n : Nat} (hn : n < 65536) (hs : s.size ≤ 100000) {k : Nat} (b : Bool) (e : Int) (hk : k ≤ s.size) : ∃ L k' b' e', srcF s n ⟨k, b, e⟩ = (L, ⟨k', b', e'⟩) ∧ ∀ B w0 g gr, SrcC B w0 g gr s n ⟨k, b, e⟩ L ⟨k', b', e'⟩ :=
  ⟨_, _, _, _, rfl, fun _ _ _ _ => srcC hn hs hk rfl⟩
noncomputable def oneF (s : ByteArray) (t : St) (kd : Int) (size : Nat) : Tk × St :=
  let t2 := failS (decide (kd = 1) && (decide (24 < (size : Int)) && decide ((size : Int) < 28))) 2 (failS (decide ((size : Int) < 24)) 3 t)
  let n := numV s 2 t2
  let t4 := stepS s 2 (stepS s 2 t2)
  let a := addrS s 16 t4
  let t5 := stepS s 16 t4
  if kd = 1 then
    let t6 := failS (!zero6 a && !grp6 a) 2 t5
    if size = 24 then (⟨true, 1, 1, (n : Int), a, false, 0, 0, [], []⟩, t6)
    else
      let f := numV s 1 t6
      let t7 := stepS s 1 t6
      let t8 := stepS s 1 t7
      let k := numV s 2 t8
      let L := srcF s k (failS (zero6 a && decide (0 < k)) 2 (stepS s 2 t8))
      (⟨true, 2, 1, (valN 4096 n : Int), a, decide (f / 8 % 2 = 1), ((f % 8 : Nat) : Int), (valN 16 (numV s 1 t7) : Int), L.1, []⟩, L.2)
  else (⟨true, 1, kd, 0, a, false, 0, 0, [], []⟩, failS (!grp6 a) 2 t5)
theorem and8 (v : Nat) (h : v < 256) : bits .and .i64 (v : Int) 8 = (((if v / 8 % 2 = 1 then 8 else 0 : Nat)) : Int) := by
  have e := i64_and v 8 (by omega) (by omega)
  rw [show ((8 : Nat) : Int) = 8 from rfl] at e
  rw [e]
  congr 1
  have : ∀ v : Fin 256, v.val &&& 8 = if v.val / 8 % 2 = 1 then 8 else 0 := by decide
  exact this ⟨v, h⟩
theorem and7 (v : Nat) (h : v < 256) : bits .and .i64 (v : Int) 7 = ((v % 8 : Nat) : Int) := by
  have e := i64_and v 7 (by omega) (by omega)
  rw [show ((7 : Nat) : Int) = 7 from rfl] at e
  rw [e]
  congr 1
  exact Nat.and_two_pow_sub_one_eq_mod v 3
theorem cV8 (k : Nat) (hk : k ≤ 255) (w : World) : Gives Tryz.prog 192 #[.int .i64 (k : Int)] w (.int .i64 (valN 16 k : Int)) := by
  have := Value8_any (c := (k : Int)) (w := w)
  rwa [clampN_in hk] at this
theorem cV16 (k : Nat) (hk : k ≤ 65535) (w : World) : Gives Tryz.prog 191 #[.int .i64 (k : Int)] w (.int .i64 (valN 4096 k : Int)) := by
  have := Value16_any (c := (k : Int)) (w := w)
  rwa [clampN_in hk] at this
section
variable {B : Nat} {w0 W w : World} {H : HB} {g gr : Nat} {s : ByteArray} {Q : Ending → World → Prop}
set_option maxHeartbeats 8000000 in
theorem vone_k {k size : Nat} {b : Bool} {e kd : Int} {Z : List Value} (oZ : OkA Z 17) (hkd : kd = 2 ∨ kd = 3) (hz : size ≤ 100000) (hs : s.size ≤ 100000) (hk : k ≤ s.size) (hH : Hp B w0 W (rdH g gr s ⟨k, b, e⟩ true 1 kd 0 Z false 0 0 none 0 0 none 0 0 H))
    (hQ : ∀ W' T t' D sp sc, Hid (oneF s ⟨k, b, e⟩ kd size = (T, t')) → Hid (∀ B w0 W, Hp B w0 W D → AdsAt W sp T.src) → Hid (∀ r ∈ D, r.2.2.1 = true) → Hp B w0 W' (rdH g gr s t' T.v6 T.ver T.kind T.resp (adL T.grp) T.quiet T.rob T.every sp T.src.length sc none 0 0 (H ++ D)) → Q (.returned (.tuple #[])) W') : Calls Tryz.prog 153 #[.pointer (some ⟨g, 0, none⟩), .int .i64 (size : Int)] W Q := by
  have HQ := Lib.hid hQ
  clear hQ
  obtain ⟨T', hres⟩ : ∃ r, oneF s ⟨k, b, e⟩ kd size = r := ⟨_, rfl⟩
  rw [hres] at HQ
  unfold oneF at hres
  simp only at hres
  rw [if_neg (show ¬ kd = 1 by omega), decide_eq_false (show ¬ kd = 1 by omega), Bool.false_and] at hres
  obtain ⟨e1, q1, F1⟩ := failX (decide ((size : Int) < 24)) 3 k b e
  rw [q1] at hres
  replace F1 := Lib.hid (F1 B w0 g gr s)
  clear q1
  obtain ⟨e2, q2, F2⟩ := failX false 2 k b e1
  rw [q2] at hres
  replace F2 := Lib.hid (F2 B w0 g gr s)
  clear q2
  obtain ⟨n, k3, b3, e3, q3, q3', hn, hk3, N3⟩ := numX (s := s) (n := 2) (by omega) hs b e2 hk
  rw [q3'] at hres
  replace N3 := Lib.hid (N3 B w0 g gr)
  clear q3 q3'
  obtain ⟨n4, k4, b4, e4, _, q4, _, hk4, N4⟩ := numX (s := s) (n := 2) (by omega) hs b3 e3 hk3
  rw [q4] at hres
  replace N4 := Lib.hid (N4 B w0 g gr)
  clear q4
  obtain ⟨a, k5, b5, e5, q5, q5', hk5, A5⟩ := addrX (s := s) hs b4 e4 hk4
  rw [q5, q5'] at hres
  replace A5 := A5 B w0 g gr
  clear q5 q5'
  have f1 : ∀ w, Gives Tryz.prog 166 #[.agg (fls [.many (adL a) 17]).toArray] w (.bool (zero6 a)) := fun w => vzero_any
  have f2 : ∀ w, Gives Tryz.prog 167 #[.agg (fls [.many (adL a) 17]).toArray] w (.bool (grp6 a)) := fun w => vgroup_any
  have oA := adL_ok a
  obtain ⟨A, hA⟩ : ∃ Y, Y = adL a := ⟨_, rfl⟩
  have HA := Lib.hid hA
  rw [← hA] at A5 f1 f2 oA
  clear hA
  replace A5 := Lib.hid A5
  generalize zero6 a = zq at *
  generalize grp6 a = gq at *
  obtain ⟨e6, q6, F6⟩ := failX (!gq) 2 k5 b5 e5
  rw [q6] at hres
  replace F6 := Lib.hid (F6 B w0 g gr s)
  clear q6
  have HRES := Lib.hid hres
  clear hres hk hk3 hk4 hk5 hn
  unfold rdH rgS at hH
  rcases hkd with rfl | rfl
  all_goals
    go_enter Tryz.func153, Tryz.ntmps153
    go_wp2_with (first | ((go_at_call 152; (first | refine N3.out _ _ _ _ _ _ 0 1 ?_ rfl hH rfl rfl rfl rfl ?_ | refine N4.out _ _ _ _ _ _ 0 1 ?_ rfl hH rfl rfl rfl rfl ?_); (focus assumption); (clear hH; (first | intro W g hH | intro W hH); (try simp only [Act.put, pA, pB, pC])))) | ((go_at_call 190; refine A5.out _ _ _ _ _ 0 1 ?_ hH rfl rfl rfl rfl ?_; (focus assumption); (clear hH; (first | intro W g hH | intro W hH); (try simp only [Act.put, pA, pB, pC])))) | ((go_at_call 189; (first | refine F1.out _ _ _ _ _ _ _ 0 1 ?_ rfl rfl hH rfl rfl rfl rfl ?_ | refine F2.out _ _ _ _ _ _ _ 0 1 ?_ rfl rfl hH rfl rfl rfl rfl ?_ | refine F6.out _ _ _ _ _ _ _ 0 1 ?_ rfl rfl hH rfl rfl rfl rfl ?_); (focus assumption); (clear hH; (first | intro W g hH | intro W hH); (try simp only [Act.put, pA, pB, pC])))) | (refine st ?_; clear hH; first | intro W g hH | intro W hH))
    go_end0
    refine HQ.out _ _ _ [] none 0 (Lib.hid HRES.out.symm) (Lib.hid fun _ _ _ _ => AdsAt.nil) (Lib.hid fun r hr => by simp at hr) ?_
    unfold rdH rgS
    simp only [List.length_nil]
    rw [List.append_nil, ← HA.out]
    exact hH
set_option maxHeartbeats 8000000 in
theorem vone_24 {k size : Nat} {b : Bool} {e : Int} {Z : List Value} (oZ : OkA Z 17) (h24 : size = 24) (hs : s.size ≤ 100000) (hk : k ≤ s.size) (hH : Hp B w0 W (rdH g gr s ⟨k, b, e⟩ true 1 1 0 Z false 0 0 none 0 0 none 0 0 H))
    (hQ : ∀ W' T t' D sp sc, Hid (oneF s ⟨k, b, e⟩ 1 size = (T, t')) → Hid (∀ B w0 W, Hp B w0 W D → AdsAt W sp T.src) → Hid (∀ r ∈ D, r.2.2.1 = true) → Hp B w0 W' (rdH g gr s t' T.v6 T.ver T.kind T.resp (adL T.grp) T.quiet T.rob T.every sp T.src.length sc none 0 0 (H ++ D)) → Q (.returned (.tuple #[])) W') : Calls Tryz.prog 153 #[.pointer (some ⟨g, 0, none⟩), .int .i64 (size : Int)] W Q := by
  have HQ := Lib.hid hQ
  clear hQ
  obtain ⟨T', hres⟩ : ∃ r, oneF s ⟨k, b, e⟩ 1 size = r := ⟨_, rfl⟩
  rw [hres] at HQ
  unfold oneF at hres
  simp only at hres
  simp only [if_true, decide_true, Bool.true_and] at hres
  obtain ⟨e1, q1, F1⟩ := failX (decide ((size : Int) < 24)) 3 k b e
  rw [q1] at hres
  replace F1 := Lib.hid (F1 B w0 g gr s)
  clear q1
  obtain ⟨e2, q2, F2⟩ := failX (decide (24 < (size : Int)) && decide ((size : Int) < 28)) 2 k b e1
  rw [q2] at hres
  replace F2 := Lib.hid (F2 B w0 g gr s)
  clear q2
  obtain ⟨n, k3, b3, e3, q3, q3', hn, hk3, N3⟩ := numX (s := s) (n := 2) (by omega) hs b e2 hk
  rw [q3, q3'] at hres
  replace N3 := Lib.hid (N3 B w0 g gr)
  clear q3 q3'
  obtain ⟨n4, k4, b4, e4, _, q4, _, hk4, N4⟩ := numX (s := s) (n := 2) (by omega) hs b3 e3 hk3
  rw [q4] at hres
  replace N4 := Lib.hid (N4 B w0 g gr)
  clear q4
  obtain ⟨a, k5, b5, e5, q5, q5', hk5, A5⟩ := addrX (s := s) hs b4 e4 hk4
  rw [q5, q5'] at hres
  replace A5 := A5 B w0 g gr
  clear q5 q5'
  have f1 : ∀ w, Gives Tryz.prog 166 #[.agg (fls [.many (adL a) 17]).toArray] w (.bool (zero6 a)) := fun w => vzero_any
  have f2 : ∀ w, Gives Tryz.prog 167 #[.agg (fls [.many (adL a) 17]).toArray] w (.bool (grp6 a)) := fun w => vgroup_any
  have oA := adL_ok a
  obtain ⟨A, hA⟩ : ∃ Y, Y = adL a := ⟨_, rfl⟩
  have HA := Lib.hid hA
  rw [← hA] at A5 f1 f2 oA
  clear hA
  replace A5 := Lib.hid A5
  generalize zero6 a = zq at *
  generalize grp6 a = gq at *
  obtain ⟨e6, q6, F6⟩ := failX (!zq && !gq) 2 k5 b5 e5
  rw [q6] at hres
  replace F6 := Lib.hid (F6 B w0 g gr s)
  clear q6
  rw [if_pos h24] at hres
  have HRES := Lib.hid hres
  clear hres hk hk3 hk4 hk5 hn
  subst h24
  unfold rdH rgS at hH
  cases zq
  all_goals
    go_enter Tryz.func153, Tryz.ntmps153
    go_wp2_with (first | ((go_at_call 152; (first | refine N3.out _ _ _ _ _ _ 0 1 ?_ rfl hH rfl rfl rfl rfl ?_ | refine N4.out _ _ _ _ _ _ 0 1 ?_ rfl hH rfl rfl rfl rfl ?_); (focus assumption); (clear hH; (first | intro W g hH | intro W hH); (try simp only [Act.put, pA, pB, pC])))) | ((go_at_call 190; refine A5.out _ _ _ _ _ 0 1 ?_ hH rfl rfl rfl rfl ?_; (focus assumption); (clear hH; (first | intro W g hH | intro W hH); (try simp only [Act.put, pA, pB, pC])))) | ((go_at_call 189; (first | refine F1.out _ _ _ _ _ _ _ 0 1 ?_ rfl rfl hH rfl rfl rfl rfl ?_ | refine F2.out _ _ _ _ _ _ _ 0 1 ?_ rfl rfl hH rfl rfl rfl rfl ?_ | refine F6.out _ _ _ _ _ _ _ 0 1 ?_ rfl rfl hH rfl rfl rfl rfl ?_); (focus assumption); (clear hH; (first | intro W g hH | intro W hH); (try simp only [Act.put, pA, pB, pC])))) | (refine st ?_; clear hH; first | intro W g hH | intro W hH))
    go_end0
    refine HQ.out _ _ _ [] none 0 (Lib.hid HRES.out.symm) (Lib.hid fun _ _ _ _ => AdsAt.nil) (Lib.hid fun r hr => by simp at hr) ?_
    unfold rdH rgS
    simp only [List.length_nil]
    rw [List.append_nil, ← HA.out]
    exact hH
set_option maxHeartbeats 16000000 in
theorem vone_l {k size : Nat} {b : Bool} {e : Int} {Z : List Value} (oZ : OkA Z 17) (h24 : ¬ size = 24) (hz : size ≤ 100000) (hs : s.size ≤ 100000) (hk : k ≤ s.size) (hH : Hp B w0 W (rdH g gr s ⟨k, b, e⟩ true 1 1 0 Z false 0 0 none 0 0 none 0 0 H))
    (hQ : ∀ W' T t' D sp sc, Hid (oneF s ⟨k, b, e⟩ 1 size = (T, t')) → Hid (∀ B w0 W, Hp B w0 W D → AdsAt W sp T.src) → Hid (∀ r ∈ D, r.2.2.1 = true) → Hp B w0 W' (rdH g gr s t' T.v6 T.ver T.kind T.resp (adL T.grp) T.quiet T.rob T.every sp T.src.length sc none 0 0 (H ++ D)) → Q (.returned (.tuple #[])) W') : Calls Tryz.prog 153 #[.pointer (some ⟨g, 0, none⟩), .int .i64 (size : Int)] W Q := by
  have HQ := Lib.hid hQ
  clear hQ
  obtain ⟨T', hres⟩ : ∃ r, oneF s ⟨k, b, e⟩ 1 size = r := ⟨_, rfl⟩
  rw [hres] at HQ
  unfold oneF at hres
  simp only at hres
  simp only [if_true, decide_true, Bool.true_and] at hres
  obtain ⟨e1, q1, F1⟩ := failX (decide ((size : Int) < 24)) 3 k b e
  rw [q1] at hres
  replace F1 := Lib.hid (F1 B w0 g gr s)
  clear q1
  obtain ⟨e2, q2, F2⟩ := failX (decide (24 < (size : Int)) && decide ((size : Int) < 28)) 2 k b e1
  rw [q2] at hres
  replace F2 := Lib.hid (F2 B w0 g gr s)
  clear q2
  obtain ⟨n, k3, b3, e3, q3, q3', hn, hk3, N3⟩ := numX (s := s) (n := 2) (by omega) hs b e2 hk
  rw [q3, q3'] at hres
  replace N3 := Lib.hid (N3 B w0 g gr)
  clear q3 q3'
  obtain ⟨n4, k4, b4, e4, _, q4, _, hk4, N4⟩ := numX (s := s) (n := 2) (by omega) hs b3 e3 hk3
  rw [q4] at hres
  replace N4 := Lib.hid (N4 B w0 g gr)
  clear q4
  obtain ⟨a, k5, b5, e5, q5, q5', hk5, A5⟩ := addrX (s := s) hs b4 e4 hk4
  rw [q5, q5'] at hres
  replace A5 := A5 B w0 g gr
  clear q5 q5'
  have f1 : ∀ w, Gives Tryz.prog 166 #[.agg (fls [.many (adL a) 17]).toArray] w (.bool (zero6 a)) := fun w => vzero_any
  have f2 : ∀ w, Gives Tryz.prog 167 #[.agg (fls [.many (adL a) 17]).toArray] w (.bool (grp6 a)) := fun w => vgroup_any
  have oA := adL_ok a
  obtain ⟨A, hA⟩ : ∃ Y, Y = adL a := ⟨_, rfl⟩
  have HA := Lib.hid hA
  rw [← hA] at A5 f1 f2 oA
  clear hA
  replace A5 := Lib.hid A5
  generalize zero6 a = zq at *
  generalize grp6 a = gq at *
  obtain ⟨e6, q6, F6⟩ := failX (!zq && !gq) 2 k5 b5 e5
  rw [q6] at hres
  replace F6 := Lib.hid (F6 B w0 g gr s)
  clear q6
  rw [if_neg h24] at hres
  obtain ⟨v7, k7, b7, e7, q7, q7', hv7, hk7, N7⟩ := numX (s := s) (n := 1) (by omega) hs b5 e6 hk5
  rw [q7, q7'] at hres
  replace N7 := Lib.hid (N7 B w0 g gr)
  clear q7 q7'
  obtain ⟨v8, k8, b8, e8, q8, q8', hv8, hk8, N8⟩ := numX (s := s) (n := 1) (by omega) hs b7 e7 hk7
  rw [q8, q8'] at hres
  replace N8 := Lib.hid (N8 B w0 g gr)
  clear q8 q8'
  obtain ⟨m, k9, b9, e9, q9, q9', hm, hk9, N9⟩ := numX (s := s) (n := 2) (by omega) hs b8 e8 hk8
  rw [q9, q9'] at hres
  replace N9 := Lib.hid (N9 B w0 g gr)
  clear q9 q9'
  obtain ⟨e10, q10, F10⟩ := failX (zq && decide (0 < m)) 2 k9 b9 e9
  rw [q10] at hres
  replace F10 := Lib.hid (F10 B w0 g gr s)
  clear q10
  obtain ⟨L, k11, b11, e11, q11, S9⟩ := srcX (s := s) (n := m) hm hs b9 e10 hk9
  rw [q11] at hres
  replace S9 := Lib.hid (S9 B w0 g gr)
  clear q11
  simp only at hres
  have x8 := and8 v7 hv7
  have x7 := and7 v7 hv7
  have eq : decide (v7 / 8 % 2 = 1) = (((if v7 / 8 % 2 = 1 then 8 else 0 : Nat) : Int) != 0) := by by_cases h : v7 / 8 % 2 = 1 <;> simp [h]
  rw [eq] at hres
  clear eq
  generalize (((if v7 / 8 % 2 = 1 then 8 else 0 : Nat)) : Int) = y8 at *
  generalize (((v7 % 8 : Nat)) : Int) = y7 at *
  obtain ⟨qb, hqb⟩ : ∃ v, (y8 != 0) = v := ⟨_, rfl⟩
  rw [hqb] at hres
  have fV := cV16 n (by omega)
  have fE := cV8 v8 (by omega)
  generalize ((valN 4096 n : Nat) : Int) = xr at *
  generalize ((valN 16 v8 : Nat) : Int) = xe at *
  have HRES := Lib.hid hres
  clear hres hk hk3 hk4 hk5 hk7 hk8 hk9 hn hm hv7 hv8
  unfold rdH rgS at hH
  have dz : ((size : Int) == 24) = false := by simp; omega
  have hcase : ((size : Int) ≤ 24 ∧ decide (24 < (size : Int)) = false) ∨ (24 < (size : Int) ∧ decide (24 < (size : Int)) = true ∧ (size : Int) < 28 ∧ decide ((size : Int) < 28) = true) ∨ (24 < (size : Int) ∧ decide (24 < (size : Int)) = true ∧ 28 ≤ (size : Int) ∧ decide ((size : Int) < 28) = false) := by
    by_cases h1 : (24 : Int) < (size : Int)
    · by_cases h2 : (size : Int) < 28
      · exact .inr (.inl ⟨h1, decide_eq_true h1, h2, decide_eq_true h2⟩)
      · exact .inr (.inr ⟨h1, decide_eq_true h1, by omega, decide_eq_false h2⟩)
    · exact .inl ⟨by omega, decide_eq_false h1⟩
  clear h24
  cases zq <;> rcases hcase with ⟨c1, c2⟩ | ⟨c1, c2, c3, c4⟩ | ⟨c1, c2, c3, c4⟩
  all_goals
    simp only [c2, Bool.false_and, Bool.true_and] at F2
    try simp only [c4] at F2
    go_enter Tryz.func153, Tryz.ntmps153
    go_wp2_with (first | ((go_at_call 152; (first | refine N3.out _ _ _ _ _ _ 0 1 ?_ rfl hH rfl rfl rfl rfl ?_ | refine N4.out _ _ _ _ _ _ 0 1 ?_ rfl hH rfl rfl rfl rfl ?_ | refine N7.out _ _ _ _ _ _ 0 1 ?_ rfl hH rfl rfl rfl rfl ?_ | refine N8.out _ _ _ _ _ _ 0 1 ?_ rfl hH rfl rfl rfl rfl ?_ | refine N9.out _ _ _ _ _ _ 0 1 ?_ rfl hH rfl rfl rfl rfl ?_); (focus assumption); (clear hH; (first | intro W g hH | intro W hH); (try simp only [Act.put, pA, pB, pC])))) | ((go_at_call 190; refine A5.out _ _ _ _ _ 0 1 ?_ hH rfl rfl rfl rfl ?_; (focus assumption); (clear hH; (first | intro W g hH | intro W hH); (try simp only [Act.put, pA, pB, pC])))) | ((go_at_call 189; (first | refine F1.out _ _ _ _ _ _ _ 0 1 ?_ rfl rfl hH rfl rfl rfl rfl ?_ | refine F2.out _ _ _ _ _ _ _ 0 1 ?_ rfl rfl hH rfl rfl rfl rfl ?_ | refine F6.out _ _ _ _ _ _ _ 0 1 ?_ rfl rfl hH rfl rfl rfl rfl ?_ | refine F10.out _ _ _ _ _ _ _ 0 1 ?_ rfl rfl hH rfl rfl rfl rfl ?_); (focus assumption); (clear hH; (first | intro W g hH | intro W hH); (try simp only [Act.put, pA, pB, pC])))) | ((go_at_call 193; refine S9.out _ _ _ _ _ 0 1 ?_ hH rfl rfl rfl rfl ?_; (focus assumption); (clear hH; intro W sp sc D hA hD hH); (try simp only [List.cons_append, List.append_assoc] at hH); ((try simp only [Act.put, pA, pB, pC])))) | (refine st ?_; clear hH; first | intro W g hH | intro W hH))
    go_end0
    refine HQ.out _ _ _ D sp sc (Lib.hid HRES.out.symm) hA hD ?_
    unfold rdH rgS
    simp only
    rw [← HA.out]
    exact hH
theorem vone_any {k size : Nat} {b : Bool} {e kd : Int} {Z : List Value} (oZ : OkA Z 17) (hkd : kd = 1 ∨ kd = 2 ∨ kd = 3) (hz : size ≤ 100000) (hs : s.size ≤ 100000) (hk : k ≤ s.size) (hH : Hp B w0 W (rdH g gr s ⟨k, b, e⟩ true 1 kd 0 Z false 0 0 none 0 0 none 0 0 H))
    (hQ : ∀ W' T t' D sp sc, Hid (oneF s ⟨k, b, e⟩ kd size = (T, t')) → Hid (∀ B w0 W, Hp B w0 W D → AdsAt W sp T.src) → Hid (∀ r ∈ D, r.2.2.1 = true) → Hp B w0 W' (rdH g gr s t' T.v6 T.ver T.kind T.resp (adL T.grp) T.quiet T.rob T.every sp T.src.length sc none 0 0 (H ++ D)) → Q (.returned (.tuple #[])) W') : Calls Tryz.prog 153 #[.pointer (some ⟨g, 0, none⟩), .int .i64 (size : Int)] W Q := by
  rcases hkd with rfl | hkd
  · by_cases h24 : size = 24
    · exact vone_24 oZ h24 hs hk hH hQ
    · exact vone_l oZ h24 hz hs hk hH hQ
  · exact vone_k oZ hkd hz hs hk hH hQ
end
end
end Go.Proofs.YtdnehjhijmeihaaGreat.V
