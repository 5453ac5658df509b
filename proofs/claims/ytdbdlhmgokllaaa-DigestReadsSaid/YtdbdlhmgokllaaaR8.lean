/-
  DigestReads: which change any bytes begin with, and all that they are. No condition.
-/
import Derived.Test.YtdbdlhmgokllaaaR7
import Derived.Test.YtdbdlhmgokllaaaRows
import Derived.Test.YtdbdlhmgokllaaaIn
namespace Go.Proofs.Ytdbdlhmgokllaaa
-- %in
open Go.ChangeShapes Go.WideShapes Go.ChangeAt Go.RowKit
set_option linter.unusedVariables false
set_option linter.unusedSimpArgs false
set_option maxRecDepth 20000
attribute [local irreducible] wpList

theorem chs_one {W : World} {g : Nat} {t : TypeId} {x : Ch} {p : Option Addr} {c : Nat} (hr : Row W g t (fls (chS x p c)).toArray) (h : AdsAt W p x.e.src) : ChsAt W (some ⟨g, 0, none⟩) [x] :=
  chsAt_row (R := [⟨x, p, c⟩]) (J := []) (by simp) (by simpa [cvsL, cvS] using hr) (fun y hy => by simp at hy; subst hy; exact h)
theorem nameC {B : Nat} {w0 W : World} {a : Nat} {t : TypeId} {o : Bool} {S : List Seg} {r r' : Nat × TypeId × Bool × List Seg} {R : HB} (_ : Hp B w0 W (r :: r' :: (a, t, o, S) :: R)) : ∃ x, x = a := ⟨_, rfl⟩
section
variable {w : World} {s : ByteArray}
set_option maxHeartbeats 4000000 in
theorem dRead14_any (hs : s.size ≤ 100000) : Calls Try.prog 14 #[.string s] w fun e w' => RdCP w (readC s).1 (readC s).2.1 (readC s).2.2 e w' := by
  have hH := Hp.refl w
  obtain ⟨x, n, e, hrd⟩ : ∃ x n e, readC s = (x, n, e) := ⟨_, _, _, rfl⟩
  have HRD := Lib.hid (show ∀ (W : World) (H : HB) (Q : Ending → World → Prop), Hp w.heap.size w W H → (∀ W' p c D, Hid (∀ B w0 W, Hp B w0 W D → AdsAt W p x.e.src) → Hid (∀ r ∈ D, r.2.2.1 = true) → Hp w.heap.size w W' (H ++ D) → Q (.returned (.tuple #[.agg (fls (chS x p c)).toArray, .int .i64 (n : Int), .int .i64 e])) W') → Calls Try.prog 35 #[.string s] W Q from fun W H Q hH hQ => hDRead hs hrd hH hQ)
  rw [hrd]
  simp only
  clear hrd hs
  obtain ⟨⟨k, G, ex, l⟩, gn⟩ := x
  have oY := adL_ok G
  have HX := Lib.hid (show ∀ p c, chS (⟨⟨k, G, ex, l⟩, gn⟩ : Ch) p c = [.one (.int .i64 k), .many (adL G) 17, .one (.bool ex), .one (.slice p l.length c), .one (.bool gn)] from fun _ _ => rfl)
  unfold chS at HRD
  simp only at HRD
  generalize adL G = Y at *
  go_enter Try.func14, Try.ntmps14
  go_wp2_with (first | ((go_at_call 35; with_reducible refine HRD.out _ _ _ hH ?_; (clear hH; intro W px cx Dx hAx hDx hH); (try simp only [List.cons_append, List.nil_append] at hH); ((try simp only [Act.put, pA, pB, pC])))) | ((first | (refine iL tab_ok rfl ?_ rfl hH ?_; (focus (first | exact wN rfl | exact rfl)); refine ⟨_, _, rfl, rfl, ?_⟩) | (refine iLi tab_ok rfl ?_ rfl hH ?_; (focus (first | exact wN rfl | exact rfl)); refine ⟨_, _, _, ?_, rfl, rfl, rfl, ?_, ?_⟩; rotate_left; (focus assumption)) | (refine iS1 tab_ok rfl ?_ rfl hH ?_; (focus (first | exact wN rfl | exact rfl)); refine ⟨_, _, _, _, rfl, rfl, rfl, rfl, rfl, ?_⟩) | (refine iSR tab_ok rfl ?_ rfl hH ?_; (focus (first | exact wN rfl | exact rfl)); refine ⟨_, _, _, _, rfl, rfl, rfl, rfl, rfl, ?_, ?_⟩; (focus (repeat (first | exact trivial | assumption | exact OkA.z (by kernel_rfl) (by kernel_rfl) | refine ⟨rfl, ?_⟩ | refine ⟨?_, ?_⟩)))) | (refine hAl tab_ok rfl ?_ hH rfl ?_; (focus (first | exact wN rfl | exact rfl))) | (refine hBx1 rfl ?_ rfl hH ?_; (focus (first | exact wN rfl | exact rfl))) | (refine hBx rfl ?_ rfl hH ?_ ?_; (focus (first | exact wN rfl | exact rfl)); (focus (repeat (first | exact trivial | assumption | exact OkA.z (by kernel_rfl) (by kernel_rfl) | refine ⟨rfl, ?_⟩ | refine ⟨?_, ?_⟩)))) | (refine hBd tab_ok rfl ?_ rfl rfl rfl hH ?_; (focus (first | exact wN rfl | exact rfl)); refine ⟨?_, ?_, ?_⟩; rotate_left; (focus (repeat (first | exact BR.nil | refine BR.one rfl rfl rfl ?_ | (refine BR.row rfl rfl rfl rfl ?_ ?_; (focus (repeat (first | exact trivial | assumption | exact OkA.z (by kernel_rfl) (by kernel_rfl) | refine ⟨rfl, ?_⟩ | refine ⟨?_, ?_⟩))))))))); clear hH; (first | intro W g hH | intro W hH); ((try simp only [Act.put, pA, pB, pC]))))
  refine retC3 Try.results14 tab_ok 0 rfl rfl hH rfl rfl rfl rfl ?_
  exact RdCP.mk (p := px) (cc := cx) (D := Dx) (by rw [HX.out]; rfl) ⟨hH.sub (SubH.drop SubH.refl), hDx.out⟩ hAx.out
set_option maxHeartbeats 16000000 in
theorem digestReads_walk : Gives Try.prog 4 #[.string s] w (.bool true) := by
  refine Gives.of ?_
  have hH := Hp.refl w
  have fc : ∀ w, Gives Try.prog 13 #[.string s, .int .i64 120] w (.string (s.extract 0 120)) := fun w => cut_any
  have hz : (s.extract 0 120).size ≤ 120 := by have := cut_size2 s 0 120; omega
  generalize s.extract 0 120 = t0 at *
  obtain ⟨x, n, e, hrd⟩ : ∃ x n e, readC t0 = (x, n, e) := ⟨_, _, _, rfl⟩
  have H14 := Lib.hid (show ∀ (W : World) (H : HB) (Q : Ending → World → Prop), Hp w.heap.size w W H → (∀ W' p c D, Hid (∀ B w0 W, Hp B w0 W D → AdsAt W p x.e.src) → Hid (∀ r ∈ D, r.2.2.1 = true) → Hp w.heap.size w W' (H ++ D) → Q (.returned (.tuple #[.agg (fls (chS x p c)).toArray, .int .i64 (n : Int), .int .i64 e])) W') → Calls Try.prog 14 #[.string t0] W Q from fun W H Q hH hQ => by
    have h := dRead14_any (w := W) (s := t0) (by omega)
    rw [hrd] at h
    exact h.mono fun _ _ ⟨p, c, D, he, hm, hr⟩ => by subst he; exact hQ _ p c D (Lib.hid hr) (Lib.hid hm.2) (hH.join hm))
  have H15 := Lib.hid (show ∀ (W : World) (H : HB) (Q : Ending → World → Prop), Hp w.heap.size w W H → (∀ W' p c D, Hid (∀ B w0 W, Hp B w0 W D → AdsAt W p x.e.src) → Hid (∀ r ∈ D, r.2.2.1 = true) → Hp w.heap.size w W' (H ++ D) → Q (.returned (.tuple #[.agg (fls (chS x p c)).toArray, .int .i64 (n : Int), .int .i64 e])) W') → Calls Try.prog 15 #[.string t0] W Q from fun W H Q hH hQ => hRefRead (by omega) hrd hH hQ)
  have HALL := Lib.hid (show ∀ (W : World) (H : HB) (Q : Ending → World → Prop), Hp w.heap.size w W H → (∀ W' p c D, Hid (∀ B w0 W, Hp B w0 W D → ChsAt W p (allC (t0.size + 1) t0 []).1) → Hid (∀ r ∈ D, r.2.2.1 = true) → Hp w.heap.size w W' (H ++ D) → Q (.returned (.tuple #[.slice p (allC (t0.size + 1) t0 []).1.length c, .int .i64 (allC (t0.size + 1) t0 []).2])) W') → Calls Try.prog 17 #[.string t0] W Q from fun W H Q hH hQ => (dAll_any (w := W) (s := t0) (by omega)).mono fun _ _ ⟨p, c, D, he, hm, hr⟩ => by subst he; exact hQ _ p c D (Lib.hid hr) (Lib.hid hm.2) (hH.join hm))
  have HSC := Lib.hid (show ∀ (W : World) (g g' c c' : Nat) (p p' : Option Addr) (cp cp' : Nat) (t t' : TypeId), Row W g t (fls (chS x p cp)).toArray → Row W g' t' (fls (chS x p' cp')).toArray → AdsAt W p x.e.src → AdsAt W p' x.e.src → Gives Try.prog 16 #[.slice (some ⟨g, 0, none⟩) 1 c, .slice (some ⟨g', 0, none⟩) 1 c'] W (.bool true) from fun W g g' c c' p p' cp cp' t t' h1 h2 h3 h4 => rSameCh_self (L := [x]) (chs_one h1 h3) (chs_one h2 h4))
  obtain ⟨⟨RL, re⟩, hall⟩ : ∃ R, allC (t0.size + 1) t0 [] = R := ⟨_, rfl⟩
  rw [hall] at HALL
  simp only at HALL
  have HA := Lib.hid hall
  clear hall hrd
  obtain ⟨⟨k, G, ex, l⟩, gn⟩ := x
  have oY := adL_ok G
  unfold chS at H14 H15 HSC
  simp only at H14 H15 HSC
  generalize adL G = Y at *
  go_enter Try.func4, Try.ntmps4
  go_wp2_with (first | ((go_at_call 14; with_reducible refine H14.out _ _ _ hH ?_; (clear hH; intro W px cx Dx hAx hDx hH); (try simp only [List.cons_append, List.nil_append] at hH); ((try simp only [Act.put, pA, pB, pC])))) | ((go_at_call 15; with_reducible refine H15.out _ _ _ hH ?_; (clear hH; intro W py cy Dy hAy hDy hH); (try simp only [List.cons_append, List.nil_append] at hH); ((try simp only [Act.put, pA, pB, pC])))) | ((go_at_call 16; refine callR 1 hH rfl (fun hr => HSC.out _ _ _ _ _ _ _ _ _ _ _ hr (hH.rows.mem (i := 0) rfl).1 (hAx.out _ _ _ (hH.sub (SubH.drop (SubH.drop (SubH.drop (SubH.drop SubH.appL)))))) (hAy.out _ _ _ (hH.sub (SubH.drop (SubH.drop (SubH.drop (SubH.drop SubH.appR))))))) ?_; (clear hH; (first | intro W g hH | intro W hH); (try simp only [Act.put, pA, pB, pC])))) | ((go_at_call 17; with_reducible refine HALL.out _ _ _ hH ?_; (clear hH; intro W pa ca Da hAa hDa hH); (try simp only [List.cons_append, List.nil_append] at hH); ((try simp only [Act.put, pA, pB, pC])))) | ((refine hSl tab_ok rfl ?_ rfl tabs_ok rfl rfl rfl rfl rfl hH ?_; (focus (first | exact wN rfl | exact rfl)); refine ⟨?_, ?_, ?_⟩; rotate_left; (focus (repeat (first | exact BR.nil | refine BR.one rfl rfl rfl ?_ | (refine BR.row rfl rfl rfl rfl ?_ ?_; (focus (repeat (first | exact trivial | assumption | exact OkA.z (by kernel_rfl) (by kernel_rfl) | refine ⟨rfl, ?_⟩ | refine ⟨?_, ?_⟩))))))); clear hH; intro W g hH; (try simp only [Act.put, pA, pB, pC]))) | ((first | (refine iL tab_ok rfl ?_ rfl hH ?_; (focus (first | exact wN rfl | exact rfl)); refine ⟨_, _, rfl, rfl, ?_⟩) | (refine iLi tab_ok rfl ?_ rfl hH ?_; (focus (first | exact wN rfl | exact rfl)); refine ⟨_, _, _, ?_, rfl, rfl, rfl, ?_, ?_⟩; rotate_left; (focus assumption)) | (refine iS1 tab_ok rfl ?_ rfl hH ?_; (focus (first | exact wN rfl | exact rfl)); refine ⟨_, _, _, _, rfl, rfl, rfl, rfl, rfl, ?_⟩) | (refine iSR tab_ok rfl ?_ rfl hH ?_; (focus (first | exact wN rfl | exact rfl)); refine ⟨_, _, _, _, rfl, rfl, rfl, rfl, rfl, ?_, ?_⟩; (focus (repeat (first | exact trivial | assumption | exact OkA.z (by kernel_rfl) (by kernel_rfl) | refine ⟨rfl, ?_⟩ | refine ⟨?_, ?_⟩)))) | (refine hAl tab_ok rfl ?_ hH rfl ?_; (focus (first | exact wN rfl | exact rfl))) | (refine hBx1 rfl ?_ rfl hH ?_; (focus (first | exact wN rfl | exact rfl))) | (refine hBx rfl ?_ rfl hH ?_ ?_; (focus (first | exact wN rfl | exact rfl)); (focus (repeat (first | exact trivial | assumption | exact OkA.z (by kernel_rfl) (by kernel_rfl) | refine ⟨rfl, ?_⟩ | refine ⟨?_, ?_⟩)))) | (refine hBd tab_ok rfl ?_ rfl rfl rfl hH ?_; (focus (first | exact wN rfl | exact rfl)); refine ⟨?_, ?_, ?_⟩; rotate_left; (focus (repeat (first | exact BR.nil | refine BR.one rfl rfl rfl ?_ | (refine BR.row rfl rfl rfl rfl ?_ ?_; (focus (repeat (first | exact trivial | assumption | exact OkA.z (by kernel_rfl) (by kernel_rfl) | refine ⟨rfl, ?_⟩ | refine ⟨?_, ?_⟩)))))))) | ((with_reducible refine callH hH ?_); refine ⟨?_, ?_, ?_⟩; rotate_left; (focus (first | (with_reducible exact fc _))))); clear hH; (first | intro W g hH | intro W hH); ((try simp only [Act.put, pA, pB, pC]))))
  obtain ⟨g6, hg6⟩ := nameC hH
  subst hg6
  have hH := hH.alloc 37 (S := [.many [] 0, .many [] 0]) ⟨⟨rfl, by simp⟩, ⟨rfl, by simp⟩, trivial⟩
  clear H14 H15 HALL HSC fc
  go_loopw [7, 11, 12, 13] (fun s7 s11 s12 s13 wr => ∃ (t : ByteArray) (X : List Cv) (D : HB) (f m : Nat) (er : Int) (ga cc q : Nat) (J : List Value) (k6 : Int) (Y6 : List Value) (e6 b6 : Bool) (p6 : Option Addr) (n6 c6 : Nat), s7 = .int .i64 (m : Int) ∧ s11 = .slice (some ⟨ga, 0, none⟩) X.length cc ∧ s12 = .int .i64 er ∧ s13 = .string t ∧ Hid ((er = 0 ∧ allC f t (X.map Cv.x) = (RL, re) ∧ t.size < f ∧ t.size + X.length ≤ 200) ∨ (er ≠ 0 ∧ RL = [] ∧ re = er ∧ X.length ≤ 201)) ∧ Grow 21 X.length cc (X.length * 21) q ∧ OkA J q ∧ OkA Y6 17 ∧ Hid (∀ r ∈ D, r.2.2.1 = true) ∧ Hid (InC X D) ∧ Hp w.heap.size w wr ((ga, 37, true, [.many (cvsL X) (X.length * 21), .many J q]) :: (g6, 37, true, [.one (.int .i64 k6), .many Y6 17, .one (.bool e6), .one (.slice p6 n6 c6), .one (.bool b6)]) :: (Da ++ D))) (fun _ _ s12 s13 _ => match s12, s13 with | .int _ e, .string t => if e = 0 then t.size + 1 else 0 | _, _ => 0)
  case atStart => exact ⟨t0, [], [], t0.size + 1, n, 0, _, 0, 0, [], k, Y, ex, gn, py, l.length, cy, rfl, rfl, rfl, rfl, Lib.hid (.inl ⟨rfl, HA.out, by omega, by simp; omega⟩), ⟨rfl, rfl, Nat.le_refl _, by simp [maxLen]⟩, ⟨rfl, by simp⟩, oY, Lib.hid (by simp), Lib.hid InC.nil, by rw [List.append_nil]; exact hH.sub (SubH.keep (SubH.drop (SubH.drop (SubH.keep (SubH.drop SubH.appR)))))⟩
  case round =>
    clear hH hAx hAy hDx hDy oY HA hz
    obtain ⟨t, X, D, f, m, er, ga, cc, q, J, k6, Y6, e6, b6, p6, n6, c6, rfl, rfl, rfl, rfl, HC, hG, oJ, oY6, hD, hXD, hH⟩ := hrel
    rcases HC.out with ⟨rfl, hall, hf, htX⟩ | ⟨her, hRL, hre, hX1⟩
    · clear HC
      obtain ⟨f, rfl⟩ : ∃ f', f = f' + 1 := ⟨f - 1, by omega⟩
      unfold allC at hall
      by_cases h0 : t.size = 0
      · have hem := isEmptyD h0
        rw [if_pos h0] at hall
        obtain ⟨h1, h2⟩ := Prod.mk.inj hall
        subst h2
        have hX1 : X.length ≤ 1000 := by omega
        have HSC2 := Lib.hid (show ∀ (W : World) (c c' : Nat), Hp w.heap.size w W ((ga, 37, true, [.many (cvsL X) (X.length * 21), .many J q]) :: (g6, 37, true, [.one (.int .i64 k6), .many Y6 17, .one (.bool e6), .one (.slice p6 n6 c6), .one (.bool b6)]) :: (Da ++ D)) → Gives Try.prog 16 #[.slice pa RL.length c, .slice (some ⟨ga, 0, none⟩) X.length c'] W (.bool true) from fun W c c' hH => by
          have hA1 := hAa.out _ _ _ (hH.sub (SubH.drop (SubH.drop SubH.appL)))
          have hA2 : ChsAt W (some ⟨ga, 0, none⟩) (X.map Cv.x) := chsAt_row (by omega) (by have := (hH.rows.mem (i := 0) rfl).1; rwa [fls_two] at this) (fun x hx => hXD.out x hx _ _ _ (hH.sub (SubH.drop (SubH.drop SubH.appR))))
          rw [h1] at hA2
          have := rSameCh_self (c := c) (c' := c') hA1 hA2
          have hlen : X.length = RL.length := by rw [← h1, List.length_map]
          rw [hlen]
          exact this)
        clear hall h1 hf htX h0 hAa hXD hG
        go_wp2_with (first | ((first | (refine iL tab_ok rfl ?_ rfl hH ?_; (focus (first | exact wN rfl | exact rfl)); refine ⟨_, _, rfl, rfl, ?_⟩) | (refine iLi tab_ok rfl ?_ rfl hH ?_; (focus (first | exact wN rfl | exact rfl)); refine ⟨_, _, _, ?_, rfl, rfl, rfl, ?_, ?_⟩; rotate_left; (focus assumption)) | (refine iS1 tab_ok rfl ?_ rfl hH ?_; (focus (first | exact wN rfl | exact rfl)); refine ⟨_, _, _, _, rfl, rfl, rfl, rfl, rfl, ?_⟩) | (refine iSR tab_ok rfl ?_ rfl hH ?_; (focus (first | exact wN rfl | exact rfl)); refine ⟨_, _, _, _, rfl, rfl, rfl, rfl, rfl, ?_, ?_⟩; (focus (repeat (first | exact trivial | assumption | exact OkA.z (by kernel_rfl) (by kernel_rfl) | refine ⟨rfl, ?_⟩ | refine ⟨?_, ?_⟩)))) | (refine hAl tab_ok rfl ?_ hH rfl ?_; (focus (first | exact wN rfl | exact rfl))) | (refine hBx1 rfl ?_ rfl hH ?_; (focus (first | exact wN rfl | exact rfl))) | (refine hBx rfl ?_ rfl hH ?_ ?_; (focus (first | exact wN rfl | exact rfl)); (focus (repeat (first | exact trivial | assumption | exact OkA.z (by kernel_rfl) (by kernel_rfl) | refine ⟨rfl, ?_⟩ | refine ⟨?_, ?_⟩)))) | (refine hBd tab_ok rfl ?_ rfl rfl rfl hH ?_; (focus (first | exact wN rfl | exact rfl)); refine ⟨?_, ?_, ?_⟩; rotate_left; (focus (repeat (first | exact BR.nil | refine BR.one rfl rfl rfl ?_ | (refine BR.row rfl rfl rfl rfl ?_ ?_; (focus (repeat (first | exact trivial | assumption | exact OkA.z (by kernel_rfl) (by kernel_rfl) | refine ⟨rfl, ?_⟩ | refine ⟨?_, ?_⟩)))))))) | ((with_reducible refine callH hH ?_); refine ⟨?_, ?_, ?_⟩; rotate_left; (focus (first | (exact HSC2.out _ _ _ hH) | (with_reducible exact lives27))))); clear hH; (first | intro W g hH | intro W hH); ((try simp only [Act.put, pA, pB, pC]))))
        go_ret
        exact ⟨rfl, hH.below⟩
      · have hem := notEmptyD h0
        rw [if_neg h0] at hall
        obtain ⟨x, n', e, hrd⟩ : ∃ x n e, readC t = (x, n, e) := ⟨_, _, _, rfl⟩
        have HRR := Lib.hid (show ∀ (W : World) (H : HB) (Q : Ending → World → Prop), Hp w.heap.size w W H → (∀ W' p c D, Hid (∀ B w0 W, Hp B w0 W D → AdsAt W p x.e.src) → Hid (∀ r ∈ D, r.2.2.1 = true) → Hp w.heap.size w W' (H ++ D) → Q (.returned (.tuple #[.agg (fls (chS x p c)).toArray, .int .i64 (n' : Int), .int .i64 e])) W') → Calls Try.prog 15 #[.string t] W Q from fun W H Q hH hQ => hRefRead (by omega) hrd hH hQ)
        have hok := readC_ok (s := t)
        have hbad := readC_bad (s := t)
        rw [hrd] at hall hok hbad
        simp only at hall hok hbad
        clear hrd
        by_cases hz : e = 0
        · subst hz
          obtain ⟨hn8, hnt⟩ := hok rfl
          clear hok hbad
          rw [if_pos rfl] at hall
          have HR2 := Lib.hid hall
          clear hall
          have hsz : (t.extract n' t.size).size = t.size - n' := extract_size (Nat.le_refl _) hnt
          have hX1 : X.length ≤ 200 := by omega
          obtain ⟨⟨k, G, ex, l⟩, gn⟩ := x
          have oY := adL_ok G
          unfold chS at HRR
          simp only at HRR
          obtain ⟨Y, hY⟩ : ∃ Y, Y = adL G := ⟨_, rfl⟩
          rw [← hY] at HRR oY
          have HY := Lib.hid hY
          clear hY
          go_wp2_with (first | ((go_at_call 15; with_reducible refine HRR.out _ _ _ hH ?_; (clear hH; intro W px cx Dx hAx hDx hH); (try simp only [List.cons_append, List.nil_append, List.append_assoc] at hH); ((try simp only [Act.put, pA, pB, pC])))) | ((refine hSl tab_ok rfl ?_ rfl tabs_ok rfl rfl rfl rfl rfl hH ?_; (focus (first | exact wN rfl | exact rfl)); refine ⟨?_, ?_, ?_⟩; rotate_left; (focus (repeat (first | exact BR.nil | refine BR.one rfl rfl rfl ?_ | (refine BR.row rfl rfl rfl rfl ?_ ?_; (focus (repeat (first | exact trivial | assumption | exact OkA.z (by kernel_rfl) (by kernel_rfl) | refine ⟨rfl, ?_⟩ | refine ⟨?_, ?_⟩))))))); clear hH; intro W g hH; (try simp only [Act.put, pA, pB, pC]))) | (((first | (refine hApp 1 0 tab_ok tabs_ok rfl rfl rfl rfl rfl rfl rfl hH rfl rfl rfl rfl ?_; refine ⟨?_, ?_, ?_⟩; (focus assumption); (focus (first | omega | (simp; omega))))); clear hH; intro W g c p q J hG hL hJ hH; (try simp only [putH, fls, List.append_nil] at hH hL); (try simp only [Act.put, pA, pB, pC]))) | ((first | (refine iL tab_ok rfl ?_ rfl hH ?_; (focus (first | exact wN rfl | exact rfl)); refine ⟨_, _, rfl, rfl, ?_⟩) | (refine iLi tab_ok rfl ?_ rfl hH ?_; (focus (first | exact wN rfl | exact rfl)); refine ⟨_, _, _, ?_, rfl, rfl, rfl, ?_, ?_⟩; rotate_left; (focus assumption)) | (refine iS1 tab_ok rfl ?_ rfl hH ?_; (focus (first | exact wN rfl | exact rfl)); refine ⟨_, _, _, _, rfl, rfl, rfl, rfl, rfl, ?_⟩) | (refine iSR tab_ok rfl ?_ rfl hH ?_; (focus (first | exact wN rfl | exact rfl)); refine ⟨_, _, _, _, rfl, rfl, rfl, rfl, rfl, ?_, ?_⟩; (focus (repeat (first | exact trivial | assumption | exact OkA.z (by kernel_rfl) (by kernel_rfl) | refine ⟨rfl, ?_⟩ | refine ⟨?_, ?_⟩)))) | (refine hAl tab_ok rfl ?_ hH rfl ?_; (focus (first | exact wN rfl | exact rfl))) | (refine hBx1 rfl ?_ rfl hH ?_; (focus (first | exact wN rfl | exact rfl))) | (refine hBx rfl ?_ rfl hH ?_ ?_; (focus (first | exact wN rfl | exact rfl)); (focus (repeat (first | exact trivial | assumption | exact OkA.z (by kernel_rfl) (by kernel_rfl) | refine ⟨rfl, ?_⟩ | refine ⟨?_, ?_⟩)))) | (refine hBd tab_ok rfl ?_ rfl rfl rfl hH ?_; (focus (first | exact wN rfl | exact rfl)); refine ⟨?_, ?_, ?_⟩; rotate_left; (focus (repeat (first | exact BR.nil | refine BR.one rfl rfl rfl ?_ | (refine BR.row rfl rfl rfl rfl ?_ ?_; (focus (repeat (first | exact trivial | assumption | exact OkA.z (by kernel_rfl) (by kernel_rfl) | refine ⟨rfl, ?_⟩ | refine ⟨?_, ?_⟩))))))))); clear hH; (first | intro W g hH | intro W hH); ((try simp only [Act.put, pA, pB, pC]))))
          have hp := hG.hp
          have hq := hG.hq
          have hle := hG.le
          have hmo := hG.most
          clear hG
          have e1 : (X ++ [(⟨⟨⟨k, G, ex, l⟩, gn⟩, px, cx⟩ : Cv)]).length = X.length + 1 := by simp
          have e2 : cvsL (X ++ [(⟨⟨⟨k, G, ex, l⟩, gn⟩, px, cx⟩ : Cv)]) = cvsL X ++ (.int .i64 k :: (Y ++ [.bool ex, .slice px l.length cx, .bool gn])) := by rw [cvsL_snoc, HY.out]; rfl
          refine ⟨⟨_, X ++ [⟨⟨⟨k, G, ex, l⟩, gn⟩, px, cx⟩], D ++ Dx, f, _, _, g, c, q, J, k, Y, ex, gn, px, l.length, cx, rfl, by rw [e1] <;> simp, rfl, rfl, Lib.hid (.inl ⟨rfl, by have := HR2.out; simpa using this, by omega, by rw [e1, hsz]; omega⟩), by rw [e1]; exact ⟨rfl, by rw [← hq, hp] <;> rfl, hle, hmo⟩, hJ, oY, own_app hD hDx, Lib.hid (InC.snoc hXD.out hAx.out), ?_⟩, by show (if (0 : Int) = 0 then _ else 0) < (if (0 : Int) = 0 then _ else 0); rw [if_pos rfl, if_pos rfl, hsz]; omega⟩
          rw [show (X ++ [(⟨⟨⟨k, G, ex, l⟩, gn⟩, px, cx⟩ : Cv)]).length * 21 = p by rw [hp, e1] <;> rfl, e2]
          exact hH.sub (SubH.drop SubH.refl)
        · have hn0 := (hbad hz).2
          subst hn0
          clear hok hbad
          rw [if_neg hz] at hall
          obtain ⟨h1, h2⟩ := Prod.mk.inj hall
          have HR2 := Lib.hid (show e ≠ 0 ∧ RL = [] ∧ re = e from ⟨hz, h1.symm, h2.symm⟩)
          have hze : (e != 0) = true := by simpa using hz
          have hze2 : (e == 0) = false := by simpa using hz
          have HZ := Lib.hid hz
          clear hall h1 h2 hz
          have hX1 : X.length ≤ 200 := by omega
          obtain ⟨⟨k, G, ex, l⟩, gn⟩ := x
          have oY := adL_ok G
          unfold chS at HRR
          simp only at HRR
          obtain ⟨Y, hY⟩ : ∃ Y, Y = adL G := ⟨_, rfl⟩
          rw [← hY] at HRR oY
          have HY := Lib.hid hY
          clear hY
          go_wp2_with (first | ((go_at_call 15; with_reducible refine HRR.out _ _ _ hH ?_; (clear hH; intro W px cx Dx hAx hDx hH); (try simp only [List.cons_append, List.nil_append, List.append_assoc] at hH); ((try simp only [Act.put, pA, pB, pC])))) | ((refine hSl tab_ok rfl ?_ rfl tabs_ok rfl rfl rfl rfl rfl hH ?_; (focus (first | exact wN rfl | exact rfl)); refine ⟨?_, ?_, ?_⟩; rotate_left; (focus (repeat (first | exact BR.nil | refine BR.one rfl rfl rfl ?_ | (refine BR.row rfl rfl rfl rfl ?_ ?_; (focus (repeat (first | exact trivial | assumption | exact OkA.z (by kernel_rfl) (by kernel_rfl) | refine ⟨rfl, ?_⟩ | refine ⟨?_, ?_⟩))))))); clear hH; intro W g hH; (try simp only [Act.put, pA, pB, pC]))) | (((first | (refine hApp 1 0 tab_ok tabs_ok rfl rfl rfl rfl rfl rfl rfl hH rfl rfl rfl rfl ?_; refine ⟨?_, ?_, ?_⟩; (focus assumption); (focus (first | omega | (simp; omega))))); clear hH; intro W g c p q J hG hL hJ hH; (try simp only [putH, fls, List.append_nil] at hH hL); (try simp only [Act.put, pA, pB, pC]))) | ((first | (refine iL tab_ok rfl ?_ rfl hH ?_; (focus (first | exact wN rfl | exact rfl)); refine ⟨_, _, rfl, rfl, ?_⟩) | (refine iLi tab_ok rfl ?_ rfl hH ?_; (focus (first | exact wN rfl | exact rfl)); refine ⟨_, _, _, ?_, rfl, rfl, rfl, ?_, ?_⟩; rotate_left; (focus assumption)) | (refine iS1 tab_ok rfl ?_ rfl hH ?_; (focus (first | exact wN rfl | exact rfl)); refine ⟨_, _, _, _, rfl, rfl, rfl, rfl, rfl, ?_⟩) | (refine iSR tab_ok rfl ?_ rfl hH ?_; (focus (first | exact wN rfl | exact rfl)); refine ⟨_, _, _, _, rfl, rfl, rfl, rfl, rfl, ?_, ?_⟩; (focus (repeat (first | exact trivial | assumption | exact OkA.z (by kernel_rfl) (by kernel_rfl) | refine ⟨rfl, ?_⟩ | refine ⟨?_, ?_⟩)))) | (refine hAl tab_ok rfl ?_ hH rfl ?_; (focus (first | exact wN rfl | exact rfl))) | (refine hBx1 rfl ?_ rfl hH ?_; (focus (first | exact wN rfl | exact rfl))) | (refine hBx rfl ?_ rfl hH ?_ ?_; (focus (first | exact wN rfl | exact rfl)); (focus (repeat (first | exact trivial | assumption | exact OkA.z (by kernel_rfl) (by kernel_rfl) | refine ⟨rfl, ?_⟩ | refine ⟨?_, ?_⟩)))) | (refine hBd tab_ok rfl ?_ rfl rfl rfl hH ?_; (focus (first | exact wN rfl | exact rfl)); refine ⟨?_, ?_, ?_⟩; rotate_left; (focus (repeat (first | exact BR.nil | refine BR.one rfl rfl rfl ?_ | (refine BR.row rfl rfl rfl rfl ?_ ?_; (focus (repeat (first | exact trivial | assumption | exact OkA.z (by kernel_rfl) (by kernel_rfl) | refine ⟨rfl, ?_⟩ | refine ⟨?_, ?_⟩))))))))); clear hH; (first | intro W g hH | intro W hH); ((try simp only [Act.put, pA, pB, pC]))))
          have hp := hG.hp
          have hq := hG.hq
          have hle := hG.le
          have hmo := hG.most
          clear hG
          have e1 : (X ++ [(⟨⟨⟨k, G, ex, l⟩, gn⟩, px, cx⟩ : Cv)]).length = X.length + 1 := by simp
          have e2 : cvsL (X ++ [(⟨⟨⟨k, G, ex, l⟩, gn⟩, px, cx⟩ : Cv)]) = cvsL X ++ (.int .i64 k :: (Y ++ [.bool ex, .slice px l.length cx, .bool gn])) := by rw [cvsL_snoc, HY.out]; rfl
          refine ⟨⟨_, X ++ [⟨⟨⟨k, G, ex, l⟩, gn⟩, px, cx⟩], D ++ Dx, f, _, _, g, c, q, J, k, Y, ex, gn, px, l.length, cx, rfl, by rw [e1] <;> simp, rfl, rfl, Lib.hid (.inr ⟨HR2.out.1, HR2.out.2.1, HR2.out.2.2, by rw [e1]; omega⟩), by rw [e1]; exact ⟨rfl, by rw [← hq, hp] <;> rfl, hle, hmo⟩, hJ, oY, own_app hD hDx, Lib.hid (InC.snoc hXD.out hAx.out), ?_⟩, by show (if e = 0 then _ else 0) < (if (0 : Int) = 0 then _ else 0); rw [if_neg HZ.out, if_pos rfl]; omega⟩
          rw [show (X ++ [(⟨⟨⟨k, G, ex, l⟩, gn⟩, px, cx⟩ : Cv)]).length * 21 = p by rw [hp, e1] <;> rfl, e2]
          exact hH.sub (SubH.drop SubH.refl)
    · clear HC
      have HN := Lib.hid her
      have e1 : (er == 0) = false := by simpa using her
      have e2 : (er != 0) = true := by simpa using her
      subst hRL
      subst hre
      clear her hG hX1 hAa hXD
      by_cases h0 : t.size = 0
      · have hem := isEmptyD h0
        clear h0
        go_wp2_with (first | ((first | (refine iL tab_ok rfl ?_ rfl hH ?_; (focus (first | exact wN rfl | exact rfl)); refine ⟨_, _, rfl, rfl, ?_⟩) | (refine iLi tab_ok rfl ?_ rfl hH ?_; (focus (first | exact wN rfl | exact rfl)); refine ⟨_, _, _, ?_, rfl, rfl, rfl, ?_, ?_⟩; rotate_left; (focus assumption)) | (refine iS1 tab_ok rfl ?_ rfl hH ?_; (focus (first | exact wN rfl | exact rfl)); refine ⟨_, _, _, _, rfl, rfl, rfl, rfl, rfl, ?_⟩) | (refine iSR tab_ok rfl ?_ rfl hH ?_; (focus (first | exact wN rfl | exact rfl)); refine ⟨_, _, _, _, rfl, rfl, rfl, rfl, rfl, ?_, ?_⟩; (focus (repeat (first | exact trivial | assumption | exact OkA.z (by kernel_rfl) (by kernel_rfl) | refine ⟨rfl, ?_⟩ | refine ⟨?_, ?_⟩)))) | (refine hAl tab_ok rfl ?_ hH rfl ?_; (focus (first | exact wN rfl | exact rfl))) | (refine hBx1 rfl ?_ rfl hH ?_; (focus (first | exact wN rfl | exact rfl))) | (refine hBx rfl ?_ rfl hH ?_ ?_; (focus (first | exact wN rfl | exact rfl)); (focus (repeat (first | exact trivial | assumption | exact OkA.z (by kernel_rfl) (by kernel_rfl) | refine ⟨rfl, ?_⟩ | refine ⟨?_, ?_⟩)))) | (refine hBd tab_ok rfl ?_ rfl rfl rfl hH ?_; (focus (first | exact wN rfl | exact rfl)); refine ⟨?_, ?_, ?_⟩; rotate_left; (focus (repeat (first | exact BR.nil | refine BR.one rfl rfl rfl ?_ | (refine BR.row rfl rfl rfl rfl ?_ ?_; (focus (repeat (first | exact trivial | assumption | exact OkA.z (by kernel_rfl) (by kernel_rfl) | refine ⟨rfl, ?_⟩ | refine ⟨?_, ?_⟩)))))))) | ((with_reducible refine callH hH ?_); refine ⟨?_, ?_, ?_⟩; rotate_left; (focus (first | (with_reducible exact lives27))))); clear hH; (first | intro W g hH | intro W hH); ((try simp only [Act.put, pA, pB, pC]))))
        go_ret
        exact ⟨rfl, hH.below⟩
      · have hem := notEmptyD h0
        clear h0
        go_wp2_with (first | ((first | (refine iL tab_ok rfl ?_ rfl hH ?_; (focus (first | exact wN rfl | exact rfl)); refine ⟨_, _, rfl, rfl, ?_⟩) | (refine iLi tab_ok rfl ?_ rfl hH ?_; (focus (first | exact wN rfl | exact rfl)); refine ⟨_, _, _, ?_, rfl, rfl, rfl, ?_, ?_⟩; rotate_left; (focus assumption)) | (refine iS1 tab_ok rfl ?_ rfl hH ?_; (focus (first | exact wN rfl | exact rfl)); refine ⟨_, _, _, _, rfl, rfl, rfl, rfl, rfl, ?_⟩) | (refine iSR tab_ok rfl ?_ rfl hH ?_; (focus (first | exact wN rfl | exact rfl)); refine ⟨_, _, _, _, rfl, rfl, rfl, rfl, rfl, ?_, ?_⟩; (focus (repeat (first | exact trivial | assumption | exact OkA.z (by kernel_rfl) (by kernel_rfl) | refine ⟨rfl, ?_⟩ | refine ⟨?_, ?_⟩)))) | (refine hAl tab_ok rfl ?_ hH rfl ?_; (focus (first | exact wN rfl | exact rfl))) | (refine hBx1 rfl ?_ rfl hH ?_; (focus (first | exact wN rfl | exact rfl))) | (refine hBx rfl ?_ rfl hH ?_ ?_; (focus (first | exact wN rfl | exact rfl)); (focus (repeat (first | exact trivial | assumption | exact OkA.z (by kernel_rfl) (by kernel_rfl) | refine ⟨rfl, ?_⟩ | refine ⟨?_, ?_⟩)))) | (refine hBd tab_ok rfl ?_ rfl rfl rfl hH ?_; (focus (first | exact wN rfl | exact rfl)); refine ⟨?_, ?_, ?_⟩; rotate_left; (focus (repeat (first | exact BR.nil | refine BR.one rfl rfl rfl ?_ | (refine BR.row rfl rfl rfl rfl ?_ ?_; (focus (repeat (first | exact trivial | assumption | exact OkA.z (by kernel_rfl) (by kernel_rfl) | refine ⟨rfl, ?_⟩ | refine ⟨?_, ?_⟩)))))))) | ((with_reducible refine callH hH ?_); refine ⟨?_, ?_, ?_⟩; rotate_left; (focus (first | (with_reducible exact lives27))))); clear hH; (first | intro W g hH | intro W hH); ((try simp only [Act.put, pA, pB, pC]))))
        go_ret
        exact ⟨rfl, hH.below⟩
end
set_option maxRecDepth 100000 in
theorem digestReads_lifted (os : Os) (started : os.Started) (H : Type) (enc : TypeId × Value → H) :
    ReturnsInHanded {} Try.checked os 4 .any (Rows.digestReadsSpec.pre6 enc Try.prog Try.f4 Rows.digestReadsRow.domain false) (Rows.digestReadsSpec.post enc Try.prog Try.f4 false true false false) := by
  refine lifted_of_walk (C := Try.checked) (tb := 4) own started (by kernel_rfl) Try.func4
    (ChangeSpec.witness6 (enc := enc) (C := Try.checked) false ⟨#[], #[.string ⟨#[]⟩], []⟩ 8 (by kernel_rfl) (by kernel_rfl) (by kernel_rfl) (by kernel_rfl))
    (by kernel_rfl) Try.underlying4 (by kernel_rfl) (by kernel_rfl) rfl ?_ ?_
  · intro ds hl
    match ds, hl with
    | [d0], _ => exact ⟨rfl, rfl, rfl⟩
  · intro W base args ds ps hval hA hfz
    have hA' : DataW.TrodAll enc Try.prog W 0 (fun _ => true) true Try.f4.params.toList args.toList ds ps := hA
    rw [Try.params4] at hA'
    obtain ⟨v0, vs0, d0, ds0, p0, q0, hargs0, rfl, rfl, h0, r0⟩ := trodAll_cons hA'
    obtain ⟨hvs, rfl, rfl⟩ := trodAll_nil r0
    obtain rfl : args = #[v0] := by cases args; simp_all
    have g0 := hval 0 9 v0 rfl rfl
    obtain ⟨s, rfl, _⟩ := open_str Try.underlying9 g0
    exact digestReads_walk
theorem digestReads_proved : Rows.DigestReadsSaid :=
  OpenClaim.holds_of_wide 4 Try.f4 rfl rfl rfl rfl rfl rfl rfl ⟨rfl, rfl, rfl, rfl, rfl⟩ rfl rfl rfl rfl rfl (by kernel_rfl) Try.func4 (by kernel_rfl)
    (of_decide_eq_true (by kernel_rfl)) (by unfold Func.isWrapper; first | (rw [if_pos (by decide +kernel)]; kernel_rfl) | (rw [if_neg (by decide +kernel)]; exact ⟨rfl, rfl⟩))
    (fun os started H enc _ => digestReads_lifted os started H enc)
end Go.Proofs.Ytdbdlhmgokllaaa
