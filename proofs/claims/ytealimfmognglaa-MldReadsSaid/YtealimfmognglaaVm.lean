/-
  MldReads: which talk any bytes are, by any addresses, or why none. No condition.
-/
import Derived.Test.YtealimfmognglaaVqx
import Derived.Test.YtealimfmognglaaRows
import Derived.Test.YtealimfmognglaaIn
namespace Go.Proofs.Ytealimfmognglaa
-- %in
open Go.ChangeShapes Go.WideShapes Go.ChangeAt Go.RowKit
set_option linter.unusedVariables false
set_option linter.unusedSimpArgs false
set_option maxRecDepth 20000
attribute [local irreducible] wpList

section
variable {w : World} {s : ByteArray} {f t : Ad}
theorem isF_cases (s : ByteArray) : (s.size = 0 ∧ isF s = false) ∨ (0 < s.size ∧ ((numAt s 0 1 = 130 ∧ isF s = true) ∨ (numAt s 0 1 = 131 ∧ isF s = true) ∨ (numAt s 0 1 = 132 ∧ isF s = true) ∨ (numAt s 0 1 = 143 ∧ isF s = true) ∨ (numAt s 0 1 ≠ 130 ∧ numAt s 0 1 ≠ 131 ∧ numAt s 0 1 ≠ 132 ∧ numAt s 0 1 ≠ 143 ∧ isF s = false))) := by
  unfold isF
  by_cases hz : s.size = 0
  · exact .inl ⟨hz, by rw [hz]; rfl⟩
  · refine .inr ⟨by omega, ?_⟩
    rw [decide_eq_true (show 0 < s.size by omega), Bool.true_and]
    generalize numAt s 0 1 = x
    by_cases h1 : x = 130
    · subst h1; exact .inl ⟨rfl, rfl⟩
    by_cases h2 : x = 131
    · subst h2; exact .inr (.inl ⟨rfl, rfl⟩)
    by_cases h3 : x = 132
    · subst h3; exact .inr (.inr (.inl ⟨rfl, rfl⟩))
    by_cases h4 : x = 143
    · subst h4; exact .inr (.inr (.inr (.inl ⟨rfl, rfl⟩)))
    · refine .inr (.inr (.inr (.inr ⟨h1, h2, h3, h4, ?_⟩)))
      simp [h1, h2, h3, h4]
set_option maxHeartbeats 4000000 in
theorem mldReads_no (hv : (f.v && t.v) = false) : Gives Try.prog 6 #[.string s, .agg (fls [.many (adL f) 17]).toArray, .agg (fls [.many (adL t) 17]).toArray] w (.bool true) := by
  have fc : ∀ w, Gives Try.prog 19 #[.string s, .int .i64 200] w (.string (s.extract 0 200)) := fun w => cut_any
  generalize s.extract 0 200 = S at *
  have IR := Lib.hid (fun (W : World) (H : HB) (Q : Ending → World → Prop) hH hQ => hVReadNo (s := S) (f := f) (t := t) (B := w.heap.size) (w0 := w) (W := W) (H := H) (Q := Q) hv hH hQ)
  have HSM := Lib.hid (show ∀ (W : World) (H : HB) sp sc rp rc D, Hid (TkIn D sp rp Tk.z) → SubH H D → Hp w.heap.size w W H → Gives Try.prog 13 #[.agg (fls [.one (.bool false), .one (.int .i64 0), .one (.int .i64 0), .one (.int .i64 0), .many (adL Ad.z) 17, .one (.bool false), .one (.int .i64 0), .one (.int .i64 0), .one (.slice sp 0 sc), .one (.slice rp 0 rc)]).toArray, .agg (fls [.one (.bool false), .one (.int .i64 0), .one (.int .i64 0), .one (.int .i64 0), .many (zeroL Try.prog 24) 17, .one (.bool false), .one (.int .i64 0), .one (.int .i64 0), .one (.slice none 0 0), .one (.slice none 0 0)]).toArray] W (.bool true) from fun W H sp sc rp rc D hD hs hH => by
    have h := hD.out _ _ _ (hH.sub hs)
    have := same_any (A := Tk.z) (B := Tk.z) (sc := sc) (rc := rc) (sp' := none) (rp' := none) (sc' := 0) (rc' := 0) h.1 h.2 AdsAt.nil RcsAt.nil
    rw [sameT_self] at this
    rw [← tkz_seg]
    exact this)
  have oF := adL_ok f
  have oT := adL_ok t
  have cF := adL_0 f
  have cT := adL_0 t
  have oZ := adL_ok Ad.z
  unfold tkS at IR
  simp only [Tk.z, List.length_nil] at IR HSM
  generalize adL f = F at *
  generalize adL t = G at *
  generalize adL Ad.z = Z at *
  have hc : (f.v = false) ∨ (f.v = true ∧ t.v = false) := by revert hv; cases f.v <;> simp
  generalize f.v = fv at *
  generalize t.v = tv at *
  clear hv
  refine Gives.of ?_
  have hH := Hp.refl w
  rcases hc with rfl | ⟨rfl, rfl⟩
  all_goals
    go_enter Try.func6, Try.ntmps6
    go_wp2_with (first | ((go_at_call 11; refine IR.out _ _ _ hH ?_; (clear hH; intro W sp sc rp rc D hT hD hH); (try simp only [List.cons_append, List.nil_append] at hH); ((try simp only [Act.put, pA, pB, pC])))) | ((first | (refine iL tab_ok rfl ?_ rfl hH ?_; (focus (first | exact wN rfl | exact rfl)); refine ⟨_, _, rfl, rfl, ?_⟩) | (refine iLi tab_ok rfl ?_ rfl hH ?_; (focus (first | exact wN rfl | exact rfl)); refine ⟨_, _, _, ?_, rfl, rfl, rfl, ?_, ?_⟩; rotate_left; (focus assumption)) | (refine iSR tab_ok rfl ?_ rfl hH ?_; (focus (first | exact wN rfl | exact rfl)); refine ⟨_, _, _, _, rfl, rfl, rfl, rfl, rfl, ?_, ?_⟩; (focus (repeat (first | exact trivial | assumption | exact OkA.z (by kernel_rfl) (by kernel_rfl) | refine ⟨rfl, ?_⟩ | refine ⟨?_, ?_⟩)))) | (refine hAl tab_ok rfl ?_ hH rfl ?_; (focus (first | exact wN rfl | exact rfl))) | (refine hBx rfl ?_ rfl hH ?_ ?_; (focus (first | exact wN rfl | exact rfl)); (focus (repeat (first | exact trivial | assumption | exact OkA.z (by kernel_rfl) (by kernel_rfl) | refine ⟨rfl, ?_⟩ | refine ⟨?_, ?_⟩)))) | (refine hBd tab_ok rfl ?_ rfl rfl rfl hH ?_; (focus (first | exact wN rfl | exact rfl)); refine ⟨?_, ?_, ?_⟩; rotate_left; (focus (repeat (first | exact BR.nil | refine BR.one rfl rfl rfl ?_ | (refine BR.row rfl rfl rfl rfl ?_ ?_; (focus (repeat (first | exact trivial | assumption | exact OkA.z (by kernel_rfl) (by kernel_rfl) | refine ⟨rfl, ?_⟩ | refine ⟨?_, ?_⟩)))))))) | ((with_reducible refine callH hH ?_); refine ⟨?_, ?_, ?_⟩; rotate_left; (focus (first | (with_reducible exact fc _) | (with_reducible exact lives09) | ((refine HSM.out _ _ _ _ _ _ ?_ ?_ ?_ hH; rotate_left; (focus assumption); exact SubI.h)))))); clear hH; (first | intro W g hH | intro W hH); ((try simp only [Act.put, pA, pB, pC]))))
    go_ret
    exact ⟨rfl, hH.below⟩
set_option maxHeartbeats 16000000 in
theorem mldReads_yes (hv : (f.v && t.v) = true) : Gives Try.prog 6 #[.string s, .agg (fls [.many (adL f) 17]).toArray, .agg (fls [.many (adL t) 17]).toArray] w (.bool true) := by
  have fc : ∀ w, Gives Try.prog 19 #[.string s, .int .i64 200] w (.string (s.extract 0 200)) := fun w => cut_any
  have hs : (s.extract 0 200).size ≤ 200 := cut_size s 200
  generalize s.extract 0 200 = S at *
  have IR := Lib.hid (fun (W : World) (H : HB) (Q : Ending → World → Prop) hH hQ => hVRead (s := S) (f := f) (t := t) (B := w.heap.size) (w0 := w) (W := W) (H := H) (Q := Q) (by omega) hv hH hQ)
  have RR := Lib.hid (fun (W : World) (H : HB) (Q : Ending → World → Prop) hH hQ => hRRead (s := S) (f := f) (t := t) (B := w.heap.size) (w0 := w) (W := W) (H := H) (Q := Q) (by omega) hH hQ)
  have his : ∀ w, Gives Try.prog 18 #[.string S] w (.bool (isF S)) := fun w => vIs_any
  have hG := rReadF_good (s := S) (f := f) (t := t) (by omega)
  have hcs := isF_cases S
  generalize (rReadF f t S).2 = ec at *
  generalize (rReadF f t S).1 = T at *
  have HSM := Lib.hid (show ∀ (W : World) (H : HB) sp sc rp rc sp' sc' rp' rc' D D', Hid (TkIn D sp rp T) → SubH H D → Hid (TkIn D' sp' rp' T) → SubH H D' → Hp w.heap.size w W H → Gives Try.prog 13 #[.agg (fls (tkS T sp sc rp rc)).toArray, .agg (fls (tkS T sp' sc' rp' rc')).toArray] W (.bool true) from fun W H sp sc rp rc sp' sc' rp' rc' D D' hD hs hD' hs' hH => by
    have h := hD.out _ _ _ (hH.sub hs)
    have h' := hD'.out _ _ _ (hH.sub hs')
    have := same_any (sc := sc) (rc := rc) (sc' := sc') (rc' := rc') h.1 h.2 h'.1 h'.2
    rwa [sameT_self] at this)
  have HGD := Lib.hid (show ∀ (W : World) (H : HB) sp sc rp rc D, Hid (TkIn D sp rp T) → SubH H D → Hp w.heap.size w W H → Gives Try.prog 17 #[.agg (fls (tkS T sp sc rp rc)).toArray] W (.bool (good6 T)) from fun W H sp sc rp rc D hD hs hH => by
    have h := hD.out _ _ _ (hH.sub hs)
    exact vGood_any h.1 h.2)
  generalize good6 T = gd at *
  obtain ⟨v6, ver, kind, resp, GG, quiet, rob, every, src, recs⟩ := T
  unfold tkS at IR RR HSM HGD
  simp only at IR RR HSM HGD
  have oG := adL_ok GG
  generalize adL GG = Y at *
  have oF := adL_ok f
  have oT := adL_ok t
  have cF := adL_0 f
  have cT := adL_0 t
  generalize adL f = F at *
  generalize adL t = G at *
  obtain ⟨h1, h2⟩ : f.v = true ∧ t.v = true := by simpa using hv
  rw [h1] at cF
  rw [h2] at cT
  clear hv hs h1 h2
  generalize isF S = iz at *
  refine Gives.of ?_
  have hH := Hp.refl w
  by_cases hz : ec = 0
  · subst hz
    obtain rfl := hG rfl
    rcases hcs with ⟨hz0, rfl⟩ | ⟨hz1, ⟨hx, rfl⟩ | ⟨hx, rfl⟩ | ⟨hx, rfl⟩ | ⟨hx, rfl⟩ | ⟨n1, n2, n3, n4, rfl⟩⟩
    · have d0 : decide ((0 : Int) < (S.size : Int)) = false := decide_eq_false (by omega)
      have d1 : decide (0 < S.size) = false := decide_eq_false (by omega)
      clear d0
      go_enter Try.func6, Try.ntmps6
      go_wp2_with (first | ((go_at_call 11; refine IR.out _ _ _ hH ?_; (clear hH; intro W sp sc rp rc D hT hD hH); (try simp only [List.cons_append, List.nil_append] at hH); ((try simp only [Act.put, pA, pB, pC])))) | ((go_at_call 12; refine RR.out _ _ _ hH ?_; (clear hH; intro W sp2 sc2 rp2 rc2 D2 hT2 hD2 hH); (try simp only [List.cons_append, List.nil_append, List.append_assoc] at hH); ((try simp only [Act.put, pA, pB, pC])))) | ((first | (refine iL tab_ok rfl ?_ rfl hH ?_; (focus (first | exact wN rfl | exact rfl)); refine ⟨_, _, rfl, rfl, ?_⟩) | (refine iLi tab_ok rfl ?_ rfl hH ?_; (focus (first | exact wN rfl | exact rfl)); refine ⟨_, _, _, ?_, rfl, rfl, rfl, ?_, ?_⟩; rotate_left; (focus assumption)) | (refine iSR tab_ok rfl ?_ rfl hH ?_; (focus (first | exact wN rfl | exact rfl)); refine ⟨_, _, _, _, rfl, rfl, rfl, rfl, rfl, ?_, ?_⟩; (focus (repeat (first | exact trivial | assumption | exact OkA.z (by kernel_rfl) (by kernel_rfl) | refine ⟨rfl, ?_⟩ | refine ⟨?_, ?_⟩)))) | (refine hAl tab_ok rfl ?_ hH rfl ?_; (focus (first | exact wN rfl | exact rfl))) | (refine hBx rfl ?_ rfl hH ?_ ?_; (focus (first | exact wN rfl | exact rfl)); (focus (repeat (first | exact trivial | assumption | exact OkA.z (by kernel_rfl) (by kernel_rfl) | refine ⟨rfl, ?_⟩ | refine ⟨?_, ?_⟩)))) | ((with_reducible refine callH hH ?_); refine ⟨?_, ?_, ?_⟩; rotate_left; (focus (first | (with_reducible exact fc _) | (with_reducible exact his _) | (with_reducible exact lives09) | ((refine HSM.out _ _ _ _ _ _ _ _ _ _ ?_ ?_ ?_ ?_ ?_ ?_ hH; rotate_left 2; (focus assumption); (focus (exact SubI.h)); (focus assumption); exact SubI.h)) | ((refine HGD.out _ _ _ _ _ _ ?_ ?_ ?_ hH; rotate_left; (focus assumption); exact SubI.h)))))); clear hH; (first | intro W g hH | intro W hH); ((try simp only [Act.put, pA, pB, pC]))))
      go_ret
      exact ⟨by simp, hH.below⟩
    · have d0 : decide ((0 : Int) < (S.size : Int)) = true := decide_eq_true (by omega)
      have a0 : ((S[0].toNat : Int) == 130) = true := by rw [isB_get hz1, hx]; rfl
      clear hx
      go_enter Try.func6, Try.ntmps6
      go_wp2_with (first | ((go_at_call 11; refine IR.out _ _ _ hH ?_; (clear hH; intro W sp sc rp rc D hT hD hH); (try simp only [List.cons_append, List.nil_append] at hH); ((try simp only [Act.put, pA, pB, pC])))) | ((go_at_call 12; refine RR.out _ _ _ hH ?_; (clear hH; intro W sp2 sc2 rp2 rc2 D2 hT2 hD2 hH); (try simp only [List.cons_append, List.nil_append, List.append_assoc] at hH); ((try simp only [Act.put, pA, pB, pC])))) | ((first | (refine iL tab_ok rfl ?_ rfl hH ?_; (focus (first | exact wN rfl | exact rfl)); refine ⟨_, _, rfl, rfl, ?_⟩) | (refine iLi tab_ok rfl ?_ rfl hH ?_; (focus (first | exact wN rfl | exact rfl)); refine ⟨_, _, _, ?_, rfl, rfl, rfl, ?_, ?_⟩; rotate_left; (focus assumption)) | (refine iSR tab_ok rfl ?_ rfl hH ?_; (focus (first | exact wN rfl | exact rfl)); refine ⟨_, _, _, _, rfl, rfl, rfl, rfl, rfl, ?_, ?_⟩; (focus (repeat (first | exact trivial | assumption | exact OkA.z (by kernel_rfl) (by kernel_rfl) | refine ⟨rfl, ?_⟩ | refine ⟨?_, ?_⟩)))) | (refine hAl tab_ok rfl ?_ hH rfl ?_; (focus (first | exact wN rfl | exact rfl))) | (refine hBx rfl ?_ rfl hH ?_ ?_; (focus (first | exact wN rfl | exact rfl)); (focus (repeat (first | exact trivial | assumption | exact OkA.z (by kernel_rfl) (by kernel_rfl) | refine ⟨rfl, ?_⟩ | refine ⟨?_, ?_⟩)))) | ((with_reducible refine callH hH ?_); refine ⟨?_, ?_, ?_⟩; rotate_left; (focus (first | (with_reducible exact fc _) | (with_reducible exact his _) | (with_reducible exact lives09) | ((refine HSM.out _ _ _ _ _ _ _ _ _ _ ?_ ?_ ?_ ?_ ?_ ?_ hH; rotate_left 2; (focus assumption); (focus (exact SubI.h)); (focus assumption); exact SubI.h)) | ((refine HGD.out _ _ _ _ _ _ ?_ ?_ ?_ hH; rotate_left; (focus assumption); exact SubI.h)))))); clear hH; (first | intro W g hH | intro W hH); ((try simp only [Act.put, pA, pB, pC]))))
      go_ret
      exact ⟨by simp, hH.below⟩
    · have d0 : decide ((0 : Int) < (S.size : Int)) = true := decide_eq_true (by omega)
      have a0 : ((S[0].toNat : Int) == 130) = false := by rw [isB_get hz1, hx]; rfl
      have a1 : ((S[0].toNat : Int) == 131) = true := by rw [isB_get hz1, hx]; rfl
      clear hx
      go_enter Try.func6, Try.ntmps6
      go_wp2_with (first | ((go_at_call 11; refine IR.out _ _ _ hH ?_; (clear hH; intro W sp sc rp rc D hT hD hH); (try simp only [List.cons_append, List.nil_append] at hH); ((try simp only [Act.put, pA, pB, pC])))) | ((go_at_call 12; refine RR.out _ _ _ hH ?_; (clear hH; intro W sp2 sc2 rp2 rc2 D2 hT2 hD2 hH); (try simp only [List.cons_append, List.nil_append, List.append_assoc] at hH); ((try simp only [Act.put, pA, pB, pC])))) | ((first | (refine iL tab_ok rfl ?_ rfl hH ?_; (focus (first | exact wN rfl | exact rfl)); refine ⟨_, _, rfl, rfl, ?_⟩) | (refine iLi tab_ok rfl ?_ rfl hH ?_; (focus (first | exact wN rfl | exact rfl)); refine ⟨_, _, _, ?_, rfl, rfl, rfl, ?_, ?_⟩; rotate_left; (focus assumption)) | (refine iSR tab_ok rfl ?_ rfl hH ?_; (focus (first | exact wN rfl | exact rfl)); refine ⟨_, _, _, _, rfl, rfl, rfl, rfl, rfl, ?_, ?_⟩; (focus (repeat (first | exact trivial | assumption | exact OkA.z (by kernel_rfl) (by kernel_rfl) | refine ⟨rfl, ?_⟩ | refine ⟨?_, ?_⟩)))) | (refine hAl tab_ok rfl ?_ hH rfl ?_; (focus (first | exact wN rfl | exact rfl))) | (refine hBx rfl ?_ rfl hH ?_ ?_; (focus (first | exact wN rfl | exact rfl)); (focus (repeat (first | exact trivial | assumption | exact OkA.z (by kernel_rfl) (by kernel_rfl) | refine ⟨rfl, ?_⟩ | refine ⟨?_, ?_⟩)))) | ((with_reducible refine callH hH ?_); refine ⟨?_, ?_, ?_⟩; rotate_left; (focus (first | (with_reducible exact fc _) | (with_reducible exact his _) | (with_reducible exact lives09) | ((refine HSM.out _ _ _ _ _ _ _ _ _ _ ?_ ?_ ?_ ?_ ?_ ?_ hH; rotate_left 2; (focus assumption); (focus (exact SubI.h)); (focus assumption); exact SubI.h)) | ((refine HGD.out _ _ _ _ _ _ ?_ ?_ ?_ hH; rotate_left; (focus assumption); exact SubI.h)))))); clear hH; (first | intro W g hH | intro W hH); ((try simp only [Act.put, pA, pB, pC]))))
      go_ret
      exact ⟨by simp, hH.below⟩
    · have d0 : decide ((0 : Int) < (S.size : Int)) = true := decide_eq_true (by omega)
      have a0 : ((S[0].toNat : Int) == 130) = false := by rw [isB_get hz1, hx]; rfl
      have a1 : ((S[0].toNat : Int) == 131) = false := by rw [isB_get hz1, hx]; rfl
      have a2 : ((S[0].toNat : Int) == 132) = true := by rw [isB_get hz1, hx]; rfl
      clear hx
      go_enter Try.func6, Try.ntmps6
      go_wp2_with (first | ((go_at_call 11; refine IR.out _ _ _ hH ?_; (clear hH; intro W sp sc rp rc D hT hD hH); (try simp only [List.cons_append, List.nil_append] at hH); ((try simp only [Act.put, pA, pB, pC])))) | ((go_at_call 12; refine RR.out _ _ _ hH ?_; (clear hH; intro W sp2 sc2 rp2 rc2 D2 hT2 hD2 hH); (try simp only [List.cons_append, List.nil_append, List.append_assoc] at hH); ((try simp only [Act.put, pA, pB, pC])))) | ((first | (refine iL tab_ok rfl ?_ rfl hH ?_; (focus (first | exact wN rfl | exact rfl)); refine ⟨_, _, rfl, rfl, ?_⟩) | (refine iLi tab_ok rfl ?_ rfl hH ?_; (focus (first | exact wN rfl | exact rfl)); refine ⟨_, _, _, ?_, rfl, rfl, rfl, ?_, ?_⟩; rotate_left; (focus assumption)) | (refine iSR tab_ok rfl ?_ rfl hH ?_; (focus (first | exact wN rfl | exact rfl)); refine ⟨_, _, _, _, rfl, rfl, rfl, rfl, rfl, ?_, ?_⟩; (focus (repeat (first | exact trivial | assumption | exact OkA.z (by kernel_rfl) (by kernel_rfl) | refine ⟨rfl, ?_⟩ | refine ⟨?_, ?_⟩)))) | (refine hAl tab_ok rfl ?_ hH rfl ?_; (focus (first | exact wN rfl | exact rfl))) | (refine hBx rfl ?_ rfl hH ?_ ?_; (focus (first | exact wN rfl | exact rfl)); (focus (repeat (first | exact trivial | assumption | exact OkA.z (by kernel_rfl) (by kernel_rfl) | refine ⟨rfl, ?_⟩ | refine ⟨?_, ?_⟩)))) | ((with_reducible refine callH hH ?_); refine ⟨?_, ?_, ?_⟩; rotate_left; (focus (first | (with_reducible exact fc _) | (with_reducible exact his _) | (with_reducible exact lives09) | ((refine HSM.out _ _ _ _ _ _ _ _ _ _ ?_ ?_ ?_ ?_ ?_ ?_ hH; rotate_left 2; (focus assumption); (focus (exact SubI.h)); (focus assumption); exact SubI.h)) | ((refine HGD.out _ _ _ _ _ _ ?_ ?_ ?_ hH; rotate_left; (focus assumption); exact SubI.h)))))); clear hH; (first | intro W g hH | intro W hH); ((try simp only [Act.put, pA, pB, pC]))))
      go_ret
      exact ⟨by simp, hH.below⟩
    · have d0 : decide ((0 : Int) < (S.size : Int)) = true := decide_eq_true (by omega)
      have a0 : ((S[0].toNat : Int) == 130) = false := by rw [isB_get hz1, hx]; rfl
      have a1 : ((S[0].toNat : Int) == 131) = false := by rw [isB_get hz1, hx]; rfl
      have a2 : ((S[0].toNat : Int) == 132) = false := by rw [isB_get hz1, hx]; rfl
      have a3 : ((S[0].toNat : Int) == 143) = true := by rw [isB_get hz1, hx]; rfl
      clear hx
      go_enter Try.func6, Try.ntmps6
      go_wp2_with (first | ((go_at_call 11; refine IR.out _ _ _ hH ?_; (clear hH; intro W sp sc rp rc D hT hD hH); (try simp only [List.cons_append, List.nil_append] at hH); ((try simp only [Act.put, pA, pB, pC])))) | ((go_at_call 12; refine RR.out _ _ _ hH ?_; (clear hH; intro W sp2 sc2 rp2 rc2 D2 hT2 hD2 hH); (try simp only [List.cons_append, List.nil_append, List.append_assoc] at hH); ((try simp only [Act.put, pA, pB, pC])))) | ((first | (refine iL tab_ok rfl ?_ rfl hH ?_; (focus (first | exact wN rfl | exact rfl)); refine ⟨_, _, rfl, rfl, ?_⟩) | (refine iLi tab_ok rfl ?_ rfl hH ?_; (focus (first | exact wN rfl | exact rfl)); refine ⟨_, _, _, ?_, rfl, rfl, rfl, ?_, ?_⟩; rotate_left; (focus assumption)) | (refine iSR tab_ok rfl ?_ rfl hH ?_; (focus (first | exact wN rfl | exact rfl)); refine ⟨_, _, _, _, rfl, rfl, rfl, rfl, rfl, ?_, ?_⟩; (focus (repeat (first | exact trivial | assumption | exact OkA.z (by kernel_rfl) (by kernel_rfl) | refine ⟨rfl, ?_⟩ | refine ⟨?_, ?_⟩)))) | (refine hAl tab_ok rfl ?_ hH rfl ?_; (focus (first | exact wN rfl | exact rfl))) | (refine hBx rfl ?_ rfl hH ?_ ?_; (focus (first | exact wN rfl | exact rfl)); (focus (repeat (first | exact trivial | assumption | exact OkA.z (by kernel_rfl) (by kernel_rfl) | refine ⟨rfl, ?_⟩ | refine ⟨?_, ?_⟩)))) | ((with_reducible refine callH hH ?_); refine ⟨?_, ?_, ?_⟩; rotate_left; (focus (first | (with_reducible exact fc _) | (with_reducible exact his _) | (with_reducible exact lives09) | ((refine HSM.out _ _ _ _ _ _ _ _ _ _ ?_ ?_ ?_ ?_ ?_ ?_ hH; rotate_left 2; (focus assumption); (focus (exact SubI.h)); (focus assumption); exact SubI.h)) | ((refine HGD.out _ _ _ _ _ _ ?_ ?_ ?_ hH; rotate_left; (focus assumption); exact SubI.h)))))); clear hH; (first | intro W g hH | intro W hH); ((try simp only [Act.put, pA, pB, pC]))))
      go_ret
      exact ⟨by simp, hH.below⟩
    · have d0 : decide ((0 : Int) < (S.size : Int)) = true := decide_eq_true (by omega)
      have a0 : ((S[0].toNat : Int) == 130) = false := by rw [isB_get hz1]; simp; omega
      have a1 : ((S[0].toNat : Int) == 131) = false := by rw [isB_get hz1]; simp; omega
      have a2 : ((S[0].toNat : Int) == 132) = false := by rw [isB_get hz1]; simp; omega
      have a3 : ((S[0].toNat : Int) == 143) = false := by rw [isB_get hz1]; simp; omega
      clear n1 n2 n3 n4
      go_enter Try.func6, Try.ntmps6
      go_wp2_with (first | ((go_at_call 11; refine IR.out _ _ _ hH ?_; (clear hH; intro W sp sc rp rc D hT hD hH); (try simp only [List.cons_append, List.nil_append] at hH); ((try simp only [Act.put, pA, pB, pC])))) | ((go_at_call 12; refine RR.out _ _ _ hH ?_; (clear hH; intro W sp2 sc2 rp2 rc2 D2 hT2 hD2 hH); (try simp only [List.cons_append, List.nil_append, List.append_assoc] at hH); ((try simp only [Act.put, pA, pB, pC])))) | ((first | (refine iL tab_ok rfl ?_ rfl hH ?_; (focus (first | exact wN rfl | exact rfl)); refine ⟨_, _, rfl, rfl, ?_⟩) | (refine iLi tab_ok rfl ?_ rfl hH ?_; (focus (first | exact wN rfl | exact rfl)); refine ⟨_, _, _, ?_, rfl, rfl, rfl, ?_, ?_⟩; rotate_left; (focus assumption)) | (refine iSR tab_ok rfl ?_ rfl hH ?_; (focus (first | exact wN rfl | exact rfl)); refine ⟨_, _, _, _, rfl, rfl, rfl, rfl, rfl, ?_, ?_⟩; (focus (repeat (first | exact trivial | assumption | exact OkA.z (by kernel_rfl) (by kernel_rfl) | refine ⟨rfl, ?_⟩ | refine ⟨?_, ?_⟩)))) | (refine hAl tab_ok rfl ?_ hH rfl ?_; (focus (first | exact wN rfl | exact rfl))) | (refine hBx rfl ?_ rfl hH ?_ ?_; (focus (first | exact wN rfl | exact rfl)); (focus (repeat (first | exact trivial | assumption | exact OkA.z (by kernel_rfl) (by kernel_rfl) | refine ⟨rfl, ?_⟩ | refine ⟨?_, ?_⟩)))) | ((with_reducible refine callH hH ?_); refine ⟨?_, ?_, ?_⟩; rotate_left; (focus (first | (with_reducible exact fc _) | (with_reducible exact his _) | (with_reducible exact lives09) | ((refine HSM.out _ _ _ _ _ _ _ _ _ _ ?_ ?_ ?_ ?_ ?_ ?_ hH; rotate_left 2; (focus assumption); (focus (exact SubI.h)); (focus assumption); exact SubI.h)) | ((refine HGD.out _ _ _ _ _ _ ?_ ?_ ?_ hH; rotate_left; (focus assumption); exact SubI.h)))))); clear hH; (first | intro W g hH | intro W hH); ((try simp only [Act.put, pA, pB, pC]))))
      go_ret
      exact ⟨by simp, hH.below⟩
  · have dz : (ec != 0) = true := by simpa using hz
    clear hG HGD
    rcases hcs with ⟨hz0, rfl⟩ | ⟨hz1, ⟨hx, rfl⟩ | ⟨hx, rfl⟩ | ⟨hx, rfl⟩ | ⟨hx, rfl⟩ | ⟨n1, n2, n3, n4, rfl⟩⟩
    · have d0 : decide ((0 : Int) < (S.size : Int)) = false := decide_eq_false (by omega)
      have d1 : decide (0 < S.size) = false := decide_eq_false (by omega)
      clear d0
      go_enter Try.func6, Try.ntmps6
      go_wp2_with (first | ((go_at_call 11; refine IR.out _ _ _ hH ?_; (clear hH; intro W sp sc rp rc D hT hD hH); (try simp only [List.cons_append, List.nil_append] at hH); ((try simp only [Act.put, pA, pB, pC])))) | ((go_at_call 12; refine RR.out _ _ _ hH ?_; (clear hH; intro W sp2 sc2 rp2 rc2 D2 hT2 hD2 hH); (try simp only [List.cons_append, List.nil_append, List.append_assoc] at hH); ((try simp only [Act.put, pA, pB, pC])))) | ((first | (refine iL tab_ok rfl ?_ rfl hH ?_; (focus (first | exact wN rfl | exact rfl)); refine ⟨_, _, rfl, rfl, ?_⟩) | (refine iLi tab_ok rfl ?_ rfl hH ?_; (focus (first | exact wN rfl | exact rfl)); refine ⟨_, _, _, ?_, rfl, rfl, rfl, ?_, ?_⟩; rotate_left; (focus assumption)) | (refine iSR tab_ok rfl ?_ rfl hH ?_; (focus (first | exact wN rfl | exact rfl)); refine ⟨_, _, _, _, rfl, rfl, rfl, rfl, rfl, ?_, ?_⟩; (focus (repeat (first | exact trivial | assumption | exact OkA.z (by kernel_rfl) (by kernel_rfl) | refine ⟨rfl, ?_⟩ | refine ⟨?_, ?_⟩)))) | (refine hAl tab_ok rfl ?_ hH rfl ?_; (focus (first | exact wN rfl | exact rfl))) | (refine hBx rfl ?_ rfl hH ?_ ?_; (focus (first | exact wN rfl | exact rfl)); (focus (repeat (first | exact trivial | assumption | exact OkA.z (by kernel_rfl) (by kernel_rfl) | refine ⟨rfl, ?_⟩ | refine ⟨?_, ?_⟩)))) | ((with_reducible refine callH hH ?_); refine ⟨?_, ?_, ?_⟩; rotate_left; (focus (first | (with_reducible exact fc _) | (with_reducible exact his _) | (with_reducible exact lives09) | ((refine HSM.out _ _ _ _ _ _ _ _ _ _ ?_ ?_ ?_ ?_ ?_ ?_ hH; rotate_left 2; (focus assumption); (focus (exact SubI.h)); (focus assumption); exact SubI.h)))))); clear hH; (first | intro W g hH | intro W hH); ((try simp only [Act.put, pA, pB, pC]))))
      go_ret
      exact ⟨by simp, hH.below⟩
    · have d0 : decide ((0 : Int) < (S.size : Int)) = true := decide_eq_true (by omega)
      have a0 : ((S[0].toNat : Int) == 130) = true := by rw [isB_get hz1, hx]; rfl
      clear hx
      go_enter Try.func6, Try.ntmps6
      go_wp2_with (first | ((go_at_call 11; refine IR.out _ _ _ hH ?_; (clear hH; intro W sp sc rp rc D hT hD hH); (try simp only [List.cons_append, List.nil_append] at hH); ((try simp only [Act.put, pA, pB, pC])))) | ((go_at_call 12; refine RR.out _ _ _ hH ?_; (clear hH; intro W sp2 sc2 rp2 rc2 D2 hT2 hD2 hH); (try simp only [List.cons_append, List.nil_append, List.append_assoc] at hH); ((try simp only [Act.put, pA, pB, pC])))) | ((first | (refine iL tab_ok rfl ?_ rfl hH ?_; (focus (first | exact wN rfl | exact rfl)); refine ⟨_, _, rfl, rfl, ?_⟩) | (refine iLi tab_ok rfl ?_ rfl hH ?_; (focus (first | exact wN rfl | exact rfl)); refine ⟨_, _, _, ?_, rfl, rfl, rfl, ?_, ?_⟩; rotate_left; (focus assumption)) | (refine iSR tab_ok rfl ?_ rfl hH ?_; (focus (first | exact wN rfl | exact rfl)); refine ⟨_, _, _, _, rfl, rfl, rfl, rfl, rfl, ?_, ?_⟩; (focus (repeat (first | exact trivial | assumption | exact OkA.z (by kernel_rfl) (by kernel_rfl) | refine ⟨rfl, ?_⟩ | refine ⟨?_, ?_⟩)))) | (refine hAl tab_ok rfl ?_ hH rfl ?_; (focus (first | exact wN rfl | exact rfl))) | (refine hBx rfl ?_ rfl hH ?_ ?_; (focus (first | exact wN rfl | exact rfl)); (focus (repeat (first | exact trivial | assumption | exact OkA.z (by kernel_rfl) (by kernel_rfl) | refine ⟨rfl, ?_⟩ | refine ⟨?_, ?_⟩)))) | ((with_reducible refine callH hH ?_); refine ⟨?_, ?_, ?_⟩; rotate_left; (focus (first | (with_reducible exact fc _) | (with_reducible exact his _) | (with_reducible exact lives09) | ((refine HSM.out _ _ _ _ _ _ _ _ _ _ ?_ ?_ ?_ ?_ ?_ ?_ hH; rotate_left 2; (focus assumption); (focus (exact SubI.h)); (focus assumption); exact SubI.h)))))); clear hH; (first | intro W g hH | intro W hH); ((try simp only [Act.put, pA, pB, pC]))))
      go_ret
      exact ⟨by simp, hH.below⟩
    · have d0 : decide ((0 : Int) < (S.size : Int)) = true := decide_eq_true (by omega)
      have a0 : ((S[0].toNat : Int) == 130) = false := by rw [isB_get hz1, hx]; rfl
      have a1 : ((S[0].toNat : Int) == 131) = true := by rw [isB_get hz1, hx]; rfl
      clear hx
      go_enter Try.func6, Try.ntmps6
      go_wp2_with (first | ((go_at_call 11; refine IR.out _ _ _ hH ?_; (clear hH; intro W sp sc rp rc D hT hD hH); (try simp only [List.cons_append, List.nil_append] at hH); ((try simp only [Act.put, pA, pB, pC])))) | ((go_at_call 12; refine RR.out _ _ _ hH ?_; (clear hH; intro W sp2 sc2 rp2 rc2 D2 hT2 hD2 hH); (try simp only [List.cons_append, List.nil_append, List.append_assoc] at hH); ((try simp only [Act.put, pA, pB, pC])))) | ((first | (refine iL tab_ok rfl ?_ rfl hH ?_; (focus (first | exact wN rfl | exact rfl)); refine ⟨_, _, rfl, rfl, ?_⟩) | (refine iLi tab_ok rfl ?_ rfl hH ?_; (focus (first | exact wN rfl | exact rfl)); refine ⟨_, _, _, ?_, rfl, rfl, rfl, ?_, ?_⟩; rotate_left; (focus assumption)) | (refine iSR tab_ok rfl ?_ rfl hH ?_; (focus (first | exact wN rfl | exact rfl)); refine ⟨_, _, _, _, rfl, rfl, rfl, rfl, rfl, ?_, ?_⟩; (focus (repeat (first | exact trivial | assumption | exact OkA.z (by kernel_rfl) (by kernel_rfl) | refine ⟨rfl, ?_⟩ | refine ⟨?_, ?_⟩)))) | (refine hAl tab_ok rfl ?_ hH rfl ?_; (focus (first | exact wN rfl | exact rfl))) | (refine hBx rfl ?_ rfl hH ?_ ?_; (focus (first | exact wN rfl | exact rfl)); (focus (repeat (first | exact trivial | assumption | exact OkA.z (by kernel_rfl) (by kernel_rfl) | refine ⟨rfl, ?_⟩ | refine ⟨?_, ?_⟩)))) | ((with_reducible refine callH hH ?_); refine ⟨?_, ?_, ?_⟩; rotate_left; (focus (first | (with_reducible exact fc _) | (with_reducible exact his _) | (with_reducible exact lives09) | ((refine HSM.out _ _ _ _ _ _ _ _ _ _ ?_ ?_ ?_ ?_ ?_ ?_ hH; rotate_left 2; (focus assumption); (focus (exact SubI.h)); (focus assumption); exact SubI.h)))))); clear hH; (first | intro W g hH | intro W hH); ((try simp only [Act.put, pA, pB, pC]))))
      go_ret
      exact ⟨by simp, hH.below⟩
    · have d0 : decide ((0 : Int) < (S.size : Int)) = true := decide_eq_true (by omega)
      have a0 : ((S[0].toNat : Int) == 130) = false := by rw [isB_get hz1, hx]; rfl
      have a1 : ((S[0].toNat : Int) == 131) = false := by rw [isB_get hz1, hx]; rfl
      have a2 : ((S[0].toNat : Int) == 132) = true := by rw [isB_get hz1, hx]; rfl
      clear hx
      go_enter Try.func6, Try.ntmps6
      go_wp2_with (first | ((go_at_call 11; refine IR.out _ _ _ hH ?_; (clear hH; intro W sp sc rp rc D hT hD hH); (try simp only [List.cons_append, List.nil_append] at hH); ((try simp only [Act.put, pA, pB, pC])))) | ((go_at_call 12; refine RR.out _ _ _ hH ?_; (clear hH; intro W sp2 sc2 rp2 rc2 D2 hT2 hD2 hH); (try simp only [List.cons_append, List.nil_append, List.append_assoc] at hH); ((try simp only [Act.put, pA, pB, pC])))) | ((first | (refine iL tab_ok rfl ?_ rfl hH ?_; (focus (first | exact wN rfl | exact rfl)); refine ⟨_, _, rfl, rfl, ?_⟩) | (refine iLi tab_ok rfl ?_ rfl hH ?_; (focus (first | exact wN rfl | exact rfl)); refine ⟨_, _, _, ?_, rfl, rfl, rfl, ?_, ?_⟩; rotate_left; (focus assumption)) | (refine iSR tab_ok rfl ?_ rfl hH ?_; (focus (first | exact wN rfl | exact rfl)); refine ⟨_, _, _, _, rfl, rfl, rfl, rfl, rfl, ?_, ?_⟩; (focus (repeat (first | exact trivial | assumption | exact OkA.z (by kernel_rfl) (by kernel_rfl) | refine ⟨rfl, ?_⟩ | refine ⟨?_, ?_⟩)))) | (refine hAl tab_ok rfl ?_ hH rfl ?_; (focus (first | exact wN rfl | exact rfl))) | (refine hBx rfl ?_ rfl hH ?_ ?_; (focus (first | exact wN rfl | exact rfl)); (focus (repeat (first | exact trivial | assumption | exact OkA.z (by kernel_rfl) (by kernel_rfl) | refine ⟨rfl, ?_⟩ | refine ⟨?_, ?_⟩)))) | ((with_reducible refine callH hH ?_); refine ⟨?_, ?_, ?_⟩; rotate_left; (focus (first | (with_reducible exact fc _) | (with_reducible exact his _) | (with_reducible exact lives09) | ((refine HSM.out _ _ _ _ _ _ _ _ _ _ ?_ ?_ ?_ ?_ ?_ ?_ hH; rotate_left 2; (focus assumption); (focus (exact SubI.h)); (focus assumption); exact SubI.h)))))); clear hH; (first | intro W g hH | intro W hH); ((try simp only [Act.put, pA, pB, pC]))))
      go_ret
      exact ⟨by simp, hH.below⟩
    · have d0 : decide ((0 : Int) < (S.size : Int)) = true := decide_eq_true (by omega)
      have a0 : ((S[0].toNat : Int) == 130) = false := by rw [isB_get hz1, hx]; rfl
      have a1 : ((S[0].toNat : Int) == 131) = false := by rw [isB_get hz1, hx]; rfl
      have a2 : ((S[0].toNat : Int) == 132) = false := by rw [isB_get hz1, hx]; rfl
      have a3 : ((S[0].toNat : Int) == 143) = true := by rw [isB_get hz1, hx]; rfl
      clear hx
      go_enter Try.func6, Try.ntmps6
      go_wp2_with (first | ((go_at_call 11; refine IR.out _ _ _ hH ?_; (clear hH; intro W sp sc rp rc D hT hD hH); (try simp only [List.cons_append, List.nil_append] at hH); ((try simp only [Act.put, pA, pB, pC])))) | ((go_at_call 12; refine RR.out _ _ _ hH ?_; (clear hH; intro W sp2 sc2 rp2 rc2 D2 hT2 hD2 hH); (try simp only [List.cons_append, List.nil_append, List.append_assoc] at hH); ((try simp only [Act.put, pA, pB, pC])))) | ((first | (refine iL tab_ok rfl ?_ rfl hH ?_; (focus (first | exact wN rfl | exact rfl)); refine ⟨_, _, rfl, rfl, ?_⟩) | (refine iLi tab_ok rfl ?_ rfl hH ?_; (focus (first | exact wN rfl | exact rfl)); refine ⟨_, _, _, ?_, rfl, rfl, rfl, ?_, ?_⟩; rotate_left; (focus assumption)) | (refine iSR tab_ok rfl ?_ rfl hH ?_; (focus (first | exact wN rfl | exact rfl)); refine ⟨_, _, _, _, rfl, rfl, rfl, rfl, rfl, ?_, ?_⟩; (focus (repeat (first | exact trivial | assumption | exact OkA.z (by kernel_rfl) (by kernel_rfl) | refine ⟨rfl, ?_⟩ | refine ⟨?_, ?_⟩)))) | (refine hAl tab_ok rfl ?_ hH rfl ?_; (focus (first | exact wN rfl | exact rfl))) | (refine hBx rfl ?_ rfl hH ?_ ?_; (focus (first | exact wN rfl | exact rfl)); (focus (repeat (first | exact trivial | assumption | exact OkA.z (by kernel_rfl) (by kernel_rfl) | refine ⟨rfl, ?_⟩ | refine ⟨?_, ?_⟩)))) | ((with_reducible refine callH hH ?_); refine ⟨?_, ?_, ?_⟩; rotate_left; (focus (first | (with_reducible exact fc _) | (with_reducible exact his _) | (with_reducible exact lives09) | ((refine HSM.out _ _ _ _ _ _ _ _ _ _ ?_ ?_ ?_ ?_ ?_ ?_ hH; rotate_left 2; (focus assumption); (focus (exact SubI.h)); (focus assumption); exact SubI.h)))))); clear hH; (first | intro W g hH | intro W hH); ((try simp only [Act.put, pA, pB, pC]))))
      go_ret
      exact ⟨by simp, hH.below⟩
    · have d0 : decide ((0 : Int) < (S.size : Int)) = true := decide_eq_true (by omega)
      have a0 : ((S[0].toNat : Int) == 130) = false := by rw [isB_get hz1]; simp; omega
      have a1 : ((S[0].toNat : Int) == 131) = false := by rw [isB_get hz1]; simp; omega
      have a2 : ((S[0].toNat : Int) == 132) = false := by rw [isB_get hz1]; simp; omega
      have a3 : ((S[0].toNat : Int) == 143) = false := by rw [isB_get hz1]; simp; omega
      clear n1 n2 n3 n4
      go_enter Try.func6, Try.ntmps6
      go_wp2_with (first | ((go_at_call 11; refine IR.out _ _ _ hH ?_; (clear hH; intro W sp sc rp rc D hT hD hH); (try simp only [List.cons_append, List.nil_append] at hH); ((try simp only [Act.put, pA, pB, pC])))) | ((go_at_call 12; refine RR.out _ _ _ hH ?_; (clear hH; intro W sp2 sc2 rp2 rc2 D2 hT2 hD2 hH); (try simp only [List.cons_append, List.nil_append, List.append_assoc] at hH); ((try simp only [Act.put, pA, pB, pC])))) | ((first | (refine iL tab_ok rfl ?_ rfl hH ?_; (focus (first | exact wN rfl | exact rfl)); refine ⟨_, _, rfl, rfl, ?_⟩) | (refine iLi tab_ok rfl ?_ rfl hH ?_; (focus (first | exact wN rfl | exact rfl)); refine ⟨_, _, _, ?_, rfl, rfl, rfl, ?_, ?_⟩; rotate_left; (focus assumption)) | (refine iSR tab_ok rfl ?_ rfl hH ?_; (focus (first | exact wN rfl | exact rfl)); refine ⟨_, _, _, _, rfl, rfl, rfl, rfl, rfl, ?_, ?_⟩; (focus (repeat (first | exact trivial | assumption | exact OkA.z (by kernel_rfl) (by kernel_rfl) | refine ⟨rfl, ?_⟩ | refine ⟨?_, ?_⟩)))) | (refine hAl tab_ok rfl ?_ hH rfl ?_; (focus (first | exact wN rfl | exact rfl))) | (refine hBx rfl ?_ rfl hH ?_ ?_; (focus (first | exact wN rfl | exact rfl)); (focus (repeat (first | exact trivial | assumption | exact OkA.z (by kernel_rfl) (by kernel_rfl) | refine ⟨rfl, ?_⟩ | refine ⟨?_, ?_⟩)))) | ((with_reducible refine callH hH ?_); refine ⟨?_, ?_, ?_⟩; rotate_left; (focus (first | (with_reducible exact fc _) | (with_reducible exact his _) | (with_reducible exact lives09) | ((refine HSM.out _ _ _ _ _ _ _ _ _ _ ?_ ?_ ?_ ?_ ?_ ?_ hH; rotate_left 2; (focus assumption); (focus (exact SubI.h)); (focus assumption); exact SubI.h)))))); clear hH; (first | intro W g hH | intro W hH); ((try simp only [Act.put, pA, pB, pC]))))
      go_ret
      exact ⟨by simp, hH.below⟩
end
set_option maxRecDepth 100000 in
theorem mldReads_lifted (os : Os) (started : os.Started) (H : Type) (enc : TypeId × Value → H) :
    ReturnsInHanded {} Try.checked os 6 .any (Rows.mldReadsSpec.pre6 enc Try.prog Try.f6 Rows.mldReadsRow.domain false) (Rows.mldReadsSpec.post enc Try.prog Try.f6 false true false false) := by
  refine lifted_of_walk (C := Try.checked) (tb := 4) own started (by kernel_rfl) Try.func6
    (ChangeSpec.witness6 (enc := enc) (C := Try.checked) false ⟨#[], #[.string ⟨#[]⟩, .agg (fls [.many (adL Ad.z) 17]).toArray, .agg (fls [.many (adL Ad.z) 17]).toArray], []⟩ 8 (by kernel_rfl) (by kernel_rfl) (by kernel_rfl) (by kernel_rfl))
    (by kernel_rfl) Try.underlying4 (by kernel_rfl) (by kernel_rfl) rfl ?_ ?_
  · intro ds hl
    match ds, hl with
    | [d0, d1, d2], _ => exact ⟨rfl, rfl, rfl⟩
  · intro W base args ds ps hval hA hfz
    have hA' : DataW.TrodAll enc Try.prog W 0 (fun _ => true) true Try.f6.params.toList args.toList ds ps := hA
    rw [Try.params6] at hA'
    obtain ⟨v0, vs0, d0, ds0, p0, q0, hargs0, rfl, rfl, h0, r0⟩ := trodAll_cons hA'
    obtain ⟨v1, vs1, d1, ds1, p1, q1, hargs1, rfl, rfl, h1, r1⟩ := trodAll_cons r0
    obtain ⟨v2, vs2, d2, ds2, p2, q2, hargs2, rfl, rfl, h2, r2⟩ := trodAll_cons r1
    obtain ⟨hvs, rfl, rfl⟩ := trodAll_nil r2
    obtain rfl : args = #[v0, v1, v2] := by cases args; simp_all
    have g0 := hval 0 9 v0 rfl rfl
    have g1 := hval 1 24 v1 rfl rfl
    have g2 := hval 2 24 v2 rfl rfl
    obtain ⟨s, rfl, _⟩ := open_str Try.underlying9 g0
    obtain ⟨f, rfl⟩ := ad_open g1 h1
    obtain ⟨t, rfl⟩ := ad_open g2 h2
    cases hv : (f.v && t.v)
    · exact mldReads_no hv
    · exact mldReads_yes hv
theorem mldReads_proved : Rows.MldReadsSaid :=
  OpenClaim.holds_of_wide 6 Try.f6 rfl rfl rfl rfl rfl rfl rfl ⟨rfl, rfl, rfl, rfl, rfl⟩ rfl rfl rfl rfl rfl (by kernel_rfl) Try.func6 (by kernel_rfl)
    (of_decide_eq_true (by kernel_rfl)) (by unfold Func.isWrapper; first | (rw [if_pos (by decide +kernel)]; kernel_rfl) | (rw [if_neg (by decide +kernel)]; exact ⟨rfl, rfl⟩))
    (fun os started H enc _ => mldReads_lifted os started H enc)
end Go.Proofs.Ytealimfmognglaa
