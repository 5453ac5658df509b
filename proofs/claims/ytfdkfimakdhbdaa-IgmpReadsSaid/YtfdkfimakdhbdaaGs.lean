/-
  IgmpReads: which talk any bytes are, or why none. No condition.
-/
import Derived.Test.YtfdkfimakdhbdaaGr
import Derived.Test.YtfdkfimakdhbdaaGi6
import Derived.Test.YtfdkfimakdhbdaaGp
import Derived.Test.YtfdkfimakdhbdaaSm
import Derived.Test.YtfdkfimakdhbdaaRows
import Derived.Test.YtfdkfimakdhbdaaIn
namespace Go.Proofs.Ytfdkfimakdhbdaa
-- %in
open Go.ChangeShapes Go.WideShapes Go.ChangeAt Go.RowKit
set_option linter.unusedVariables false
set_option linter.unusedSimpArgs false
set_option maxRecDepth 20000
attribute [local irreducible] wpList

theorem own : ownKnob Try.prog.godebug = none := by kernel_rfl
def lit8 : ByteArray := ⟨#[17, 100, 238, 155, 0, 0, 0, 0]⟩
theorem read_lit8 : rReadF lit8 = (⟨false, 2, 1, 100, Ad.z, false, 0, 0, [], []⟩, 0) := by kernel_rfl
section
variable {w : World} {s : ByteArray}
theorem hIRead {B : Nat} {w0 W : World} {H : HB} {Q : Ending → World → Prop} (hs : s.size ≤ 100000) (hH : Hp B w0 W H) (hQ : ∀ W' sp sc rp rc D, Hid (TkIn D sp rp (rReadF s).1) → Hid (∀ r ∈ D, r.2.2.1 = true) → Hp B w0 W' (H ++ D) → Q (.returned (.tuple #[.agg (fls (tkS (rReadF s).1 sp sc rp rc)).toArray, .int .i64 (rReadF s).2])) W') : Calls Try.prog 7 #[.string s] W Q := by
  have h := iread_any (w := W) hs
  rw [readF_is] at h
  exact h.mono fun _ _ ⟨sp, sc, rp, rc, D, he, hm, hr⟩ => by subst he; exact hQ _ sp sc rp rc D (Lib.hid hr) (Lib.hid hm.2) (hH.join hm)
theorem hRRead {B : Nat} {w0 W : World} {H : HB} {Q : Ending → World → Prop} (hs : s.size ≤ 100000) (hH : Hp B w0 W H) (hQ : ∀ W' sp sc rp rc D, Hid (TkIn D sp rp (rReadF s).1) → Hid (∀ r ∈ D, r.2.2.1 = true) → Hp B w0 W' (H ++ D) → Q (.returned (.tuple #[.agg (fls (tkS (rReadF s).1 sp sc rp rc)).toArray, .int .i64 (rReadF s).2])) W') : Calls Try.prog 8 #[.string s] W Q :=
  (rread_any hs).mono fun _ _ ⟨sp, sc, rp, rc, D, he, hm, hr⟩ => by subst he; exact hQ _ sp sc rp rc D (Lib.hid hr) (Lib.hid hm.2) (hH.join hm)
theorem lives08 : Gives Try.prog 11 #[] w (.bool true) := by
  refine Gives.of ?_
  have hH := Hp.refl w
  have IR := Lib.hid (show ∀ (W : World) (H : HB) (Q : Ending → World → Prop), Hp w.heap.size w W H → (∀ W' sp sc rp rc D, Hp w.heap.size w W' (H ++ D) → Q (.returned (.tuple #[.agg (fls [.one (.bool false), .one (.int .i64 2), .one (.int .i64 1), .one (.int .i64 100), .many (adL Ad.z) 17, .one (.bool false), .one (.int .i64 0), .one (.int .i64 0), .one (.slice sp 0 sc), .one (.slice rp 0 rc)]).toArray, .int .i64 0])) W') → Calls Try.prog 7 #[.string ⟨#[17, 100, 238, 155, 0, 0, 0, 0]⟩] W Q from fun W H Q hH hQ => by
    refine hIRead (s := lit8) (by decide) hH ?_
    rw [read_lit8]
    intro W' sp sc rp rc D _ _ h
    exact hQ W' sp sc rp rc D h)
  have oZ := adL_ok Ad.z
  generalize adL Ad.z = Z at *
  go_enter Try.func11, Try.ntmps11
  go_wp2_with (first | ((go_at_call 7; refine IR.out _ _ _ hH ?_; (clear hH; intro W sp sc rp rc D hH); (try simp only [List.cons_append, List.nil_append] at hH); ((try simp only [Act.put, pA, pB, pC])))) | ((first | (refine iL tab_ok rfl ?_ rfl hH ?_; (focus (first | exact wN rfl | exact rfl)); refine ⟨_, _, rfl, rfl, ?_⟩) | (refine iSR tab_ok rfl ?_ rfl hH ?_; (focus (first | exact wN rfl | exact rfl)); refine ⟨_, _, _, _, rfl, rfl, rfl, rfl, rfl, ?_, ?_⟩; (focus (repeat (first | exact trivial | assumption | exact OkA.z (by kernel_rfl) (by kernel_rfl) | refine ⟨rfl, ?_⟩ | refine ⟨?_, ?_⟩)))) | (refine hAl tab_ok rfl ?_ hH rfl ?_; (focus (first | exact wN rfl | exact rfl)))); clear hH; (first | intro W g hH | intro W hH); ((try simp only [Act.put, pA, pB, pC]))))
  go_ret
  exact ⟨rfl, hH.below⟩
set_option maxHeartbeats 2000000 in
theorem igmpReads_walk : Gives Try.prog 3 #[.string s] w (.bool true) := by
  have fc : ∀ w, Gives Try.prog 6 #[.string s, .int .i64 150] w (.string (s.extract 0 150)) := fun w => cut_any
  have hs : (s.extract 0 150).size ≤ 150 := cut_size s 150
  generalize s.extract 0 150 = t at *
  have IR := Lib.hid (fun (W : World) (H : HB) (Q : Ending → World → Prop) hH hQ => hIRead (s := t) (B := w.heap.size) (w0 := w) (W := W) (H := H) (Q := Q) (by omega) hH hQ)
  have RR := Lib.hid (fun (W : World) (H : HB) (Q : Ending → World → Prop) hH hQ => hRRead (s := t) (B := w.heap.size) (w0 := w) (W := W) (H := H) (Q := Q) (by omega) hH hQ)
  have hG := rReadF_good (s := t) (by omega)
  generalize (rReadF t).2 = ec at *
  generalize (rReadF t).1 = T at *
  have HSM := Lib.hid (show ∀ (W : World) sp sc rp rc sp' sc' rp' rc', AdsAt W sp T.src → RcsAt W rp T.recs → AdsAt W sp' T.src → RcsAt W rp' T.recs → Gives Try.prog 9 #[.agg (fls (tkS T sp sc rp rc)).toArray, .agg (fls (tkS T sp' sc' rp' rc')).toArray] W (.bool true) from fun W sp sc rp rc sp' sc' rp' rc' h1 h2 h3 h4 => by
    have := same_any (sc := sc) (rc := rc) (sc' := sc') (rc' := rc') h1 h2 h3 h4
    rwa [sameT_self] at this)
  have HGD := Lib.hid (show ∀ (W : World) sp sc rp rc, AdsAt W sp T.src → RcsAt W rp T.recs → Gives Try.prog 10 #[.agg (fls (tkS T sp sc rp rc)).toArray] W (.bool (good4 T)) from fun W sp sc rp rc h1 h2 => by
    have F := Lib.hid (fun W' (hb : Below W.heap.size W W') => igood_any (T := T) (sc := sc) (rc := rc) (h1.below hb) (h2.below hb))
    refine Gives.of ?_
    have hH := Hp.refl W
    clear h1 h2
    generalize good4 T = g at *
    obtain ⟨v6, ver, kind, resp, G, quiet, rob, every, src, recs⟩ := T
    unfold tkS at *
    have oG := adL_ok G
    simp only at *
    generalize adL G = Y at *
    go_enter Try.func10, Try.ntmps10
    go_wp2_with (first | ((first | (refine iL tab_ok rfl ?_ rfl hH ?_; (focus (first | exact wN rfl | exact rfl)); refine ⟨_, _, rfl, rfl, ?_⟩) | (refine hBx rfl ?_ rfl hH ?_ ?_; (focus (first | exact wN rfl | exact rfl)); (focus (repeat (first | exact trivial | assumption | exact OkA.z (by kernel_rfl) (by kernel_rfl) | refine ⟨rfl, ?_⟩ | refine ⟨?_, ?_⟩)))) | ((with_reducible refine callH hH ?_); refine ⟨?_, ?_, ?_⟩; rotate_left; (focus (first | (exact F.out _ hH.below))))); clear hH; (first | intro W g hH | intro W hH); ((try simp only [Act.put, pA, pB, pC]))))
    go_ret
    exact ⟨rfl, hH.below⟩)
  obtain ⟨v6, ver, kind, resp, G, quiet, rob, every, src, recs⟩ := T
  generalize good4 ⟨v6, ver, kind, resp, G, quiet, rob, every, src, recs⟩ = gd at *
  unfold tkS at IR RR HSM HGD
  unfold TkIn at IR RR
  simp only at IR RR HSM HGD
  have oG := adL_ok G
  generalize adL G = Y at *
  refine Gives.of ?_
  have hH := Hp.refl w
  by_cases hz : ec = 0
  · subst hz
    obtain rfl := hG rfl
    go_enter Try.func3, Try.ntmps3
    go_wp2_with (first | ((go_at_call 7; refine IR.out _ _ _ hH ?_; (clear hH; intro W sp sc rp rc D hT hD hH); (try simp only [List.cons_append, List.nil_append] at hH); ((try simp only [Act.put, pA, pB, pC])))) | ((go_at_call 8; refine RR.out _ _ _ hH ?_; (clear hH; intro W sp2 sc2 rp2 rc2 D2 hT2 hD2 hH); (try simp only [List.cons_append, List.nil_append] at hH); ((try simp only [Act.put, pA, pB, pC])))) | ((go_at_call 9; refine callH hH ⟨_, HSM.out _ _ _ _ _ _ _ _ _ (hT.out _ _ _ (hH.sub (SubH.drop (SubH.drop SubH.appL)))).1 (hT.out _ _ _ (hH.sub (SubH.drop (SubH.drop SubH.appL)))).2 (hT2.out _ _ _ (hH.sub (SubH.drop (SubH.drop SubH.appR)))).1 (hT2.out _ _ _ (hH.sub (SubH.drop (SubH.drop SubH.appR)))).2, ?_⟩; (clear hH; (first | intro W g hH | intro W hH); (try simp only [Act.put, pA, pB, pC])))) | ((go_at_call 10; refine callH hH ⟨_, HGD.out _ _ _ _ _ (hT.out _ _ _ (hH.sub (SubH.drop (SubH.drop SubH.appL)))).1 (hT.out _ _ _ (hH.sub (SubH.drop (SubH.drop SubH.appL)))).2, ?_⟩; (clear hH; (first | intro W g hH | intro W hH); (try simp only [Act.put, pA, pB, pC])))) | ((first | (refine iL tab_ok rfl ?_ rfl hH ?_; (focus (first | exact wN rfl | exact rfl)); refine ⟨_, _, rfl, rfl, ?_⟩) | (refine iSR tab_ok rfl ?_ rfl hH ?_; (focus (first | exact wN rfl | exact rfl)); refine ⟨_, _, _, _, rfl, rfl, rfl, rfl, rfl, ?_, ?_⟩; (focus (repeat (first | exact trivial | assumption | exact OkA.z (by kernel_rfl) (by kernel_rfl) | refine ⟨rfl, ?_⟩ | refine ⟨?_, ?_⟩)))) | (refine hAl tab_ok rfl ?_ hH rfl ?_; (focus (first | exact wN rfl | exact rfl))) | ((with_reducible refine callH hH ?_); refine ⟨?_, ?_, ?_⟩; rotate_left; (focus (first | (with_reducible exact fc _) | (with_reducible exact lives08))))); clear hH; (first | intro W g hH | intro W hH); ((try simp only [Act.put, pA, pB, pC]))))
    go_ret
    exact ⟨rfl, hH.below⟩
  · have dz : (ec != 0) = true := by simpa using hz
    clear hG
    go_enter Try.func3, Try.ntmps3
    go_wp2_with (first | ((go_at_call 7; refine IR.out _ _ _ hH ?_; (clear hH; intro W sp sc rp rc D hT hD hH); (try simp only [List.cons_append, List.nil_append] at hH); ((try simp only [Act.put, pA, pB, pC])))) | ((go_at_call 8; refine RR.out _ _ _ hH ?_; (clear hH; intro W sp2 sc2 rp2 rc2 D2 hT2 hD2 hH); (try simp only [List.cons_append, List.nil_append] at hH); ((try simp only [Act.put, pA, pB, pC])))) | ((go_at_call 9; refine callH hH ⟨_, HSM.out _ _ _ _ _ _ _ _ _ (hT.out _ _ _ (hH.sub (SubH.drop (SubH.drop SubH.appL)))).1 (hT.out _ _ _ (hH.sub (SubH.drop (SubH.drop SubH.appL)))).2 (hT2.out _ _ _ (hH.sub (SubH.drop (SubH.drop SubH.appR)))).1 (hT2.out _ _ _ (hH.sub (SubH.drop (SubH.drop SubH.appR)))).2, ?_⟩; (clear hH; (first | intro W g hH | intro W hH); (try simp only [Act.put, pA, pB, pC])))) | ((first | (refine iL tab_ok rfl ?_ rfl hH ?_; (focus (first | exact wN rfl | exact rfl)); refine ⟨_, _, rfl, rfl, ?_⟩) | (refine iSR tab_ok rfl ?_ rfl hH ?_; (focus (first | exact wN rfl | exact rfl)); refine ⟨_, _, _, _, rfl, rfl, rfl, rfl, rfl, ?_, ?_⟩; (focus (repeat (first | exact trivial | assumption | exact OkA.z (by kernel_rfl) (by kernel_rfl) | refine ⟨rfl, ?_⟩ | refine ⟨?_, ?_⟩)))) | (refine hAl tab_ok rfl ?_ hH rfl ?_; (focus (first | exact wN rfl | exact rfl))) | ((with_reducible refine callH hH ?_); refine ⟨?_, ?_, ?_⟩; rotate_left; (focus (first | (with_reducible exact fc _) | (with_reducible exact lives08))))); clear hH; (first | intro W g hH | intro W hH); ((try simp only [Act.put, pA, pB, pC]))))
    go_ret
    exact ⟨by simp, hH.below⟩
end
set_option maxRecDepth 100000 in
theorem igmpReads_lifted (os : Os) (started : os.Started) (H : Type) (enc : TypeId × Value → H) :
    ReturnsInHanded {} Try.checked os 3 .any (Rows.igmpReadsSpec.pre6 enc Try.prog Try.f3 Rows.igmpReadsRow.domain false) (Rows.igmpReadsSpec.post enc Try.prog Try.f3 false true false false) := by
  refine lifted_of_walk (C := Try.checked) (tb := 4) own started (by kernel_rfl) Try.func3
    (ChangeSpec.witness6 (enc := enc) (C := Try.checked) false ⟨#[], #[.string ⟨#[]⟩], []⟩ 8 (by kernel_rfl) (by kernel_rfl) (by kernel_rfl) (by kernel_rfl))
    (by kernel_rfl) Try.underlying4 (by kernel_rfl) (by kernel_rfl) rfl ?_ ?_
  · intro ds hl
    match ds, hl with
    | [d0], _ => exact ⟨rfl, rfl, rfl⟩
  · intro W base args ds ps hval hA hfz
    have hA' : DataW.TrodAll enc Try.prog W 0 (fun _ => true) true Try.f3.params.toList args.toList ds ps := hA
    rw [Try.params3] at hA'
    obtain ⟨v0, vs0, d0, ds0, p0, q0, hargs0, rfl, rfl, h0, r0⟩ := trodAll_cons hA'
    obtain ⟨hvs, rfl, rfl⟩ := trodAll_nil r0
    obtain rfl : args = #[v0] := by cases args; simp_all
    have g0 := hval 0 9 v0 rfl rfl
    obtain ⟨s, rfl, _⟩ := open_str Try.underlying9 g0
    exact igmpReads_walk
theorem igmpReads_proved : Rows.IgmpReadsSaid :=
  OpenClaim.holds_of_wide 3 Try.f3 rfl rfl rfl rfl rfl rfl rfl ⟨rfl, rfl, rfl, rfl, rfl⟩ rfl rfl rfl rfl rfl (by kernel_rfl) Try.func3 (by kernel_rfl)
    (of_decide_eq_true (by kernel_rfl)) (by unfold Func.isWrapper; first | (rw [if_pos (by decide +kernel)]; kernel_rfl) | (rw [if_neg (by decide +kernel)]; exact ⟨rfl, rfl⟩))
    (fun os started H enc _ => igmpReads_lifted os started H enc)
end Go.Proofs.Ytfdkfimakdhbdaa
