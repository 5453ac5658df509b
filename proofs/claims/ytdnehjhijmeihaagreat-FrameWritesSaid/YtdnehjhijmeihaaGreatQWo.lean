/-
  FrameWrites: the frame of anything that is said, whether it is good, and that it comes back. No condition.
-/
import Derived.Test.YtdnehjhijmeihaaGreatQWi
import Derived.Test.YtdnehjhijmeihaaGreatRows
namespace Go.Proofs.YtdnehjhijmeihaaGreat
open Go.ChangeShapes Go.WideShapes Go.ChangeAt Go.RowKit
set_option linter.unusedVariables false
set_option linter.unusedSimpArgs false
set_option maxRecDepth 20000
set_option maxHeartbeats 8000000
attribute [local irreducible] wpList ByteArray.extract Int.decLt
theorem own : ownKnob Tryz.prog.godebug = none := by kernel_rfl
section
variable {P Q : Prop}
theorem armF (k : Q) (h : Kp Q → P := by (intro kq0; go_at_call 11; (first | (with_reducible refine FT.out _ _ _ _ ?_ ?_ ?_ hH ?_) | (with_reducible refine FO.out _ _ _ _ ?_ ?_ ?_ hH ?_)); rotate_left; (focus assumption); (focus (exact SubI.h)); exact kq0.out)) : P := h ⟨k⟩
theorem armG (k : Q) (h : Kp Q → P := by (intro kq0; (with_reducible refine callH hH ?_); refine ⟨?_, ?_, ?_⟩; rotate_left; (focus (first | (refine HWR.out _ _ _ ?_ ?_ ?_ hH; rotate_left; (focus assumption); exact SubI.h) | (refine HGD.out _ _ _ ?_ ?_ ?_ hH; rotate_left; (focus assumption); exact SubI.h) | (refine HRG.out _ _ _ ?_ ?_ ?_ hH; rotate_left; (focus assumption); exact SubI.h) | (refine SITO.out _ _ _ _ ?_ ?_ ?_ ?_ ?_ ?_ hH; rotate_left 2; (focus assumption); (focus (exact SubI.h)); (focus assumption); exact SubI.h) | (refine SRTO.out _ _ _ _ ?_ ?_ ?_ ?_ ?_ ?_ hH; rotate_left 2; (focus assumption); (focus (exact SubI.h)); (focus assumption); exact SubI.h) | (refine SITT.out _ _ _ _ ?_ ?_ ?_ ?_ ?_ ?_ hH; rotate_left 2; (focus assumption); (focus (exact SubI.h)); (focus assumption); exact SubI.h) | (refine HRW.out trivial _ _ _ ?_ ?_ ?_ hH; rotate_left; (focus assumption); exact SubI.h) | (refine SRTT.out _ _ _ _ ?_ ?_ ?_ ?_ ?_ ?_ hH; rotate_left 2; (focus assumption); (focus (exact SubI.h)); (focus assumption); exact SubI.h) | (with_reducible exact lives10))); (try simp only [Act.put, pA, pB, pC]); exact kq0.out)) : P := h ⟨k⟩
end
section
variable {w : World} {X0 Y0 : List Value} {ys : List UInt8}
theorem frameWrites_walk {r1 q1 : Res} (hT : r1.t.Ok) (hU : q1.t.Ok) (hX0 : TkM w X0 r1.t) (hY0 : TkM w Y0 q1.t) (oX0 : OkA X0 26) (oY0 : OkA Y0 26) (hy : ys.length = 6) : Gives Tryz.prog 4 #[.agg (fls (r1.S X0)).toArray, .agg (fls (q1.S Y0)).toArray, .agg (fls [.many (ys.map byteV) 6]).toArray] w (.bool true) := by
  have hTo := fewS_ok hT
  have hF : Few (fewS r1).t := few_of _
  have hd : (fewS r1).d.size ≤ 60 := cut_size _ 60
  have FX := Lib.hid (show ∀ (r : Res), fewS r = r → ∀ (W : World) (H : HB) (Q : Ending → World → Prop) X D, Hid (TkX D X r.t) → SubH H D → Hp w.heap.size w W H → (∀ W' X' D', Hid (TkX D' X' r.t) → Hp w.heap.size w W' (H ++ D') → Q (.returned (.agg (fls (r.S X')).toArray)) W') → Calls Tryz.prog 11 #[.agg (fls (r.S X)).toArray] W Q from fun r hr W H Q X D hX hs hH hQ => by
    refine (sfew_any (r := r) (w := W) (TkM.of (B := w.heap.size) (w0 := w) hX.out (hH.sub hs)) hX.out.ok).mono fun _ _ ⟨X', D', he, hm, ht⟩ => ?_
    subst he
    rw [hr]
    exact hQ _ X' D' (Lib.hid (by have e : fewT r.t = r.t := congrArg Res.t hr; rwa [e] at ht)) (hH.join hm))
  have FT0 := Lib.hid (show ∀ (W : World) (H : HB) (Q : Ending → World → Prop), Hp w.heap.size w W H → (∀ W' X' D', Hid (TkX D' X' (fewS r1).t) → Hp w.heap.size w W' (H ++ D') → Q (.returned (.agg (fls ((fewS r1).S X')).toArray)) W') → Calls Tryz.prog 11 #[.agg (fls (r1.S X0)).toArray] W Q from fun W H Q hH hQ => by
    refine (sfew_any (r := r1) (w := W) (fun W' hb => hX0 W' (hH.below.trans (hb.mono hH.below.size))) oX0).mono fun _ _ ⟨X', D', he, hm, ht⟩ => ?_
    subst he
    exact hQ _ X' D' (Lib.hid ht) (hH.join hm))
  have FO0 := Lib.hid (show ∀ (W : World) (H : HB) (Q : Ending → World → Prop), Hp w.heap.size w W H → (∀ W' X' D', Hid (TkX D' X' (fewS q1).t) → Hp w.heap.size w W' (H ++ D') → Q (.returned (.agg (fls ((fewS q1).S X')).toArray)) W') → Calls Tryz.prog 11 #[.agg (fls (q1.S Y0)).toArray] W Q from fun W H Q hH hQ => by
    refine (sfew_any (r := q1) (w := W) (fun W' hb => hY0 W' (hH.below.trans (hb.mono hH.below.size))) oY0).mono fun _ _ ⟨X', D', he, hm, ht⟩ => ?_
    subst he
    exact hQ _ X' D' (Lib.hid ht) (hH.join hm))
  have FT := Lib.hid (FX.out _ (fewS_twice r1))
  have FO := Lib.hid (FX.out _ (fewS_twice q1))
  clear FX hX0 hY0 hT hU
  have hS1 : ∀ X, r1.S X = sdS r1.kind r1.vlan (adL r1.f) (adL r1.a) X r1.pr r1.hop r1.d := fun X => rfl
  have hS2 : ∀ X, (fewS r1).S X = sdS r1.kind r1.vlan (adL r1.f) (adL r1.a) X r1.pr r1.hop (fewS r1).d := fun X => rfl
  have hQ1 : ∀ X, q1.S X = sdS q1.kind q1.vlan (adL q1.f) (adL q1.a) X q1.pr q1.hop q1.d := fun X => rfl
  have hQ2 : ∀ X, (fewS q1).S X = sdS q1.kind q1.vlan (adL q1.f) (adL q1.a) X q1.pr q1.hop (fewS q1).d := fun X => rfl
  have hre : (fewS r1).e = 0 := rfl
  generalize fewS r1 = r at *
  generalize fewS q1 = q at *
  have HWR := Lib.hid (show ∀ (W : World) (H : HB) X D, Hid (TkX D X r.t) → SubH H D → Hp w.heap.size w W H → Gives Tryz.prog 12 #[.agg (fls (r.S X)).toArray, .agg (fls [.many (ys.map byteV) 6]).toArray] W (.tuple #[.string (if sG r then wrB r ys else ⟨#[]⟩), .int .i64 (if sG r then 0 else 2)]) from fun W H X D hX hs hH => by
    cases hg : sG r
    · exact fWrite_no hg (okA_bytes hy) hX.out (hH.sub hs)
    · exact fWrite_yes hg hF hy hX.out (hH.sub hs))
  have HGD := Lib.hid (show ∀ (W : World) (H : HB) X D, Hid (TkX D X r.t) → SubH H D → Hp w.heap.size w W H → Gives Tryz.prog 9 #[.agg (fls (r.S X)).toArray] W (.bool (sG r)) from fun W H X D hX hs hH => fGoodW_any hX.out (hH.sub hs))
  have HRG := Lib.hid (show ∀ (W : World) (H : HB) X D, Hid (TkX D X r.t) → SubH H D → Hp w.heap.size w W H → Gives Tryz.prog 13 #[.agg (fls (r.S X)).toArray] W (.bool (sG r)) from fun W H X D hX hs hH => rgood_any hTo hX.out (hH.sub hs))
  have SITO := Lib.hid (show ∀ (W : World) (H : HB) X Y D D', Hid (TkX D X r.t) → SubH H D → Hid (TkX D' Y q.t) → SubH H D' → Hp w.heap.size w W H → Gives Tryz.prog 14 #[.agg (fls (r.S X)).toArray, .agg (fls (q.S Y)).toArray] W (.bool (sS r q)) from fun W H X Y D D' hX hs hY hs' hH => fsame_any hX.out hY.out (hH.sub hs) (hH.sub hs'))
  have SITT := Lib.hid (show ∀ (W : World) (H : HB) X Y D D', Hid (TkX D X r.t) → SubH H D → Hid (TkX D' Y r.t) → SubH H D' → Hp w.heap.size w W H → Gives Tryz.prog 14 #[.agg (fls (r.S X)).toArray, .agg (fls (r.S Y)).toArray] W (.bool true) from fun W H X Y D D' hX hs hY hs' hH => by rw [← sS_self r]; exact fsame_any hX.out hY.out (hH.sub hs) (hH.sub hs'))
  have SRTO := Lib.hid (show ∀ (W : World) (H : HB) X Y D D', Hid (TkX D X r.t) → SubH H D → Hid (TkX D' Y q.t) → SubH H D' → Hp w.heap.size w W H → Gives Tryz.prog 8 #[.agg (fls (r.S X)).toArray, .agg (fls (q.S Y)).toArray] W (.bool (sS r q)) from fun W H X Y D D' hX hs hY hs' hH => rfsame2_any hX.out hY.out (hH.sub hs) (hH.sub hs'))
  have SRTT := Lib.hid (show ∀ (W : World) (H : HB) X Y D D', Hid (TkX D X r.t) → SubH H D → Hid (TkX D' Y r.t) → SubH H D' → Hp w.heap.size w W H → Gives Tryz.prog 8 #[.agg (fls (r.S X)).toArray, .agg (fls (r.S Y)).toArray] W (.bool true) from fun W H X Y D D' hX hs hY hs' hH => by rw [← sS_self r]; exact rfsame2_any hX.out hY.out (hH.sub hs) (hH.sub hs'))
  have HRW := Lib.hid (show sG r = true → ∀ (W : World) (H : HB) X D, Hid (TkX D X r.t) → SubH H D → Hp w.heap.size w W H → Gives Tryz.prog 15 #[.agg (fls (r.S X)).toArray, .agg (fls [.many (ys.map byteV) 6]).toArray] W (.string (wrB r ys)) from fun hg W H X D hX hs hH => rfWrite_any (sG_gd hg) hF hTo hy hX.out (hH.sub hs))
  have HRD := Lib.hid (show sG r = true → ∀ (W : World) (H : HB) (Q : Ending → World → Prop), Hp w.heap.size w W H → (∀ W' X' D', Hid (TkX D' X' r.t) → Hp w.heap.size w W' (H ++ D') → Q (.returned (.tuple #[.agg (fls (r.S X')).toArray, .int .i64 0])) W') → Calls Tryz.prog 6 #[.string (wrB r ys)] W Q from fun hg W H Q hH hQ => by
    obtain ⟨e1, e2⟩ := back_frame (ys := ys) (sG_gd hg) hF hd hy
    have := fread_any (b := wrB r ys) (w := W) e2
    rw [e1] at this
    exact this.mono fun _ _ ⟨X', D', he, hm, ht⟩ => by subst he; exact hQ _ X' D' (Lib.hid ht) (hH.join hm))
  have oN := okA_bytes hy
  clear hF hd hTo hy hre
  have oF1 := adL_ok r1.f
  have oA1 := adL_ok r1.a
  have oF2 := adL_ok q1.f
  have oA2 := adL_ok q1.a
  simp only [hS1, hS2, hQ1, hQ2] at *
  clear hS1 hS2 hQ1 hQ2
  generalize sG r = gd at *
  generalize sS r q = sm at *
  generalize wrB r ys = wr at *
  generalize r.d = d1 at *
  generalize q.d = d2 at *
  generalize r.t = T at *
  generalize q.t = O at *
  generalize ys.map byteV = N at *
  generalize adL r1.f = F1 at *
  generalize adL r1.a = A1 at *
  generalize adL q1.f = F2 at *
  generalize adL q1.a = A2 at *
  generalize r1.kind = k1 at *
  generalize r1.vlan = v1 at *
  generalize r1.pr = p1 at *
  generalize r1.hop = h1 at *
  generalize r1.d = e1 at *
  generalize q1.kind = k2 at *
  generalize q1.vlan = v2 at *
  generalize q1.pr = p2 at *
  generalize q1.hop = h2 at *
  generalize q1.d = e2 at *
  unfold sdS at *
  refine Gives.of ?_
  have hH := Hp.refl w
  go_enter Tryz.func4, Tryz.ntmps4
  go_wp2_with (refine st ?_; clear hH; first | intro W g hH | intro W hH)
  ((with_reducible refine regKN [4, 5] hH (SubH.refl) (by kernel_rfl) ?_); (clear hH; intro W hH); refine kl [0, 2] ?_; refine ko 1 ?_; go_wp2_with (first | ((go_at_call 11; (first | with_reducible refine FT0.out _ _ _ hH ?_ | with_reducible refine FO0.out _ _ _ hH ?_); (clear hH; intro W Xn Dn hXn hH); have oXn := TkX.ok hXn.out; (try simp only [List.cons_append, List.nil_append, List.append_assoc] at hH); ((try simp only [Act.put, pA, pB, pC])))) | (refine st ?_; clear hH; first | intro W g hH | intro W hH)); refine ke ?_; refine ko 3 ?_; go_wp2_with (first | ((go_at_call 11; (first | with_reducible refine FT0.out _ _ _ hH ?_ | with_reducible refine FO0.out _ _ _ hH ?_); (clear hH; intro W Xn Dn hXn hH); have oXn := TkX.ok hXn.out; (try simp only [List.cons_append, List.nil_append, List.append_assoc] at hH); ((try simp only [Act.put, pA, pB, pC])))) | (refine st ?_; clear hH; first | intro W g hH | intro W hH)); refine ke ?_; refine ko 4 ?_; go_wp2_with (first | ((go_at_call 11; (first | with_reducible refine FT0.out _ _ _ hH ?_ | with_reducible refine FO0.out _ _ _ hH ?_); (clear hH; intro W Xn Dn hXn hH); have oXn := TkX.ok hXn.out; (try simp only [List.cons_append, List.nil_append, List.append_assoc] at hH); ((try simp only [Act.put, pA, pB, pC])))) | (refine st ?_; clear hH; first | intro W g hH | intro W hH)); refine kz ?_; refine ko 5 ?_; go_wp2_with (first | ((go_at_call 11; (first | with_reducible refine FT0.out _ _ _ hH ?_ | with_reducible refine FO0.out _ _ _ hH ?_); (clear hH; intro W Xn Dn hXn hH); have oXn := TkX.ok hXn.out; (try simp only [List.cons_append, List.nil_append, List.append_assoc] at hH); ((try simp only [Act.put, pA, pB, pC])))) | (refine st ?_; clear hH; first | intro W g hH | intro W hH)); refine kz ?_; refine hk_endN (by kernel_rfl) ?_)
  clear FT0 FO0
  cases gd
  all_goals simp only [Bool.false_eq_true, if_false, if_true] at HWR
  all_goals go_wp2_with (refine st ?_; clear hH; first | intro W g hH | intro W hH)
  all_goals ((with_reducible refine regKN [] hH (SubH.keep (SubH.keep (SubH.keep SubH.nil))) (by kernel_rfl) ?_); (clear hH; intro W hH); refine kl [0, 2] ?_; refine ko 1 ?_; go_wp2_with (first | ((refine armF ?_; (clear hH; intro W Xn Dn hXn hH); have oXn := TkX.ok hXn.out; (try simp only [List.cons_append, List.nil_append, List.append_assoc] at hH); ((try simp only [Act.put, pA, pB, pC])))) | ((refine armG ?_; clear hH; intro W hH)) | (refine st ?_; clear hH; first | intro W g hH | intro W hH)); refine ke ?_; refine ko 3 ?_; go_wp2_with (first | ((refine armF ?_; (clear hH; intro W Xn Dn hXn hH); have oXn := TkX.ok hXn.out; (try simp only [List.cons_append, List.nil_append, List.append_assoc] at hH); ((try simp only [Act.put, pA, pB, pC])))) | ((refine armG ?_; clear hH; intro W hH)) | (refine st ?_; clear hH; first | intro W g hH | intro W hH)); refine ke ?_; refine kt [4, 5, 6, 7, 8] ?_; refine hk_endN (by kernel_rfl) ?_)
  all_goals go_wp2_with (refine st ?_; clear hH; first | intro W g hH | intro W hH)
  all_goals ((with_reducible refine regKN [] hH (SubH.keep (SubH.keep (SubH.keep SubH.nil))) (by kernel_rfl) ?_); (clear hH; intro W hH); refine kl [0, 3] ?_; refine ko 1 ?_; go_wp2_with (first | ((refine armF ?_; (clear hH; intro W Xn Dn hXn hH); have oXn := TkX.ok hXn.out; (try simp only [List.cons_append, List.nil_append, List.append_assoc] at hH); ((try simp only [Act.put, pA, pB, pC])))) | ((refine armG ?_; clear hH; intro W hH)) | (refine st ?_; clear hH; first | intro W g hH | intro W hH)); refine ke ?_; refine ko 2 ?_; go_wp2_with (first | ((refine armF ?_; (clear hH; intro W Xn Dn hXn hH); have oXn := TkX.ok hXn.out; (try simp only [List.cons_append, List.nil_append, List.append_assoc] at hH); ((try simp only [Act.put, pA, pB, pC])))) | ((refine armG ?_; clear hH; intro W hH)) | (refine st ?_; clear hH; first | intro W g hH | intro W hH)); refine ke ?_; refine ko 4 ?_; go_wp2_with (first | ((refine armF ?_; (clear hH; intro W Xn Dn hXn hH); have oXn := TkX.ok hXn.out; (try simp only [List.cons_append, List.nil_append, List.append_assoc] at hH); ((try simp only [Act.put, pA, pB, pC])))) | ((refine armG ?_; clear hH; intro W hH)) | (refine st ?_; clear hH; first | intro W g hH | intro W hH)); refine ke ?_; refine kt [5, 6] ?_; refine kl [7, 9, 12, 13] ?_; refine ko 8 ?_; go_wp2_with (first | ((refine armF ?_; (clear hH; intro W Xn Dn hXn hH); have oXn := TkX.ok hXn.out; (try simp only [List.cons_append, List.nil_append, List.append_assoc] at hH); ((try simp only [Act.put, pA, pB, pC])))) | ((refine armG ?_; clear hH; intro W hH)) | (refine st ?_; clear hH; first | intro W g hH | intro W hH)); refine ke ?_; refine ko 10 ?_; go_wp2_with (first | ((refine armF ?_; (clear hH; intro W Xn Dn hXn hH); have oXn := TkX.ok hXn.out; (try simp only [List.cons_append, List.nil_append, List.append_assoc] at hH); ((try simp only [Act.put, pA, pB, pC])))) | ((refine armG ?_; clear hH; intro W hH)) | (refine st ?_; clear hH; first | intro W g hH | intro W hH)); refine ke ?_; refine ko 11 ?_; go_wp2_with (first | ((refine armF ?_; (clear hH; intro W Xn Dn hXn hH); have oXn := TkX.ok hXn.out; (try simp only [List.cons_append, List.nil_append, List.append_assoc] at hH); ((try simp only [Act.put, pA, pB, pC])))) | ((refine armG ?_; clear hH; intro W hH)) | (refine st ?_; clear hH; first | intro W g hH | intro W hH)); refine ke ?_; refine ko 14 ?_; go_wp2_with (first | ((refine armF ?_; (clear hH; intro W Xn Dn hXn hH); have oXn := TkX.ok hXn.out; (try simp only [List.cons_append, List.nil_append, List.append_assoc] at hH); ((try simp only [Act.put, pA, pB, pC])))) | ((refine armG ?_; clear hH; intro W hH)) | (refine st ?_; clear hH; first | intro W g hH | intro W hH)); refine ke ?_; refine kt [15, 16, 17] ?_; refine kl [18, 20] ?_; refine ko 19 ?_; go_wp2_with (first | ((refine armF ?_; (clear hH; intro W Xn Dn hXn hH); have oXn := TkX.ok hXn.out; (try simp only [List.cons_append, List.nil_append, List.append_assoc] at hH); ((try simp only [Act.put, pA, pB, pC])))) | ((refine armG ?_; clear hH; intro W hH)) | (refine st ?_; clear hH; first | intro W g hH | intro W hH)); refine ke ?_; refine ko 21 ?_; go_wp2_with (first | ((refine armF ?_; (clear hH; intro W Xn Dn hXn hH); have oXn := TkX.ok hXn.out; (try simp only [List.cons_append, List.nil_append, List.append_assoc] at hH); ((try simp only [Act.put, pA, pB, pC])))) | ((refine armG ?_; clear hH; intro W hH)) | (refine st ?_; clear hH; first | intro W g hH | intro W hH)); refine ke ?_; refine ko 22 ?_; go_wp2_with (first | ((refine armF ?_; (clear hH; intro W Xn Dn hXn hH); have oXn := TkX.ok hXn.out; (try simp only [List.cons_append, List.nil_append, List.append_assoc] at hH); ((try simp only [Act.put, pA, pB, pC])))) | ((refine armG ?_; clear hH; intro W hH)) | (refine st ?_; clear hH; first | intro W g hH | intro W hH)); refine ke ?_; refine kt [23, 24] ?_; refine hk_endN (by kernel_rfl) ?_)
  all_goals go_wp2_with (first | ((go_at_call 6; with_reducible refine HRD.out trivial _ _ _ hH ?_; (clear hH; intro W Xn Dn hXn hH); have oXn := TkX.ok hXn.out; (try simp only [List.cons_append, List.nil_append, List.append_assoc] at hH); ((try simp only [Act.put, pA, pB, pC])))) | ((refine armG ?_; clear hH; intro W hH)) | (refine st ?_; clear hH; first | intro W g hH | intro W hH))
  all_goals go_ret
  all_goals exact ⟨by simp, hH.below⟩
end
set_option maxRecDepth 100000 in
theorem frameWrites_lifted (os : Os) (started : os.Started) (H : Type) (enc : TypeId × Value → H) :
    ReturnsInHanded {} Tryz.checked os 4 .any (Rows.frameWritesSpec.pre6 enc Tryz.prog Tryz.f4 Rows.frameWritesRow.domain false) (Rows.frameWritesSpec.post enc Tryz.prog Tryz.f4 false true false false) := by
  refine lifted_of_walk (C := Tryz.checked) (tb := 4) own started (by kernel_rfl) Tryz.func4
    (ChangeSpec.witness6 (enc := enc) (C := Tryz.checked) false ⟨#[], #[.agg (fls (sdS 0 0 (adL Ad.z) (adL Ad.z) (fls (tkS Tk.z none 0 none 0)) 0 0 ⟨#[]⟩)).toArray, .agg (fls (sdS 0 0 (adL Ad.z) (adL Ad.z) (fls (tkS Tk.z none 0 none 0)) 0 0 ⟨#[]⟩)).toArray, .agg (fls [.many ([0, 0, 0, 0, 0, 0].map byteV) 6]).toArray], []⟩ 8 (by kernel_rfl) (by kernel_rfl) (by kernel_rfl) (by kernel_rfl))
    (by kernel_rfl) Tryz.underlying4 (by kernel_rfl) (by kernel_rfl) rfl ?_ ?_
  · intro ds hl
    match ds, hl with
    | [d0, d1, d2], _ => exact ⟨rfl, rfl, rfl⟩
  · intro W base args ds ps hval hA hfz
    have hA' : DataW.TrodAll enc Tryz.prog W 0 (fun _ => true) true Tryz.f4.params.toList args.toList ds ps := hA
    rw [Tryz.params4] at hA'
    obtain ⟨v0, vs0, d0, ds0, p0, q0, hargs0, rfl, rfl, h0, r0⟩ := trodAll_cons hA'
    obtain ⟨v1, vs1, d1, ds1, p1, q1, hargs1, rfl, rfl, h1, r1⟩ := trodAll_cons r0
    obtain ⟨v2, vs2, d2, ds2, p2, q2, hargs2, rfl, rfl, h2, r2⟩ := trodAll_cons r1
    obtain ⟨hvs, rfl, rfl⟩ := trodAll_nil r2
    obtain rfl : args = #[v0, v1, v2] := by cases args; simp_all
    have g0 := hval 0 31 v0 rfl rfl
    have g1 := hval 1 31 v1 rfl rfl
    have g2 := hval 2 40 v2 rfl rfl
    obtain ⟨r, sp, rp, sc, rc, rfl, hS, hR, hT⟩ := sd_open g0 h0
    obtain ⟨q, sp', rp', sc', rc', rfl, hS', hR', hT'⟩ := sd_open g1 h1
    obtain ⟨ys, hy, rfl⟩ := mac_open g2 h2
    exact frameWrites_walk hT hT' (TkM.arg hS hR) (TkM.arg hS' hR') (tkS_okA _ _ _ _ _) (tkS_okA _ _ _ _ _) hy
theorem frameWrites_proved : Rows.FrameWritesSaid :=
  OpenClaim.holds_of_wide 4 Tryz.f4 rfl rfl rfl rfl rfl rfl rfl ⟨rfl, rfl, rfl, rfl, rfl⟩ rfl rfl rfl rfl rfl (by kernel_rfl) Tryz.func4 (by kernel_rfl)
    (of_decide_eq_true (by kernel_rfl)) (by unfold Func.isWrapper; first | (rw [if_pos (by decide +kernel)]; kernel_rfl) | (rw [if_neg (by decide +kernel)]; exact ⟨rfl, rfl⟩))
    (fun os started H enc _ => frameWrites_lifted os started H enc)
end Go.Proofs.YtdnehjhijmeihaaGreat
