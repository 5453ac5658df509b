/-
  Joined texts: We.
-/
import Derived.Test.YtdnehjhijmeihaaGreatQJh
import Derived.Test.YtdnehjhijmeihaaGreatQGx
import Derived.Test.YtdnehjhijmeihaaGreatQVp
namespace Go.Proofs.YtdnehjhijmeihaaGreat
open Go.ChangeShapes Go.WideShapes Go.ChangeAt Go.RowKit
set_option linter.unusedVariables false
set_option linter.unusedSimpArgs false
set_option maxRecDepth 20000
set_option maxHeartbeats 8000000
attribute [local irreducible] wpList ByteArray.extract Int.decLt
def dG (r : Res) : Bool := goodA r.a.v r.a.b && (groupA r.a.v r.a.b && (decide ((if r.a.v then 1 else 0) ≤ r.pr) && (decide (r.pr ≤ 255) && (!(if r.a.v then (r.pr == 58 && V.isF r.d) else r.pr == 2) && (decide (0 ≤ r.hop) && (decide (r.hop ≤ 255) && decide ((r.d.size : Int) ≤ 1400)))))))
noncomputable def tG (r : Res) : Bool := goodT r.t && (eqA r.a (destA r.t) && (hereA r.f r.t && ((r.t.v6 == r.f.v) && ((r.pr == 0) && ((r.hop == 0) && r.d.toList.isEmpty)))))
noncomputable def sG (r : Res) : Bool := !decide (r.vlan < 0) && (!decide (4094 < r.vlan) && (goodA r.f.v r.f.b && (!groupA r.f.v r.f.b && ((r.f.v == r.a.v) && (if r.kind == 1 then tG r else if r.kind == 2 then dG r && sameT r.t Tk.z else false)))))
section
variable {B : Nat} {w0 W w : World} {H D D' : HB} {X X' : List Value} {r r' : Res}
theorem gD_any (oX : OkA X 26) : Gives Tryz.prog 75 #[.agg (fls (r.S X)).toArray] w (.bool (dG r)) := by
  refine Gives.of ?_
  have hH := Hp.refl w
  obtain ⟨kind, vlan, f, a, t, pr, hop, d, e⟩ := r
  unfold Res.S dG
  simp only
  have f1 : ∀ w, Gives Tryz.prog 71 #[.agg (fls [.many (adL a) 17]).toArray] w (.bool (goodA a.v a.b)) := fun w => by rw [← rg_segs]; exact aGood_any a.h
  have f2 : ∀ w, Gives Tryz.prog 19 #[.agg (fls [.many (adL a) 17]).toArray] w (.bool (groupA a.v a.b)) := fun w => by rw [← rg_segs]; exact aGroup_any a.h
  have fi : ∀ w, Gives Tryz.prog 109 #[.string d] w (.bool (V.isF d)) := fun w => V.vIs_any
  have z0 := adL_0 a
  have oF := adL_ok f
  have oA := adL_ok a
  unfold sdS
  generalize adL f = F at *
  generalize adL a = A at *
  generalize V.isF d = is at *
  generalize goodA a.v a.b = g1 at *
  generalize groupA a.v a.b = g2 at *
  generalize a.v = v at *
  obtain ⟨c4, e4⟩ : ∃ c, decide (pr ≤ 255) = c := ⟨_, rfl⟩
  obtain ⟨c5, e5⟩ : ∃ c, decide (0 ≤ hop) = c := ⟨_, rfl⟩
  obtain ⟨c6, e6⟩ : ∃ c, decide (hop ≤ 255) = c := ⟨_, rfl⟩
  obtain ⟨c7, e7⟩ : ∃ c, decide ((d.size : Int) ≤ 1400) = c := ⟨_, rfl⟩
  obtain ⟨p2, q2⟩ : ∃ c, (pr == 2) = c := ⟨_, rfl⟩
  obtain ⟨p58, q58⟩ : ∃ c, (pr == 58) = c := ⟨_, rfl⟩
  rw [e4, e5, e6, e7, q2, q58]
  cases v
  · simp only [Bool.false_eq_true, if_false]
    obtain ⟨c3, e3⟩ : ∃ c, decide (0 ≤ pr) = c := ⟨_, rfl⟩
    rw [e3]
    cases g1; rotate_left; (focus (cases g2; rotate_left; (focus (cases c3; rotate_left; (focus (cases c4; rotate_left; (focus (cases p2; (focus (cases c5; rotate_left; (focus (cases c6))))))))))))
    all_goals go_enter Tryz.func75, Tryz.ntmps75
    all_goals go_wp2_with (refine st ?_; clear hH; first | intro W g hH | intro W hH)
    all_goals (refine rq ?_; clear hH; intro W hH)
    all_goals go_wp2_with (refine st ?_; clear hH; first | intro W g hH | intro W hH)
    all_goals go_ret
    all_goals exact ⟨rfl, hH.below⟩
  · simp only [if_true]
    obtain ⟨c3, e3⟩ : ∃ c, decide (1 ≤ pr) = c := ⟨_, rfl⟩
    rw [e3]
    cases p58; rotate_left; (focus (cases is))
    all_goals (cases g1; rotate_left; (focus (cases g2; rotate_left; (focus (cases c3; rotate_left; (focus (cases c4; rotate_left; (focus (cases c5; rotate_left; (focus (cases c6)))))))))))
    all_goals go_enter Tryz.func75, Tryz.ntmps75
    all_goals go_wp2_with (refine st ?_; clear hH; first | intro W g hH | intro W hH)
    all_goals (refine rq ?_; clear hH; intro W hH)
    all_goals go_wp2_with (refine st ?_; clear hH; first | intro W g hH | intro W hH)
    all_goals go_ret
    all_goals exact ⟨rfl, hH.below⟩
theorem isameZ2 {T : Tk} (hX : TkX D X T) (hD : Hp B w0 w D) : Gives Tryz.prog 41 #[.agg (fls [.many X 26]).toArray, .agg (fls [.many TZ 26]).toArray] w (.bool (sameT T Tk.z)) := by
  obtain ⟨sp, sc, rp, rc, rfl, hI⟩ := hX
  obtain ⟨i1, i2⟩ := hI _ _ _ hD
  have := isame_any (w := w) (A := T) (B := Tk.z) (sp := sp) (rp := rp) (sp' := none) (rp' := none) (sc := sc) (rc := rc) (sc' := 0) (rc' := 0) i1 i2 AdsAt.nil RcsAt.nil
  rw [← TZ_is] at this
  rw [fls1, fls1]; exact this
theorem rsameZ2 {T : Tk} (hX : TkX D X T) (hD : Hp B w0 w D) : Gives Tryz.prog 30 #[.agg (fls [.many X 26]).toArray, .agg (fls [.many TZ 26]).toArray] w (.bool (sameT T Tk.z)) := by
  obtain ⟨sp, sc, rp, rc, rfl, hI⟩ := hX
  obtain ⟨i1, i2⟩ := hI _ _ _ hD
  have := same_any (w := w) (A := T) (B := Tk.z) (sp := sp) (rp := rp) (sp' := none) (rp' := none) (sc := sc) (rc := rc) (sc' := 0) (rc' := 0) i1 i2 AdsAt.nil RcsAt.nil
  rw [← TZ_is] at this
  rw [fls1, fls1]; exact this
theorem tG_is {r : Res} : tG r = (goodT r.t && (eqA r.a (if goodT r.t then destA r.t else Ad.z) && (hereA r.f r.t && ((r.t.v6 == r.f.v) && ((r.pr == 0) && ((r.hop == 0) && r.d.toList.isEmpty)))))) := by
  unfold tG
  cases goodT r.t <;> simp
theorem ways (v a b c : Bool) : (v = false ∨ (v = true ∧ a = true) ∨ (v = true ∧ a = false ∧ b = true ∧ c = true)) ∨ ((v = true ∧ a = false ∧ b = false) ∨ (v = true ∧ a = false ∧ b = true ∧ c = false)) := by
  cases v <;> cases a <;> cases b <;> cases c <;> simp
theorem fgood_any (hX : TkX D X r.t) (hD : Hp B w0 w D) : Gives Tryz.prog 31 #[.agg (fls (r.S X)).toArray] w (.bool (sG r)) := by
  have fd := Lib.hid (show ∀ W', Below w.heap.size w W' → Gives Tryz.prog 72 #[.agg (fls [.many X 26]).toArray] W' (.tuple #[.agg (fls [.many (adL (if goodT r.t then destA r.t else Ad.z)) 17]).toArray, .bool (goodT r.t)]) from fun W' hb => by
    obtain ⟨sp, sc, rp, rc, rfl, hI⟩ := hX
    obtain ⟨i1, i2⟩ := hI _ _ _ hD
    have := dest_any (T := r.t) (sc := sc) (rc := rc) (i1.below hb) (i2.below hb)
    rw [fls1]; exact this)
  have fz := Lib.hid (fun W' (hb : Below w.heap.size w W') => isameZ2 hX (hD.keep hb))
  have fD : ∀ w, Gives Tryz.prog 75 #[.agg (fls (r.S X)).toArray] w (.bool (dG r)) := fun w => gD_any hX.ok
  have oX := hX.ok
  have x0 := hX.c0
  have x2 := hX.c2
  clear hX hD
  refine Gives.of ?_
  have hH := Hp.refl w
  unfold sG
  rw [tG_is]
  unfold hereA
  generalize dG r = dg at *
  obtain ⟨kind, vlan, f, a, T, pr, hop, d, e⟩ := r
  unfold Res.S at *
  simp only at *
  have f1 : ∀ w, Gives Tryz.prog 71 #[.agg (fls [.many (adL f) 17]).toArray] w (.bool (goodA f.v f.b)) := fun w => by rw [← rg_segs]; exact aGood_any f.h
  have f2 : ∀ w, Gives Tryz.prog 19 #[.agg (fls [.many (adL f) 17]).toArray] w (.bool (groupA f.v f.b)) := fun w => by rw [← rg_segs]; exact aGroup_any f.h
  have f3 : ∀ w, Gives Tryz.prog 74 #[.agg (fls [.many (adL f) 17]).toArray] w (.bool (zeroA f.b)) := fun w => by rw [← rg_segs]; exact aZero_any f.h
  have f4 : ∀ w, Gives Tryz.prog 73 #[.agg (fls [.many (adL f) 17]).toArray] w (.bool (linkA f)) := fun w => link_any
  have fe := eqA_run a (if goodT T then destA T else Ad.z)
  have y0 := adL_0 f
  have z0 := adL_0 a
  have oF := adL_ok f
  have oA := adL_ok a
  have oD := adL_ok (if goodT T then destA T else Ad.z)
  unfold sdS at *
  generalize adL (if goodT T then destA T else Ad.z) = Y at *
  generalize eqA a (if goodT T then destA T else Ad.z) = c1 at *
  generalize goodT T = ok at *
  generalize sameT T Tk.z = sm at *
  generalize linkA f = c2 at *
  generalize zeroA f.b = c3 at *
  generalize goodA f.v f.b = g1 at *
  generalize groupA f.v f.b = g2 at *
  generalize T.v6 = tv at *
  obtain ⟨c4, d4⟩ : ∃ c, (T.kind != 1) = c := ⟨_, rfl⟩
  rw [d4]
  generalize T.kind = k at *
  obtain ⟨l1, e1⟩ : ∃ c, decide (vlan < 0) = c := ⟨_, rfl⟩
  obtain ⟨l2, e2⟩ : ∃ c, decide (4094 < vlan) = c := ⟨_, rfl⟩
  obtain ⟨k1, e3⟩ : ∃ c, (kind == 1) = c := ⟨_, rfl⟩
  obtain ⟨k2, e4⟩ : ∃ c, (kind == 2) = c := ⟨_, rfl⟩
  obtain ⟨p0, e5⟩ : ∃ c, (pr == 0) = c := ⟨_, rfl⟩
  obtain ⟨h0, e6⟩ : ∃ c, (hop == 0) = c := ⟨_, rfl⟩
  obtain ⟨d0, e7⟩ : ∃ c, d.toList.isEmpty = c := ⟨_, rfl⟩
  rw [e1, e2, e3, e4, e5, e6, e7]
  generalize f.v = fv at *
  generalize a.v = av at *
  generalize adL f = F at *
  generalize adL a = A at *
  unfold TZ at *
  obtain ⟨ne, hne⟩ : ∃ c, (fv != av) = c := ⟨_, rfl⟩
  have hq : (fv == av) = !ne := by rw [← hne]; cases fv <;> cases av <;> rfl
  rw [hq]
  cases l1; (focus (cases l2; (focus (cases g1; rotate_left; (focus (cases g2; (focus (cases ne; (focus ((obtain rfl : fv = av := by simpa using hne); clear hne hq; cases k1; rotate_left; (focus (rcases ways fv c2 c3 c4 with h | h; (focus (rcases h with rfl | ⟨rfl, rfl⟩ | ⟨rfl, rfl, rfl, rfl⟩; all_goals cases tv; all_goals (cases ok; rotate_left; (focus (cases c1; rotate_left; (focus (cases p0; rotate_left; (focus (cases h0))))))))); rotate_right; (focus (rcases h with ⟨rfl, rfl, rfl⟩ | ⟨rfl, rfl, rfl, rfl⟩; all_goals (cases ok; rotate_left; (focus (cases c1))))))); rotate_right; (focus (cases k2; rotate_left; (focus (cases dg))))))))))))))
  all_goals go_enter Tryz.func31, Tryz.ntmps31
  all_goals go_wp2_with (first | (refine st ?_; clear hH; first | intro W g hH | intro W hH) | ((with_reducible refine callH hH ?_); refine ⟨?_, ?_, ?_⟩; rotate_left; (focus (first | (exact fd.out _ hH.below) | (exact fz.out _ hH.below))); (clear hH; first | intro W g hH | intro W hH); ((try simp only [Act.put, pA, pB, pC]))))
  all_goals go_ret
  all_goals exact ⟨by simp, hH.below⟩
end
end Go.Proofs.YtdnehjhijmeihaaGreat
