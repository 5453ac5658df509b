/-
  Joined texts: Wf.
-/
import Derived.Test.YtdnehjhijmeihaaGreatQWe
import Derived.Test.YtdnehjhijmeihaaGreatQGiz
namespace Go.Proofs.YtdnehjhijmeihaaGreat
open Go.ChangeShapes Go.WideShapes Go.ChangeAt Go.RowKit
set_option linter.unusedVariables false
set_option linter.unusedSimpArgs false
set_option maxRecDepth 20000
set_option maxHeartbeats 8000000
attribute [local irreducible] wpList ByteArray.extract Int.decLt
section
variable {B : Nat} {w0 W w : World} {H D D' : HB} {X X' : List Value} {r r' : Res}
theorem same2 (a b : Bool) : ((a = false ∧ b = false) ∨ (a = true ∧ b = true)) ∨ ((a = false ∧ b = true) ∨ (a = true ∧ b = false)) := by cases a <;> cases b <;> simp
theorem goodA_on (v : Bool) (l : UInt8) : goodA (onA v l).v (onA v l).b = true := by
  cases v
  · unfold onA goodA; rfl
  · rfl
theorem goodA_v6 {v : Bool} {b : List UInt8} (h : v = true) : goodA v b = true := by subst h; rfl
theorem grp4_good {a : Ad} (h : grp4 a = true) : goodA a.v a.b = true := by unfold grp4 at h; simp only [Bool.and_eq_true] at h; exact h.1.2
theorem goodA_dest {T : Tk} (h : goodT T = true) : goodA (destA T).v (destA T).b = true := by
  unfold destA
  by_cases h1 : (T.kind == 1 && zeroA T.grp.b) = true
  · rw [if_pos h1]; exact goodA_on _ _
  rw [if_neg h1]
  by_cases h2 : (T.kind == 3) = true
  · rw [if_pos h2]; exact goodA_on _ _
  rw [if_neg h2]
  by_cases h3 : (T.kind == 2 && lastT T) = true
  · rw [if_pos h3]; exact goodA_on _ _
  rw [if_neg h3]
  unfold goodT at h
  cases hv : T.v6
  · rw [hv, if_neg (by decide)] at h
    have hz : zeroA Ad.z.b = true := by decide
    rcases good4_cases h with rfl | ⟨r, g, rfl, r1, r2, hg⟩ | ⟨g, k, v, rfl, hg, hkv⟩ | ⟨R, rfl, hR, hl⟩ | ⟨resp, g, q, rob, ev, src, rfl, g1, g2, g3, g4, g5, hg, g6⟩
    · exact absurd hz (by simpa using h1)
    · rcases hg with rfl | hg
      · exact absurd hz (by simpa using h1)
      · exact grp4_good hg
    · exact grp4_good hg
    · exact absurd rfl h3
    · rcases hg with rfl | hg
      · exact absurd hz (by simpa using h1)
      · exact grp4_good hg
  · rw [hv, if_pos rfl] at h
    refine goodA_v6 ?_
    obtain ⟨v6, ver, kind, resp, g, quiet, rob, every, src, recs⟩ := T
    simp only at *
    subst hv
    cases hg : g.v
    · exfalso
      have e1 : grp6 g = false := by unfold grp6; rw [hg]; rfl
      have e2 : zero6 g = false := by unfold zero6; rw [hg]; rfl
      unfold good6 at h
      simp only [e1, e2] at h
      unfold lastT at h3
      simp at h h1 h2 h3
      obtain ⟨-, -, ⟨hv2, hk2⟩, -⟩ := h
      exact (h3 hk2).2 hv2
    · rfl
def RgP (b : Bool) : Prop := ∀ (B : Nat) (w0 w : World) (D : HB) (X : List Value) (r : Res) (hK : (r.kind == 1) = b) (hT : r.t.Ok) (hX : TkX D X r.t) (hD : Hp B w0 w D), Gives Tryz.prog 13 #[.agg (fls (r.S X)).toArray] w (.bool (sG r))
theorem rgW {P : Prop} (h : P := by
  intro B w0 w D X r hK hT hX hD
  have fd : ∀ w, Gives Tryz.prog 39 #[.agg (fls [.many X 26]).toArray] w (.agg (fls [.many (adL (destA r.t)) 17]).toArray) := fun w => by
    obtain ⟨sp, sc, rp, rc, rfl, hI⟩ := hX
    rw [fls1]; exact rDest_any
  have fk := Lib.hid (show ∀ W', Below w.heap.size w W' → Gives Tryz.prog 38 #[.agg (fls [.many X 26]).toArray] W' (.bool (goodT r.t)) from fun W' hb => by
    obtain ⟨sp, sc, rp, rc, rfl, hI⟩ := hX
    obtain ⟨i1, i2⟩ := hI _ _ _ hD
    have := refTalk_any (T := r.t) (sc := sc) (rc := rc) hT (i1.below hb) (i2.below hb)
    rw [fls1]; exact this)
  have fz := Lib.hid (fun W' (hb : Below w.heap.size w W') => rsameZ2 hX (hD.keep hb))
  have oX := hX.ok
  have x0 := hX.c0
  have x2 := hX.c2
  clear hX hD hT
  have hgd := @goodA_dest r.t
  refine Gives.of ?_
  have hH := Hp.refl w
  unfold sG tG dG hereA
  have hkk := hK
  clear hK
  obtain ⟨kind, vlan, f, a, T, pr, hop, d, e⟩ := r
  unfold Res.S at *
  simp only at *
  have f1 : ∀ w, Gives Tryz.prog 37 #[.agg (fls [.many (adL f) 17]).toArray] w (.bool (goodA f.v f.b)) := fun w => by rw [← rg_segs]; exact raGood_any f.h
  have f5 : ∀ w, Gives Tryz.prog 37 #[.agg (fls [.many (adL a) 17]).toArray] w (.bool (goodA a.v a.b)) := fun w => by rw [← rg_segs]; exact raGood_any a.h
  have f2 : ∀ w, Gives Tryz.prog 25 #[.agg (fls [.many (adL f) 17]).toArray] w (.bool (groupA f.v f.b)) := fun w => by rw [← rg_segs]; exact raGroup_any f.h
  have f6 : ∀ w, Gives Tryz.prog 25 #[.agg (fls [.many (adL a) 17]).toArray] w (.bool (groupA a.v a.b)) := fun w => by rw [← rg_segs]; exact raGroup_any a.h
  have f3 : ∀ w, Gives Tryz.prog 40 #[.agg (fls [.many (adL f) 17]).toArray] w (.bool (zeroA f.b)) := fun w => by rw [← rg_segs]; exact raZero_any f.h
  have fi : ∀ w, Gives Tryz.prog 27 #[.string d] w (.bool (V.isF d)) := fun w => ris_any
  have fe : ∀ w, (binOp .neq 25 (.agg (fls [.many (adL a) 17]).toArray) (.agg (fls [.many (adL (destA T)) 17]).toArray)).run Tryz.prog w = .ok (.bool (!eqA a (destA T))) w := ad_neq a (destA T)
  have hga : goodT T = true → eqA a (destA T) = true → goodA a.v a.b = true := fun h1 h2 => by
    have : a = destA T := by simpa [eqA] using h2
    rw [this]; exact hgd h1
  clear hgd
  have y0 := adL_0 f
  have z0 := adL_0 a
  have y1 : CellA (adL f) 1 (.int .u8 (bA f 0 : Int)) := by have := bA_cell f (i := 0) (by omega); unfold adL addrL CellA b8 at *; rw [List.getElem?_cons_succ]; exact this
  have y2 : CellA (adL f) 2 (.int .u8 (bA f 1 : Int)) := by have := bA_cell f (i := 1) (by omega); unfold adL addrL CellA b8 at *; rw [List.getElem?_cons_succ]; exact this
  have n0 := bA_lt f 0
  have n1 := bA_lt f 1
  have oF := adL_ok f
  have oA := adL_ok a
  have oD := adL_ok (destA T)
  unfold sdS linkA
  generalize adL (destA T) = Y at *
  generalize eqA a (destA T) = c1 at *
  generalize goodT T = ok at *
  generalize sameT T Tk.z = sm at *
  generalize zeroA f.b = c3 at *
  generalize goodA f.v f.b = g1 at *
  generalize groupA f.v f.b = g2 at *
  generalize goodA a.v a.b = ga at *
  generalize groupA a.v a.b = gg at *
  generalize T.v6 = tv at *
  generalize V.isF d = is at *
  generalize bA f 0 = n0' at *
  generalize bA f 1 = n1' at *
  obtain ⟨c4, d4⟩ : ∃ c, (T.kind != 1) = c := ⟨_, rfl⟩
  rw [d4]
  generalize T.kind = k at *
  have d0 : ((n0' : Int) == 254) = decide (n0' = 254) := by rw [Bool.eq_iff_iff]; simp; omega
  have d5 : decide (n1' / 64 = 2) = (decide (128 ≤ (n1' : Int)) && decide ((n1' : Int) < 192)) := by rw [Bool.eq_iff_iff]; simp; omega
  rw [d5]
  generalize decide (n0' = 254) = b0 at *
  obtain ⟨b1, e3⟩ : ∃ b, decide (128 ≤ (n1' : Int)) = b := ⟨_, rfl⟩
  obtain ⟨b2, e4⟩ : ∃ b, decide ((n1' : Int) < 192) = b := ⟨_, rfl⟩
  rw [e3, e4]
  obtain ⟨l1, e1⟩ : ∃ c, decide (vlan < 0) = c := ⟨_, rfl⟩
  obtain ⟨l2, e2⟩ : ∃ c, decide (4094 < vlan) = c := ⟨_, rfl⟩
  obtain ⟨k1, e5⟩ : ∃ c, (kind == 1) = c := ⟨_, rfl⟩
  obtain ⟨k2, e6⟩ : ∃ c, (kind == 2) = c := ⟨_, rfl⟩
  obtain ⟨p0, e7⟩ : ∃ c, (pr == 0) = c := ⟨_, rfl⟩
  obtain ⟨h0, e8⟩ : ∃ c, (hop == 0) = c := ⟨_, rfl⟩
  obtain ⟨dd, e9⟩ : ∃ c, d.toList.isEmpty = c := ⟨_, rfl⟩
  obtain ⟨p58, e10⟩ : ∃ c, (pr == 58) = c := ⟨_, rfl⟩
  obtain ⟨p2, e11⟩ : ∃ c, (pr == 2) = c := ⟨_, rfl⟩
  obtain ⟨q0, e12⟩ : ∃ c, decide (0 ≤ pr) = c := ⟨_, rfl⟩
  obtain ⟨q1, e13⟩ : ∃ c, decide (pr < 256) = c := ⟨_, rfl⟩
  obtain ⟨q2, e14⟩ : ∃ c, decide (0 ≤ hop) = c := ⟨_, rfl⟩
  obtain ⟨q3, e15⟩ : ∃ c, decide (hop < 256) = c := ⟨_, rfl⟩
  obtain ⟨q4, e16⟩ : ∃ c, decide ((d.size : Int) < 1401) = c := ⟨_, rfl⟩
  have e7b : (pr != 0) = !p0 := by rw [← e7]; rfl
  have e8b : (hop != 0) = !h0 := by rw [← e8]; rfl
  have e6b : (kind != 2) = !k2 := by rw [← e6]; rfl
  have x1 : decide (pr ≤ 255) = q1 := by rw [← e13]; exact bt (by omega)
  have x3 : decide (hop ≤ 255) = q3 := by rw [← e15]; exact bt (by omega)
  have x4 : decide ((d.size : Int) ≤ 1400) = q4 := by rw [← e16]; exact bt (by omega)
  have x5 : p0 = false → decide (1 ≤ pr) = q0 := fun h => by rw [← e12]; refine bt ?_; rw [h] at e7; have : pr ≠ 0 := (by simpa using e7); omega
  have x6 : p0 = true → decide (1 ≤ pr) = false := fun h => by rw [h] at e7; have : pr = 0 := (by simpa using e7); subst this; rfl
  rw [e1, e2, e5, e6, e7, e8, e9, e10, e11, e14, x1, x3, x4]
  generalize f.v = fv at *
  generalize a.v = av at *
  generalize adL f = F at *
  generalize adL a = A at *
  unfold TZ at *
  obtain ⟨ne, hne⟩ : ∃ c, (fv != av) = c := ⟨_, rfl⟩
  have hq : (fv == av) = !ne := by rw [← hne]; cases fv <;> cases av <;> rfl
  rw [hq]
  cases l1; (focus (cases l2; (focus (cases g1; rotate_left; (focus (cases g2; (focus (cases ne; (focus ((obtain rfl : fv = av := by simpa using hne); clear hne hq; cases ga; rotate_left; (focus (clear hga; (first | (obtain rfl : k1 = true := e5.symm.trans hkk; clear x5 x6; (cases p0; rotate_left; (focus (cases h0; rotate_left; (focus (cases dd; rotate_left; (focus (rcases same2 tv fv with h | h; (focus (rcases h with ⟨rfl, rfl⟩ | ⟨rfl, rfl⟩; all_goals (cases ok; rotate_left; (focus (cases c1; rotate_left; (focus ((cases b0; rotate_left; (focus (cases b1; rotate_left; (focus (cases b2))))); all_goals cases c3))))))); rotate_right; (focus (rcases h with ⟨rfl, rfl⟩ | ⟨rfl, rfl⟩)))))))))) | (obtain rfl : k1 = false := e5.symm.trans hkk; (cases k2; rotate_left; (focus (cases gg; rotate_left; (focus (cases sm; rotate_left; (focus (cases fv; (focus (cases p2; (focus (cases q0; rotate_left; (focus (cases q1; rotate_left; (focus (cases q2; rotate_left; (focus (cases q3)))))))))); rotate_right; (focus (cases p0; (focus (cases p58; rotate_left; (focus (cases is; (focus (cases q0; rotate_left; (focus (cases q1; rotate_left; (focus (cases q2; rotate_left; (focus (cases q3)))))))))); rotate_right; (focus (cases q0; rotate_left; (focus (cases q1; rotate_left; (focus (cases q2; rotate_left; (focus (cases q3)))))))))))))))))))))))))))))))))
  all_goals go_enter Tryz.func13, Tryz.ntmps13
  all_goals go_wp2_with (first | (refine st ?_; clear hH; first | intro W g hH | intro W hH) | ((with_reducible refine callH hH ?_); refine ⟨?_, ?_, ?_⟩; rotate_left; (focus (first | (exact fz.out _ hH.below))); (clear hH; first | intro W g hH | intro W hH); ((try simp only [Act.put, pA, pB, pC]))))
  all_goals (try ((with_reducible refine regQ hH (by kernel_rfl) (by kernel_rfl) ?_); intro hne; (repeat (first | (go_big_quiet_want; (first | (refine qiL tab_ok rfl rfl ?_; refine ⟨_, _, rfl, rfl, ?_⟩) | (refine qiLi tab_ok rfl rfl ?_; refine ⟨_, _, _, ?_, rfl, rfl, rfl, ?_, ?_⟩; rotate_left; (focus assumption)) | (refine qBd tab_ok rfl rfl rfl rfl ?_; refine ⟨?_, ?_, ?_⟩; rotate_left; (focus (repeat (first | exact BR.nil | refine BR.one rfl rfl rfl ?_ | (refine BR.row rfl rfl rfl rfl ?_ ?_; (focus (repeat (first | exact trivial | assumption | exact OkA.z (by kernel_rfl) (by kernel_rfl) | refine ⟨rfl, ?_⟩ | refine ⟨?_, ?_⟩))))))))); (try simp only [Act.put, pA, pB, pC]); go_big_quiet_on) | go_big_quiet_step (((with_reducible apply callQ); first | (with_reducible exact fd _) | (exact fk.out _ (HW.hp _).below))))); refine wpQuiet_nil ?_; clear hne hH; intro W hH))
  all_goals (try go_wp2_with (refine st ?_; clear hH; first | intro W g hH | intro W hH))
  all_goals go_ret
  all_goals exact ⟨by clear oX oF oA oD x0 x2 y0 z0 y1 y2 f1 f2 f3 f5 f6 fi fd fk fe fz hH; first | (simp; done) | (simp_all; done) | (cases k1 <;> cases ok <;> cases c1 <;> simp_all), hH.below⟩) : P := h
theorem rgK : RgP true := rgW
theorem rgN : RgP false := rgW
theorem rgood_any (hT : r.t.Ok) (hX : TkX D X r.t) (hD : Hp B w0 w D) : Gives Tryz.prog 13 #[.agg (fls (r.S X)).toArray] w (.bool (sG r)) := by
  cases h : (r.kind == 1)
  · exact rgN _ _ _ _ _ _ h hT hX hD
  · exact rgK _ _ _ _ _ _ h hT hX hD
end
end Go.Proofs.YtdnehjhijmeihaaGreat
