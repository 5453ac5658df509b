/-
  Joined texts: Vr, Vo.
-/
import Derived.Test.YtdnehjhijmeihaaGreatQVl
import Derived.Test.YtdnehjhijmeihaaGreatQVi
import Derived.Test.YtdnehjhijmeihaaGreatQSl
import Derived.Test.YtdnehjhijmeihaaGreatQTg
namespace Go.Proofs.YtdnehjhijmeihaaGreat.V
-- %in
open Go.ChangeShapes Go.WideShapes Go.ChangeAt Go.RowKit
set_option linter.unusedVariables false
set_option linter.unusedSimpArgs false
set_option maxRecDepth 20000
attribute [local irreducible] wpList

/-- what the reference reads -/
noncomputable def rReadT (s : ByteArray) : Tk × Int :=
  if numAt s 0 1 = 130 ∨ numAt s 0 1 = 131 ∨ numAt s 0 1 = 132 then rOneF s
  else if numAt s 0 1 = 143 then (⟨true, 2, 2, 0, Ad.z, false, 0, 0, [], (rRecF s).1⟩, (rRecF s).2)
  else (Tk.z, 5)
noncomputable def rReadF (f t : Ad) (s : ByteArray) : Tk × Int :=
  if s.size < 8 then (Tk.z, 3) else if sumOk6 f t s = false then (Tk.z, 4) else if (rReadT s).2 = 0 then ((rReadT s).1, 0) else (Tk.z, (rReadT s).2)
section
variable {w : World} {s : ByteArray} {f t : Ad}
theorem rReadE (h : 8 ≤ s.size) (hb : sumOk6 f t s = true) : rReadF f t s = if (rReadT s).2 = 0 then ((rReadT s).1, 0) else (Tk.z, (rReadT s).2) := by
  unfold rReadF
  rw [if_neg (by omega), if_neg (by rw [hb]; simp)]
theorem rpsB_any {n : Nat} (hn : n < 9223372036854775808) : Gives Tryz.prog 62 #[.agg (fls [.many (adL f) 17]).toArray, .agg (fls [.many (adL t) 17]).toArray, .int .i64 58, .int .i64 (n : Int)] w (.string (psB f t n)) := by
  rw [← rg_segs, ← rg_segs]
  exact rpseudo_any (p := 58) (ad_cs f) (ad_cs t) (by decide +kernel) (by omega) (u64_small (by omega)) (by omega)
theorem rsum_any (hs : s.size ≤ 100000) (w : World) : ∃ x : Nat, sumOk6 f t s = decide (x = 65535) ∧ ∀ w, Gives Tryz.prog 58 #[.string (psB f t s.size ++ s)] w (.int .i64 (x : Int)) :=
  ⟨foldN (wsum ((psB f t s.size).data.toList ++ s.data.toList)), rfl, fun w => by
    have hp := psB_size (f := f) (t := t) s.size
    have h := rSum_any (s := psB f t s.size ++ s) (w := w) (by rw [ByteArray.size_append]; omega)
    rwa [toList_append] at h⟩
set_option maxHeartbeats 8000000 in
theorem rread_short (h : s.size < 8) : Calls Tryz.prog 28 #[.string s, .agg (fls [.many (adL f) 17]).toArray, .agg (fls [.many (adL t) 17]).toArray] w fun e w' => RdPost w Tk.z 3 e w' := by
  have hH := Hp.refl w
  have oF := adL_ok f
  have oT := adL_ok t
  generalize adL f = F at *
  generalize adL t = G at *
  have d1 : decide ((s.size : Int) < 8) = true := decide_eq_true (by omega)
  go_enter Tryz.func28, Tryz.ntmps28
  go_wp2_with (first | (refine st ?_; clear hH; (first | intro W g hH | intro W hH)))
  (refine iRet2 Tryz.results28 tab_ok rfl rfl hH ?_; refine ⟨_, _, rfl, rfl, rfl, ?_⟩)
  exact RdPost.mk (sp := none) (rp := none) (sc := 0) (rc := 0) (D := []) (by rw [tkz_seg]; rfl) ⟨hH.nil, by simp⟩ TkIn.z
set_option maxHeartbeats 8000000 in
theorem rread_sum (hs : s.size ≤ 100000) (h : 8 ≤ s.size) (hb : sumOk6 f t s = false) : Calls Tryz.prog 28 #[.string s, .agg (fls [.many (adL f) 17]).toArray, .agg (fls [.many (adL t) 17]).toArray] w fun e w' => RdPost w Tk.z 4 e w' := by
  have hH := Hp.refl w
  have oF := adL_ok f
  have oT := adL_ok t
  have d1 : decide ((s.size : Int) < 8) = false := decide_eq_false (by omega)
  have hps := psB_size (f := f) (t := t) s.size
  have hp : ∀ w, Gives Tryz.prog 62 #[.agg (fls [.many (adL f) 17]).toArray, .agg (fls [.many (adL t) 17]).toArray, .int .i64 58, .int .i64 (s.size : Int)] w (.string (psB f t s.size)) := fun w => rpsB_any (by omega)
  obtain ⟨x, hx, hg⟩ := rsum_any (f := f) (t := t) hs w
  rw [hb] at hx
  have d2 : ((x : Int) != 65535) = true := by have := of_decide_eq_false hx.symm; simp; omega
  clear hx hb
  generalize psB f t s.size = PB at *
  generalize adL f = F at *
  generalize adL t = G at *
  go_enter Tryz.func28, Tryz.ntmps28
  go_wp2_with (first | (refine st ?_; clear hH; (first | intro W g hH | intro W hH)) | ((with_reducible refine callH hH ?_); refine ⟨?_, ?_, ?_⟩; rotate_left; (focus (first | (with_reducible exact hg _))); clear hH; (first | intro W g hH | intro W hH); ((try simp only [Act.put, pA, pB, pC]))))
  (refine iRet2 Tryz.results28 tab_ok rfl rfl hH ?_; refine ⟨_, _, rfl, rfl, rfl, ?_⟩)
  exact RdPost.mk (sp := none) (rp := none) (sc := 0) (rc := 0) (D := []) (by rw [tkz_seg]; rfl) ⟨hH.nil, by simp⟩ TkIn.z
set_option maxHeartbeats 8000000 in
theorem rread_one (hs : s.size ≤ 100000) (h : 8 ≤ s.size) (hb : sumOk6 f t s = true) (hk : numAt s 0 1 = 130 ∨ numAt s 0 1 = 131 ∨ numAt s 0 1 = 132) : Calls Tryz.prog 28 #[.string s, .agg (fls [.many (adL f) 17]).toArray, .agg (fls [.many (adL t) 17]).toArray] w fun e w' => RdPost w (rReadF f t s).1 (rReadF f t s).2 e w' := by
  have hH := Hp.refl w
  have oF := adL_ok f
  have oT := adL_ok t
  have d1 : decide ((s.size : Int) < 8) = false := decide_eq_false (by omega)
  have hps := psB_size (f := f) (t := t) s.size
  have hp : ∀ w, Gives Tryz.prog 62 #[.agg (fls [.many (adL f) 17]).toArray, .agg (fls [.many (adL t) 17]).toArray, .int .i64 58, .int .i64 (s.size : Int)] w (.string (psB f t s.size)) := fun w => rpsB_any (by omega)
  obtain ⟨x, hx, hg⟩ := rsum_any (f := f) (t := t) hs w
  rw [hb] at hx
  obtain rfl : x = 65535 := of_decide_eq_true hx.symm
  clear hx
  have i0 : ∀ W, (Instr.index 9 (.string s) (.int .i64 0)).run Tryz.prog W = .ok (.int .u8 (numAt s 0 1 : Int)) W := fun W => run_at (s := s) (k := 0) (by omega) 0 rfl W
  have he := rReadE h hb
  have hT : rReadT s = rOneF s := by unfold rReadT; rw [if_pos hk]
  rw [hT] at he
  have QP := Lib.hid (show ∀ (W : World) (H : HB) (Q : Ending → World → Prop), Hp w.heap.size w W H → (∀ W' sp sc rp rc D, Hid (TkIn D sp rp (rOneF s).1) → Hid (∀ r ∈ D, r.2.2.1 = true) → Hp w.heap.size w W' (H ++ D) → Q (.returned (.tuple #[.agg (fls (tkS (rOneF s).1 sp sc rp rc)).toArray, .int .i64 (rOneF s).2])) W') → Calls Tryz.prog 63 #[.string s] W Q from fun W H Q hH hQ =>
    (rone_any h hs hk).mono fun _ _ ⟨sp, sc, rp, rc, D, he, hm, hr⟩ => by subst he; exact hQ _ sp sc rp rc D (Lib.hid hr) (Lib.hid hm.2) (hH.join hm))
  clear hT hb
  generalize rReadF f t s = RF at *
  subst he
  generalize (rOneF s).2 = ec at *
  generalize (rOneF s).1 = T at *
  obtain ⟨v6, ver, kind, resp, GG, quiet, rob, every, src, recs⟩ := T
  unfold tkS at QP
  simp only at QP
  have oG := adL_ok GG
  obtain ⟨Y, hY⟩ : ∃ Y, Y = adL GG := ⟨_, rfl⟩
  rw [← hY] at QP oG
  have HY := Lib.hid hY
  clear hY
  generalize psB f t s.size = PB at *
  generalize adL f = F at *
  generalize adL t = G at *
  generalize numAt s 0 1 = kn at *
  by_cases hz : ec = 0
  · subst hz
    rw [if_pos rfl]
    rcases hk with rfl | rfl | rfl
    all_goals
      go_enter Tryz.func28, Tryz.ntmps28
      go_wp2_with (first | ((go_at_call 63; refine QP.out _ _ _ hH ?_; (clear hH; intro W sp sc rp rc D hT hD hH); (try simp only [List.cons_append, List.nil_append] at hH); ((try simp only [Act.put, pA, pB, pC])))) | (refine st ?_; clear hH; (first | intro W g hH | intro W hH)) | ((with_reducible refine callH hH ?_); refine ⟨?_, ?_, ?_⟩; rotate_left; (focus (first | (with_reducible exact hg _))); clear hH; (first | intro W g hH | intro W hH); ((try simp only [Act.put, pA, pB, pC]))))
      (refine iRet2 Tryz.results28 tab_ok rfl rfl hH ?_; refine ⟨_, _, rfl, rfl, rfl, ?_⟩)
      exact RdPost.mk (sp := sp) (rp := rp) (sc := sc) (rc := rc) (D := D) (by unfold tkS; simp only; rw [← HY.out]; rfl) ⟨hH.sub (by repeat (first | exact SubH.refl | apply SubH.drop)), hD.out⟩ hT.out
  · have dz : (ec != 0) = true := by simpa using hz
    rw [if_neg hz]
    rcases hk with rfl | rfl | rfl
    all_goals
      go_enter Tryz.func28, Tryz.ntmps28
      go_wp2_with (first | ((go_at_call 63; refine QP.out _ _ _ hH ?_; (clear hH; intro W sp sc rp rc D hT hD hH); (try simp only [List.cons_append, List.nil_append] at hH); ((try simp only [Act.put, pA, pB, pC])))) | (refine st ?_; clear hH; (first | intro W g hH | intro W hH)) | ((with_reducible refine callH hH ?_); refine ⟨?_, ?_, ?_⟩; rotate_left; (focus (first | (with_reducible exact hg _))); clear hH; (first | intro W g hH | intro W hH); ((try simp only [Act.put, pA, pB, pC]))))
      (refine iRet2 Tryz.results28 tab_ok rfl rfl hH ?_; refine ⟨_, _, rfl, rfl, rfl, ?_⟩)
      exact RdPost.mk (sp := none) (rp := none) (sc := 0) (rc := 0) (D := []) (by rw [tkz_seg]; rfl) ⟨hH.nil, by simp⟩ TkIn.z
set_option maxHeartbeats 8000000 in
theorem rread_recs (hs : s.size ≤ 100000) (h : 8 ≤ s.size) (hb : sumOk6 f t s = true) (hk : numAt s 0 1 = 143) : Calls Tryz.prog 28 #[.string s, .agg (fls [.many (adL f) 17]).toArray, .agg (fls [.many (adL t) 17]).toArray] w fun e w' => RdPost w (rReadF f t s).1 (rReadF f t s).2 e w' := by
  have hH := Hp.refl w
  have oF := adL_ok f
  have oT := adL_ok t
  have d1 : decide ((s.size : Int) < 8) = false := decide_eq_false (by omega)
  have hps := psB_size (f := f) (t := t) s.size
  have hp : ∀ w, Gives Tryz.prog 62 #[.agg (fls [.many (adL f) 17]).toArray, .agg (fls [.many (adL t) 17]).toArray, .int .i64 58, .int .i64 (s.size : Int)] w (.string (psB f t s.size)) := fun w => rpsB_any (by omega)
  obtain ⟨x, hx, hg⟩ := rsum_any (f := f) (t := t) hs w
  rw [hb] at hx
  obtain rfl : x = 65535 := of_decide_eq_true hx.symm
  clear hx
  have i0 : ∀ W, (Instr.index 9 (.string s) (.int .i64 0)).run Tryz.prog W = .ok (.int .u8 (numAt s 0 1 : Int)) W := fun W => run_at (s := s) (k := 0) (by omega) 0 rfl W
  rw [hk] at i0
  have he := rReadE h hb
  have hT : rReadT s = (⟨true, 2, 2, 0, Ad.z, false, 0, 0, [], (rRecF s).1⟩, (rRecF s).2) := by unfold rReadT; rw [if_neg (by omega), if_pos hk]
  rw [hT] at he
  simp only at he
  have QP := Lib.hid (show ∀ (W : World) (H : HB) (Q : Ending → World → Prop), Hp w.heap.size w W H → (∀ W' p c D, Hid (∀ B w0 W, Hp B w0 W D → RcsAt W p (rRecF s).1) → Hid (∀ r ∈ D, r.2.2.1 = true) → Hp w.heap.size w W' (H ++ D) → Q (.returned (.tuple #[.slice p (rRecF s).1.length c, .int .i64 (rRecF s).2])) W') → Calls Tryz.prog 64 #[.string s] W Q from fun W H Q hH hQ =>
    (rrecords_any h hs).mono fun _ _ ⟨p, c, D, he, hm, hr⟩ => by subst he; exact hQ _ p c D (Lib.hid hr) (Lib.hid hm.2) (hH.join hm))
  clear hT hb hk
  generalize rReadF f t s = RF at *
  subst he
  generalize (rRecF s).2 = ec at *
  generalize (rRecF s).1 = R at *
  generalize psB f t s.size = PB at *
  generalize adL f = F at *
  generalize adL t = G at *
  by_cases hz : ec = 0
  · subst hz
    rw [if_pos rfl]
    go_enter Tryz.func28, Tryz.ntmps28
    go_wp2_with (first | ((go_at_call 64; refine QP.out _ _ _ hH ?_; (clear hH; intro W rp rc D hT hD hH); (try simp only [List.cons_append, List.nil_append] at hH); ((try simp only [Act.put, pA, pB, pC])))) | (refine st ?_; clear hH; (first | intro W g hH | intro W hH)) | ((with_reducible refine callH hH ?_); refine ⟨?_, ?_, ?_⟩; rotate_left; (focus (first | (with_reducible exact hg _))); clear hH; (first | intro W g hH | intro W hH); ((try simp only [Act.put, pA, pB, pC]))))
    (refine iRet2 Tryz.results28 tab_ok rfl rfl hH ?_; refine ⟨_, _, rfl, rfl, rfl, ?_⟩)
    exact RdPost.mk (sp := none) (rp := rp) (sc := 0) (rc := rc) (D := D) (by unfold tkS; simp only; rw [adL_z]; rfl) ⟨hH.sub (by repeat (first | exact SubH.refl | apply SubH.drop)), hD.out⟩ (fun B w0 W h => ⟨AdsAt.nil, hT.out _ _ _ h⟩)
  · have dz : (ec != 0) = true := by simpa using hz
    rw [if_neg hz]
    go_enter Tryz.func28, Tryz.ntmps28
    go_wp2_with (first | ((go_at_call 64; refine QP.out _ _ _ hH ?_; (clear hH; intro W rp rc D hT hD hH); (try simp only [List.cons_append, List.nil_append] at hH); ((try simp only [Act.put, pA, pB, pC])))) | (refine st ?_; clear hH; (first | intro W g hH | intro W hH)) | ((with_reducible refine callH hH ?_); refine ⟨?_, ?_, ?_⟩; rotate_left; (focus (first | (with_reducible exact hg _))); clear hH; (first | intro W g hH | intro W hH); ((try simp only [Act.put, pA, pB, pC]))))
    (refine iRet2 Tryz.results28 tab_ok rfl rfl hH ?_; refine ⟨_, _, rfl, rfl, rfl, ?_⟩)
    exact RdPost.mk (sp := none) (rp := none) (sc := 0) (rc := 0) (D := []) (by rw [tkz_seg]; rfl) ⟨hH.nil, by simp⟩ TkIn.z
set_option maxHeartbeats 8000000 in
theorem rread_none (hs : s.size ≤ 100000) (h : 8 ≤ s.size) (hb : sumOk6 f t s = true) (hk : ¬(numAt s 0 1 = 130 ∨ numAt s 0 1 = 131 ∨ numAt s 0 1 = 132)) (h2 : numAt s 0 1 ≠ 143) : Calls Tryz.prog 28 #[.string s, .agg (fls [.many (adL f) 17]).toArray, .agg (fls [.many (adL t) 17]).toArray] w fun e w' => RdPost w (rReadF f t s).1 (rReadF f t s).2 e w' := by
  have hH := Hp.refl w
  have oF := adL_ok f
  have oT := adL_ok t
  have d1 : decide ((s.size : Int) < 8) = false := decide_eq_false (by omega)
  have hps := psB_size (f := f) (t := t) s.size
  have hp : ∀ w, Gives Tryz.prog 62 #[.agg (fls [.many (adL f) 17]).toArray, .agg (fls [.many (adL t) 17]).toArray, .int .i64 58, .int .i64 (s.size : Int)] w (.string (psB f t s.size)) := fun w => rpsB_any (by omega)
  obtain ⟨x, hx, hg⟩ := rsum_any (f := f) (t := t) hs w
  rw [hb] at hx
  obtain rfl : x = 65535 := of_decide_eq_true hx.symm
  clear hx
  have i0 : ∀ W, (Instr.index 9 (.string s) (.int .i64 0)).run Tryz.prog W = .ok (.int .u8 (numAt s 0 1 : Int)) W := fun W => run_at (s := s) (k := 0) (by omega) 0 rfl W
  have hlt : numAt s 0 1 < 256 := numAt_lt s 0 1
  have he := rReadE h hb
  have hT : rReadT s = (Tk.z, 5) := by unfold rReadT; rw [if_neg (by omega), if_neg h2]
  rw [hT, if_neg (show ¬ (5 : Int) = 0 by decide)] at he
  clear hT hb
  generalize rReadF f t s = RF at *
  subst he
  generalize psB f t s.size = PB at *
  generalize adL f = F at *
  generalize adL t = G at *
  generalize numAt s 0 1 = k at *
  have a2 : ((k : Int) == 143) = false := by simp; omega
  have hc : (decide ((130 : Int) ≤ (k : Int)) = false ∧ (k : Int) < 130) ∨ (decide ((130 : Int) ≤ (k : Int)) = true ∧ decide ((k : Int) ≤ 132) = false ∧ (132 : Int) < (k : Int)) := by
    by_cases h1 : (130 : Int) ≤ (k : Int)
    · exact .inr ⟨decide_eq_true h1, decide_eq_false (by omega), by omega⟩
    · exact .inl ⟨decide_eq_false h1, by omega⟩
  clear hk h2
  rcases hc with ⟨c1, c2⟩ | ⟨c1, c2, c3⟩
  all_goals
    go_enter Tryz.func28, Tryz.ntmps28
    go_wp2_with (first | (refine st ?_; clear hH; (first | intro W g hH | intro W hH)) | ((with_reducible refine callH hH ?_); refine ⟨?_, ?_, ?_⟩; rotate_left; (focus (first | (with_reducible exact hg _))); clear hH; (first | intro W g hH | intro W hH); ((try simp only [Act.put, pA, pB, pC]))))
    (refine iRet2 Tryz.results28 tab_ok rfl rfl hH ?_; refine ⟨_, _, rfl, rfl, rfl, ?_⟩)
    exact RdPost.mk (sp := none) (rp := none) (sc := 0) (rc := 0) (D := []) (by rw [tkz_seg]; rfl) ⟨hH.nil, by simp⟩ TkIn.z
theorem rread_any (hs : s.size ≤ 100000) : Calls Tryz.prog 28 #[.string s, .agg (fls [.many (adL f) 17]).toArray, .agg (fls [.many (adL t) 17]).toArray] w fun e w' => RdPost w (rReadF f t s).1 (rReadF f t s).2 e w' := by
  by_cases h8 : s.size < 8
  · have e : rReadF f t s = (Tk.z, 3) := by unfold rReadF; rw [if_pos h8]
    rw [e]
    exact rread_short h8
  have h := Nat.le_of_not_lt h8
  cases hb : sumOk6 f t s
  · have e : rReadF f t s = (Tk.z, 4) := by unfold rReadF; rw [if_neg h8, if_pos hb]
    rw [e]
    exact rread_sum hs h hb
  by_cases h1 : numAt s 0 1 = 130 ∨ numAt s 0 1 = 131 ∨ numAt s 0 1 = 132
  · exact rread_one hs h hb h1
  by_cases h2 : numAt s 0 1 = 143
  · exact rread_recs hs h hb h2
  exact rread_none hs h hb h1 h2
end
end Go.Proofs.YtdnehjhijmeihaaGreat.V
namespace Go.Proofs.YtdnehjhijmeihaaGreat.V
set_option linter.unusedVariables false
set_option linter.unusedSimpArgs false

theorem ne_false {b : Bool} (h : ¬ b = false) : b = true := by
  cases b
  · exact absurd rfl h
  · rfl
section
variable {s : ByteArray} {k n : Nat} {e : Int} {t : St}
theorem fits_ok (h : k + n ≤ s.size) : rdFits s k false n = true := by simp [rdFits, h]
theorem fits_no (h : s.size < k + n) : rdFits s k false n = false := by simp [rdFits]; omega
theorem stepS_ok (h : k + n ≤ s.size) : stepS s n ⟨k, false, e⟩ = ⟨k + n, false, e⟩ := by
  unfold stepS rdB rdK
  simp only [fits_ok h]
  simp [failS]
theorem stepS_no (h : s.size < k + n) : stepS s n ⟨k, false, 0⟩ = ⟨k, true, 3⟩ := by
  unfold stepS rdB rdK
  simp only [fits_no h]
  simp [failS]
theorem failS_bad {is : Bool} {c : Int} (h : t.e ≠ 0) : failS is c t = t := by
  unfold failS
  rw [if_neg (by simp [h])]
theorem stepS_bad (h : t.e ≠ 0) : (stepS s n t).e = t.e := by
  unfold stepS
  rw [failS_bad (by exact h)]
theorem numV_ok (h : k + n ≤ s.size) : numV s n ⟨k, false, e⟩ = numAt s k n := by
  unfold numV rdS numAt
  simp only [fits_ok h, if_true]
  rw [toList_extract, Nat.add_sub_cancel_left]
theorem addrS_ok (h : k + 16 ≤ s.size) : addrS s 16 ⟨k, false, e⟩ = ad16 s k := by
  unfold addrS ad16 rdS
  simp only [fits_ok h, if_true]
theorem srcAt_zero : srcAt s k 0 = [] := rfl
theorem srcAt_succ : srcAt s k (n + 1) = ad16 s k :: srcAt s (k + 16) n := by
  unfold srcAt
  rw [List.range_succ_eq_map, List.map_cons, List.map_map]
  have h : List.map ((fun i => ad16 s (k + 16 * i)) ∘ Nat.succ) (List.range n) = List.map (fun i => ad16 s (k + 16 + 16 * i)) (List.range n) := List.map_congr_left fun i _ => by
    rw [Function.comp_apply, show k + 16 * Nat.succ i = k + 16 + 16 * i by omega]
  rw [h, Nat.mul_zero, Nat.add_zero]
theorem srcL_bad {f : Nat} {X : List Ad} (h : t.e ≠ 0) : srcL s n f X t = (X, t) := srcL_end fun h' => h h'.2
theorem srcF_bad (h : t.e ≠ 0) : srcF s n t = ([], t) := by
  unfold srcF
  rw [failS_bad h, srcL_bad h]
theorem srcL_run : ∀ {m f : Nat} {X : List Ad} {k : Nat}, m ≤ f → X.length + m = n → k + 16 * m ≤ s.size → srcL s n f X ⟨k, false, 0⟩ = (X ++ srcAt s k m, ⟨k + 16 * m, false, 0⟩)
  | 0, f, X, k, _, hX, _ => by
    rw [srcL_end (fun h => by have := h.1; omega), srcAt_zero, List.append_nil]
    rfl
  | m + 1, 0, _, _, h, _, _ => by omega
  | m + 1, f + 1, X, k, hf, hX, hk => by
    rw [srcL_more ⟨by omega, rfl⟩, addrS_ok (by omega), stepS_ok (by omega), srcL_run (m := m) (by omega) (by simp; omega) (by omega), srcAt_succ]
    simp only [List.append_assoc, List.singleton_append, Prod.mk.injEq, St.mk.injEq, true_and, and_true]
    omega
theorem srcL_short : ∀ {m f : Nat} {X : List Ad} {k : Nat}, m ≤ f → X.length + m = n → k ≤ s.size → s.size < k + 16 * m → (srcL s n f X ⟨k, false, 0⟩).2.e = 3
  | 0, f, X, k, _, hX, _, h => by omega
  | m + 1, 0, _, _, h, _, _, _ => by omega
  | m + 1, f + 1, X, k, hf, hX, hk, h => by
    rw [srcL_more ⟨by omega, rfl⟩]
    by_cases h4 : k + 16 ≤ s.size
    · rw [stepS_ok h4]
      exact srcL_short (m := m) (by omega) (by simp; omega) h4 (by omega)
    · rw [stepS_no (by omega), srcL_bad (by simp)]
theorem srcF_is (hk : k ≤ s.size) : (srcF s n ⟨k, false, 0⟩).2.e = (rSrcF s k n).2 ∧ ((rSrcF s k n).2 = 0 → srcF s n ⟨k, false, 0⟩ = ((rSrcF s k n).1, ⟨k + 16 * n, false, 0⟩)) := by
  unfold srcF rSrcF
  by_cases h64 : 64 < n
  · have e : failS (decide (64 < n)) 6 (⟨k, false, 0⟩ : St) = ⟨k, false, 6⟩ := by simp [failS, h64]
    rw [e, srcL_bad (by simp), if_pos h64]
    exact ⟨rfl, fun h => by simp at h⟩
  · have e : failS (decide (64 < n)) 6 (⟨k, false, 0⟩ : St) = ⟨k, false, 0⟩ := by simp [failS, h64]
    rw [e, if_neg h64]
    by_cases hz : s.size < k + 16 * n
    · rw [if_pos hz]
      exact ⟨srcL_short (m := n) (by omega) (by simp) hk hz, fun h => by simp at h⟩
    · rw [if_neg hz, srcL_run (m := n) (by omega) (by simp) (by omega)]
      exact ⟨rfl, fun _ => by simp⟩
/-- ahead of the sources all that is wrong is noted already -/
theorem recF_bad (h : (stepS s 16 (stepS s 2 (stepS s 1 (stepS s 1 t)))).e ≠ 0) : (recF s t).2.2.e = (stepS s 16 (stepS s 2 (stepS s 1 (stepS s 1 t)))).e := by
  unfold recF
  simp only
  rw [srcF_bad h, if_neg h]
theorem recF_short (hk : k ≤ s.size) (h : s.size < k + 20) : (recF s ⟨k, false, 0⟩).2.2.e = 3 := by
  have h3 : (stepS s 16 (stepS s 2 (stepS s 1 (stepS s 1 ⟨k, false, 0⟩)))).e = 3 := by
    by_cases h1 : k + 1 ≤ s.size
    · rw [stepS_ok h1]
      by_cases h2 : k + 2 ≤ s.size
      · rw [stepS_ok (by omega)]
        by_cases h4 : k + 4 ≤ s.size
        · rw [stepS_ok (by omega), stepS_no (by omega)]
        · rw [stepS_no (by omega), stepS_bad (by simp)]
      · rw [stepS_no (by omega), stepS_bad (by rw [stepS_bad (by simp)]; simp), stepS_bad (by simp)]
    · have e1 : (stepS s 1 ⟨k, false, 0⟩).e = 3 := by rw [stepS_no (by omega)]
      have e2 : (stepS s 1 (stepS s 1 ⟨k, false, 0⟩)).e = 3 := by rw [stepS_bad (by rw [e1]; simp), e1]
      have e3 : (stepS s 2 (stepS s 1 (stepS s 1 ⟨k, false, 0⟩))).e = 3 := by rw [stepS_bad (by rw [e2]; simp), e2]
      rw [stepS_bad (by rw [e3]; simp), e3]
  rw [recF_bad (by rw [h3]; simp), h3]
theorem recF_is (h : k + 20 ≤ s.size) : recF s ⟨k, false, 0⟩ = (⟨numAt s k 1, ad16 s (k + 4), (srcF s (numAt s (k + 2) 2) ⟨k + 20, false, 0⟩).1⟩, decide (1 ≤ numAt s k 1) && (decide (numAt s k 1 ≤ 6) && grp6 (ad16 s (k + 4))), if (srcF s (numAt s (k + 2) 2) ⟨k + 20, false, 0⟩).2.e = 0 then stepS s (numAt s (k + 1) 1 * 4) (srcF s (numAt s (k + 2) 2) ⟨k + 20, false, 0⟩).2 else (srcF s (numAt s (k + 2) 2) ⟨k + 20, false, 0⟩).2) := by
  have e1 : stepS s 1 ⟨k, false, 0⟩ = ⟨k + 1, false, 0⟩ := stepS_ok (by omega)
  have e2 : stepS s 1 ⟨k + 1, false, 0⟩ = ⟨k + 2, false, 0⟩ := stepS_ok (by omega)
  have e3 : stepS s 2 ⟨k + 2, false, 0⟩ = ⟨k + 4, false, 0⟩ := stepS_ok (by omega)
  have e4 : stepS s 16 ⟨k + 4, false, 0⟩ = ⟨k + 20, false, 0⟩ := stepS_ok (by omega)
  unfold recF
  simp only [e1, e2, e3, e4]
  rw [numV_ok (by omega), numV_ok (by omega), numV_ok (by omega), addrS_ok (by omega)]
theorem okAt_is : (decide (1 ≤ numAt s k 1) && (decide (numAt s k 1 ≤ 6) && grp6 (ad16 s (k + 4)))) = okAt s k := by
  unfold okAt
  rw [show decide (1 ≤ numAt s k 1) = decide (0 < numAt s k 1) from decide_eq_decide.2 (by omega), show decide (numAt s k 1 ≤ 6) = decide (numAt s k 1 < 7) from decide_eq_decide.2 (by omega)]
theorem repL_bad {f i : Nat} {X : List Rc} (h : t.e ≠ 0) : repL s n f i X t = (X, t) := repL_end fun h' => h h'.2
theorem repL_is : ∀ {f i k : Nat} {X : List Rc}, k ≤ s.size → (repL s n f i X ⟨k, false, 0⟩).2.e = (rRecL s n f i k X).2 ∧ ((rRecL s n f i k X).2 = 0 → (repL s n f i X ⟨k, false, 0⟩).1 = (rRecL s n f i k X).1)
  | 0, i, k, X, _ => ⟨rfl, fun _ => rfl⟩
  | f + 1, i, k, X, hk => by
    by_cases hi : i < n
    rotate_left
    · rw [repL_end (fun h => hi h.1), rRecL_end hi]
      exact ⟨rfl, fun _ => rfl⟩
    rw [repL_more ⟨hi, rfl⟩, rRecL, if_pos hi]
    by_cases h8 : s.size < k + 20
    · rw [if_pos h8]
      have h3 := recF_short hk h8
      rw [repL_bad (by rw [h3]; simp)]
      exact ⟨h3, fun h => by simp at h⟩
    rw [if_neg h8]
    have hr := recF_is (s := s) (k := k) (by omega)
    obtain ⟨q1, q2⟩ := srcF_is (s := s) (n := numAt s (k + 2) 2) (k := k + 20) (by omega)
    by_cases hc : (rSrcF s (k + 20) (numAt s (k + 2) 2)).2 = 0
    rotate_left
    · rw [if_pos hc]
      have he : (srcF s (numAt s (k + 2) 2) ⟨k + 20, false, 0⟩).2.e ≠ 0 := by rw [q1]; exact hc
      rw [if_neg he] at hr
      have h3 : (recF s ⟨k, false, 0⟩).2.2.e = (rSrcF s (k + 20) (numAt s (k + 2) 2)).2 := by rw [hr]; exact q1
      rw [repL_bad (by rw [h3]; exact hc)]
      exact ⟨h3, fun h => absurd h hc⟩
    rw [if_neg (show ¬ (rSrcF s (k + 20) (numAt s (k + 2) 2)).2 ≠ 0 from fun h => h hc)]
    have he : (srcF s (numAt s (k + 2) 2) ⟨k + 20, false, 0⟩).2.e = 0 := by rw [q1]; exact hc
    rw [if_pos he, q2 hc, okAt_is] at hr
    simp only at hr
    by_cases h2 : s.size < endAt s k
    · rw [if_pos h2]
      unfold endAt at h2
      rw [stepS_no (by omega)] at hr
      have h3 : (recF s ⟨k, false, 0⟩).2.2.e = 3 := by rw [hr]
      rw [repL_bad (by rw [h3]; simp)]
      exact ⟨h3, fun h => by simp at h⟩
    rw [if_neg h2]
    have h2' := h2
    unfold endAt at h2'
    rw [stepS_ok (by omega)] at hr
    rw [hr]
    simp only
    have e1 : k + 20 + 16 * numAt s (k + 2) 2 + numAt s (k + 1) 1 * 4 = endAt s k := by unfold endAt; omega
    have e2 : (⟨numAt s k 1, ad16 s (k + 4), (rSrcF s (k + 20) (numAt s (k + 2) 2)).1⟩ : Rc) = recAt s k := rfl
    rw [e1, e2]
    exact repL_is (f := f) (by omega)
theorem st2_is (h : 8 ≤ s.size) : st2 s = ⟨4, false, 0⟩ := by
  unfold st2 st0
  rw [stepS_ok (by omega), stepS_ok (by omega)]
theorem kindF_is (h : 8 ≤ s.size) : kindF s = numAt s 0 1 := numV_ok (by omega)
theorem repF_is (h : 8 ≤ s.size) : (repF s ⟨4, false, 0⟩).2.e = (rRecF s).2 ∧ ((rRecF s).2 = 0 → (repF s ⟨4, false, 0⟩).1 = (rRecF s).1) := by
  unfold repF rRecF
  rw [stepS_ok (by omega), stepS_ok (by omega), numV_ok (by omega)]
  by_cases h64 : 64 < numAt s 6 2
  · have e : failS (decide (64 < numAt s 6 2)) 6 (⟨4 + 2 + 2, false, 0⟩ : St) = ⟨8, false, 6⟩ := by simp [failS, h64]
    rw [e, if_pos h64, repL_bad (by simp)]
    exact ⟨rfl, fun h => by simp at h⟩
  · have e : failS (decide (64 < numAt s 6 2)) 6 (⟨4 + 2 + 2, false, 0⟩ : St) = ⟨8, false, 0⟩ := by simp [failS, h64]
    rw [e, if_neg h64]
    exact repL_is (by omega)
/-- behind an error nothing but it counts -/
theorem oneF_bad {kd : Int} {z : Nat} {t : St} (h : (failS (decide (kd = 1) && (decide (24 < (z : Int)) && decide ((z : Int) < 28))) 2 (failS (decide ((z : Int) < 24)) 3 t)).e ≠ 0) : (oneF s t kd z).2.e = (failS (decide (kd = 1) && (decide (24 < (z : Int)) && decide ((z : Int) < 28))) 2 (failS (decide ((z : Int) < 24)) 3 t)).e := by
  unfold oneF
  simp only
  generalize failS (decide (kd = 1) && (decide (24 < (z : Int)) && decide ((z : Int) < 28))) 2 (failS (decide ((z : Int) < 24)) 3 t) = t2 at *
  have e1 : (stepS s 2 t2).e = t2.e := stepS_bad h
  have e2 : (stepS s 2 (stepS s 2 t2)).e = t2.e := by rw [stepS_bad (by rw [e1]; exact h), e1]
  have e3 : (stepS s 16 (stepS s 2 (stepS s 2 t2))).e = t2.e := by rw [stepS_bad (by rw [e2]; exact h), e2]
  generalize addrS s 16 (stepS s 2 (stepS s 2 t2)) = a
  generalize stepS s 16 (stepS s 2 (stepS s 2 t2)) = t5 at *
  have f0 : ∀ b, failS b 2 t5 = t5 := fun b => failS_bad (by rw [e3]; exact h)
  simp only [f0]
  split
  · split
    · exact e3
    · have e5 : (stepS s 1 t5).e = t2.e := by rw [stepS_bad (by rw [e3]; exact h), e3]
      have e6 : (stepS s 1 (stepS s 1 t5)).e = t2.e := by rw [stepS_bad (by rw [e5]; exact h), e5]
      have e7 : (stepS s 2 (stepS s 1 (stepS s 1 t5))).e = t2.e := by rw [stepS_bad (by rw [e6]; exact h), e6]
      have f1 : ∀ b, failS b 2 (stepS s 2 (stepS s 1 (stepS s 1 t5))) = stepS s 2 (stepS s 1 (stepS s 1 t5)) := fun b => failS_bad (by rw [e7]; exact h)
      simp only [f1]
      rw [srcF_bad (by rw [e7]; exact h)]
      exact e7
  · exact e3
theorem oneF_bad6 {z : Nat} {t : St} (hz : z ≠ 24) (h : (failS (!zero6 (addrS s 16 (stepS s 2 (stepS s 2 t))) && !grp6 (addrS s 16 (stepS s 2 (stepS s 2 t)))) 2 (stepS s 16 (stepS s 2 (stepS s 2 t)))).e ≠ 0) (h2 : failS (decide (24 < (z : Int)) && decide ((z : Int) < 28)) 2 (failS (decide ((z : Int) < 24)) 3 t) = t) : (oneF s t 1 z).2.e = (failS (!zero6 (addrS s 16 (stepS s 2 (stepS s 2 t))) && !grp6 (addrS s 16 (stepS s 2 (stepS s 2 t)))) 2 (stepS s 16 (stepS s 2 (stepS s 2 t)))).e := by
  simp only [oneF, if_true, decide_true, Bool.true_and, h2]
  rw [if_neg hz]
  generalize failS (!zero6 (addrS s 16 (stepS s 2 (stepS s 2 t))) && !grp6 (addrS s 16 (stepS s 2 (stepS s 2 t)))) 2 (stepS s 16 (stepS s 2 (stepS s 2 t))) = t2 at *
  have e1 : (stepS s 1 t2).e = t2.e := stepS_bad h
  have e2 : (stepS s 1 (stepS s 1 t2)).e = t2.e := by rw [stepS_bad (by rw [e1]; exact h), e1]
  have e3 : (stepS s 2 (stepS s 1 (stepS s 1 t2))).e = t2.e := by rw [stepS_bad (by rw [e2]; exact h), e2]
  have f1 : ∀ b, failS b 2 (stepS s 2 (stepS s 1 (stepS s 1 t2))) = stepS s 2 (stepS s 1 (stepS s 1 t2)) := fun b => failS_bad (by rw [e3]; exact h)
  simp only [f1]
  rw [srcF_bad (by rw [e3]; exact h)]
  exact e3
theorem oneF_is {kd : Int} (h8 : 8 ≤ s.size) (hk : (numAt s 0 1 = 130 ∧ kd = 1) ∨ (numAt s 0 1 = 131 ∧ kd = 2) ∨ (numAt s 0 1 = 132 ∧ kd = 3)) : (oneF s ⟨4, false, 0⟩ kd s.size).2.e = (rOneF s).2 ∧ ((rOneF s).2 = 0 → (oneF s ⟨4, false, 0⟩ kd s.size).1 = (rOneF s).1) := by
  have hkd : (numAt s 0 1 : Int) - 129 = kd := by omega
  have h131 : numAt s 0 1 = 130 ↔ kd = 1 := by omega
  by_cases h24 : s.size < 24
  · have e2 : (rOneF s).2 = 3 := by unfold rOneF; rw [if_pos h24]
    have e3 : failS (decide (kd = 1) && (decide (24 < (s.size : Int)) && decide ((s.size : Int) < 28))) 2 (failS (decide ((s.size : Int) < 24)) 3 ⟨4, false, 0⟩) = ⟨4, false, 3⟩ := by
      rw [decide_eq_true (show (s.size : Int) < 24 by omega)]
      exact failS_bad (by simp [failS])
    rw [e2, oneF_bad (by rw [e3]; simp), e3]
    exact ⟨rfl, fun h => by simp at h⟩
  have e1 : failS (decide ((s.size : Int) < 24)) 3 (⟨4, false, 0⟩ : St) = ⟨4, false, 0⟩ := by rw [decide_eq_false (show ¬ (s.size : Int) < 24 by omega)]; rfl
  by_cases h28 : numAt s 0 1 = 130 ∧ 24 < s.size ∧ s.size < 28
  · have e2 : (rOneF s).2 = 2 := by unfold rOneF; rw [if_neg h24, if_pos h28]
    have e3 : failS (decide (kd = 1) && (decide (24 < (s.size : Int)) && decide ((s.size : Int) < 28))) 2 (failS (decide ((s.size : Int) < 24)) 3 ⟨4, false, 0⟩) = ⟨4, false, 2⟩ := by
      rw [e1, decide_eq_true (h131.1 h28.1), decide_eq_true (show 24 < (s.size : Int) by omega), decide_eq_true (show (s.size : Int) < 28 by omega)]
      rfl
    rw [e2, oneF_bad (by rw [e3]; simp), e3]
    exact ⟨rfl, fun h => by simp at h⟩
  have e2 : failS (decide (kd = 1) && (decide (24 < (s.size : Int)) && decide ((s.size : Int) < 28))) 2 (failS (decide ((s.size : Int) < 24)) 3 ⟨4, false, 0⟩) = ⟨4, false, 0⟩ := by
    have : (decide (kd = 1) && (decide (24 < (s.size : Int)) && decide ((s.size : Int) < 28))) = false := by
      simp only [Bool.and_eq_false_iff, decide_eq_false_iff_not]
      omega
    rw [e1, this]; rfl
  have s1 : stepS s 2 (⟨4, false, 0⟩ : St) = ⟨6, false, 0⟩ := stepS_ok (by omega)
  have s2 : stepS s 2 (⟨6, false, 0⟩ : St) = ⟨8, false, 0⟩ := stepS_ok (by omega)
  have s3 : stepS s 16 (⟨8, false, 0⟩ : St) = ⟨24, false, 0⟩ := stepS_ok (by omega)
  have n1 : numV s 2 (⟨4, false, 0⟩ : St) = numAt s 4 2 := numV_ok (by omega)
  have a1 : addrS s 16 (⟨8, false, 0⟩ : St) = ad16 s 8 := addrS_ok (by omega)
  by_cases hk1 : kd = 1
  rotate_left
  · have hkn := mt h131.1 hk1
    have f1 : oneF s ⟨4, false, 0⟩ kd s.size = (⟨true, 1, kd, 0, ad16 s 8, false, 0, 0, [], []⟩, failS (!grp6 (ad16 s 8)) 2 ⟨24, false, 0⟩) := by
      unfold oneF
      simp only [e2, s1, s2, s3, a1]
      rw [if_neg hk1]
    rw [f1]
    unfold rOneF
    rw [if_neg h24, if_neg h28, hkd]
    have e5 : (numAt s 0 1 == 130) = false := by simpa using hkn
    rw [e5, Bool.false_and, Bool.or_false]
    cases hg : grp6 (ad16 s 8)
    · rw [if_pos rfl]
      exact ⟨rfl, fun h => by simp at h⟩
    · rw [if_neg (by simp), if_pos hkn]
      exact ⟨rfl, fun _ => rfl⟩
  have hkn := h131.2 hk1
  subst hk1
  rw [show decide ((1 : Int) = 1) = true from rfl, Bool.true_and] at e2
  have hb : (numAt s 0 1 == 130) = true := by simpa using hkn
  by_cases hq : (grp6 (ad16 s 8) || zero6 (ad16 s 8)) = false
  · have f1 : (rOneF s).2 = 2 := by unfold rOneF; rw [if_neg h24, if_neg h28, hb, Bool.true_and, if_pos hq]
    have hq2 : (!zero6 (ad16 s 8) && !grp6 (ad16 s 8)) = true := by
      rw [Bool.or_eq_false_iff] at hq
      rw [hq.1, hq.2]; rfl
    rw [f1]
    refine ⟨?_, fun h => by simp at h⟩
    by_cases hz : s.size = 24
    · simp only [oneF, if_true, decide_true, Bool.true_and, e2, s1, s2, s3, a1]
      rw [if_pos hz, hq2]
      rfl
    · rw [oneF_bad6 hz (by rw [s1, s2, s3, a1, hq2]; simp [failS]) e2, s1, s2, s3, a1, hq2]
      rfl
  have hq2 : (!zero6 (ad16 s 8) && !grp6 (ad16 s 8)) = false := by
    have := ne_false hq
    revert this
    cases grp6 (ad16 s 8) <;> cases zero6 (ad16 s 8) <;> simp
  have e6 : failS false 2 (⟨24, false, 0⟩ : St) = ⟨24, false, 0⟩ := rfl
  unfold rOneF
  rw [if_neg h24, if_neg h28, hb, Bool.true_and, if_neg hq, if_neg (by omega)]
  by_cases hz : s.size = 24
  · rw [if_pos hz]
    simp only [oneF, if_true, decide_true, Bool.true_and, e2, s1, s2, s3, a1, n1, hq2, e6]
    rw [if_pos hz]
    exact ⟨rfl, fun _ => rfl⟩
  rw [if_neg hz]
  have f1 : stepS s 1 (⟨24, false, 0⟩ : St) = ⟨25, false, 0⟩ := stepS_ok (by omega)
  have f2 : stepS s 1 (⟨25, false, 0⟩ : St) = ⟨26, false, 0⟩ := stepS_ok (by omega)
  have f3 : stepS s 2 (⟨26, false, 0⟩ : St) = ⟨28, false, 0⟩ := stepS_ok (by omega)
  have m1 : numV s 1 (⟨24, false, 0⟩ : St) = numAt s 24 1 := numV_ok (by omega)
  have m2 : numV s 1 (⟨25, false, 0⟩ : St) = numAt s 25 1 := numV_ok (by omega)
  have m3 : numV s 2 (⟨26, false, 0⟩ : St) = numAt s 26 2 := numV_ok (by omega)
  simp only [oneF, if_true, decide_true, Bool.true_and, e2, s1, s2, s3, a1, n1, hq2, e6, f1, f2, f3, m1, m2, m3]
  rw [if_neg hz]
  by_cases hn : zero6 (ad16 s 8) = true ∧ 0 < numAt s 26 2
  · rw [if_pos hn]
    have e4 : failS (zero6 (ad16 s 8) && decide (0 < numAt s 26 2)) 2 (⟨28, false, 0⟩ : St) = ⟨28, false, 2⟩ := by rw [hn.1, decide_eq_true hn.2]; rfl
    rw [e4, srcF_bad (by simp)]
    exact ⟨rfl, fun h => by simp at h⟩
  · rw [if_neg hn]
    have e4 : failS (zero6 (ad16 s 8) && decide (0 < numAt s 26 2)) 2 (⟨28, false, 0⟩ : St) = ⟨28, false, 0⟩ := by
      have : (zero6 (ad16 s 8) && decide (0 < numAt s 26 2)) = false := by
        rw [Bool.and_eq_false_iff]
        by_cases h0 : zero6 (ad16 s 8) = true
        · exact .inr (decide_eq_false fun h => hn ⟨h0, h⟩)
        · exact .inl (by simpa using h0)
      rw [this]; rfl
    rw [e4]
    obtain ⟨q1, q2⟩ := srcF_is (s := s) (n := numAt s 26 2) (k := 28) (by omega)
    exact ⟨q1, fun h => by rw [q2 h]⟩
theorem readT_is (h : 8 ≤ s.size) : (readT s).2.e = (rReadT s).2 ∧ ((rReadT s).2 = 0 → (readT s).1 = (rReadT s).1) := by
  unfold readT rReadT
  rw [kindF_is h, st2_is h]
  by_cases h1 : numAt s 0 1 = 130
  · rw [if_pos h1, if_pos (.inl h1)]
    exact oneF_is h (.inl ⟨h1, rfl⟩)
  rw [if_neg h1]
  by_cases h2 : numAt s 0 1 = 131
  · rw [if_pos h2, if_pos (.inr (.inl h2))]
    exact oneF_is h (.inr (.inl ⟨h2, rfl⟩))
  rw [if_neg h2]
  by_cases h3 : numAt s 0 1 = 132
  · rw [if_pos h3, if_pos (.inr (.inr h3))]
    exact oneF_is h (.inr (.inr ⟨h3, rfl⟩))
  rw [if_neg h3, if_neg (show ¬(numAt s 0 1 = 130 ∨ numAt s 0 1 = 131 ∨ numAt s 0 1 = 132) by omega)]
  by_cases h4 : numAt s 0 1 = 143
  · rw [if_pos h4, if_pos h4]
    obtain ⟨q1, q2⟩ := repF_is h
    exact ⟨q1, fun h => by rw [show (repF s ⟨4, false, 0⟩).1 = (rRecF s).1 from q2 h]⟩
  · rw [if_neg h4, if_neg h4]
    exact ⟨rfl, fun _ => rfl⟩
theorem readF_is {f t : Ad} (hv : (f.v && t.v) = true) : readF f t s = rReadF f t s := by
  unfold readF rReadF
  rw [if_neg (by rw [hv]; simp)]
  by_cases h8 : s.size < 8
  · rw [if_pos h8, if_pos h8]
  rw [if_neg h8, if_neg h8]
  obtain ⟨q1, q2⟩ := readT_is (s := s) (by omega)
  rw [q1]
  by_cases h0 : (rReadT s).2 = 0
  · rw [if_pos h0, if_pos h0, q2 h0]
  · rw [if_neg h0, if_neg h0]
/-! ### what is read is good -/
theorem ad16_v (h : k + 16 ≤ s.size) : (ad16 s k).v = true := by
  have hx : (s.extract k (k + 16)).size = 16 := by rw [extract_size h (by omega)]; omega
  unfold ad16 adR
  rw [dif_neg (by omega), dif_pos hx]
theorem srcAt_good (h : k + 16 * n ≤ s.size) (hn : n ≤ 64) : srcs6 (srcAt s k n) = true := by
  unfold srcs6
  rw [srcAt_len, decide_eq_true (show n < 65 by omega), Bool.and_true, List.all_eq_true]
  intro a ha
  obtain ⟨i, hi, rfl⟩ := List.mem_map.1 ha
  have := List.mem_range.1 hi
  exact ad16_v (by omega)
theorem rSrcF_good (h : (rSrcF s k n).2 = 0) : srcs6 (rSrcF s k n).1 = true ∧ (rSrcF s k n).1.length = n := by
  obtain ⟨h1, h2, h3⟩ := rSrcF_ok h
  rw [h3]
  exact ⟨srcAt_good h2 h1, srcAt_len _ _ _⟩
theorem rRecL_good : ∀ {f i k : Nat} {X : List Rc}, X.all rcOk6 = true → 8 + recN 20 16 X ≤ k → X.length ≤ i → i ≤ n → k ≤ s.size → n ≤ 64 → (rRecL s n f i k X).2 = 0 → (rRecL s n f i k X).1.all rcOk6 = true ∧ 8 + recN 20 16 (rRecL s n f i k X).1 ≤ s.size ∧ (rRecL s n f i k X).1.length ≤ n
  | 0, i, k, X, h1, h2, h3, h4, h5, h6, _ => ⟨h1, show 8 + recN 20 16 X ≤ s.size by omega, show X.length ≤ n by omega⟩
  | f + 1, i, k, X, h1, h2, h3, h4, h5, h6, h => by
    by_cases hi : i < n
    rotate_left
    · rw [rRecL_end hi]
      exact ⟨h1, show 8 + recN 20 16 X ≤ s.size by omega, show X.length ≤ n by omega⟩
    rw [rRecL, if_pos hi] at h ⊢
    by_cases h8 : s.size < k + 20
    · rw [if_pos h8] at h; simp at h
    rw [if_neg h8] at h ⊢
    by_cases hc : (rSrcF s (k + 20) (numAt s (k + 2) 2)).2 = 0
    rotate_left
    · rw [if_pos hc] at h; exact absurd h hc
    rw [if_neg (show ¬ (rSrcF s (k + 20) (numAt s (k + 2) 2)).2 ≠ 0 from fun h => h hc)] at h ⊢
    by_cases he : s.size < endAt s k
    · rw [if_pos he] at h; simp at h
    rw [if_neg he] at h ⊢
    have he' := he
    unfold endAt at he'
    obtain ⟨g1, g2⟩ := rSrcF_good hc
    by_cases ho : okAt s k = true
    · rw [if_pos ho] at h ⊢
      refine rRecL_good (f := f) ?_ ?_ (by simp; omega) hi (by omega) h6 h
      · rw [List.all_append, h1, Bool.true_and, List.all_cons, List.all_nil, Bool.and_true]
        unfold okAt at ho
        simp only [Bool.and_eq_true, decide_eq_true_eq] at ho
        unfold rcOk6 recAt
        simp only
        rw [decide_eq_true (show (1 : Int) ≤ (numAt s k 1 : Int) by omega), decide_eq_true (show (numAt s k 1 : Int) ≤ 6 by omega), ho.2.2, g1]
        rfl
      · rw [recN_app]
        have : recN 20 16 [recAt s k] = 20 + 16 * numAt s (k + 2) 2 := by simp [recN, recAt, g2]
        rw [this]
        unfold endAt
        omega
    · rw [if_neg ho] at h ⊢
      exact rRecL_good (f := f) h1 (by unfold endAt; omega) (by omega) hi (by omega) h6 h
theorem ex8_val {c : Nat} (hc : c < 256) : (valN 16 (cod8 (valN 16 c : Int)) : Int) = (valN 16 c : Int) := by
  have h1 : IsCode 16 ((valN 16 c : Int)).toNat c := by rw [Int.toNat_natCast]; exact IsCode.self (by omega) (by omega)
  rw [IsCode.unique (by omega) (cod8_is (valN 16 c : Int)) h1]
theorem ex16_val {c : Nat} (hc : c < 65536) : (valN 4096 (cod16 (valN 4096 c : Int)) : Int) = (valN 4096 c : Int) := by
  have h1 : IsCode 4096 ((valN 4096 c : Int)).toNat c := by rw [Int.toNat_natCast]; exact IsCode.self (by omega) (by omega)
  rw [IsCode.unique (by omega) (cod16_is (valN 4096 c : Int)) h1]
end
section
variable {s : ByteArray}
theorem rOneF_good (h8 : 8 ≤ s.size) (hk : numAt s 0 1 = 130 ∨ numAt s 0 1 = 131 ∨ numAt s 0 1 = 132) (h : (rOneF s).2 = 0) : good6 (rOneF s).1 = true := by
  have hr : numAt s 4 2 < 65536 := numAt_lt s 4 2
  have hv : numAt s 25 1 < 256 := numAt_lt s 25 1
  unfold rOneF at h ⊢
  by_cases h24 : s.size < 24
  · rw [if_pos h24] at h; simp at h
  rw [if_neg h24] at h ⊢
  by_cases h28 : numAt s 0 1 = 130 ∧ 24 < s.size ∧ s.size < 28
  · rw [if_pos h28] at h; simp at h
  rw [if_neg h28] at h ⊢
  by_cases hq : (grp6 (ad16 s 8) || (numAt s 0 1 == 130 && zero6 (ad16 s 8))) = false
  · rw [if_pos hq] at h; simp at h
  rw [if_neg hq] at h ⊢
  have hq := ne_false hq
  by_cases hk1 : numAt s 0 1 ≠ 130
  · rw [if_pos hk1] at h ⊢
    have e5 : (numAt s 0 1 == 130) = false := by simpa using hk1
    rw [e5, Bool.false_and, Bool.or_false] at hq
    rcases hk with hk | hk | hk
    · exact absurd hk hk1
    all_goals
      rw [hk]
      unfold good6
      simp [hq]
  rw [if_neg hk1] at h ⊢
  have hb : (numAt s 0 1 == 130) = true := by simpa using hk1
  rw [hb, Bool.true_and] at hq
  have hq2 : (!zero6 (ad16 s 8) && !grp6 (ad16 s 8)) = false := by
    revert hq
    cases grp6 (ad16 s 8) <;> cases zero6 (ad16 s 8) <;> simp
  by_cases hz : s.size = 24
  · rw [if_pos hz] at h ⊢
    unfold good6
    simp only [hq2]
    simp
    omega
  rw [if_neg hz] at h ⊢
  by_cases hn : zero6 (ad16 s 8) = true ∧ 0 < numAt s 26 2
  · rw [if_pos hn] at h; simp at h
  rw [if_neg hn] at h ⊢
  simp only at h ⊢
  obtain ⟨g1, g2⟩ := rSrcF_good h
  have hl : (!zero6 (ad16 s 8) || (rSrcF s 28 (numAt s 26 2)).1.length == 0) = true := by
    rw [g2]
    cases hx : zero6 (ad16 s 8)
    · rfl
    · have : numAt s 26 2 = 0 := by
        by_cases h0 : numAt s 26 2 = 0
        · exact h0
        · exact absurd ⟨hx, by omega⟩ hn
      rw [this]; rfl
  unfold good6
  simp only [hq2, hl, g1, ex8_val hv, ex16_val hr]
  have := Nat.mod_lt (numAt s 24 1) (show 0 < 8 by omega)
  simp
  omega
theorem rReadT_good (h8 : 8 ≤ s.size) (hs : s.size ≤ 1400) (h : (rReadT s).2 = 0) : good6 (rReadT s).1 = true := by
  unfold rReadT at h ⊢
  by_cases h1 : numAt s 0 1 = 130 ∨ numAt s 0 1 = 131 ∨ numAt s 0 1 = 132
  · rw [if_pos h1] at h ⊢
    exact rOneF_good h8 h1 h
  rw [if_neg h1] at h ⊢
  by_cases h34 : numAt s 0 1 = 143
  · rw [if_pos h34] at h ⊢
    simp only at h ⊢
    unfold rRecF at h ⊢
    by_cases h64 : 64 < numAt s 6 2
    · rw [if_pos h64] at h; simp at h
    rw [if_neg h64] at h ⊢
    obtain ⟨g1, g2, g3⟩ := rRecL_good (s := s) (n := numAt s 6 2) (f := 65) (i := 0) (k := 8) (X := []) rfl (by simp [recN]) (by simp) (by omega) (by omega) (by omega) h
    unfold good6
    simp only [g1]
    simp [Ad.z, zeroA]
    omega
  · rw [if_neg h34] at h; simp at h
theorem rReadF_good {f t : Ad} (hs : s.size ≤ 1400) (h : (rReadF f t s).2 = 0) : good6 (rReadF f t s).1 = true := by
  unfold rReadF at h ⊢
  by_cases h8 : s.size < 8
  · rw [if_pos h8] at h; simp at h
  rw [if_neg h8] at h ⊢
  by_cases hb : sumOk6 f t s = false
  · rw [if_pos hb] at h; simp at h
  rw [if_neg hb] at h ⊢
  by_cases h0 : (rReadT s).2 = 0
  · rw [if_pos h0] at h ⊢
    exact rReadT_good (by omega) hs h0
  · rw [if_neg h0] at h; exact absurd h h0
end
end Go.Proofs.YtdnehjhijmeihaaGreat.V
