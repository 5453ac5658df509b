/-
  Contracts of acequiaref09: Read (printed by tools/gen-vl.py).
-/
import Derived.Test.YtealimfmognglaaVl
import Derived.Test.YtealimfmognglaaVi
import Derived.Test.YtealimfmognglaaIn
namespace Go.Proofs.Ytealimfmognglaa
-- %in
open Go.ChangeShapes Go.WideShapes Go.ChangeAt Go.RowKit
set_option linter.unusedVariables false
set_option linter.unusedSimpArgs false
set_option maxRecDepth 20000
attribute [local irreducible] wpList

/-- what the reference reads -/
noncomputable def rReadT (s : ByteArray) : Tk × Int :=
  if numAt s 0 1 = 130 ∨ numAt s 0 1 = 131 ∨ numAt s 0 1 = 132 then rOneF s
  else if numAt s 0 1 = 143 then (⟨true, 2, 2, 0, Ad.z, false, 0, 0, [], (rRecF s).1⟩, (rRecF s).2)
  else (Tk.z, 5)
noncomputable def rReadF (f t : Ad) (s : ByteArray) : Tk × Int :=
  if s.size < 8 then (Tk.z, 3) else if sumOk6 f t s = false then (Tk.z, 4) else if (rReadT s).2 = 0 then ((rReadT s).1, 0) else (Tk.z, (rReadT s).2)
section
variable {w : World} {s : ByteArray} {f t : Ad}
theorem rReadE (h : 8 ≤ s.size) (hb : sumOk6 f t s = true) : rReadF f t s = if (rReadT s).2 = 0 then ((rReadT s).1, 0) else (Tk.z, (rReadT s).2) := by
  unfold rReadF
  rw [if_neg (by omega), if_neg (by rw [hb]; simp)]
theorem rpsB_any {n : Nat} (hn : n < 9223372036854775808) : Gives Try.prog 33 #[.agg (fls [.many (adL f) 17]).toArray, .agg (fls [.many (adL t) 17]).toArray, .int .i64 58, .int .i64 (n : Int)] w (.string (psB f t n)) := by
  rw [← rg_segs, ← rg_segs]
  exact rpseudo_any (p := 58) (ad_cs f) (ad_cs t) (by decide +kernel) (by omega) (u64_small (by omega)) (by omega)
theorem rsum_any (hs : s.size ≤ 100000) (w : World) : ∃ x : Nat, sumOk6 f t s = decide (x = 65535) ∧ ∀ w, Gives Try.prog 34 #[.string (psB f t s.size ++ s)] w (.int .i64 (x : Int)) :=
  ⟨foldN (wsum ((psB f t s.size).data.toList ++ s.data.toList)), rfl, fun w => by
    have hp := psB_size (f := f) (t := t) s.size
    have h := rSum_any (s := psB f t s.size ++ s) (w := w) (by rw [ByteArray.size_append]; omega)
    rwa [toList_append] at h⟩
set_option maxHeartbeats 8000000 in
theorem rread_short (h : s.size < 8) : Calls Try.prog 12 #[.string s, .agg (fls [.many (adL f) 17]).toArray, .agg (fls [.many (adL t) 17]).toArray] w fun e w' => RdPost w Tk.z 3 e w' := by
  have hH := Hp.refl w
  have oF := adL_ok f
  have oT := adL_ok t
  generalize adL f = F at *
  generalize adL t = G at *
  have d1 : decide ((s.size : Int) < 8) = true := decide_eq_true (by omega)
  go_enter Try.func12, Try.ntmps12
  go_wp2_with (first | ((first | (refine iL tab_ok rfl ?_ rfl hH ?_; (focus (first | exact wN rfl | exact rfl)); refine ⟨_, _, rfl, rfl, ?_⟩) | (refine iSR tab_ok rfl ?_ rfl hH ?_; (focus (first | exact wN rfl | exact rfl)); refine ⟨_, _, _, _, rfl, rfl, rfl, rfl, rfl, ?_, ?_⟩; (focus (repeat (first | exact trivial | assumption | exact OkA.z (by kernel_rfl) (by kernel_rfl) | refine ⟨rfl, ?_⟩ | refine ⟨?_, ?_⟩)))) | (refine hAl tab_ok rfl ?_ hH rfl ?_; (focus (first | exact wN rfl | exact rfl))) | (refine hBx rfl ?_ rfl hH ?_ ?_; (focus (first | exact wN rfl | exact rfl)); (focus (repeat (first | exact trivial | assumption | exact OkA.z (by kernel_rfl) (by kernel_rfl) | refine ⟨rfl, ?_⟩ | refine ⟨?_, ?_⟩)))) | (refine hBd tab_ok rfl ?_ rfl rfl rfl hH ?_; (focus (first | exact wN rfl | exact rfl)); refine ⟨?_, ?_, ?_⟩; rotate_left; (focus (repeat (first | exact BR.nil | refine BR.one rfl rfl rfl ?_ | (refine BR.row rfl rfl rfl rfl ?_ ?_; (focus (repeat (first | exact trivial | assumption | exact OkA.z (by kernel_rfl) (by kernel_rfl) | refine ⟨rfl, ?_⟩ | refine ⟨?_, ?_⟩))))))))); clear hH; (first | intro W g hH | intro W hH); ((try simp only [Act.put, pA, pB, pC]))))
  (refine iRet2 Try.results12 tab_ok rfl rfl hH ?_; refine ⟨_, _, rfl, rfl, rfl, ?_⟩)
  exact RdPost.mk (sp := none) (rp := none) (sc := 0) (rc := 0) (D := []) (by rw [tkz_seg]; rfl) ⟨hH.nil, by simp⟩ TkIn.z
set_option maxHeartbeats 8000000 in
theorem rread_sum (hs : s.size ≤ 100000) (h : 8 ≤ s.size) (hb : sumOk6 f t s = false) : Calls Try.prog 12 #[.string s, .agg (fls [.many (adL f) 17]).toArray, .agg (fls [.many (adL t) 17]).toArray] w fun e w' => RdPost w Tk.z 4 e w' := by
  have hH := Hp.refl w
  have oF := adL_ok f
  have oT := adL_ok t
  have d1 : decide ((s.size : Int) < 8) = false := decide_eq_false (by omega)
  have hps := psB_size (f := f) (t := t) s.size
  have hp : ∀ w, Gives Try.prog 33 #[.agg (fls [.many (adL f) 17]).toArray, .agg (fls [.many (adL t) 17]).toArray, .int .i64 58, .int .i64 (s.size : Int)] w (.string (psB f t s.size)) := fun w => rpsB_any (by omega)
  obtain ⟨x, hx, hg⟩ := rsum_any (f := f) (t := t) hs w
  rw [hb] at hx
  have d2 : ((x : Int) != 65535) = true := by have := of_decide_eq_false hx.symm; simp; omega
  clear hx hb
  generalize psB f t s.size = PB at *
  generalize adL f = F at *
  generalize adL t = G at *
  go_enter Try.func12, Try.ntmps12
  go_wp2_with (first | ((first | (refine iL tab_ok rfl ?_ rfl hH ?_; (focus (first | exact wN rfl | exact rfl)); refine ⟨_, _, rfl, rfl, ?_⟩) | (refine iSR tab_ok rfl ?_ rfl hH ?_; (focus (first | exact wN rfl | exact rfl)); refine ⟨_, _, _, _, rfl, rfl, rfl, rfl, rfl, ?_, ?_⟩; (focus (repeat (first | exact trivial | assumption | exact OkA.z (by kernel_rfl) (by kernel_rfl) | refine ⟨rfl, ?_⟩ | refine ⟨?_, ?_⟩)))) | (refine hAl tab_ok rfl ?_ hH rfl ?_; (focus (first | exact wN rfl | exact rfl))) | (refine hBx rfl ?_ rfl hH ?_ ?_; (focus (first | exact wN rfl | exact rfl)); (focus (repeat (first | exact trivial | assumption | exact OkA.z (by kernel_rfl) (by kernel_rfl) | refine ⟨rfl, ?_⟩ | refine ⟨?_, ?_⟩)))) | (refine hBd tab_ok rfl ?_ rfl rfl rfl hH ?_; (focus (first | exact wN rfl | exact rfl)); refine ⟨?_, ?_, ?_⟩; rotate_left; (focus (repeat (first | exact BR.nil | refine BR.one rfl rfl rfl ?_ | (refine BR.row rfl rfl rfl rfl ?_ ?_; (focus (repeat (first | exact trivial | assumption | exact OkA.z (by kernel_rfl) (by kernel_rfl) | refine ⟨rfl, ?_⟩ | refine ⟨?_, ?_⟩)))))))) | ((with_reducible refine callH hH ?_); refine ⟨?_, ?_, ?_⟩; rotate_left; (focus (first | (with_reducible exact hp _) | (with_reducible exact hg _))))); clear hH; (first | intro W g hH | intro W hH); ((try simp only [Act.put, pA, pB, pC]))))
  (refine iRet2 Try.results12 tab_ok rfl rfl hH ?_; refine ⟨_, _, rfl, rfl, rfl, ?_⟩)
  exact RdPost.mk (sp := none) (rp := none) (sc := 0) (rc := 0) (D := []) (by rw [tkz_seg]; rfl) ⟨hH.nil, by simp⟩ TkIn.z
set_option maxHeartbeats 8000000 in
theorem rread_one (hs : s.size ≤ 100000) (h : 8 ≤ s.size) (hb : sumOk6 f t s = true) (hk : numAt s 0 1 = 130 ∨ numAt s 0 1 = 131 ∨ numAt s 0 1 = 132) : Calls Try.prog 12 #[.string s, .agg (fls [.many (adL f) 17]).toArray, .agg (fls [.many (adL t) 17]).toArray] w fun e w' => RdPost w (rReadF f t s).1 (rReadF f t s).2 e w' := by
  have hH := Hp.refl w
  have oF := adL_ok f
  have oT := adL_ok t
  have d1 : decide ((s.size : Int) < 8) = false := decide_eq_false (by omega)
  have hps := psB_size (f := f) (t := t) s.size
  have hp : ∀ w, Gives Try.prog 33 #[.agg (fls [.many (adL f) 17]).toArray, .agg (fls [.many (adL t) 17]).toArray, .int .i64 58, .int .i64 (s.size : Int)] w (.string (psB f t s.size)) := fun w => rpsB_any (by omega)
  obtain ⟨x, hx, hg⟩ := rsum_any (f := f) (t := t) hs w
  rw [hb] at hx
  obtain rfl : x = 65535 := of_decide_eq_true hx.symm
  clear hx
  have i0 : ∀ W, (Instr.index 9 (.string s) (.int .i64 0)).run Try.prog W = .ok (.int .u8 (numAt s 0 1 : Int)) W := fun W => run_at (s := s) (k := 0) (by omega) 0 rfl W
  have he := rReadE h hb
  have hT : rReadT s = rOneF s := by unfold rReadT; rw [if_pos hk]
  rw [hT] at he
  have QP := Lib.hid (show ∀ (W : World) (H : HB) (Q : Ending → World → Prop), Hp w.heap.size w W H → (∀ W' sp sc rp rc D, Hid (TkIn D sp rp (rOneF s).1) → Hid (∀ r ∈ D, r.2.2.1 = true) → Hp w.heap.size w W' (H ++ D) → Q (.returned (.tuple #[.agg (fls (tkS (rOneF s).1 sp sc rp rc)).toArray, .int .i64 (rOneF s).2])) W') → Calls Try.prog 42 #[.string s] W Q from fun W H Q hH hQ =>
    (rone_any h hs hk).mono fun _ _ ⟨sp, sc, rp, rc, D, he, hm, hr⟩ => by subst he; exact hQ _ sp sc rp rc D (Lib.hid hr) (Lib.hid hm.2) (hH.join hm))
  clear hT hb
  generalize rReadF f t s = RF at *
  subst he
  generalize (rOneF s).2 = ec at *
  generalize (rOneF s).1 = T at *
  obtain ⟨v6, ver, kind, resp, GG, quiet, rob, every, src, recs⟩ := T
  unfold tkS at QP
  simp only at QP
  have oG := adL_ok GG
  obtain ⟨Y, hY⟩ : ∃ Y, Y = adL GG := ⟨_, rfl⟩
  rw [← hY] at QP oG
  have HY := Lib.hid hY
  clear hY
  generalize psB f t s.size = PB at *
  generalize adL f = F at *
  generalize adL t = G at *
  generalize numAt s 0 1 = kn at *
  by_cases hz : ec = 0
  · subst hz
    rw [if_pos rfl]
    rcases hk with rfl | rfl | rfl
    all_goals
      go_enter Try.func12, Try.ntmps12
      go_wp2_with (first | ((go_at_call 42; refine QP.out _ _ _ hH ?_; (clear hH; intro W sp sc rp rc D hT hD hH); (try simp only [List.cons_append, List.nil_append] at hH); ((try simp only [Act.put, pA, pB, pC])))) | ((first | (refine iL tab_ok rfl ?_ rfl hH ?_; (focus (first | exact wN rfl | exact rfl)); refine ⟨_, _, rfl, rfl, ?_⟩) | (refine iSR tab_ok rfl ?_ rfl hH ?_; (focus (first | exact wN rfl | exact rfl)); refine ⟨_, _, _, _, rfl, rfl, rfl, rfl, rfl, ?_, ?_⟩; (focus (repeat (first | exact trivial | assumption | exact OkA.z (by kernel_rfl) (by kernel_rfl) | refine ⟨rfl, ?_⟩ | refine ⟨?_, ?_⟩)))) | (refine hAl tab_ok rfl ?_ hH rfl ?_; (focus (first | exact wN rfl | exact rfl))) | (refine hBx rfl ?_ rfl hH ?_ ?_; (focus (first | exact wN rfl | exact rfl)); (focus (repeat (first | exact trivial | assumption | exact OkA.z (by kernel_rfl) (by kernel_rfl) | refine ⟨rfl, ?_⟩ | refine ⟨?_, ?_⟩)))) | (refine hBd tab_ok rfl ?_ rfl rfl rfl hH ?_; (focus (first | exact wN rfl | exact rfl)); refine ⟨?_, ?_, ?_⟩; rotate_left; (focus (repeat (first | exact BR.nil | refine BR.one rfl rfl rfl ?_ | (refine BR.row rfl rfl rfl rfl ?_ ?_; (focus (repeat (first | exact trivial | assumption | exact OkA.z (by kernel_rfl) (by kernel_rfl) | refine ⟨rfl, ?_⟩ | refine ⟨?_, ?_⟩)))))))) | ((with_reducible refine callH hH ?_); refine ⟨?_, ?_, ?_⟩; rotate_left; (focus (first | (with_reducible exact hp _) | (with_reducible exact hg _))))); clear hH; (first | intro W g hH | intro W hH); ((try simp only [Act.put, pA, pB, pC]))))
      (refine iRet2 Try.results12 tab_ok rfl rfl hH ?_; refine ⟨_, _, rfl, rfl, rfl, ?_⟩)
      exact RdPost.mk (sp := sp) (rp := rp) (sc := sc) (rc := rc) (D := D) (by unfold tkS; simp only; rw [← HY.out]; rfl) ⟨hH.sub (by repeat (first | exact SubH.refl | apply SubH.drop)), hD.out⟩ hT.out
  · have dz : (ec != 0) = true := by simpa using hz
    rw [if_neg hz]
    rcases hk with rfl | rfl | rfl
    all_goals
      go_enter Try.func12, Try.ntmps12
      go_wp2_with (first | ((go_at_call 42; refine QP.out _ _ _ hH ?_; (clear hH; intro W sp sc rp rc D hT hD hH); (try simp only [List.cons_append, List.nil_append] at hH); ((try simp only [Act.put, pA, pB, pC])))) | ((first | (refine iL tab_ok rfl ?_ rfl hH ?_; (focus (first | exact wN rfl | exact rfl)); refine ⟨_, _, rfl, rfl, ?_⟩) | (refine iSR tab_ok rfl ?_ rfl hH ?_; (focus (first | exact wN rfl | exact rfl)); refine ⟨_, _, _, _, rfl, rfl, rfl, rfl, rfl, ?_, ?_⟩; (focus (repeat (first | exact trivial | assumption | exact OkA.z (by kernel_rfl) (by kernel_rfl) | refine ⟨rfl, ?_⟩ | refine ⟨?_, ?_⟩)))) | (refine hAl tab_ok rfl ?_ hH rfl ?_; (focus (first | exact wN rfl | exact rfl))) | (refine hBx rfl ?_ rfl hH ?_ ?_; (focus (first | exact wN rfl | exact rfl)); (focus (repeat (first | exact trivial | assumption | exact OkA.z (by kernel_rfl) (by kernel_rfl) | refine ⟨rfl, ?_⟩ | refine ⟨?_, ?_⟩)))) | (refine hBd tab_ok rfl ?_ rfl rfl rfl hH ?_; (focus (first | exact wN rfl | exact rfl)); refine ⟨?_, ?_, ?_⟩; rotate_left; (focus (repeat (first | exact BR.nil | refine BR.one rfl rfl rfl ?_ | (refine BR.row rfl rfl rfl rfl ?_ ?_; (focus (repeat (first | exact trivial | assumption | exact OkA.z (by kernel_rfl) (by kernel_rfl) | refine ⟨rfl, ?_⟩ | refine ⟨?_, ?_⟩)))))))) | ((with_reducible refine callH hH ?_); refine ⟨?_, ?_, ?_⟩; rotate_left; (focus (first | (with_reducible exact hp _) | (with_reducible exact hg _))))); clear hH; (first | intro W g hH | intro W hH); ((try simp only [Act.put, pA, pB, pC]))))
      (refine iRet2 Try.results12 tab_ok rfl rfl hH ?_; refine ⟨_, _, rfl, rfl, rfl, ?_⟩)
      exact RdPost.mk (sp := none) (rp := none) (sc := 0) (rc := 0) (D := []) (by rw [tkz_seg]; rfl) ⟨hH.nil, by simp⟩ TkIn.z
set_option maxHeartbeats 8000000 in
theorem rread_recs (hs : s.size ≤ 100000) (h : 8 ≤ s.size) (hb : sumOk6 f t s = true) (hk : numAt s 0 1 = 143) : Calls Try.prog 12 #[.string s, .agg (fls [.many (adL f) 17]).toArray, .agg (fls [.many (adL t) 17]).toArray] w fun e w' => RdPost w (rReadF f t s).1 (rReadF f t s).2 e w' := by
  have hH := Hp.refl w
  have oF := adL_ok f
  have oT := adL_ok t
  have d1 : decide ((s.size : Int) < 8) = false := decide_eq_false (by omega)
  have hps := psB_size (f := f) (t := t) s.size
  have hp : ∀ w, Gives Try.prog 33 #[.agg (fls [.many (adL f) 17]).toArray, .agg (fls [.many (adL t) 17]).toArray, .int .i64 58, .int .i64 (s.size : Int)] w (.string (psB f t s.size)) := fun w => rpsB_any (by omega)
  obtain ⟨x, hx, hg⟩ := rsum_any (f := f) (t := t) hs w
  rw [hb] at hx
  obtain rfl : x = 65535 := of_decide_eq_true hx.symm
  clear hx
  have i0 : ∀ W, (Instr.index 9 (.string s) (.int .i64 0)).run Try.prog W = .ok (.int .u8 (numAt s 0 1 : Int)) W := fun W => run_at (s := s) (k := 0) (by omega) 0 rfl W
  rw [hk] at i0
  have he := rReadE h hb
  have hT : rReadT s = (⟨true, 2, 2, 0, Ad.z, false, 0, 0, [], (rRecF s).1⟩, (rRecF s).2) := by unfold rReadT; rw [if_neg (by omega), if_pos hk]
  rw [hT] at he
  simp only at he
  have QP := Lib.hid (show ∀ (W : World) (H : HB) (Q : Ending → World → Prop), Hp w.heap.size w W H → (∀ W' p c D, Hid (∀ B w0 W, Hp B w0 W D → RcsAt W p (rRecF s).1) → Hid (∀ r ∈ D, r.2.2.1 = true) → Hp w.heap.size w W' (H ++ D) → Q (.returned (.tuple #[.slice p (rRecF s).1.length c, .int .i64 (rRecF s).2])) W') → Calls Try.prog 43 #[.string s] W Q from fun W H Q hH hQ =>
    (rrecords_any h hs).mono fun _ _ ⟨p, c, D, he, hm, hr⟩ => by subst he; exact hQ _ p c D (Lib.hid hr) (Lib.hid hm.2) (hH.join hm))
  clear hT hb hk
  generalize rReadF f t s = RF at *
  subst he
  generalize (rRecF s).2 = ec at *
  generalize (rRecF s).1 = R at *
  generalize psB f t s.size = PB at *
  generalize adL f = F at *
  generalize adL t = G at *
  by_cases hz : ec = 0
  · subst hz
    rw [if_pos rfl]
    go_enter Try.func12, Try.ntmps12
    go_wp2_with (first | ((go_at_call 43; refine QP.out _ _ _ hH ?_; (clear hH; intro W rp rc D hT hD hH); (try simp only [List.cons_append, List.nil_append] at hH); ((try simp only [Act.put, pA, pB, pC])))) | ((first | (refine iL tab_ok rfl ?_ rfl hH ?_; (focus (first | exact wN rfl | exact rfl)); refine ⟨_, _, rfl, rfl, ?_⟩) | (refine iS1 tab_ok rfl ?_ rfl hH ?_; (focus (first | exact wN rfl | exact rfl)); refine ⟨_, _, _, _, rfl, rfl, rfl, rfl, rfl, ?_⟩) | (refine iSR tab_ok rfl ?_ rfl hH ?_; (focus (first | exact wN rfl | exact rfl)); refine ⟨_, _, _, _, rfl, rfl, rfl, rfl, rfl, ?_, ?_⟩; (focus (repeat (first | exact trivial | assumption | exact OkA.z (by kernel_rfl) (by kernel_rfl) | refine ⟨rfl, ?_⟩ | refine ⟨?_, ?_⟩)))) | (refine hAl tab_ok rfl ?_ hH rfl ?_; (focus (first | exact wN rfl | exact rfl))) | (refine hBx rfl ?_ rfl hH ?_ ?_; (focus (first | exact wN rfl | exact rfl)); (focus (repeat (first | exact trivial | assumption | exact OkA.z (by kernel_rfl) (by kernel_rfl) | refine ⟨rfl, ?_⟩ | refine ⟨?_, ?_⟩)))) | (refine hBd tab_ok rfl ?_ rfl rfl rfl hH ?_; (focus (first | exact wN rfl | exact rfl)); refine ⟨?_, ?_, ?_⟩; rotate_left; (focus (repeat (first | exact BR.nil | refine BR.one rfl rfl rfl ?_ | (refine BR.row rfl rfl rfl rfl ?_ ?_; (focus (repeat (first | exact trivial | assumption | exact OkA.z (by kernel_rfl) (by kernel_rfl) | refine ⟨rfl, ?_⟩ | refine ⟨?_, ?_⟩)))))))) | ((with_reducible refine callH hH ?_); refine ⟨?_, ?_, ?_⟩; rotate_left; (focus (first | (with_reducible exact hp _) | (with_reducible exact hg _))))); clear hH; (first | intro W g hH | intro W hH); ((try simp only [Act.put, pA, pB, pC]))))
    (refine iRet2 Try.results12 tab_ok rfl rfl hH ?_; refine ⟨_, _, rfl, rfl, rfl, ?_⟩)
    exact RdPost.mk (sp := none) (rp := rp) (sc := 0) (rc := rc) (D := D) (by unfold tkS; simp only; rw [adL_z]; rfl) ⟨hH.sub (by repeat (first | exact SubH.refl | apply SubH.drop)), hD.out⟩ (fun B w0 W h => ⟨AdsAt.nil, hT.out _ _ _ h⟩)
  · have dz : (ec != 0) = true := by simpa using hz
    rw [if_neg hz]
    go_enter Try.func12, Try.ntmps12
    go_wp2_with (first | ((go_at_call 43; refine QP.out _ _ _ hH ?_; (clear hH; intro W rp rc D hT hD hH); (try simp only [List.cons_append, List.nil_append] at hH); ((try simp only [Act.put, pA, pB, pC])))) | ((first | (refine iL tab_ok rfl ?_ rfl hH ?_; (focus (first | exact wN rfl | exact rfl)); refine ⟨_, _, rfl, rfl, ?_⟩) | (refine iS1 tab_ok rfl ?_ rfl hH ?_; (focus (first | exact wN rfl | exact rfl)); refine ⟨_, _, _, _, rfl, rfl, rfl, rfl, rfl, ?_⟩) | (refine iSR tab_ok rfl ?_ rfl hH ?_; (focus (first | exact wN rfl | exact rfl)); refine ⟨_, _, _, _, rfl, rfl, rfl, rfl, rfl, ?_, ?_⟩; (focus (repeat (first | exact trivial | assumption | exact OkA.z (by kernel_rfl) (by kernel_rfl) | refine ⟨rfl, ?_⟩ | refine ⟨?_, ?_⟩)))) | (refine hAl tab_ok rfl ?_ hH rfl ?_; (focus (first | exact wN rfl | exact rfl))) | (refine hBx rfl ?_ rfl hH ?_ ?_; (focus (first | exact wN rfl | exact rfl)); (focus (repeat (first | exact trivial | assumption | exact OkA.z (by kernel_rfl) (by kernel_rfl) | refine ⟨rfl, ?_⟩ | refine ⟨?_, ?_⟩)))) | (refine hBd tab_ok rfl ?_ rfl rfl rfl hH ?_; (focus (first | exact wN rfl | exact rfl)); refine ⟨?_, ?_, ?_⟩; rotate_left; (focus (repeat (first | exact BR.nil | refine BR.one rfl rfl rfl ?_ | (refine BR.row rfl rfl rfl rfl ?_ ?_; (focus (repeat (first | exact trivial | assumption | exact OkA.z (by kernel_rfl) (by kernel_rfl) | refine ⟨rfl, ?_⟩ | refine ⟨?_, ?_⟩)))))))) | ((with_reducible refine callH hH ?_); refine ⟨?_, ?_, ?_⟩; rotate_left; (focus (first | (with_reducible exact hp _) | (with_reducible exact hg _))))); clear hH; (first | intro W g hH | intro W hH); ((try simp only [Act.put, pA, pB, pC]))))
    (refine iRet2 Try.results12 tab_ok rfl rfl hH ?_; refine ⟨_, _, rfl, rfl, rfl, ?_⟩)
    exact RdPost.mk (sp := none) (rp := none) (sc := 0) (rc := 0) (D := []) (by rw [tkz_seg]; rfl) ⟨hH.nil, by simp⟩ TkIn.z
set_option maxHeartbeats 8000000 in
theorem rread_none (hs : s.size ≤ 100000) (h : 8 ≤ s.size) (hb : sumOk6 f t s = true) (hk : ¬(numAt s 0 1 = 130 ∨ numAt s 0 1 = 131 ∨ numAt s 0 1 = 132)) (h2 : numAt s 0 1 ≠ 143) : Calls Try.prog 12 #[.string s, .agg (fls [.many (adL f) 17]).toArray, .agg (fls [.many (adL t) 17]).toArray] w fun e w' => RdPost w (rReadF f t s).1 (rReadF f t s).2 e w' := by
  have hH := Hp.refl w
  have oF := adL_ok f
  have oT := adL_ok t
  have d1 : decide ((s.size : Int) < 8) = false := decide_eq_false (by omega)
  have hps := psB_size (f := f) (t := t) s.size
  have hp : ∀ w, Gives Try.prog 33 #[.agg (fls [.many (adL f) 17]).toArray, .agg (fls [.many (adL t) 17]).toArray, .int .i64 58, .int .i64 (s.size : Int)] w (.string (psB f t s.size)) := fun w => rpsB_any (by omega)
  obtain ⟨x, hx, hg⟩ := rsum_any (f := f) (t := t) hs w
  rw [hb] at hx
  obtain rfl : x = 65535 := of_decide_eq_true hx.symm
  clear hx
  have i0 : ∀ W, (Instr.index 9 (.string s) (.int .i64 0)).run Try.prog W = .ok (.int .u8 (numAt s 0 1 : Int)) W := fun W => run_at (s := s) (k := 0) (by omega) 0 rfl W
  have hlt : numAt s 0 1 < 256 := numAt_lt s 0 1
  have he := rReadE h hb
  have hT : rReadT s = (Tk.z, 5) := by unfold rReadT; rw [if_neg (by omega), if_neg h2]
  rw [hT, if_neg (show ¬ (5 : Int) = 0 by decide)] at he
  clear hT hb
  generalize rReadF f t s = RF at *
  subst he
  generalize psB f t s.size = PB at *
  generalize adL f = F at *
  generalize adL t = G at *
  generalize numAt s 0 1 = k at *
  have a2 : ((k : Int) == 143) = false := by simp; omega
  have hc : (decide ((130 : Int) ≤ (k : Int)) = false ∧ (k : Int) < 130) ∨ (decide ((130 : Int) ≤ (k : Int)) = true ∧ decide ((k : Int) ≤ 132) = false ∧ (132 : Int) < (k : Int)) := by
    by_cases h1 : (130 : Int) ≤ (k : Int)
    · exact .inr ⟨decide_eq_true h1, decide_eq_false (by omega), by omega⟩
    · exact .inl ⟨decide_eq_false h1, by omega⟩
  clear hk h2
  rcases hc with ⟨c1, c2⟩ | ⟨c1, c2, c3⟩
  all_goals
    go_enter Try.func12, Try.ntmps12
    go_wp2_with (first | ((first | (refine iL tab_ok rfl ?_ rfl hH ?_; (focus (first | exact wN rfl | exact rfl)); refine ⟨_, _, rfl, rfl, ?_⟩) | (refine iSR tab_ok rfl ?_ rfl hH ?_; (focus (first | exact wN rfl | exact rfl)); refine ⟨_, _, _, _, rfl, rfl, rfl, rfl, rfl, ?_, ?_⟩; (focus (repeat (first | exact trivial | assumption | exact OkA.z (by kernel_rfl) (by kernel_rfl) | refine ⟨rfl, ?_⟩ | refine ⟨?_, ?_⟩)))) | (refine hAl tab_ok rfl ?_ hH rfl ?_; (focus (first | exact wN rfl | exact rfl))) | (refine hBx rfl ?_ rfl hH ?_ ?_; (focus (first | exact wN rfl | exact rfl)); (focus (repeat (first | exact trivial | assumption | exact OkA.z (by kernel_rfl) (by kernel_rfl) | refine ⟨rfl, ?_⟩ | refine ⟨?_, ?_⟩)))) | (refine hBd tab_ok rfl ?_ rfl rfl rfl hH ?_; (focus (first | exact wN rfl | exact rfl)); refine ⟨?_, ?_, ?_⟩; rotate_left; (focus (repeat (first | exact BR.nil | refine BR.one rfl rfl rfl ?_ | (refine BR.row rfl rfl rfl rfl ?_ ?_; (focus (repeat (first | exact trivial | assumption | exact OkA.z (by kernel_rfl) (by kernel_rfl) | refine ⟨rfl, ?_⟩ | refine ⟨?_, ?_⟩)))))))) | ((with_reducible refine callH hH ?_); refine ⟨?_, ?_, ?_⟩; rotate_left; (focus (first | (with_reducible exact hp _) | (with_reducible exact hg _))))); clear hH; (first | intro W g hH | intro W hH); ((try simp only [Act.put, pA, pB, pC]))))
    (refine iRet2 Try.results12 tab_ok rfl rfl hH ?_; refine ⟨_, _, rfl, rfl, rfl, ?_⟩)
    exact RdPost.mk (sp := none) (rp := none) (sc := 0) (rc := 0) (D := []) (by rw [tkz_seg]; rfl) ⟨hH.nil, by simp⟩ TkIn.z
theorem rread_any (hs : s.size ≤ 100000) : Calls Try.prog 12 #[.string s, .agg (fls [.many (adL f) 17]).toArray, .agg (fls [.many (adL t) 17]).toArray] w fun e w' => RdPost w (rReadF f t s).1 (rReadF f t s).2 e w' := by
  by_cases h8 : s.size < 8
  · have e : rReadF f t s = (Tk.z, 3) := by unfold rReadF; rw [if_pos h8]
    rw [e]
    exact rread_short h8
  have h := Nat.le_of_not_lt h8
  cases hb : sumOk6 f t s
  · have e : rReadF f t s = (Tk.z, 4) := by unfold rReadF; rw [if_neg h8, if_pos hb]
    rw [e]
    exact rread_sum hs h hb
  by_cases h1 : numAt s 0 1 = 130 ∨ numAt s 0 1 = 131 ∨ numAt s 0 1 = 132
  · exact rread_one hs h hb h1
  by_cases h2 : numAt s 0 1 = 143
  · exact rread_recs hs h hb h2
  exact rread_none hs h hb h1 h2
end
end Go.Proofs.Ytealimfmognglaa
