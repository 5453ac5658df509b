/-
  Joined texts: Giz.
-/
import Derived.Test.YtdnehjhijmeihaaGreatQGh
import Derived.Test.YtdnehjhijmeihaaGreatQJm
import Derived.Test.YtdnehjhijmeihaaGreatQMem
import Derived.Test.YtdnehjhijmeihaaGreatQSl
namespace Go.Proofs.YtdnehjhijmeihaaGreat
-- %in
section
open Go.ChangeShapes Go.WideShapes Go.ChangeAt Go.RowKit
set_option linter.unusedVariables false
set_option linter.unusedSimpArgs false
set_option maxRecDepth 20000
attribute [local irreducible] wpList

def sumOk (s : ByteArray) : Bool := decide (foldN (wsum s.data.toList) = 65535)
def st0 : St := ⟨0, false, 0⟩
def kindF (s : ByteArray) : Nat := numV s 1 st0
def secF (s : ByteArray) : Nat := numV s 1 (stepS s 1 st0)
def st3 (s : ByteArray) : St := stepS s 2 (stepS s 1 (stepS s 1 st0))
def ver1F (s : ByteArray) : Int := if kindF s = 18 then 1 else 2
def kind1F (s : ByteArray) : Int := if kindF s = 23 then 3 else 2
noncomputable def readT (s : ByteArray) : Tk × St :=
  if kindF s = 17 then qryF s (failS (decide (8 < s.size) && decide (s.size < 12)) 2 (st3 s)) (secF s)
  else if kindF s = 34 then (⟨false, 3, 2, 0, Ad.z, false, 0, 0, [], (repF s (st3 s)).1⟩, (repF s (st3 s)).2)
  else if kindF s = 18 ∨ kindF s = 22 ∨ kindF s = 23 then (⟨false, ver1F s, kind1F s, 0, addrS s 4 (st3 s), false, 0, 0, [], []⟩, failS (!grp4 (addrS s 4 (st3 s))) 2 (stepS s 4 (st3 s)))
  else (Tk.z, ⟨(st3 s).k, (st3 s).b, 5⟩)
noncomputable def readF (s : ByteArray) : Tk × Int :=
  if s.size < 8 then (Tk.z, 3) else if sumOk s = false then (Tk.z, 4) else if (readT s).2.e = 0 then ((readT s).1, 0) else (Tk.z, (readT s).2.e)
theorem tkz_seg : fls (tkS Tk.z none 0 none 0) = fls [.one (.bool false), .one (.int .i64 0), .one (.int .i64 0), .one (.int .i64 0), .many (zeroL Tryz.prog 25) 17, .one (.bool false), .one (.int .i64 0), .one (.int .i64 0), .one (.slice none 0 0), .one (.slice none 0 0)] := by
  rw [← adL_z]
  rfl
theorem zadr_ok : OkA (zeroL Tryz.prog 25) 17 := by rw [← adL_z]; exact adL_ok _
theorem readE {s : ByteArray} (h : 8 ≤ s.size) (hb : sumOk s = true) : readF s = if (readT s).2.e = 0 then ((readT s).1, 0) else (Tk.z, (readT s).2.e) := by
  unfold readF
  rw [if_neg (by omega), if_neg (by rw [hb]; simp)]
def RdPost (w : World) (T : Tk) (c : Int) (e : Ending) (w' : World) : Prop := ∃ sp sc rp rc D, e = .returned (.tuple #[.agg (fls (tkS T sp sc rp rc)).toArray, .int .i64 c]) ∧ Made w w' D ∧ TkIn D sp rp T
theorem RdPost.mk {w : World} {T : Tk} {c : Int} {e : Ending} {w' : World} {sp rp : Option Addr} {sc rc : Nat} {D : HB} (h1 : e = .returned (.tuple #[.agg (fls (tkS T sp sc rp rc)).toArray, .int .i64 c])) (h2 : Made w w' D) (h3 : TkIn D sp rp T) : RdPost w T c e w' := ⟨sp, sc, rp, rc, D, h1, h2, h3⟩
theorem TkIn.z {D : HB} : TkIn D none none Tk.z := fun _ _ _ _ => ⟨AdsAt.nil, RcsAt.nil⟩
section
variable {w : World} {s : ByteArray}
theorem sgood_any (hs : s.size ≤ 100000) {W : World} {g c : Nat} (h : Row W g 9 (fls [.one (.string s)]).toArray) : Gives Tryz.prog 151 #[.slice (some ⟨g, 0, none⟩) 1 c] W (.bool (sumOk s)) := by
  have h := Good_row (m := 1) (c := c) (ss := [s]) rfl (small1 (by omega)) (by simpa [fls] using h)
  rwa [show flat [s] = s.data.toList by simp only [flat, List.flatMap_cons, List.flatMap_nil, List.append_nil]] at h
theorem st0_k : st0.k ≤ s.size := Nat.zero_le _
theorem st3_k : (st3 s).k ≤ s.size := stepS_k (stepS_k (stepS_k st0_k))
/-- what the three calls ahead do -/
theorem pre3 (B : Nat) (w0 : World) (hs : s.size ≤ 100000) : ∃ (t1 t2 : St) (v3 : Nat), (∀ g gr, NumC B w0 g gr s 1 st0 (kindF s) t1) ∧ (∀ g gr, NumC B w0 g gr s 1 t1 (secF s) t2) ∧ (∀ g gr, NumC B w0 g gr s 2 t2 v3 (st3 s)) :=
  ⟨_, _, _, fun g gr => numC (by omega) hs st0_k, fun g gr => numC (by omega) hs (stepS_k st0_k), fun g gr => numC (by omega) hs (stepS_k (stepS_k st0_k))⟩
end
end
section
open Go.ChangeShapes Go.WideShapes Go.ChangeAt Go.RowKit
set_option linter.unusedVariables false
set_option linter.unusedSimpArgs false
set_option maxRecDepth 20000
attribute [local irreducible] wpList

section
variable {w : World} {s : ByteArray}
set_option maxHeartbeats 1000000 in
theorem iread_short (h : s.size < 8) : Calls Tryz.prog 111 #[.string s] w fun e w' => RdPost w Tk.z 3 e w' := by
  have hH := Hp.refl w
  have d1 : decide ((s.size : Int) < 8) = true := decide_eq_true (by omega)
  go_enter Tryz.func111, Tryz.ntmps111
  go_wp2_with (first | (refine st ?_; clear hH; (first | intro W g hH | intro W hH)))
  (refine iRet2 Tryz.results111 tab_ok rfl rfl hH ?_; refine ⟨_, _, rfl, rfl, rfl, ?_⟩)
  exact RdPost.mk (sp := none) (rp := none) (sc := 0) (rc := 0) (D := []) (by rw [tkz_seg]; rfl) ⟨hH.nil, by simp⟩ TkIn.z
set_option maxHeartbeats 1000000 in
theorem iread_sum (hs : s.size ≤ 100000) (h : 8 ≤ s.size) (hb : sumOk s = false) : Calls Tryz.prog 111 #[.string s] w fun e w' => RdPost w Tk.z 4 e w' := by
  have hH := Hp.refl w
  have d1 : decide ((s.size : Int) < 8) = false := decide_eq_false (by omega)
  have hgood := @sgood_any s hs
  rw [hb] at hgood
  go_enter Tryz.func111, Tryz.ntmps111
  go_wp2_with (first | ((go_at_call 151; refine callR 0 hH rfl (fun hr => hgood hr) ?_; (clear hH; (first | intro W g hH | intro W hH); (try simp only [Act.put, pA, pB, pC])))) | (refine st ?_; clear hH; (first | intro W g hH | intro W hH)))
  (refine iRet2 Tryz.results111 tab_ok rfl rfl hH ?_; refine ⟨_, _, rfl, rfl, rfl, ?_⟩)
  exact RdPost.mk (sp := none) (rp := none) (sc := 0) (rc := 0) (D := []) (by rw [tkz_seg]; rfl) ⟨hH.nil, by simp⟩ TkIn.z
end
end
section
open Go.ChangeShapes Go.WideShapes Go.ChangeAt Go.RowKit
set_option linter.unusedVariables false
set_option linter.unusedSimpArgs false
set_option maxRecDepth 20000
attribute [local irreducible] wpList

section
variable {w : World} {s : ByteArray}
set_option maxHeartbeats 2000000 in
theorem iread_34 (hs : s.size ≤ 100000) (h : 8 ≤ s.size) (hb : sumOk s = true) (hk : kindF s = 34) : Calls Tryz.prog 111 #[.string s] w fun e w' => RdPost w (readF s).1 (readF s).2 e w' := by
  have hH := Hp.refl w
  have d1 : decide ((s.size : Int) < 8) = false := decide_eq_false (by omega)
  have hgood := @sgood_any s hs
  rw [hb] at hgood
  obtain ⟨t1, t2, v3, N1, N2, N3⟩ := pre3 w.heap.size w hs
  have N1 := Lib.hid N1
  have N2 := Lib.hid N2
  have N3 := Lib.hid N3
  have hk3 := st3_k (s := s)
  have hv2 : secF s < 256 := numV_lt _ _ _
  have he := readE h hb
  rw [hk] at N1
  obtain ⟨R, t5, hres⟩ : ∃ R t, repF s (st3 s) = (R, t) := ⟨_, _, rfl⟩
  have hT : readT s = (⟨false, 3, 2, 0, Ad.z, false, 0, 0, [], R⟩, t5) := by unfold readT; rw [if_neg (by omega), if_pos hk, hres]
  have RP := Lib.hid (show ∀ (W : World) (H : HB) (Q : Ending → World → Prop) (g gr gt : Nat), Hp w.heap.size w W ((gt, 29, true, [.one (.bool false), .one (.int .i64 3), .one (.int .i64 2), .one (.int .i64 0), .many (zeroL Tryz.prog 25) 17, .one (.bool false), .one (.int .i64 0), .one (.int .i64 0), .one (.slice none 0 0), .one (.slice none 0 0)]) :: rdH g gr s (st3 s) H) → (∀ W' rp rc D, Hid (∀ B w0 W, Hp B w0 W D → RcsAt W rp R) → Hid (∀ r ∈ D, r.2.2.1 = true) → Hp w.heap.size w W' ((gt, 29, true, [.one (.bool false), .one (.int .i64 3), .one (.int .i64 2), .one (.int .i64 0), .many (zeroL Tryz.prog 25) 17, .one (.bool false), .one (.int .i64 0), .one (.int .i64 0), .one (.slice none 0 0), .one (.slice rp R.length rc)]) :: rdH g gr s t5 (H ++ D)) → Q (.returned (.tuple #[])) W') → Calls Tryz.prog 158 #[.pointer (some ⟨g, 0, none⟩), .pointer (some ⟨gt, 0, none⟩)] W Q from fun W H Q g gr gt hH hQ => by
    refine ireports_any (src := []) zadr_ok hs hk3 (hH.perm ((List.Perm.swap _ _ _).trans ((List.Perm.swap _ _ _).cons _))) ?_
    intro W' R2 t2 D rp rc e hA hD hH
    have e2 := e.out.symm.trans hres
    injection e2 with e3 e4
    subst e3
    subst e4
    exact hQ W' rp rc D hA hD (hH.perm (((List.Perm.swap _ _ _).cons _).trans (List.Perm.swap _ _ _))))
  clear hres hk hk3 hv2
  generalize st3 s = t3 at *
  obtain ⟨k3, b3, e3⟩ := t3
  rw [hT] at he
  clear hT
  obtain ⟨k5, b5, e5⟩ := t5
  simp only at he
  by_cases hz : e5 = 0
  · subst hz
    rw [if_pos rfl] at he
    rw [he]
    clear he
    have d2 : ((0 : Int) != 0) = false := rfl
    go_enter Tryz.func111, Tryz.ntmps111
    go_wp2_with (first | ((go_at_call 151; refine callR 0 hH rfl (fun hr => hgood hr) ?_; (clear hH; (first | intro W g hH | intro W hH); (try simp only [Act.put, pA, pB, pC])))) | ((go_at_call 47; refine hNew hH ?_; (clear hH; intro W gr hH); (try simp only [Act.put, List.setIfInBounds_toArray, List.set_cons_succ, List.set_cons_zero]))) | ((go_at_call 155; (first | refine N1.out _ _ _ _ _ _ _ _ 0 1 rfl hH rfl rfl rfl rfl ?_ | refine N2.out _ _ _ _ _ _ _ _ 0 1 rfl hH rfl rfl rfl rfl ?_ | refine N3.out _ _ _ _ _ _ _ _ 0 1 rfl hH rfl rfl rfl rfl ?_); (clear hH; (first | intro W g hH | intro W hH); (try simp only [Act.put, pA, pB, pC])))) | ((go_at_call 158; refine RP.out _ _ _ _ _ _ hH ?_; (clear hH; intro W rp rc D hA hD hH); (try simp only [List.cons_append, List.nil_append, List.append_assoc] at hH); (try simp only [Act.put, List.setIfInBounds_toArray, List.set_cons_succ, List.set_cons_zero]))) | (refine st ?_; clear hH; (first | intro W g hH | intro W hH)))
    (refine iRet2 Tryz.results111 tab_ok rfl rfl hH ?_; refine ⟨_, _, rfl, rfl, rfl, ?_⟩)
    refine RdPost.mk (sp := none) (rp := rp) (sc := 0) (rc := rc) (D := D) (by unfold tkS; simp only; rw [adL_z]; rfl) ⟨hH.sub (SubH.drop (SubH.drop (SubH.drop (SubH.drop (SubH.drop SubH.refl))))), hD.out⟩ (fun B w0 W h => ⟨AdsAt.nil, hA.out _ _ _ h⟩)
  · rw [if_neg hz] at he
    rw [he]
    clear he
    have d2 : (e5 != 0) = true := by simpa using hz
    go_enter Tryz.func111, Tryz.ntmps111
    go_wp2_with (first | ((go_at_call 151; refine callR 0 hH rfl (fun hr => hgood hr) ?_; (clear hH; (first | intro W g hH | intro W hH); (try simp only [Act.put, pA, pB, pC])))) | ((go_at_call 47; refine hNew hH ?_; (clear hH; intro W gr hH); (try simp only [Act.put, List.setIfInBounds_toArray, List.set_cons_succ, List.set_cons_zero]))) | ((go_at_call 155; (first | refine N1.out _ _ _ _ _ _ _ _ 0 1 rfl hH rfl rfl rfl rfl ?_ | refine N2.out _ _ _ _ _ _ _ _ 0 1 rfl hH rfl rfl rfl rfl ?_ | refine N3.out _ _ _ _ _ _ _ _ 0 1 rfl hH rfl rfl rfl rfl ?_); (clear hH; (first | intro W g hH | intro W hH); (try simp only [Act.put, pA, pB, pC])))) | ((go_at_call 158; refine RP.out _ _ _ _ _ _ hH ?_; (clear hH; intro W rp rc D hA hD hH); (try simp only [List.cons_append, List.nil_append, List.append_assoc] at hH); (try simp only [Act.put, List.setIfInBounds_toArray, List.set_cons_succ, List.set_cons_zero]))) | (refine st ?_; clear hH; (first | intro W g hH | intro W hH)))
    ((with_reducible refine regM hH (SubH.drop (SubH.keep (SubH.keep (SubH.drop (SubH.drop SubH.refl))))) (by kernel_rfl) ?_); (clear hH; intro W hH); refine mtt [0, 1] ?_; refine hm_two (fuel := 4) 2 5 rfl rfl (by kernel_rfl) ?_ ?_; (focus (go_wp2_with (first | (refine st ?_; clear hH; (first | intro W g hH | intro W hH))); refine me ?_; refine mtt [3, 4] ?_; refine mo 5 ?_; go_wp2_with (first | (refine st ?_; clear hH; (first | intro W g hH | intro W hH))); refine me ?_; refine mtt [6] ?_; refine hm_end (by kernel_rfl) ?_)); rotate_left 1; (focus (go_wp2_with (first | (refine st ?_; clear hH; (first | intro W g hH | intro W hH))); refine me ?_; refine mo 2 ?_; go_wp2_with (first | (refine st ?_; clear hH; (first | intro W g hH | intro W hH))); refine me ?_; refine mtt [3, 4, 6] ?_; refine hm_end (by kernel_rfl) ?_)))
    all_goals
      go_wp2_with (first | (refine st ?_; clear hH; (first | intro W g hH | intro W hH)))
      (refine iRet2 Tryz.results111 tab_ok rfl rfl hH ?_; refine ⟨_, _, rfl, rfl, rfl, ?_⟩)
      exact RdPost.mk (sp := none) (rp := none) (sc := 0) (rc := 0) (D := []) (by rw [tkz_seg]; rfl) ⟨hH.nil, by simp⟩ TkIn.z
end
end
section
open Go.ChangeShapes Go.WideShapes Go.ChangeAt Go.RowKit
set_option linter.unusedVariables false
set_option linter.unusedSimpArgs false
set_option maxRecDepth 20000
attribute [local irreducible] wpList

theorem qryF_recs (s : ByteArray) (t : St) (c : Nat) : (qryF s t c).1.recs = [] := by
  unfold qryF
  simp only
  split
  · split <;> rfl
  · rfl
section
variable {w : World} {s : ByteArray}
set_option maxHeartbeats 2000000 in
theorem iread_17a (hs : s.size ≤ 100000) (h : 8 ≤ s.size) (hb : sumOk s = true) (h9 : s.size ≤ 8) (hk : kindF s = 17) : Calls Tryz.prog 111 #[.string s] w fun e w' => RdPost w (readF s).1 (readF s).2 e w' := by
  have hH := Hp.refl w
  have d1 : decide ((s.size : Int) < 8) = false := decide_eq_false (by omega)
  have hgood := @sgood_any s hs
  rw [hb] at hgood
  have E8 : (decide (8 < s.size) && decide (s.size < 12)) = false := by rw [decide_eq_false (by omega), Bool.false_and]
  have d8 : decide ((8 : Int) < (s.size : Int)) = false := decide_eq_false (by omega)
  obtain ⟨t1, t2, v3, N1, N2, N3⟩ := pre3 w.heap.size w hs
  have N1 := Lib.hid N1
  have N2 := Lib.hid N2
  have N3 := Lib.hid N3
  have hk3 := st3_k (s := s)
  have hv2 : secF s < 256 := numV_lt _ _ _
  have he := readE h hb
  rw [hk] at N1
  obtain ⟨b4, hb4⟩ : ∃ b, (decide (8 < s.size) && decide (s.size < 12)) = b := ⟨_, rfl⟩
  obtain ⟨t4, ht4⟩ : ∃ t, failS b4 2 (st3 s) = t := ⟨_, rfl⟩
  have hk4 : t4.k ≤ s.size := by rw [← ht4, failS_k]; exact hk3
  have F4 := fun g gr => failC (B := w.heap.size) (w0 := w) (g := g) (gr := gr) (s := s) (is := b4) (c := 2) (t := st3 s)
  have e4 := failS_eq b4 2 (st3 s)
  rw [ht4] at F4 e4
  have F4 := Lib.hid F4
  obtain ⟨⟨v6, ver, kind, resp, a, quiet, rob, every, src, recs⟩, t5, hres⟩ : ∃ R t, qryF s t4 (secF s) = (R, t) := ⟨_, _, rfl⟩
  have hrec : recs = [] := by have := qryF_recs s t4 (secF s); rw [hres] at this; exact this
  subst hrec
  have hT : readT s = (⟨v6, ver, kind, resp, a, quiet, rob, every, src, []⟩, t5) := by unfold readT; rw [if_pos hk, hb4, ht4, hres]
  have RP := Lib.hid (show ∀ (W : World) (H : HB) (Q : Ending → World → Prop) (g gr gt : Nat), Hp w.heap.size w W ((gt, 29, true, [.one (.bool false), .one (.int .i64 0), .one (.int .i64 1), .one (.int .i64 0), .many (zeroL Tryz.prog 25) 17, .one (.bool false), .one (.int .i64 0), .one (.int .i64 0), .one (.slice none 0 0), .one (.slice none 0 0)]) :: rdH g gr s t4 H) → (∀ W' sp sc D, Hid (∀ B w0 W, Hp B w0 W D → AdsAt W sp src) → Hid (∀ r ∈ D, r.2.2.1 = true) → Hp w.heap.size w W' ((gt, 29, true, [.one (.bool v6), .one (.int .i64 ver), .one (.int .i64 kind), .one (.int .i64 resp), .many (adL a) 17, .one (.bool quiet), .one (.int .i64 rob), .one (.int .i64 every), .one (.slice sp src.length sc), .one (.slice none 0 0)]) :: rdH g gr s t5 (H ++ D)) → Q (.returned (.tuple #[])) W') → Calls Tryz.prog 157 #[.pointer (some ⟨g, 0, none⟩), .pointer (some ⟨gt, 0, none⟩), .int .i64 (secF s : Int)] W Q from fun W H Q g gr gt hH hQ => by
    refine iqueries_any (c := secF s) zadr_ok (by omega) hs hk4 (hH.perm ((List.Perm.swap _ _ _).trans ((List.Perm.swap _ _ _).cons _))) ?_
    intro W' R2 t2 D sp sc e hA hD hH
    have e2 := e.out.symm.trans hres
    injection e2 with e3 e4
    subst e3
    subst e4
    exact hQ W' sp sc D hA hD (hH.perm (((List.Perm.swap _ _ _).cons _).trans (List.Perm.swap _ _ _))))
  clear hres ht4 hk hk3 hk4 hv2
  generalize secF s = v2 at *
  generalize st3 s = t3 at *
  obtain ⟨k3, b3, e3⟩ := t3
  obtain ⟨k4, b4', e4'⟩ := t4
  simp only at e4
  injection e4 with x1 x2 x3
  subst x1
  subst x2
  clear x3
  have oA := adL_ok a
  obtain ⟨A, hA⟩ : ∃ Y, Y = adL a := ⟨_, rfl⟩
  have HA := Lib.hid hA
  rw [← hA] at RP oA
  clear hA
  have hb5 := hb4.symm.trans E8
  subst hb5
  clear hb4 E8
  rw [hT] at he
  clear hT
  obtain ⟨k5, b5, e5⟩ := t5
  simp only at he
  by_cases hz : e5 = 0
  · subst hz
    rw [if_pos rfl] at he
    rw [he]
    clear he
    have d2 : ((0 : Int) != 0) = false := rfl
    go_enter Tryz.func111, Tryz.ntmps111
    go_wp2_with (first | ((go_at_call 151; refine callR 0 hH rfl (fun hr => hgood hr) ?_; (clear hH; (first | intro W g hH | intro W hH); (try simp only [Act.put, pA, pB, pC])))) | ((go_at_call 47; refine hNew hH ?_; (clear hH; intro W gr hH); (try simp only [Act.put, List.setIfInBounds_toArray, List.set_cons_succ, List.set_cons_zero]))) | ((go_at_call 155; (first | refine N1.out _ _ _ _ _ _ _ _ 0 1 rfl hH rfl rfl rfl rfl ?_ | refine N2.out _ _ _ _ _ _ _ _ 0 1 rfl hH rfl rfl rfl rfl ?_ | refine N3.out _ _ _ _ _ _ _ _ 0 1 rfl hH rfl rfl rfl rfl ?_); (clear hH; (first | intro W g hH | intro W hH); (try simp only [Act.put, pA, pB, pC])))) | ((go_at_call 157; refine RP.out _ _ _ _ _ _ hH ?_; (clear hH; intro W sp sc D hA hD hH); (try simp only [List.cons_append, List.nil_append, List.append_assoc] at hH); (try simp only [Act.put, List.setIfInBounds_toArray, List.set_cons_succ, List.set_cons_zero]))) | ((go_at_call 156; refine F4.out _ _ _ _ _ _ _ _ _ 1 2 rfl rfl hH rfl rfl rfl rfl ?_; (clear hH; (first | intro W g hH | intro W hH); (try simp only [Act.put, pA, pB, pC])))) | (refine st ?_; clear hH; (first | intro W g hH | intro W hH)))
    (refine iRet2 Tryz.results111 tab_ok rfl rfl hH ?_; refine ⟨_, _, rfl, rfl, rfl, ?_⟩)
    refine RdPost.mk (sp := sp) (rp := none) (sc := sc) (rc := 0) (D := D) (by unfold tkS; simp only; rw [← HA.out]; rfl) ⟨hH.sub (SubH.drop (SubH.drop (SubH.drop (SubH.drop (SubH.drop SubH.refl))))), hD.out⟩ (fun B w0 W h => ⟨hA.out _ _ _ h, RcsAt.nil⟩)
  · rw [if_neg hz] at he
    rw [he]
    clear he
    have d2 : (e5 != 0) = true := by simpa using hz
    go_enter Tryz.func111, Tryz.ntmps111
    go_wp2_with (first | ((go_at_call 151; refine callR 0 hH rfl (fun hr => hgood hr) ?_; (clear hH; (first | intro W g hH | intro W hH); (try simp only [Act.put, pA, pB, pC])))) | ((go_at_call 47; refine hNew hH ?_; (clear hH; intro W gr hH); (try simp only [Act.put, List.setIfInBounds_toArray, List.set_cons_succ, List.set_cons_zero]))) | ((go_at_call 155; (first | refine N1.out _ _ _ _ _ _ _ _ 0 1 rfl hH rfl rfl rfl rfl ?_ | refine N2.out _ _ _ _ _ _ _ _ 0 1 rfl hH rfl rfl rfl rfl ?_ | refine N3.out _ _ _ _ _ _ _ _ 0 1 rfl hH rfl rfl rfl rfl ?_); (clear hH; (first | intro W g hH | intro W hH); (try simp only [Act.put, pA, pB, pC])))) | ((go_at_call 157; refine RP.out _ _ _ _ _ _ hH ?_; (clear hH; intro W sp sc D hA hD hH); (try simp only [List.cons_append, List.nil_append, List.append_assoc] at hH); (try simp only [Act.put, List.setIfInBounds_toArray, List.set_cons_succ, List.set_cons_zero]))) | ((go_at_call 156; refine F4.out _ _ _ _ _ _ _ _ _ 1 2 rfl rfl hH rfl rfl rfl rfl ?_; (clear hH; (first | intro W g hH | intro W hH); (try simp only [Act.put, pA, pB, pC])))) | (refine st ?_; clear hH; (first | intro W g hH | intro W hH)))
    ((with_reducible refine regM hH (SubH.drop (SubH.keep (SubH.keep (SubH.drop (SubH.drop SubH.refl))))) (by kernel_rfl) ?_); (clear hH; intro W hH); refine mtt [0, 1] ?_; refine hm_two (fuel := 4) 2 5 rfl rfl (by kernel_rfl) ?_ ?_; (focus (go_wp2_with (first | (refine st ?_; clear hH; (first | intro W g hH | intro W hH))); refine me ?_; refine mtt [3, 4] ?_; refine mo 5 ?_; go_wp2_with (first | (refine st ?_; clear hH; (first | intro W g hH | intro W hH))); refine me ?_; refine mtt [6] ?_; refine hm_end (by kernel_rfl) ?_)); rotate_left 1; (focus (go_wp2_with (first | (refine st ?_; clear hH; (first | intro W g hH | intro W hH))); refine me ?_; refine mo 2 ?_; go_wp2_with (first | (refine st ?_; clear hH; (first | intro W g hH | intro W hH))); refine me ?_; refine mtt [3, 4, 6] ?_; refine hm_end (by kernel_rfl) ?_)))
    all_goals
      go_wp2_with (first | (refine st ?_; clear hH; (first | intro W g hH | intro W hH)))
      (refine iRet2 Tryz.results111 tab_ok rfl rfl hH ?_; refine ⟨_, _, rfl, rfl, rfl, ?_⟩)
      exact RdPost.mk (sp := none) (rp := none) (sc := 0) (rc := 0) (D := []) (by rw [tkz_seg]; rfl) ⟨hH.nil, by simp⟩ TkIn.z
set_option maxHeartbeats 2000000 in
theorem iread_17b (hs : s.size ≤ 100000) (h : 8 ≤ s.size) (hb : sumOk s = true) (h9 : 8 < s.size) (h12 : s.size < 12) (hk : kindF s = 17) : Calls Tryz.prog 111 #[.string s] w fun e w' => RdPost w (readF s).1 (readF s).2 e w' := by
  have hH := Hp.refl w
  have d1 : decide ((s.size : Int) < 8) = false := decide_eq_false (by omega)
  have hgood := @sgood_any s hs
  rw [hb] at hgood
  have E8 : (decide (8 < s.size) && decide (s.size < 12)) = true := by rw [decide_eq_true (by omega), decide_eq_true (by omega), Bool.true_and]
  have d8 : decide ((8 : Int) < (s.size : Int)) = true := decide_eq_true (by omega)
  have d12 : decide ((s.size : Int) < 12) = true := decide_eq_true (by omega)
  obtain ⟨t1, t2, v3, N1, N2, N3⟩ := pre3 w.heap.size w hs
  have N1 := Lib.hid N1
  have N2 := Lib.hid N2
  have N3 := Lib.hid N3
  have hk3 := st3_k (s := s)
  have hv2 : secF s < 256 := numV_lt _ _ _
  have he := readE h hb
  rw [hk] at N1
  obtain ⟨b4, hb4⟩ : ∃ b, (decide (8 < s.size) && decide (s.size < 12)) = b := ⟨_, rfl⟩
  obtain ⟨t4, ht4⟩ : ∃ t, failS b4 2 (st3 s) = t := ⟨_, rfl⟩
  have hk4 : t4.k ≤ s.size := by rw [← ht4, failS_k]; exact hk3
  have F4 := fun g gr => failC (B := w.heap.size) (w0 := w) (g := g) (gr := gr) (s := s) (is := b4) (c := 2) (t := st3 s)
  have e4 := failS_eq b4 2 (st3 s)
  rw [ht4] at F4 e4
  have F4 := Lib.hid F4
  obtain ⟨⟨v6, ver, kind, resp, a, quiet, rob, every, src, recs⟩, t5, hres⟩ : ∃ R t, qryF s t4 (secF s) = (R, t) := ⟨_, _, rfl⟩
  have hrec : recs = [] := by have := qryF_recs s t4 (secF s); rw [hres] at this; exact this
  subst hrec
  have hT : readT s = (⟨v6, ver, kind, resp, a, quiet, rob, every, src, []⟩, t5) := by unfold readT; rw [if_pos hk, hb4, ht4, hres]
  have RP := Lib.hid (show ∀ (W : World) (H : HB) (Q : Ending → World → Prop) (g gr gt : Nat), Hp w.heap.size w W ((gt, 29, true, [.one (.bool false), .one (.int .i64 0), .one (.int .i64 1), .one (.int .i64 0), .many (zeroL Tryz.prog 25) 17, .one (.bool false), .one (.int .i64 0), .one (.int .i64 0), .one (.slice none 0 0), .one (.slice none 0 0)]) :: rdH g gr s t4 H) → (∀ W' sp sc D, Hid (∀ B w0 W, Hp B w0 W D → AdsAt W sp src) → Hid (∀ r ∈ D, r.2.2.1 = true) → Hp w.heap.size w W' ((gt, 29, true, [.one (.bool v6), .one (.int .i64 ver), .one (.int .i64 kind), .one (.int .i64 resp), .many (adL a) 17, .one (.bool quiet), .one (.int .i64 rob), .one (.int .i64 every), .one (.slice sp src.length sc), .one (.slice none 0 0)]) :: rdH g gr s t5 (H ++ D)) → Q (.returned (.tuple #[])) W') → Calls Tryz.prog 157 #[.pointer (some ⟨g, 0, none⟩), .pointer (some ⟨gt, 0, none⟩), .int .i64 (secF s : Int)] W Q from fun W H Q g gr gt hH hQ => by
    refine iqueries_any (c := secF s) zadr_ok (by omega) hs hk4 (hH.perm ((List.Perm.swap _ _ _).trans ((List.Perm.swap _ _ _).cons _))) ?_
    intro W' R2 t2 D sp sc e hA hD hH
    have e2 := e.out.symm.trans hres
    injection e2 with e3 e4
    subst e3
    subst e4
    exact hQ W' sp sc D hA hD (hH.perm (((List.Perm.swap _ _ _).cons _).trans (List.Perm.swap _ _ _))))
  clear hres ht4 hk hk3 hk4 hv2
  generalize secF s = v2 at *
  generalize st3 s = t3 at *
  obtain ⟨k3, b3, e3⟩ := t3
  obtain ⟨k4, b4', e4'⟩ := t4
  simp only at e4
  injection e4 with x1 x2 x3
  subst x1
  subst x2
  clear x3
  have oA := adL_ok a
  obtain ⟨A, hA⟩ : ∃ Y, Y = adL a := ⟨_, rfl⟩
  have HA := Lib.hid hA
  rw [← hA] at RP oA
  clear hA
  have hb5 := hb4.symm.trans E8
  subst hb5
  clear hb4 E8
  rw [hT] at he
  clear hT
  obtain ⟨k5, b5, e5⟩ := t5
  simp only at he
  by_cases hz : e5 = 0
  · subst hz
    rw [if_pos rfl] at he
    rw [he]
    clear he
    have d2 : ((0 : Int) != 0) = false := rfl
    go_enter Tryz.func111, Tryz.ntmps111
    go_wp2_with (first | ((go_at_call 151; refine callR 0 hH rfl (fun hr => hgood hr) ?_; (clear hH; (first | intro W g hH | intro W hH); (try simp only [Act.put, pA, pB, pC])))) | ((go_at_call 47; refine hNew hH ?_; (clear hH; intro W gr hH); (try simp only [Act.put, List.setIfInBounds_toArray, List.set_cons_succ, List.set_cons_zero]))) | ((go_at_call 155; (first | refine N1.out _ _ _ _ _ _ _ _ 0 1 rfl hH rfl rfl rfl rfl ?_ | refine N2.out _ _ _ _ _ _ _ _ 0 1 rfl hH rfl rfl rfl rfl ?_ | refine N3.out _ _ _ _ _ _ _ _ 0 1 rfl hH rfl rfl rfl rfl ?_); (clear hH; (first | intro W g hH | intro W hH); (try simp only [Act.put, pA, pB, pC])))) | ((go_at_call 157; refine RP.out _ _ _ _ _ _ hH ?_; (clear hH; intro W sp sc D hA hD hH); (try simp only [List.cons_append, List.nil_append, List.append_assoc] at hH); (try simp only [Act.put, List.setIfInBounds_toArray, List.set_cons_succ, List.set_cons_zero]))) | ((go_at_call 156; refine F4.out _ _ _ _ _ _ _ _ _ 1 2 rfl rfl hH rfl rfl rfl rfl ?_; (clear hH; (first | intro W g hH | intro W hH); (try simp only [Act.put, pA, pB, pC])))) | (refine st ?_; clear hH; (first | intro W g hH | intro W hH)))
    (refine iRet2 Tryz.results111 tab_ok rfl rfl hH ?_; refine ⟨_, _, rfl, rfl, rfl, ?_⟩)
    refine RdPost.mk (sp := sp) (rp := none) (sc := sc) (rc := 0) (D := D) (by unfold tkS; simp only; rw [← HA.out]; rfl) ⟨hH.sub (SubH.drop (SubH.drop (SubH.drop (SubH.drop (SubH.drop SubH.refl))))), hD.out⟩ (fun B w0 W h => ⟨hA.out _ _ _ h, RcsAt.nil⟩)
  · rw [if_neg hz] at he
    rw [he]
    clear he
    have d2 : (e5 != 0) = true := by simpa using hz
    go_enter Tryz.func111, Tryz.ntmps111
    go_wp2_with (first | ((go_at_call 151; refine callR 0 hH rfl (fun hr => hgood hr) ?_; (clear hH; (first | intro W g hH | intro W hH); (try simp only [Act.put, pA, pB, pC])))) | ((go_at_call 47; refine hNew hH ?_; (clear hH; intro W gr hH); (try simp only [Act.put, List.setIfInBounds_toArray, List.set_cons_succ, List.set_cons_zero]))) | ((go_at_call 155; (first | refine N1.out _ _ _ _ _ _ _ _ 0 1 rfl hH rfl rfl rfl rfl ?_ | refine N2.out _ _ _ _ _ _ _ _ 0 1 rfl hH rfl rfl rfl rfl ?_ | refine N3.out _ _ _ _ _ _ _ _ 0 1 rfl hH rfl rfl rfl rfl ?_); (clear hH; (first | intro W g hH | intro W hH); (try simp only [Act.put, pA, pB, pC])))) | ((go_at_call 157; refine RP.out _ _ _ _ _ _ hH ?_; (clear hH; intro W sp sc D hA hD hH); (try simp only [List.cons_append, List.nil_append, List.append_assoc] at hH); (try simp only [Act.put, List.setIfInBounds_toArray, List.set_cons_succ, List.set_cons_zero]))) | ((go_at_call 156; refine F4.out _ _ _ _ _ _ _ _ _ 1 2 rfl rfl hH rfl rfl rfl rfl ?_; (clear hH; (first | intro W g hH | intro W hH); (try simp only [Act.put, pA, pB, pC])))) | (refine st ?_; clear hH; (first | intro W g hH | intro W hH)))
    ((with_reducible refine regM hH (SubH.drop (SubH.keep (SubH.keep (SubH.drop (SubH.drop SubH.refl))))) (by kernel_rfl) ?_); (clear hH; intro W hH); refine mtt [0, 1] ?_; refine hm_two (fuel := 4) 2 5 rfl rfl (by kernel_rfl) ?_ ?_; (focus (go_wp2_with (first | (refine st ?_; clear hH; (first | intro W g hH | intro W hH))); refine me ?_; refine mtt [3, 4] ?_; refine mo 5 ?_; go_wp2_with (first | (refine st ?_; clear hH; (first | intro W g hH | intro W hH))); refine me ?_; refine mtt [6] ?_; refine hm_end (by kernel_rfl) ?_)); rotate_left 1; (focus (go_wp2_with (first | (refine st ?_; clear hH; (first | intro W g hH | intro W hH))); refine me ?_; refine mo 2 ?_; go_wp2_with (first | (refine st ?_; clear hH; (first | intro W g hH | intro W hH))); refine me ?_; refine mtt [3, 4, 6] ?_; refine hm_end (by kernel_rfl) ?_)))
    all_goals
      go_wp2_with (first | (refine st ?_; clear hH; (first | intro W g hH | intro W hH)))
      (refine iRet2 Tryz.results111 tab_ok rfl rfl hH ?_; refine ⟨_, _, rfl, rfl, rfl, ?_⟩)
      exact RdPost.mk (sp := none) (rp := none) (sc := 0) (rc := 0) (D := []) (by rw [tkz_seg]; rfl) ⟨hH.nil, by simp⟩ TkIn.z
set_option maxHeartbeats 2000000 in
theorem iread_17c (hs : s.size ≤ 100000) (h : 8 ≤ s.size) (hb : sumOk s = true) (h9 : 8 < s.size) (h12 : 12 ≤ s.size) (hk : kindF s = 17) : Calls Tryz.prog 111 #[.string s] w fun e w' => RdPost w (readF s).1 (readF s).2 e w' := by
  have hH := Hp.refl w
  have d1 : decide ((s.size : Int) < 8) = false := decide_eq_false (by omega)
  have hgood := @sgood_any s hs
  rw [hb] at hgood
  have E8 : (decide (8 < s.size) && decide (s.size < 12)) = false := by rw [decide_eq_false (show ¬s.size < 12 by omega), Bool.and_false]
  have d8 : decide ((8 : Int) < (s.size : Int)) = true := decide_eq_true (by omega)
  have d12 : decide ((s.size : Int) < 12) = false := decide_eq_false (by omega)
  obtain ⟨t1, t2, v3, N1, N2, N3⟩ := pre3 w.heap.size w hs
  have N1 := Lib.hid N1
  have N2 := Lib.hid N2
  have N3 := Lib.hid N3
  have hk3 := st3_k (s := s)
  have hv2 : secF s < 256 := numV_lt _ _ _
  have he := readE h hb
  rw [hk] at N1
  obtain ⟨b4, hb4⟩ : ∃ b, (decide (8 < s.size) && decide (s.size < 12)) = b := ⟨_, rfl⟩
  obtain ⟨t4, ht4⟩ : ∃ t, failS b4 2 (st3 s) = t := ⟨_, rfl⟩
  have hk4 : t4.k ≤ s.size := by rw [← ht4, failS_k]; exact hk3
  have F4 := fun g gr => failC (B := w.heap.size) (w0 := w) (g := g) (gr := gr) (s := s) (is := b4) (c := 2) (t := st3 s)
  have e4 := failS_eq b4 2 (st3 s)
  rw [ht4] at F4 e4
  have F4 := Lib.hid F4
  obtain ⟨⟨v6, ver, kind, resp, a, quiet, rob, every, src, recs⟩, t5, hres⟩ : ∃ R t, qryF s t4 (secF s) = (R, t) := ⟨_, _, rfl⟩
  have hrec : recs = [] := by have := qryF_recs s t4 (secF s); rw [hres] at this; exact this
  subst hrec
  have hT : readT s = (⟨v6, ver, kind, resp, a, quiet, rob, every, src, []⟩, t5) := by unfold readT; rw [if_pos hk, hb4, ht4, hres]
  have RP := Lib.hid (show ∀ (W : World) (H : HB) (Q : Ending → World → Prop) (g gr gt : Nat), Hp w.heap.size w W ((gt, 29, true, [.one (.bool false), .one (.int .i64 0), .one (.int .i64 1), .one (.int .i64 0), .many (zeroL Tryz.prog 25) 17, .one (.bool false), .one (.int .i64 0), .one (.int .i64 0), .one (.slice none 0 0), .one (.slice none 0 0)]) :: rdH g gr s t4 H) → (∀ W' sp sc D, Hid (∀ B w0 W, Hp B w0 W D → AdsAt W sp src) → Hid (∀ r ∈ D, r.2.2.1 = true) → Hp w.heap.size w W' ((gt, 29, true, [.one (.bool v6), .one (.int .i64 ver), .one (.int .i64 kind), .one (.int .i64 resp), .many (adL a) 17, .one (.bool quiet), .one (.int .i64 rob), .one (.int .i64 every), .one (.slice sp src.length sc), .one (.slice none 0 0)]) :: rdH g gr s t5 (H ++ D)) → Q (.returned (.tuple #[])) W') → Calls Tryz.prog 157 #[.pointer (some ⟨g, 0, none⟩), .pointer (some ⟨gt, 0, none⟩), .int .i64 (secF s : Int)] W Q from fun W H Q g gr gt hH hQ => by
    refine iqueries_any (c := secF s) zadr_ok (by omega) hs hk4 (hH.perm ((List.Perm.swap _ _ _).trans ((List.Perm.swap _ _ _).cons _))) ?_
    intro W' R2 t2 D sp sc e hA hD hH
    have e2 := e.out.symm.trans hres
    injection e2 with e3 e4
    subst e3
    subst e4
    exact hQ W' sp sc D hA hD (hH.perm (((List.Perm.swap _ _ _).cons _).trans (List.Perm.swap _ _ _))))
  clear hres ht4 hk hk3 hk4 hv2
  generalize secF s = v2 at *
  generalize st3 s = t3 at *
  obtain ⟨k3, b3, e3⟩ := t3
  obtain ⟨k4, b4', e4'⟩ := t4
  simp only at e4
  injection e4 with x1 x2 x3
  subst x1
  subst x2
  clear x3
  have oA := adL_ok a
  obtain ⟨A, hA⟩ : ∃ Y, Y = adL a := ⟨_, rfl⟩
  have HA := Lib.hid hA
  rw [← hA] at RP oA
  clear hA
  have hb5 := hb4.symm.trans E8
  subst hb5
  clear hb4 E8
  rw [hT] at he
  clear hT
  obtain ⟨k5, b5, e5⟩ := t5
  simp only at he
  by_cases hz : e5 = 0
  · subst hz
    rw [if_pos rfl] at he
    rw [he]
    clear he
    have d2 : ((0 : Int) != 0) = false := rfl
    go_enter Tryz.func111, Tryz.ntmps111
    go_wp2_with (first | ((go_at_call 151; refine callR 0 hH rfl (fun hr => hgood hr) ?_; (clear hH; (first | intro W g hH | intro W hH); (try simp only [Act.put, pA, pB, pC])))) | ((go_at_call 47; refine hNew hH ?_; (clear hH; intro W gr hH); (try simp only [Act.put, List.setIfInBounds_toArray, List.set_cons_succ, List.set_cons_zero]))) | ((go_at_call 155; (first | refine N1.out _ _ _ _ _ _ _ _ 0 1 rfl hH rfl rfl rfl rfl ?_ | refine N2.out _ _ _ _ _ _ _ _ 0 1 rfl hH rfl rfl rfl rfl ?_ | refine N3.out _ _ _ _ _ _ _ _ 0 1 rfl hH rfl rfl rfl rfl ?_); (clear hH; (first | intro W g hH | intro W hH); (try simp only [Act.put, pA, pB, pC])))) | ((go_at_call 157; refine RP.out _ _ _ _ _ _ hH ?_; (clear hH; intro W sp sc D hA hD hH); (try simp only [List.cons_append, List.nil_append, List.append_assoc] at hH); (try simp only [Act.put, List.setIfInBounds_toArray, List.set_cons_succ, List.set_cons_zero]))) | ((go_at_call 156; refine F4.out _ _ _ _ _ _ _ _ _ 1 2 rfl rfl hH rfl rfl rfl rfl ?_; (clear hH; (first | intro W g hH | intro W hH); (try simp only [Act.put, pA, pB, pC])))) | (refine st ?_; clear hH; (first | intro W g hH | intro W hH)))
    (refine iRet2 Tryz.results111 tab_ok rfl rfl hH ?_; refine ⟨_, _, rfl, rfl, rfl, ?_⟩)
    refine RdPost.mk (sp := sp) (rp := none) (sc := sc) (rc := 0) (D := D) (by unfold tkS; simp only; rw [← HA.out]; rfl) ⟨hH.sub (SubH.drop (SubH.drop (SubH.drop (SubH.drop (SubH.drop SubH.refl))))), hD.out⟩ (fun B w0 W h => ⟨hA.out _ _ _ h, RcsAt.nil⟩)
  · rw [if_neg hz] at he
    rw [he]
    clear he
    have d2 : (e5 != 0) = true := by simpa using hz
    go_enter Tryz.func111, Tryz.ntmps111
    go_wp2_with (first | ((go_at_call 151; refine callR 0 hH rfl (fun hr => hgood hr) ?_; (clear hH; (first | intro W g hH | intro W hH); (try simp only [Act.put, pA, pB, pC])))) | ((go_at_call 47; refine hNew hH ?_; (clear hH; intro W gr hH); (try simp only [Act.put, List.setIfInBounds_toArray, List.set_cons_succ, List.set_cons_zero]))) | ((go_at_call 155; (first | refine N1.out _ _ _ _ _ _ _ _ 0 1 rfl hH rfl rfl rfl rfl ?_ | refine N2.out _ _ _ _ _ _ _ _ 0 1 rfl hH rfl rfl rfl rfl ?_ | refine N3.out _ _ _ _ _ _ _ _ 0 1 rfl hH rfl rfl rfl rfl ?_); (clear hH; (first | intro W g hH | intro W hH); (try simp only [Act.put, pA, pB, pC])))) | ((go_at_call 157; refine RP.out _ _ _ _ _ _ hH ?_; (clear hH; intro W sp sc D hA hD hH); (try simp only [List.cons_append, List.nil_append, List.append_assoc] at hH); (try simp only [Act.put, List.setIfInBounds_toArray, List.set_cons_succ, List.set_cons_zero]))) | ((go_at_call 156; refine F4.out _ _ _ _ _ _ _ _ _ 1 2 rfl rfl hH rfl rfl rfl rfl ?_; (clear hH; (first | intro W g hH | intro W hH); (try simp only [Act.put, pA, pB, pC])))) | (refine st ?_; clear hH; (first | intro W g hH | intro W hH)))
    ((with_reducible refine regM hH (SubH.drop (SubH.keep (SubH.keep (SubH.drop (SubH.drop SubH.refl))))) (by kernel_rfl) ?_); (clear hH; intro W hH); refine mtt [0, 1] ?_; refine hm_two (fuel := 4) 2 5 rfl rfl (by kernel_rfl) ?_ ?_; (focus (go_wp2_with (first | (refine st ?_; clear hH; (first | intro W g hH | intro W hH))); refine me ?_; refine mtt [3, 4] ?_; refine mo 5 ?_; go_wp2_with (first | (refine st ?_; clear hH; (first | intro W g hH | intro W hH))); refine me ?_; refine mtt [6] ?_; refine hm_end (by kernel_rfl) ?_)); rotate_left 1; (focus (go_wp2_with (first | (refine st ?_; clear hH; (first | intro W g hH | intro W hH))); refine me ?_; refine mo 2 ?_; go_wp2_with (first | (refine st ?_; clear hH; (first | intro W g hH | intro W hH))); refine me ?_; refine mtt [3, 4, 6] ?_; refine hm_end (by kernel_rfl) ?_)))
    all_goals
      go_wp2_with (first | (refine st ?_; clear hH; (first | intro W g hH | intro W hH)))
      (refine iRet2 Tryz.results111 tab_ok rfl rfl hH ?_; refine ⟨_, _, rfl, rfl, rfl, ?_⟩)
      exact RdPost.mk (sp := none) (rp := none) (sc := 0) (rc := 0) (D := []) (by rw [tkz_seg]; rfl) ⟨hH.nil, by simp⟩ TkIn.z
end
end
section
open Go.ChangeShapes Go.WideShapes Go.ChangeAt Go.RowKit
set_option linter.unusedVariables false
set_option linter.unusedSimpArgs false
set_option maxRecDepth 20000
attribute [local irreducible] wpList

section
variable {w : World} {s : ByteArray}
set_option maxHeartbeats 2000000 in
theorem iread_18 (hs : s.size ≤ 100000) (h : 8 ≤ s.size) (hb : sumOk s = true) (hk : kindF s = 18) : Calls Tryz.prog 111 #[.string s] w fun e w' => RdPost w (readF s).1 (readF s).2 e w' := by
  have hH := Hp.refl w
  have d1 : decide ((s.size : Int) < 8) = false := decide_eq_false (by omega)
  have hgood := @sgood_any s hs
  rw [hb] at hgood
  obtain ⟨t1, t2, v3, N1, N2, N3⟩ := pre3 w.heap.size w hs
  have N1 := Lib.hid N1
  have N2 := Lib.hid N2
  have N3 := Lib.hid N3
  have hk3 := st3_k (s := s)
  have hv2 : secF s < 256 := numV_lt _ _ _
  have he := readE h hb
  rw [hk] at N1
  have A1 := fun g gr => addrC (B := w.heap.size) (w0 := w) (g := g) (gr := gr) hs hk3
  obtain ⟨a, ha⟩ : ∃ a, addrS s 4 (st3 s) = a := ⟨_, rfl⟩
  obtain ⟨t4, ht4⟩ : ∃ t, stepS s 4 (st3 s) = t := ⟨_, rfl⟩
  rw [ha, ht4] at A1
  have F5 := Lib.hid (fun g gr => failC (B := w.heap.size) (w0 := w) (g := g) (gr := gr) (s := s) (is := !grp4 a) (c := 2) (t := t4))
  obtain ⟨t5, ht5⟩ : ∃ t, failS (!grp4 a) 2 t4 = t := ⟨_, rfl⟩
  have e5 := failS_eq (!grp4 a) 2 t4
  rw [ht5] at F5 e5
  have hT : readT s = (⟨false, 1, 2, 0, a, false, 0, 0, [], []⟩, t5) := by unfold readT ver1F kind1F; rw [if_neg (by omega), if_neg (by omega), if_pos (by omega), ha, ht4, ht5, if_pos hk, if_neg (by omega)]
  clear ha ht4 ht5 hk hk3 hv2
  have f1 : ∀ w, Gives Tryz.prog 160 #[.agg (fls [.many (adL a) 17]).toArray] w (.bool (grp4 a)) := fun w => igroup_any
  have oA := adL_ok a
  obtain ⟨A, hA⟩ : ∃ Y, Y = adL a := ⟨_, rfl⟩
  have HA := Lib.hid hA
  rw [← hA] at A1 f1 oA
  have A1 := Lib.hid A1
  clear hA
  generalize grp4 a = gb at *
  generalize st3 s = t3 at *
  obtain ⟨k3, b3, e3⟩ := t3
  obtain ⟨k4, b4, e4⟩ := t4
  obtain ⟨k6, b6, e6⟩ := t5
  simp only at e5
  injection e5 with x1 x2 x3
  subst x1
  subst x2
  clear x3
  rw [hT] at he
  clear hT
  simp only at he
  by_cases hz : e6 = 0
  · subst hz
    rw [if_pos rfl] at he
    rw [he]
    clear he
    have d2 : ((0 : Int) != 0) = false := rfl
    go_enter Tryz.func111, Tryz.ntmps111
    go_wp2_with (first | ((go_at_call 151; refine callR 0 hH rfl (fun hr => hgood hr) ?_; (clear hH; (first | intro W g hH | intro W hH); (try simp only [Act.put, pA, pB, pC])))) | ((go_at_call 47; refine hNew hH ?_; (clear hH; intro W gr hH); (try simp only [Act.put, List.setIfInBounds_toArray, List.set_cons_succ, List.set_cons_zero]))) | ((go_at_call 155; (first | refine N1.out _ _ _ _ _ _ _ _ 0 1 rfl hH rfl rfl rfl rfl ?_ | refine N2.out _ _ _ _ _ _ _ _ 0 1 rfl hH rfl rfl rfl rfl ?_ | refine N3.out _ _ _ _ _ _ _ _ 0 1 rfl hH rfl rfl rfl rfl ?_); (clear hH; (first | intro W g hH | intro W hH); (try simp only [Act.put, pA, pB, pC])))) | ((go_at_call 159; refine A1.out _ _ _ _ _ _ _ 1 2 hH rfl rfl rfl rfl ?_; (clear hH; (first | intro W g hH | intro W hH); (try simp only [Act.put, pA, pB, pC])))) | ((go_at_call 156; refine F5.out _ _ _ _ _ _ _ _ _ 1 2 rfl rfl hH rfl rfl rfl rfl ?_; (clear hH; (first | intro W g hH | intro W hH); (try simp only [Act.put, pA, pB, pC])))) | (refine st ?_; clear hH; (first | intro W g hH | intro W hH)))
    (refine iRet2 Tryz.results111 tab_ok rfl rfl hH ?_; refine ⟨_, _, rfl, rfl, rfl, ?_⟩)
    exact RdPost.mk (sp := none) (rp := none) (sc := 0) (rc := 0) (D := []) (by unfold tkS; simp only; rw [← HA.out]; rfl) ⟨hH.nil, by simp⟩ (fun B w0 W h => ⟨AdsAt.nil, RcsAt.nil⟩)
  · rw [if_neg hz] at he
    rw [he]
    clear he
    have d2 : (e6 != 0) = true := by simpa using hz
    go_enter Tryz.func111, Tryz.ntmps111
    go_wp2_with (first | ((go_at_call 151; refine callR 0 hH rfl (fun hr => hgood hr) ?_; (clear hH; (first | intro W g hH | intro W hH); (try simp only [Act.put, pA, pB, pC])))) | ((go_at_call 47; refine hNew hH ?_; (clear hH; intro W gr hH); (try simp only [Act.put, List.setIfInBounds_toArray, List.set_cons_succ, List.set_cons_zero]))) | ((go_at_call 155; (first | refine N1.out _ _ _ _ _ _ _ _ 0 1 rfl hH rfl rfl rfl rfl ?_ | refine N2.out _ _ _ _ _ _ _ _ 0 1 rfl hH rfl rfl rfl rfl ?_ | refine N3.out _ _ _ _ _ _ _ _ 0 1 rfl hH rfl rfl rfl rfl ?_); (clear hH; (first | intro W g hH | intro W hH); (try simp only [Act.put, pA, pB, pC])))) | ((go_at_call 159; refine A1.out _ _ _ _ _ _ _ 1 2 hH rfl rfl rfl rfl ?_; (clear hH; (first | intro W g hH | intro W hH); (try simp only [Act.put, pA, pB, pC])))) | ((go_at_call 156; refine F5.out _ _ _ _ _ _ _ _ _ 1 2 rfl rfl hH rfl rfl rfl rfl ?_; (clear hH; (first | intro W g hH | intro W hH); (try simp only [Act.put, pA, pB, pC])))) | (refine st ?_; clear hH; (first | intro W g hH | intro W hH)))
    ((with_reducible refine regM hH (SubH.drop (SubH.keep (SubH.keep (SubH.drop (SubH.drop SubH.refl))))) (by kernel_rfl) ?_); (clear hH; intro W hH); refine mtt [0, 1] ?_; refine hm_two (fuel := 4) 2 5 rfl rfl (by kernel_rfl) ?_ ?_; (focus (go_wp2_with (first | (refine st ?_; clear hH; (first | intro W g hH | intro W hH))); refine me ?_; refine mtt [3, 4] ?_; refine mo 5 ?_; go_wp2_with (first | (refine st ?_; clear hH; (first | intro W g hH | intro W hH))); refine me ?_; refine mtt [6] ?_; refine hm_end (by kernel_rfl) ?_)); rotate_left 1; (focus (go_wp2_with (first | (refine st ?_; clear hH; (first | intro W g hH | intro W hH))); refine me ?_; refine mo 2 ?_; go_wp2_with (first | (refine st ?_; clear hH; (first | intro W g hH | intro W hH))); refine me ?_; refine mtt [3, 4, 6] ?_; refine hm_end (by kernel_rfl) ?_)))
    all_goals
      go_wp2_with (first | (refine st ?_; clear hH; (first | intro W g hH | intro W hH)))
      (refine iRet2 Tryz.results111 tab_ok rfl rfl hH ?_; refine ⟨_, _, rfl, rfl, rfl, ?_⟩)
      exact RdPost.mk (sp := none) (rp := none) (sc := 0) (rc := 0) (D := []) (by rw [tkz_seg]; rfl) ⟨hH.nil, by simp⟩ TkIn.z
set_option maxHeartbeats 2000000 in
theorem iread_22 (hs : s.size ≤ 100000) (h : 8 ≤ s.size) (hb : sumOk s = true) (hk : kindF s = 22) : Calls Tryz.prog 111 #[.string s] w fun e w' => RdPost w (readF s).1 (readF s).2 e w' := by
  have hH := Hp.refl w
  have d1 : decide ((s.size : Int) < 8) = false := decide_eq_false (by omega)
  have hgood := @sgood_any s hs
  rw [hb] at hgood
  obtain ⟨t1, t2, v3, N1, N2, N3⟩ := pre3 w.heap.size w hs
  have N1 := Lib.hid N1
  have N2 := Lib.hid N2
  have N3 := Lib.hid N3
  have hk3 := st3_k (s := s)
  have hv2 : secF s < 256 := numV_lt _ _ _
  have he := readE h hb
  rw [hk] at N1
  have A1 := fun g gr => addrC (B := w.heap.size) (w0 := w) (g := g) (gr := gr) hs hk3
  obtain ⟨a, ha⟩ : ∃ a, addrS s 4 (st3 s) = a := ⟨_, rfl⟩
  obtain ⟨t4, ht4⟩ : ∃ t, stepS s 4 (st3 s) = t := ⟨_, rfl⟩
  rw [ha, ht4] at A1
  have F5 := Lib.hid (fun g gr => failC (B := w.heap.size) (w0 := w) (g := g) (gr := gr) (s := s) (is := !grp4 a) (c := 2) (t := t4))
  obtain ⟨t5, ht5⟩ : ∃ t, failS (!grp4 a) 2 t4 = t := ⟨_, rfl⟩
  have e5 := failS_eq (!grp4 a) 2 t4
  rw [ht5] at F5 e5
  have hT : readT s = (⟨false, 2, 2, 0, a, false, 0, 0, [], []⟩, t5) := by unfold readT ver1F kind1F; rw [if_neg (by omega), if_neg (by omega), if_pos (by omega), ha, ht4, ht5, if_neg (by omega), if_neg (by omega)]
  clear ha ht4 ht5 hk hk3 hv2
  have f1 : ∀ w, Gives Tryz.prog 160 #[.agg (fls [.many (adL a) 17]).toArray] w (.bool (grp4 a)) := fun w => igroup_any
  have oA := adL_ok a
  obtain ⟨A, hA⟩ : ∃ Y, Y = adL a := ⟨_, rfl⟩
  have HA := Lib.hid hA
  rw [← hA] at A1 f1 oA
  have A1 := Lib.hid A1
  clear hA
  generalize grp4 a = gb at *
  generalize st3 s = t3 at *
  obtain ⟨k3, b3, e3⟩ := t3
  obtain ⟨k4, b4, e4⟩ := t4
  obtain ⟨k6, b6, e6⟩ := t5
  simp only at e5
  injection e5 with x1 x2 x3
  subst x1
  subst x2
  clear x3
  rw [hT] at he
  clear hT
  simp only at he
  by_cases hz : e6 = 0
  · subst hz
    rw [if_pos rfl] at he
    rw [he]
    clear he
    have d2 : ((0 : Int) != 0) = false := rfl
    go_enter Tryz.func111, Tryz.ntmps111
    go_wp2_with (first | ((go_at_call 151; refine callR 0 hH rfl (fun hr => hgood hr) ?_; (clear hH; (first | intro W g hH | intro W hH); (try simp only [Act.put, pA, pB, pC])))) | ((go_at_call 47; refine hNew hH ?_; (clear hH; intro W gr hH); (try simp only [Act.put, List.setIfInBounds_toArray, List.set_cons_succ, List.set_cons_zero]))) | ((go_at_call 155; (first | refine N1.out _ _ _ _ _ _ _ _ 0 1 rfl hH rfl rfl rfl rfl ?_ | refine N2.out _ _ _ _ _ _ _ _ 0 1 rfl hH rfl rfl rfl rfl ?_ | refine N3.out _ _ _ _ _ _ _ _ 0 1 rfl hH rfl rfl rfl rfl ?_); (clear hH; (first | intro W g hH | intro W hH); (try simp only [Act.put, pA, pB, pC])))) | ((go_at_call 159; refine A1.out _ _ _ _ _ _ _ 1 2 hH rfl rfl rfl rfl ?_; (clear hH; (first | intro W g hH | intro W hH); (try simp only [Act.put, pA, pB, pC])))) | ((go_at_call 156; refine F5.out _ _ _ _ _ _ _ _ _ 1 2 rfl rfl hH rfl rfl rfl rfl ?_; (clear hH; (first | intro W g hH | intro W hH); (try simp only [Act.put, pA, pB, pC])))) | (refine st ?_; clear hH; (first | intro W g hH | intro W hH)))
    (refine iRet2 Tryz.results111 tab_ok rfl rfl hH ?_; refine ⟨_, _, rfl, rfl, rfl, ?_⟩)
    exact RdPost.mk (sp := none) (rp := none) (sc := 0) (rc := 0) (D := []) (by unfold tkS; simp only; rw [← HA.out]; rfl) ⟨hH.nil, by simp⟩ (fun B w0 W h => ⟨AdsAt.nil, RcsAt.nil⟩)
  · rw [if_neg hz] at he
    rw [he]
    clear he
    have d2 : (e6 != 0) = true := by simpa using hz
    go_enter Tryz.func111, Tryz.ntmps111
    go_wp2_with (first | ((go_at_call 151; refine callR 0 hH rfl (fun hr => hgood hr) ?_; (clear hH; (first | intro W g hH | intro W hH); (try simp only [Act.put, pA, pB, pC])))) | ((go_at_call 47; refine hNew hH ?_; (clear hH; intro W gr hH); (try simp only [Act.put, List.setIfInBounds_toArray, List.set_cons_succ, List.set_cons_zero]))) | ((go_at_call 155; (first | refine N1.out _ _ _ _ _ _ _ _ 0 1 rfl hH rfl rfl rfl rfl ?_ | refine N2.out _ _ _ _ _ _ _ _ 0 1 rfl hH rfl rfl rfl rfl ?_ | refine N3.out _ _ _ _ _ _ _ _ 0 1 rfl hH rfl rfl rfl rfl ?_); (clear hH; (first | intro W g hH | intro W hH); (try simp only [Act.put, pA, pB, pC])))) | ((go_at_call 159; refine A1.out _ _ _ _ _ _ _ 1 2 hH rfl rfl rfl rfl ?_; (clear hH; (first | intro W g hH | intro W hH); (try simp only [Act.put, pA, pB, pC])))) | ((go_at_call 156; refine F5.out _ _ _ _ _ _ _ _ _ 1 2 rfl rfl hH rfl rfl rfl rfl ?_; (clear hH; (first | intro W g hH | intro W hH); (try simp only [Act.put, pA, pB, pC])))) | (refine st ?_; clear hH; (first | intro W g hH | intro W hH)))
    ((with_reducible refine regM hH (SubH.drop (SubH.keep (SubH.keep (SubH.drop (SubH.drop SubH.refl))))) (by kernel_rfl) ?_); (clear hH; intro W hH); refine mtt [0, 1] ?_; refine hm_two (fuel := 4) 2 5 rfl rfl (by kernel_rfl) ?_ ?_; (focus (go_wp2_with (first | (refine st ?_; clear hH; (first | intro W g hH | intro W hH))); refine me ?_; refine mtt [3, 4] ?_; refine mo 5 ?_; go_wp2_with (first | (refine st ?_; clear hH; (first | intro W g hH | intro W hH))); refine me ?_; refine mtt [6] ?_; refine hm_end (by kernel_rfl) ?_)); rotate_left 1; (focus (go_wp2_with (first | (refine st ?_; clear hH; (first | intro W g hH | intro W hH))); refine me ?_; refine mo 2 ?_; go_wp2_with (first | (refine st ?_; clear hH; (first | intro W g hH | intro W hH))); refine me ?_; refine mtt [3, 4, 6] ?_; refine hm_end (by kernel_rfl) ?_)))
    all_goals
      go_wp2_with (first | (refine st ?_; clear hH; (first | intro W g hH | intro W hH)))
      (refine iRet2 Tryz.results111 tab_ok rfl rfl hH ?_; refine ⟨_, _, rfl, rfl, rfl, ?_⟩)
      exact RdPost.mk (sp := none) (rp := none) (sc := 0) (rc := 0) (D := []) (by rw [tkz_seg]; rfl) ⟨hH.nil, by simp⟩ TkIn.z
set_option maxHeartbeats 2000000 in
theorem iread_23 (hs : s.size ≤ 100000) (h : 8 ≤ s.size) (hb : sumOk s = true) (hk : kindF s = 23) : Calls Tryz.prog 111 #[.string s] w fun e w' => RdPost w (readF s).1 (readF s).2 e w' := by
  have hH := Hp.refl w
  have d1 : decide ((s.size : Int) < 8) = false := decide_eq_false (by omega)
  have hgood := @sgood_any s hs
  rw [hb] at hgood
  obtain ⟨t1, t2, v3, N1, N2, N3⟩ := pre3 w.heap.size w hs
  have N1 := Lib.hid N1
  have N2 := Lib.hid N2
  have N3 := Lib.hid N3
  have hk3 := st3_k (s := s)
  have hv2 : secF s < 256 := numV_lt _ _ _
  have he := readE h hb
  rw [hk] at N1
  have A1 := fun g gr => addrC (B := w.heap.size) (w0 := w) (g := g) (gr := gr) hs hk3
  obtain ⟨a, ha⟩ : ∃ a, addrS s 4 (st3 s) = a := ⟨_, rfl⟩
  obtain ⟨t4, ht4⟩ : ∃ t, stepS s 4 (st3 s) = t := ⟨_, rfl⟩
  rw [ha, ht4] at A1
  have F5 := Lib.hid (fun g gr => failC (B := w.heap.size) (w0 := w) (g := g) (gr := gr) (s := s) (is := !grp4 a) (c := 2) (t := t4))
  obtain ⟨t5, ht5⟩ : ∃ t, failS (!grp4 a) 2 t4 = t := ⟨_, rfl⟩
  have e5 := failS_eq (!grp4 a) 2 t4
  rw [ht5] at F5 e5
  have hT : readT s = (⟨false, 2, 3, 0, a, false, 0, 0, [], []⟩, t5) := by unfold readT ver1F kind1F; rw [if_neg (by omega), if_neg (by omega), if_pos (by omega), ha, ht4, ht5, if_neg (by omega), if_pos hk]
  clear ha ht4 ht5 hk hk3 hv2
  have f1 : ∀ w, Gives Tryz.prog 160 #[.agg (fls [.many (adL a) 17]).toArray] w (.bool (grp4 a)) := fun w => igroup_any
  have oA := adL_ok a
  obtain ⟨A, hA⟩ : ∃ Y, Y = adL a := ⟨_, rfl⟩
  have HA := Lib.hid hA
  rw [← hA] at A1 f1 oA
  have A1 := Lib.hid A1
  clear hA
  generalize grp4 a = gb at *
  generalize st3 s = t3 at *
  obtain ⟨k3, b3, e3⟩ := t3
  obtain ⟨k4, b4, e4⟩ := t4
  obtain ⟨k6, b6, e6⟩ := t5
  simp only at e5
  injection e5 with x1 x2 x3
  subst x1
  subst x2
  clear x3
  rw [hT] at he
  clear hT
  simp only at he
  by_cases hz : e6 = 0
  · subst hz
    rw [if_pos rfl] at he
    rw [he]
    clear he
    have d2 : ((0 : Int) != 0) = false := rfl
    go_enter Tryz.func111, Tryz.ntmps111
    go_wp2_with (first | ((go_at_call 151; refine callR 0 hH rfl (fun hr => hgood hr) ?_; (clear hH; (first | intro W g hH | intro W hH); (try simp only [Act.put, pA, pB, pC])))) | ((go_at_call 47; refine hNew hH ?_; (clear hH; intro W gr hH); (try simp only [Act.put, List.setIfInBounds_toArray, List.set_cons_succ, List.set_cons_zero]))) | ((go_at_call 155; (first | refine N1.out _ _ _ _ _ _ _ _ 0 1 rfl hH rfl rfl rfl rfl ?_ | refine N2.out _ _ _ _ _ _ _ _ 0 1 rfl hH rfl rfl rfl rfl ?_ | refine N3.out _ _ _ _ _ _ _ _ 0 1 rfl hH rfl rfl rfl rfl ?_); (clear hH; (first | intro W g hH | intro W hH); (try simp only [Act.put, pA, pB, pC])))) | ((go_at_call 159; refine A1.out _ _ _ _ _ _ _ 1 2 hH rfl rfl rfl rfl ?_; (clear hH; (first | intro W g hH | intro W hH); (try simp only [Act.put, pA, pB, pC])))) | ((go_at_call 156; refine F5.out _ _ _ _ _ _ _ _ _ 1 2 rfl rfl hH rfl rfl rfl rfl ?_; (clear hH; (first | intro W g hH | intro W hH); (try simp only [Act.put, pA, pB, pC])))) | (refine st ?_; clear hH; (first | intro W g hH | intro W hH)))
    (refine iRet2 Tryz.results111 tab_ok rfl rfl hH ?_; refine ⟨_, _, rfl, rfl, rfl, ?_⟩)
    exact RdPost.mk (sp := none) (rp := none) (sc := 0) (rc := 0) (D := []) (by unfold tkS; simp only; rw [← HA.out]; rfl) ⟨hH.nil, by simp⟩ (fun B w0 W h => ⟨AdsAt.nil, RcsAt.nil⟩)
  · rw [if_neg hz] at he
    rw [he]
    clear he
    have d2 : (e6 != 0) = true := by simpa using hz
    go_enter Tryz.func111, Tryz.ntmps111
    go_wp2_with (first | ((go_at_call 151; refine callR 0 hH rfl (fun hr => hgood hr) ?_; (clear hH; (first | intro W g hH | intro W hH); (try simp only [Act.put, pA, pB, pC])))) | ((go_at_call 47; refine hNew hH ?_; (clear hH; intro W gr hH); (try simp only [Act.put, List.setIfInBounds_toArray, List.set_cons_succ, List.set_cons_zero]))) | ((go_at_call 155; (first | refine N1.out _ _ _ _ _ _ _ _ 0 1 rfl hH rfl rfl rfl rfl ?_ | refine N2.out _ _ _ _ _ _ _ _ 0 1 rfl hH rfl rfl rfl rfl ?_ | refine N3.out _ _ _ _ _ _ _ _ 0 1 rfl hH rfl rfl rfl rfl ?_); (clear hH; (first | intro W g hH | intro W hH); (try simp only [Act.put, pA, pB, pC])))) | ((go_at_call 159; refine A1.out _ _ _ _ _ _ _ 1 2 hH rfl rfl rfl rfl ?_; (clear hH; (first | intro W g hH | intro W hH); (try simp only [Act.put, pA, pB, pC])))) | ((go_at_call 156; refine F5.out _ _ _ _ _ _ _ _ _ 1 2 rfl rfl hH rfl rfl rfl rfl ?_; (clear hH; (first | intro W g hH | intro W hH); (try simp only [Act.put, pA, pB, pC])))) | (refine st ?_; clear hH; (first | intro W g hH | intro W hH)))
    ((with_reducible refine regM hH (SubH.drop (SubH.keep (SubH.keep (SubH.drop (SubH.drop SubH.refl))))) (by kernel_rfl) ?_); (clear hH; intro W hH); refine mtt [0, 1] ?_; refine hm_two (fuel := 4) 2 5 rfl rfl (by kernel_rfl) ?_ ?_; (focus (go_wp2_with (first | (refine st ?_; clear hH; (first | intro W g hH | intro W hH))); refine me ?_; refine mtt [3, 4] ?_; refine mo 5 ?_; go_wp2_with (first | (refine st ?_; clear hH; (first | intro W g hH | intro W hH))); refine me ?_; refine mtt [6] ?_; refine hm_end (by kernel_rfl) ?_)); rotate_left 1; (focus (go_wp2_with (first | (refine st ?_; clear hH; (first | intro W g hH | intro W hH))); refine me ?_; refine mo 2 ?_; go_wp2_with (first | (refine st ?_; clear hH; (first | intro W g hH | intro W hH))); refine me ?_; refine mtt [3, 4, 6] ?_; refine hm_end (by kernel_rfl) ?_)))
    all_goals
      go_wp2_with (first | (refine st ?_; clear hH; (first | intro W g hH | intro W hH)))
      (refine iRet2 Tryz.results111 tab_ok rfl rfl hH ?_; refine ⟨_, _, rfl, rfl, rfl, ?_⟩)
      exact RdPost.mk (sp := none) (rp := none) (sc := 0) (rc := 0) (D := []) (by rw [tkz_seg]; rfl) ⟨hH.nil, by simp⟩ TkIn.z
end
end
section
open Go.ChangeShapes Go.WideShapes Go.ChangeAt Go.RowKit
set_option linter.unusedVariables false
set_option linter.unusedSimpArgs false
set_option maxRecDepth 20000
attribute [local irreducible] wpList

section
variable {w : World} {s : ByteArray}
set_option maxHeartbeats 2000000 in
theorem iread_none (hs : s.size ≤ 100000) (h : 8 ≤ s.size) (hb : sumOk s = true) (h1 : kindF s ≠ 17) (h2 : kindF s ≠ 34) (h3 : kindF s ≠ 18) (h4 : kindF s ≠ 22) (h5 : kindF s ≠ 23) : Calls Tryz.prog 111 #[.string s] w fun e w' => RdPost w (readF s).1 (readF s).2 e w' := by
  have hH := Hp.refl w
  have d1 : decide ((s.size : Int) < 8) = false := decide_eq_false (by omega)
  have hgood := @sgood_any s hs
  rw [hb] at hgood
  obtain ⟨t1, t2, v3, N1, N2, N3⟩ := pre3 w.heap.size w hs
  have N1 := Lib.hid N1
  have N2 := Lib.hid N2
  have N3 := Lib.hid N3
  have hk3 := st3_k (s := s)
  have hv2 : secF s < 256 := numV_lt _ _ _
  have he := readE h hb
  have hT : readT s = (Tk.z, ⟨(st3 s).k, (st3 s).b, 5⟩) := by unfold readT; rw [if_neg (by omega), if_neg (by omega), if_neg (by omega)]
  rw [hT] at he
  clear hT
  simp only at he
  rw [if_neg (by decide)] at he
  rw [he]
  clear he hv2 hk3
  generalize kindF s = v1 at *
  have d17 : ((v1 : Int) == 17) = false := by simp; omega
  have d34 : ((v1 : Int) == 34) = false := by simp; omega
  have d18 : ((v1 : Int) == 18) = false := by simp; omega
  have d22 : ((v1 : Int) == 22) = false := by simp; omega
  have d23 : ((v1 : Int) == 23) = false := by simp; omega
  clear h1 h2 h3 h4 h5
  generalize st3 s = t3 at *
  obtain ⟨k3, b3, e3⟩ := t3
  go_enter Tryz.func111, Tryz.ntmps111
  go_wp2_with (first | ((go_at_call 151; refine callR 0 hH rfl (fun hr => hgood hr) ?_; (clear hH; (first | intro W g hH | intro W hH); (try simp only [Act.put, pA, pB, pC])))) | ((go_at_call 47; refine hNew hH ?_; (clear hH; intro W gr hH); (try simp only [Act.put, List.setIfInBounds_toArray, List.set_cons_succ, List.set_cons_zero]))) | ((go_at_call 155; (first | refine N1.out _ _ _ _ _ _ _ _ 0 1 rfl hH rfl rfl rfl rfl ?_ | refine N2.out _ _ _ _ _ _ _ _ 0 1 rfl hH rfl rfl rfl rfl ?_ | refine N3.out _ _ _ _ _ _ _ _ 0 1 rfl hH rfl rfl rfl rfl ?_); (clear hH; (first | intro W g hH | intro W hH); (try simp only [Act.put, pA, pB, pC])))) | (refine st ?_; clear hH; (first | intro W g hH | intro W hH)))
  ((with_reducible refine regM hH (SubH.drop (SubH.keep (SubH.keep (SubH.drop (SubH.drop SubH.refl))))) (by kernel_rfl) ?_); (clear hH; intro W hH); refine mtt [0, 1] ?_; refine hm_two (fuel := 4) 2 5 rfl rfl (by kernel_rfl) ?_ ?_; (focus (go_wp2_with (first | (refine st ?_; clear hH; (first | intro W g hH | intro W hH))); refine me ?_; refine mtt [3, 4] ?_; refine mo 5 ?_; go_wp2_with (first | (refine st ?_; clear hH; (first | intro W g hH | intro W hH))); refine me ?_; refine mtt [6] ?_; refine hm_end (by kernel_rfl) ?_)); rotate_left 1; (focus (go_wp2_with (first | (refine st ?_; clear hH; (first | intro W g hH | intro W hH))); refine me ?_; refine mo 2 ?_; go_wp2_with (first | (refine st ?_; clear hH; (first | intro W g hH | intro W hH))); refine me ?_; refine mtt [3, 4, 6] ?_; refine hm_end (by kernel_rfl) ?_)))
  all_goals
    go_wp2_with (first | (refine st ?_; clear hH; (first | intro W g hH | intro W hH)))
    (refine iRet2 Tryz.results111 tab_ok rfl rfl hH ?_; refine ⟨_, _, rfl, rfl, rfl, ?_⟩)
    exact RdPost.mk (sp := none) (rp := none) (sc := 0) (rc := 0) (D := []) (by rw [tkz_seg]; rfl) ⟨hH.nil, by simp⟩ TkIn.z
end
end
section
open Go.ChangeShapes Go.WideShapes Go.ChangeAt Go.RowKit
set_option linter.unusedVariables false
set_option linter.unusedSimpArgs false
set_option maxRecDepth 20000
attribute [local irreducible] wpList

section
variable {w : World} {s : ByteArray}
/-- igmp.Read -/
theorem iread_any (hs : s.size ≤ 100000) : Calls Tryz.prog 111 #[.string s] w fun e w' => RdPost w (readF s).1 (readF s).2 e w' := by
  by_cases h8 : s.size < 8
  · have e : readF s = (Tk.z, 3) := by unfold readF; rw [if_pos h8]
    rw [e]
    exact iread_short h8
  have h := Nat.le_of_not_lt h8
  cases hb : sumOk s
  · have e : readF s = (Tk.z, 4) := by unfold readF; rw [if_neg h8, if_pos hb]
    rw [e]
    exact iread_sum hs h hb
  by_cases h1 : kindF s = 17
  · by_cases h9 : s.size ≤ 8
    · exact iread_17a hs h hb h9 h1
    · by_cases h12 : s.size < 12
      · exact iread_17b hs h hb (by omega) h12 h1
      · exact iread_17c hs h hb (by omega) (by omega) h1
  by_cases h2 : kindF s = 34
  · exact iread_34 hs h hb h2
  by_cases h3 : kindF s = 18
  · exact iread_18 hs h hb h3
  by_cases h4 : kindF s = 22
  · exact iread_22 hs h hb h4
  by_cases h5 : kindF s = 23
  · exact iread_23 hs h hb h5
  exact iread_none hs h hb h1 h2 h3 h4 h5
end
end
end Go.Proofs.YtdnehjhijmeihaaGreat
