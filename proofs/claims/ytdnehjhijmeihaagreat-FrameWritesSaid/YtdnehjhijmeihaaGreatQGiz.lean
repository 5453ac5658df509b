/-
  Joined texts: Giz, Gj, Gk, Goz.
-/
import Derived.Test.YtdnehjhijmeihaaGreatQGh
import Derived.Test.YtdnehjhijmeihaaGreatQJm
import Derived.Test.YtdnehjhijmeihaaGreatQMem
import Derived.Test.YtdnehjhijmeihaaGreatQSl
namespace Go.Proofs.YtdnehjhijmeihaaGreat
section
open Go.ChangeShapes Go.WideShapes Go.ChangeAt Go.RowKit
set_option linter.unusedVariables false
set_option linter.unusedSimpArgs false
set_option maxRecDepth 20000
attribute [local irreducible] wpList

def sumOk (s : ByteArray) : Bool := decide (foldN (wsum s.data.toList) = 65535)
def st0 : St := ⟨0, false, 0⟩
def kindF (s : ByteArray) : Nat := numV s 1 st0
def secF (s : ByteArray) : Nat := numV s 1 (stepS s 1 st0)
def st3 (s : ByteArray) : St := stepS s 2 (stepS s 1 (stepS s 1 st0))
def ver1F (s : ByteArray) : Int := if kindF s = 18 then 1 else 2
def kind1F (s : ByteArray) : Int := if kindF s = 23 then 3 else 2
noncomputable def readT (s : ByteArray) : Tk × St :=
  if kindF s = 17 then qryF s (failS (decide (8 < s.size) && decide (s.size < 12)) 2 (st3 s)) (secF s)
  else if kindF s = 34 then (⟨false, 3, 2, 0, Ad.z, false, 0, 0, [], (repF s (st3 s)).1⟩, (repF s (st3 s)).2)
  else if kindF s = 18 ∨ kindF s = 22 ∨ kindF s = 23 then (⟨false, ver1F s, kind1F s, 0, addrS s 4 (st3 s), false, 0, 0, [], []⟩, failS (!grp4 (addrS s 4 (st3 s))) 2 (stepS s 4 (st3 s)))
  else (Tk.z, ⟨(st3 s).k, (st3 s).b, 5⟩)
noncomputable def readF (s : ByteArray) : Tk × Int :=
  if s.size < 8 then (Tk.z, 3) else if sumOk s = false then (Tk.z, 4) else if (readT s).2.e = 0 then ((readT s).1, 0) else (Tk.z, (readT s).2.e)
theorem tkz_seg : fls (tkS Tk.z none 0 none 0) = fls [.one (.bool false), .one (.int .i64 0), .one (.int .i64 0), .one (.int .i64 0), .many (zeroL Tryz.prog 25) 17, .one (.bool false), .one (.int .i64 0), .one (.int .i64 0), .one (.slice none 0 0), .one (.slice none 0 0)] := by
  rw [← adL_z]
  rfl
theorem zadr_ok : OkA (zeroL Tryz.prog 25) 17 := by rw [← adL_z]; exact adL_ok _
theorem readE {s : ByteArray} (h : 8 ≤ s.size) (hb : sumOk s = true) : readF s = if (readT s).2.e = 0 then ((readT s).1, 0) else (Tk.z, (readT s).2.e) := by
  unfold readF
  rw [if_neg (by omega), if_neg (by rw [hb]; simp)]
def RdPost (w : World) (T : Tk) (c : Int) (e : Ending) (w' : World) : Prop := ∃ sp sc rp rc D, e = .returned (.tuple #[.agg (fls (tkS T sp sc rp rc)).toArray, .int .i64 c]) ∧ Made w w' D ∧ TkIn D sp rp T
theorem RdPost.mk {w : World} {T : Tk} {c : Int} {e : Ending} {w' : World} {sp rp : Option Addr} {sc rc : Nat} {D : HB} (h1 : e = .returned (.tuple #[.agg (fls (tkS T sp sc rp rc)).toArray, .int .i64 c])) (h2 : Made w w' D) (h3 : TkIn D sp rp T) : RdPost w T c e w' := ⟨sp, sc, rp, rc, D, h1, h2, h3⟩
theorem TkIn.z {D : HB} : TkIn D none none Tk.z := fun _ _ _ _ => ⟨AdsAt.nil, RcsAt.nil⟩
section
variable {w : World} {s : ByteArray}
theorem sgood_any (hs : s.size ≤ 100000) {W : World} {g c : Nat} (h : Row W g 9 (fls [.one (.string s)]).toArray) : Gives Tryz.prog 151 #[.slice (some ⟨g, 0, none⟩) 1 c] W (.bool (sumOk s)) := by
  have h := Good_row (m := 1) (c := c) (ss := [s]) rfl (small1 (by omega)) (by simpa [fls] using h)
  rwa [show flat [s] = s.data.toList by simp only [flat, List.flatMap_cons, List.flatMap_nil, List.append_nil]] at h
theorem st0_k : st0.k ≤ s.size := Nat.zero_le _
theorem st3_k : (st3 s).k ≤ s.size := stepS_k (stepS_k (stepS_k st0_k))
theorem pre3 (B : Nat) (w0 : World) (hs : s.size ≤ 100000) : ∃ (t1 t2 : St) (v3 : Nat), (∀ g gr, NumC B w0 g gr s 1 st0 (kindF s) t1) ∧ (∀ g gr, NumC B w0 g gr s 1 t1 (secF s) t2) ∧ (∀ g gr, NumC B w0 g gr s 2 t2 v3 (st3 s)) :=
  ⟨_, _, _, fun g gr => numC (by omega) hs st0_k, fun g gr => numC (by omega) hs (stepS_k st0_k), fun g gr => numC (by omega) hs (stepS_k (stepS_k st0_k))⟩
end
end
section
open Go.ChangeShapes Go.WideShapes Go.ChangeAt Go.RowKit
set_option linter.unusedVariables false
set_option linter.unusedSimpArgs false
set_option maxRecDepth 20000
attribute [local irreducible] wpList

section
variable {w : World} {s : ByteArray}
set_option maxHeartbeats 1000000 in
theorem iread_short (h : s.size < 8) : Calls Tryz.prog 111 #[.string s] w fun e w' => RdPost w Tk.z 3 e w' := by
  have hH := Hp.refl w
  have d1 : decide ((s.size : Int) < 8) = true := decide_eq_true (by omega)
  go_enter Tryz.func111, Tryz.ntmps111
  go_wp2_with (refine st ?_; clear hH; first | intro W g hH | intro W hH)
  (refine iRet2 Tryz.results111 tab_ok rfl rfl hH ?_; refine ⟨_, _, rfl, rfl, rfl, ?_⟩)
  exact RdPost.mk (sp := none) (rp := none) (sc := 0) (rc := 0) (D := []) (by rw [tkz_seg]; rfl) ⟨hH.nil, by simp⟩ TkIn.z
set_option maxHeartbeats 1000000 in
theorem iread_sum (hs : s.size ≤ 100000) (h : 8 ≤ s.size) (hb : sumOk s = false) : Calls Tryz.prog 111 #[.string s] w fun e w' => RdPost w Tk.z 4 e w' := by
  have hH := Hp.refl w
  have d1 : decide ((s.size : Int) < 8) = false := decide_eq_false (by omega)
  have hgood := @sgood_any s hs
  rw [hb] at hgood
  go_enter Tryz.func111, Tryz.ntmps111
  go_wp2_with (first | ((go_at_call 151; refine callR 0 hH rfl (fun hr => hgood hr) ?_; (clear hH; (first | intro W g hH | intro W hH); (try simp only [Act.put, pA, pB, pC])))) | (refine st ?_; clear hH; first | intro W g hH | intro W hH))
  (refine iRet2 Tryz.results111 tab_ok rfl rfl hH ?_; refine ⟨_, _, rfl, rfl, rfl, ?_⟩)
  exact RdPost.mk (sp := none) (rp := none) (sc := 0) (rc := 0) (D := []) (by rw [tkz_seg]; rfl) ⟨hH.nil, by simp⟩ TkIn.z
end
end
section
open Go.ChangeShapes Go.WideShapes Go.ChangeAt Go.RowKit
set_option linter.unusedVariables false
set_option linter.unusedSimpArgs false
set_option maxRecDepth 20000
attribute [local irreducible] wpList

section
variable {w : World} {s : ByteArray}
set_option maxHeartbeats 2000000 in
theorem iread_34 (hs : s.size ≤ 100000) (h : 8 ≤ s.size) (hb : sumOk s = true) (hk : kindF s = 34) : Calls Tryz.prog 111 #[.string s] w fun e w' => RdPost w (readF s).1 (readF s).2 e w' := by
  have hH := Hp.refl w
  have d1 : decide ((s.size : Int) < 8) = false := decide_eq_false (by omega)
  have hgood := @sgood_any s hs
  rw [hb] at hgood
  obtain ⟨t1, t2, v3, N1, N2, N3⟩ := pre3 w.heap.size w hs
  have N1 := Lib.hid N1
  have N2 := Lib.hid N2
  have N3 := Lib.hid N3
  have hk3 := st3_k (s := s)
  have hv2 : secF s < 256 := numV_lt _ _ _
  have he := readE h hb
  rw [hk] at N1
  obtain ⟨R, t5, hres⟩ : ∃ R t, repF s (st3 s) = (R, t) := ⟨_, _, rfl⟩
  have hT : readT s = (⟨false, 3, 2, 0, Ad.z, false, 0, 0, [], R⟩, t5) := by unfold readT; rw [if_neg (by omega), if_pos hk, hres]
  have RP := Lib.hid (show ∀ (W : World) (H : HB) (Q : Ending → World → Prop) (g gr gt : Nat), Hp w.heap.size w W ((gt, 29, true, [.one (.bool false), .one (.int .i64 3), .one (.int .i64 2), .one (.int .i64 0), .many (zeroL Tryz.prog 25) 17, .one (.bool false), .one (.int .i64 0), .one (.int .i64 0), .one (.slice none 0 0), .one (.slice none 0 0)]) :: rdH g gr s (st3 s) H) → (∀ W' rp rc D, Hid (∀ B w0 W, Hp B w0 W D → RcsAt W rp R) → Hid (∀ r ∈ D, r.2.2.1 = true) → Hp w.heap.size w W' ((gt, 29, true, [.one (.bool false), .one (.int .i64 3), .one (.int .i64 2), .one (.int .i64 0), .many (zeroL Tryz.prog 25) 17, .one (.bool false), .one (.int .i64 0), .one (.int .i64 0), .one (.slice none 0 0), .one (.slice rp R.length rc)]) :: rdH g gr s t5 (H ++ D)) → Q (.returned (.tuple #[])) W') → Calls Tryz.prog 158 #[.pointer (some ⟨g, 0, none⟩), .pointer (some ⟨gt, 0, none⟩)] W Q from fun W H Q g gr gt hH hQ => by
    refine ireports_any (src := []) zadr_ok hs hk3 (hH.perm ((List.Perm.swap _ _ _).trans ((List.Perm.swap _ _ _).cons _))) ?_
    intro W' R2 t2 D rp rc e hA hD hH
    have e2 := e.out.symm.trans hres
    injection e2 with e3 e4
    subst e3
    subst e4
    exact hQ W' rp rc D hA hD (hH.perm (((List.Perm.swap _ _ _).cons _).trans (List.Perm.swap _ _ _))))
  clear hres hk hk3 hv2
  generalize st3 s = t3 at *
  obtain ⟨k3, b3, e3⟩ := t3
  rw [hT] at he
  clear hT
  obtain ⟨k5, b5, e5⟩ := t5
  simp only at he
  by_cases hz : e5 = 0
  · subst hz
    rw [if_pos rfl] at he
    rw [he]
    clear he
    have d2 : ((0 : Int) != 0) = false := rfl
    go_enter Tryz.func111, Tryz.ntmps111
    go_wp2_with (first | ((go_at_call 151; refine callR 0 hH rfl (fun hr => hgood hr) ?_; (clear hH; (first | intro W g hH | intro W hH); (try simp only [Act.put, pA, pB, pC])))) | ((go_at_call 47; refine hNew hH ?_; (clear hH; intro W gr hH); (try simp only [Act.put, List.setIfInBounds_toArray, List.set_cons_succ, List.set_cons_zero]))) | ((go_at_call 155; (first | refine N1.out _ _ _ _ _ _ _ _ 0 1 rfl hH rfl rfl rfl rfl ?_ | refine N2.out _ _ _ _ _ _ _ _ 0 1 rfl hH rfl rfl rfl rfl ?_ | refine N3.out _ _ _ _ _ _ _ _ 0 1 rfl hH rfl rfl rfl rfl ?_); (clear hH; (first | intro W g hH | intro W hH); (try simp only [Act.put, pA, pB, pC])))) | ((go_at_call 158; refine RP.out _ _ _ _ _ _ hH ?_; (clear hH; intro W rp rc D hA hD hH); (try simp only [List.cons_append, List.nil_append, List.append_assoc] at hH); (try simp only [Act.put, List.setIfInBounds_toArray, List.set_cons_succ, List.set_cons_zero]))) | (refine st ?_; clear hH; first | intro W g hH | intro W hH))
    (refine iRet2 Tryz.results111 tab_ok rfl rfl hH ?_; refine ⟨_, _, rfl, rfl, rfl, ?_⟩)
    refine RdPost.mk (sp := none) (rp := rp) (sc := 0) (rc := rc) (D := D) (by unfold tkS; simp only; rw [adL_z]; rfl) ⟨hH.sub (SubH.drop (SubH.drop (SubH.drop (SubH.drop (SubH.drop SubH.refl))))), hD.out⟩ (fun B w0 W h => ⟨AdsAt.nil, hA.out _ _ _ h⟩)
  · rw [if_neg hz] at he
    rw [he]
    clear he
    have d2 : (e5 != 0) = true := by simpa using hz
    go_enter Tryz.func111, Tryz.ntmps111
    go_wp2_with (first | ((go_at_call 151; refine callR 0 hH rfl (fun hr => hgood hr) ?_; (clear hH; (first | intro W g hH | intro W hH); (try simp only [Act.put, pA, pB, pC])))) | ((go_at_call 47; refine hNew hH ?_; (clear hH; intro W gr hH); (try simp only [Act.put, List.setIfInBounds_toArray, List.set_cons_succ, List.set_cons_zero]))) | ((go_at_call 155; (first | refine N1.out _ _ _ _ _ _ _ _ 0 1 rfl hH rfl rfl rfl rfl ?_ | refine N2.out _ _ _ _ _ _ _ _ 0 1 rfl hH rfl rfl rfl rfl ?_ | refine N3.out _ _ _ _ _ _ _ _ 0 1 rfl hH rfl rfl rfl rfl ?_); (clear hH; (first | intro W g hH | intro W hH); (try simp only [Act.put, pA, pB, pC])))) | ((go_at_call 158; refine RP.out _ _ _ _ _ _ hH ?_; (clear hH; intro W rp rc D hA hD hH); (try simp only [List.cons_append, List.nil_append, List.append_assoc] at hH); (try simp only [Act.put, List.setIfInBounds_toArray, List.set_cons_succ, List.set_cons_zero]))) | (refine st ?_; clear hH; first | intro W g hH | intro W hH))
    ((with_reducible refine regM hH (SubH.drop (SubH.keep (SubH.keep (SubH.drop (SubH.drop SubH.refl))))) (by kernel_rfl) ?_); (clear hH; intro W hH); refine mtt [0, 1] ?_; refine hm_two (fuel := 4) 2 5 rfl rfl (by kernel_rfl) ?_ ?_; (focus (go_wp2_with (refine st ?_; clear hH; first | intro W g hH | intro W hH); refine me ?_; refine mtt [3, 4] ?_; refine mo 5 ?_; go_wp2_with (refine st ?_; clear hH; first | intro W g hH | intro W hH); refine me ?_; refine mtt [6] ?_; refine hm_end (by kernel_rfl) ?_)); rotate_left 1; (focus (go_wp2_with (refine st ?_; clear hH; first | intro W g hH | intro W hH); refine me ?_; refine mo 2 ?_; go_wp2_with (refine st ?_; clear hH; first | intro W g hH | intro W hH); refine me ?_; refine mtt [3, 4, 6] ?_; refine hm_end (by kernel_rfl) ?_)))
    all_goals
      go_wp2_with (refine st ?_; clear hH; first | intro W g hH | intro W hH)
      (refine iRet2 Tryz.results111 tab_ok rfl rfl hH ?_; refine ⟨_, _, rfl, rfl, rfl, ?_⟩)
      exact RdPost.mk (sp := none) (rp := none) (sc := 0) (rc := 0) (D := []) (by rw [tkz_seg]; rfl) ⟨hH.nil, by simp⟩ TkIn.z
end
end
section
open Go.ChangeShapes Go.WideShapes Go.ChangeAt Go.RowKit
set_option linter.unusedVariables false
set_option linter.unusedSimpArgs false
set_option maxRecDepth 20000
attribute [local irreducible] wpList

theorem qryF_recs (s : ByteArray) (t : St) (c : Nat) : (qryF s t c).1.recs = [] := by
  unfold qryF
  simp only
  split
  · split <;> rfl
  · rfl
section
variable {w : World} {s : ByteArray}
set_option maxHeartbeats 2000000 in
theorem iread_17a (hs : s.size ≤ 100000) (h : 8 ≤ s.size) (hb : sumOk s = true) (h9 : s.size ≤ 8) (hk : kindF s = 17) : Calls Tryz.prog 111 #[.string s] w fun e w' => RdPost w (readF s).1 (readF s).2 e w' := by
  have hH := Hp.refl w
  have d1 : decide ((s.size : Int) < 8) = false := decide_eq_false (by omega)
  have hgood := @sgood_any s hs
  rw [hb] at hgood
  have E8 : (decide (8 < s.size) && decide (s.size < 12)) = false := by rw [decide_eq_false (by omega), Bool.false_and]
  have d8 : decide ((8 : Int) < (s.size : Int)) = false := decide_eq_false (by omega)
  obtain ⟨t1, t2, v3, N1, N2, N3⟩ := pre3 w.heap.size w hs
  have N1 := Lib.hid N1
  have N2 := Lib.hid N2
  have N3 := Lib.hid N3
  have hk3 := st3_k (s := s)
  have hv2 : secF s < 256 := numV_lt _ _ _
  have he := readE h hb
  rw [hk] at N1
  obtain ⟨b4, hb4⟩ : ∃ b, (decide (8 < s.size) && decide (s.size < 12)) = b := ⟨_, rfl⟩
  obtain ⟨t4, ht4⟩ : ∃ t, failS b4 2 (st3 s) = t := ⟨_, rfl⟩
  have hk4 : t4.k ≤ s.size := by rw [← ht4, failS_k]; exact hk3
  have F4 := fun g gr => failC (B := w.heap.size) (w0 := w) (g := g) (gr := gr) (s := s) (is := b4) (c := 2) (t := st3 s)
  have e4 := failS_eq b4 2 (st3 s)
  rw [ht4] at F4 e4
  have F4 := Lib.hid F4
  obtain ⟨⟨v6, ver, kind, resp, a, quiet, rob, every, src, recs⟩, t5, hres⟩ : ∃ R t, qryF s t4 (secF s) = (R, t) := ⟨_, _, rfl⟩
  have hrec : recs = [] := by have := qryF_recs s t4 (secF s); rw [hres] at this; exact this
  subst hrec
  have hT : readT s = (⟨v6, ver, kind, resp, a, quiet, rob, every, src, []⟩, t5) := by unfold readT; rw [if_pos hk, hb4, ht4, hres]
  have RP := Lib.hid (show ∀ (W : World) (H : HB) (Q : Ending → World → Prop) (g gr gt : Nat), Hp w.heap.size w W ((gt, 29, true, [.one (.bool false), .one (.int .i64 0), .one (.int .i64 1), .one (.int .i64 0), .many (zeroL Tryz.prog 25) 17, .one (.bool false), .one (.int .i64 0), .one (.int .i64 0), .one (.slice none 0 0), .one (.slice none 0 0)]) :: rdH g gr s t4 H) → (∀ W' sp sc D, Hid (∀ B w0 W, Hp B w0 W D → AdsAt W sp src) → Hid (∀ r ∈ D, r.2.2.1 = true) → Hp w.heap.size w W' ((gt, 29, true, [.one (.bool v6), .one (.int .i64 ver), .one (.int .i64 kind), .one (.int .i64 resp), .many (adL a) 17, .one (.bool quiet), .one (.int .i64 rob), .one (.int .i64 every), .one (.slice sp src.length sc), .one (.slice none 0 0)]) :: rdH g gr s t5 (H ++ D)) → Q (.returned (.tuple #[])) W') → Calls Tryz.prog 157 #[.pointer (some ⟨g, 0, none⟩), .pointer (some ⟨gt, 0, none⟩), .int .i64 (secF s : Int)] W Q from fun W H Q g gr gt hH hQ => by
    refine iqueries_any (c := secF s) zadr_ok (by omega) hs hk4 (hH.perm ((List.Perm.swap _ _ _).trans ((List.Perm.swap _ _ _).cons _))) ?_
    intro W' R2 t2 D sp sc e hA hD hH
    have e2 := e.out.symm.trans hres
    injection e2 with e3 e4
    subst e3
    subst e4
    exact hQ W' sp sc D hA hD (hH.perm (((List.Perm.swap _ _ _).cons _).trans (List.Perm.swap _ _ _))))
  clear hres ht4 hk hk3 hk4 hv2
  generalize secF s = v2 at *
  generalize st3 s = t3 at *
  obtain ⟨k3, b3, e3⟩ := t3
  obtain ⟨k4, b4', e4'⟩ := t4
  simp only at e4
  injection e4 with x1 x2 x3
  subst x1
  subst x2
  clear x3
  have oA := adL_ok a
  obtain ⟨A, hA⟩ : ∃ Y, Y = adL a := ⟨_, rfl⟩
  have HA := Lib.hid hA
  rw [← hA] at RP oA
  clear hA
  have hb5 := hb4.symm.trans E8
  subst hb5
  clear hb4 E8
  rw [hT] at he
  clear hT
  obtain ⟨k5, b5, e5⟩ := t5
  simp only at he
  by_cases hz : e5 = 0
  · subst hz
    rw [if_pos rfl] at he
    rw [he]
    clear he
    have d2 : ((0 : Int) != 0) = false := rfl
    go_enter Tryz.func111, Tryz.ntmps111
    go_wp2_with (first | ((go_at_call 151; refine callR 0 hH rfl (fun hr => hgood hr) ?_; (clear hH; (first | intro W g hH | intro W hH); (try simp only [Act.put, pA, pB, pC])))) | ((go_at_call 47; refine hNew hH ?_; (clear hH; intro W gr hH); (try simp only [Act.put, List.setIfInBounds_toArray, List.set_cons_succ, List.set_cons_zero]))) | ((go_at_call 155; (first | refine N1.out _ _ _ _ _ _ _ _ 0 1 rfl hH rfl rfl rfl rfl ?_ | refine N2.out _ _ _ _ _ _ _ _ 0 1 rfl hH rfl rfl rfl rfl ?_ | refine N3.out _ _ _ _ _ _ _ _ 0 1 rfl hH rfl rfl rfl rfl ?_); (clear hH; (first | intro W g hH | intro W hH); (try simp only [Act.put, pA, pB, pC])))) | ((go_at_call 157; refine RP.out _ _ _ _ _ _ hH ?_; (clear hH; intro W sp sc D hA hD hH); (try simp only [List.cons_append, List.nil_append, List.append_assoc] at hH); (try simp only [Act.put, List.setIfInBounds_toArray, List.set_cons_succ, List.set_cons_zero]))) | ((go_at_call 156; refine F4.out _ _ _ _ _ _ _ _ _ 1 2 rfl rfl hH rfl rfl rfl rfl ?_; (clear hH; (first | intro W g hH | intro W hH); (try simp only [Act.put, pA, pB, pC])))) | (refine st ?_; clear hH; first | intro W g hH | intro W hH))
    (refine iRet2 Tryz.results111 tab_ok rfl rfl hH ?_; refine ⟨_, _, rfl, rfl, rfl, ?_⟩)
    refine RdPost.mk (sp := sp) (rp := none) (sc := sc) (rc := 0) (D := D) (by unfold tkS; simp only; rw [← HA.out]; rfl) ⟨hH.sub (SubH.drop (SubH.drop (SubH.drop (SubH.drop (SubH.drop SubH.refl))))), hD.out⟩ (fun B w0 W h => ⟨hA.out _ _ _ h, RcsAt.nil⟩)
  · rw [if_neg hz] at he
    rw [he]
    clear he
    have d2 : (e5 != 0) = true := by simpa using hz
    go_enter Tryz.func111, Tryz.ntmps111
    go_wp2_with (first | ((go_at_call 151; refine callR 0 hH rfl (fun hr => hgood hr) ?_; (clear hH; (first | intro W g hH | intro W hH); (try simp only [Act.put, pA, pB, pC])))) | ((go_at_call 47; refine hNew hH ?_; (clear hH; intro W gr hH); (try simp only [Act.put, List.setIfInBounds_toArray, List.set_cons_succ, List.set_cons_zero]))) | ((go_at_call 155; (first | refine N1.out _ _ _ _ _ _ _ _ 0 1 rfl hH rfl rfl rfl rfl ?_ | refine N2.out _ _ _ _ _ _ _ _ 0 1 rfl hH rfl rfl rfl rfl ?_ | refine N3.out _ _ _ _ _ _ _ _ 0 1 rfl hH rfl rfl rfl rfl ?_); (clear hH; (first | intro W g hH | intro W hH); (try simp only [Act.put, pA, pB, pC])))) | ((go_at_call 157; refine RP.out _ _ _ _ _ _ hH ?_; (clear hH; intro W sp sc D hA hD hH); (try simp only [List.cons_append, List.nil_append, List.append_assoc] at hH); (try simp only [Act.put, List.setIfInBounds_toArray, List.set_cons_succ, List.set_cons_zero]))) | ((go_at_call 156; refine F4.out _ _ _ _ _ _ _ _ _ 1 2 rfl rfl hH rfl rfl rfl rfl ?_; (clear hH; (first | intro W g hH | intro W hH); (try simp only [Act.put, pA, pB, pC])))) | (refine st ?_; clear hH; first | intro W g hH | intro W hH))
    ((with_reducible refine regM hH (SubH.drop (SubH.keep (SubH.keep (SubH.drop (SubH.drop SubH.refl))))) (by kernel_rfl) ?_); (clear hH; intro W hH); refine mtt [0, 1] ?_; refine hm_two (fuel := 4) 2 5 rfl rfl (by kernel_rfl) ?_ ?_; (focus (go_wp2_with (refine st ?_; clear hH; first | intro W g hH | intro W hH); refine me ?_; refine mtt [3, 4] ?_; refine mo 5 ?_; go_wp2_with (refine st ?_; clear hH; first | intro W g hH | intro W hH); refine me ?_; refine mtt [6] ?_; refine hm_end (by kernel_rfl) ?_)); rotate_left 1; (focus (go_wp2_with (refine st ?_; clear hH; first | intro W g hH | intro W hH); refine me ?_; refine mo 2 ?_; go_wp2_with (refine st ?_; clear hH; first | intro W g hH | intro W hH); refine me ?_; refine mtt [3, 4, 6] ?_; refine hm_end (by kernel_rfl) ?_)))
    all_goals
      go_wp2_with (refine st ?_; clear hH; first | intro W g hH | intro W hH)
      (refine iRet2 Tryz.results111 tab_ok rfl rfl hH ?_; refine ⟨_, _, rfl, rfl, rfl, ?_⟩)
      exact RdPost.mk (sp := none) (rp := none) (sc := 0) (rc := 0) (D := []) (by rw [tkz_seg]; rfl) ⟨hH.nil, by simp⟩ TkIn.z
set_option maxHeartbeats 2000000 in
theorem iread_17b (hs : s.size ≤ 100000) (h : 8 ≤ s.size) (hb : sumOk s = true) (h9 : 8 < s.size) (h12 : s.size < 12) (hk : kindF s = 17) : Calls Tryz.prog 111 #[.string s] w fun e w' => RdPost w (readF s).1 (readF s).2 e w' := by
  have hH := Hp.refl w
  have d1 : decide ((s.size : Int) < 8) = false := decide_eq_false (by omega)
  have hgood := @sgood_any s hs
  rw [hb] at hgood
  have E8 : (decide (8 < s.size) && decide (s.size < 12)) = true := by rw [decide_eq_true (by omega), decide_eq_true (by omega), Bool.true_and]
  have d8 : decide ((8 : Int) < (s.size : Int)) = true := decide_eq_true (by omega)
  have d12 : decide ((s.size : Int) < 12) = true := decide_eq_true (by omega)
  obtain ⟨t1, t2, v3, N1, N2, N3⟩ := pre3 w.heap.size w hs
  have N1 := Lib.hid N1
  have N2 := Lib.hid N2
  have N3 := Lib.hid N3
  have hk3 := st3_k (s := s)
  have hv2 : secF s < 256 := numV_lt _ _ _
  have he := readE h hb
  rw [hk] at N1
  obtain ⟨b4, hb4⟩ : ∃ b, (decide (8 < s.size) && decide (s.size < 12)) = b := ⟨_, rfl⟩
  obtain ⟨t4, ht4⟩ : ∃ t, failS b4 2 (st3 s) = t := ⟨_, rfl⟩
  have hk4 : t4.k ≤ s.size := by rw [← ht4, failS_k]; exact hk3
  have F4 := fun g gr => failC (B := w.heap.size) (w0 := w) (g := g) (gr := gr) (s := s) (is := b4) (c := 2) (t := st3 s)
  have e4 := failS_eq b4 2 (st3 s)
  rw [ht4] at F4 e4
  have F4 := Lib.hid F4
  obtain ⟨⟨v6, ver, kind, resp, a, quiet, rob, every, src, recs⟩, t5, hres⟩ : ∃ R t, qryF s t4 (secF s) = (R, t) := ⟨_, _, rfl⟩
  have hrec : recs = [] := by have := qryF_recs s t4 (secF s); rw [hres] at this; exact this
  subst hrec
  have hT : readT s = (⟨v6, ver, kind, resp, a, quiet, rob, every, src, []⟩, t5) := by unfold readT; rw [if_pos hk, hb4, ht4, hres]
  have RP := Lib.hid (show ∀ (W : World) (H : HB) (Q : Ending → World → Prop) (g gr gt : Nat), Hp w.heap.size w W ((gt, 29, true, [.one (.bool false), .one (.int .i64 0), .one (.int .i64 1), .one (.int .i64 0), .many (zeroL Tryz.prog 25) 17, .one (.bool false), .one (.int .i64 0), .one (.int .i64 0), .one (.slice none 0 0), .one (.slice none 0 0)]) :: rdH g gr s t4 H) → (∀ W' sp sc D, Hid (∀ B w0 W, Hp B w0 W D → AdsAt W sp src) → Hid (∀ r ∈ D, r.2.2.1 = true) → Hp w.heap.size w W' ((gt, 29, true, [.one (.bool v6), .one (.int .i64 ver), .one (.int .i64 kind), .one (.int .i64 resp), .many (adL a) 17, .one (.bool quiet), .one (.int .i64 rob), .one (.int .i64 every), .one (.slice sp src.length sc), .one (.slice none 0 0)]) :: rdH g gr s t5 (H ++ D)) → Q (.returned (.tuple #[])) W') → Calls Tryz.prog 157 #[.pointer (some ⟨g, 0, none⟩), .pointer (some ⟨gt, 0, none⟩), .int .i64 (secF s : Int)] W Q from fun W H Q g gr gt hH hQ => by
    refine iqueries_any (c := secF s) zadr_ok (by omega) hs hk4 (hH.perm ((List.Perm.swap _ _ _).trans ((List.Perm.swap _ _ _).cons _))) ?_
    intro W' R2 t2 D sp sc e hA hD hH
    have e2 := e.out.symm.trans hres
    injection e2 with e3 e4
    subst e3
    subst e4
    exact hQ W' sp sc D hA hD (hH.perm (((List.Perm.swap _ _ _).cons _).trans (List.Perm.swap _ _ _))))
  clear hres ht4 hk hk3 hk4 hv2
  generalize secF s = v2 at *
  generalize st3 s = t3 at *
  obtain ⟨k3, b3, e3⟩ := t3
  obtain ⟨k4, b4', e4'⟩ := t4
  simp only at e4
  injection e4 with x1 x2 x3
  subst x1
  subst x2
  clear x3
  have oA := adL_ok a
  obtain ⟨A, hA⟩ : ∃ Y, Y = adL a := ⟨_, rfl⟩
  have HA := Lib.hid hA
  rw [← hA] at RP oA
  clear hA
  have hb5 := hb4.symm.trans E8
  subst hb5
  clear hb4 E8
  rw [hT] at he
  clear hT
  obtain ⟨k5, b5, e5⟩ := t5
  simp only at he
  by_cases hz : e5 = 0
  · subst hz
    rw [if_pos rfl] at he
    rw [he]
    clear he
    have d2 : ((0 : Int) != 0) = false := rfl
    go_enter Tryz.func111, Tryz.ntmps111
    go_wp2_with (first | ((go_at_call 151; refine callR 0 hH rfl (fun hr => hgood hr) ?_; (clear hH; (first | intro W g hH | intro W hH); (try simp only [Act.put, pA, pB, pC])))) | ((go_at_call 47; refine hNew hH ?_; (clear hH; intro W gr hH); (try simp only [Act.put, List.setIfInBounds_toArray, List.set_cons_succ, List.set_cons_zero]))) | ((go_at_call 155; (first | refine N1.out _ _ _ _ _ _ _ _ 0 1 rfl hH rfl rfl rfl rfl ?_ | refine N2.out _ _ _ _ _ _ _ _ 0 1 rfl hH rfl rfl rfl rfl ?_ | refine N3.out _ _ _ _ _ _ _ _ 0 1 rfl hH rfl rfl rfl rfl ?_); (clear hH; (first | intro W g hH | intro W hH); (try simp only [Act.put, pA, pB, pC])))) | ((go_at_call 157; refine RP.out _ _ _ _ _ _ hH ?_; (clear hH; intro W sp sc D hA hD hH); (try simp only [List.cons_append, List.nil_append, List.append_assoc] at hH); (try simp only [Act.put, List.setIfInBounds_toArray, List.set_cons_succ, List.set_cons_zero]))) | ((go_at_call 156; refine F4.out _ _ _ _ _ _ _ _ _ 1 2 rfl rfl hH rfl rfl rfl rfl ?_; (clear hH; (first | intro W g hH | intro W hH); (try simp only [Act.put, pA, pB, pC])))) | (refine st ?_; clear hH; first | intro W g hH | intro W hH))
    (refine iRet2 Tryz.results111 tab_ok rfl rfl hH ?_; refine ⟨_, _, rfl, rfl, rfl, ?_⟩)
    refine RdPost.mk (sp := sp) (rp := none) (sc := sc) (rc := 0) (D := D) (by unfold tkS; simp only; rw [← HA.out]; rfl) ⟨hH.sub (SubH.drop (SubH.drop (SubH.drop (SubH.drop (SubH.drop SubH.refl))))), hD.out⟩ (fun B w0 W h => ⟨hA.out _ _ _ h, RcsAt.nil⟩)
  · rw [if_neg hz] at he
    rw [he]
    clear he
    have d2 : (e5 != 0) = true := by simpa using hz
    go_enter Tryz.func111, Tryz.ntmps111
    go_wp2_with (first | ((go_at_call 151; refine callR 0 hH rfl (fun hr => hgood hr) ?_; (clear hH; (first | intro W g hH | intro W hH); (try simp only [Act.put, pA, pB, pC])))) | ((go_at_call 47; refine hNew hH ?_; (clear hH; intro W gr hH); (try simp only [Act.put, List.setIfInBounds_toArray, List.set_cons_succ, List.set_cons_zero]))) | ((go_at_call 155; (first | refine N1.out _ _ _ _ _ _ _ _ 0 1 rfl hH rfl rfl rfl rfl ?_ | refine N2.out _ _ _ _ _ _ _ _ 0 1 rfl hH rfl rfl rfl rfl ?_ | refine N3.out _ _ _ _ _ _ _ _ 0 1 rfl hH rfl rfl rfl rfl ?_); (clear hH; (first | intro W g hH | intro W hH); (try simp only [Act.put, pA, pB, pC])))) | ((go_at_call 157; refine RP.out _ _ _ _ _ _ hH ?_; (clear hH; intro W sp sc D hA hD hH); (try simp only [List.cons_append, List.nil_append, List.append_assoc] at hH); (try simp only [Act.put, List.setIfInBounds_toArray, List.set_cons_succ, List.set_cons_zero]))) | ((go_at_call 156; refine F4.out _ _ _ _ _ _ _ _ _ 1 2 rfl rfl hH rfl rfl rfl rfl ?_; (clear hH; (first | intro W g hH | intro W hH); (try simp only [Act.put, pA, pB, pC])))) | (refine st ?_; clear hH; first | intro W g hH | intro W hH))
    ((with_reducible refine regM hH (SubH.drop (SubH.keep (SubH.keep (SubH.drop (SubH.drop SubH.refl))))) (by kernel_rfl) ?_); (clear hH; intro W hH); refine mtt [0, 1] ?_; refine hm_two (fuel := 4) 2 5 rfl rfl (by kernel_rfl) ?_ ?_; (focus (go_wp2_with (refine st ?_; clear hH; first | intro W g hH | intro W hH); refine me ?_; refine mtt [3, 4] ?_; refine mo 5 ?_; go_wp2_with (refine st ?_; clear hH; first | intro W g hH | intro W hH); refine me ?_; refine mtt [6] ?_; refine hm_end (by kernel_rfl) ?_)); rotate_left 1; (focus (go_wp2_with (refine st ?_; clear hH; first | intro W g hH | intro W hH); refine me ?_; refine mo 2 ?_; go_wp2_with (refine st ?_; clear hH; first | intro W g hH | intro W hH); refine me ?_; refine mtt [3, 4, 6] ?_; refine hm_end (by kernel_rfl) ?_)))
    all_goals
      go_wp2_with (refine st ?_; clear hH; first | intro W g hH | intro W hH)
      (refine iRet2 Tryz.results111 tab_ok rfl rfl hH ?_; refine ⟨_, _, rfl, rfl, rfl, ?_⟩)
      exact RdPost.mk (sp := none) (rp := none) (sc := 0) (rc := 0) (D := []) (by rw [tkz_seg]; rfl) ⟨hH.nil, by simp⟩ TkIn.z
set_option maxHeartbeats 2000000 in
theorem iread_17c (hs : s.size ≤ 100000) (h : 8 ≤ s.size) (hb : sumOk s = true) (h9 : 8 < s.size) (h12 : 12 ≤ s.size) (hk : kindF s = 17) : Calls Tryz.prog 111 #[.string s] w fun e w' => RdPost w (readF s).1 (readF s).2 e w' := by
  have hH := Hp.refl w
  have d1 : decide ((s.size : Int) < 8) = false := decide_eq_false (by omega)
  have hgood := @sgood_any s hs
  rw [hb] at hgood
  have E8 : (decide (8 < s.size) && decide (s.size < 12)) = false := by rw [decide_eq_false (show ¬s.size < 12 by omega), Bool.and_false]
  have d8 : decide ((8 : Int) < (s.size : Int)) = true := decide_eq_true (by omega)
  have d12 : decide ((s.size : Int) < 12) = false := decide_eq_false (by omega)
  obtain ⟨t1, t2, v3, N1, N2, N3⟩ := pre3 w.heap.size w hs
  have N1 := Lib.hid N1
  have N2 := Lib.hid N2
  have N3 := Lib.hid N3
  have hk3 := st3_k (s := s)
  have hv2 : secF s < 256 := numV_lt _ _ _
  have he := readE h hb
  rw [hk] at N1
  obtain ⟨b4, hb4⟩ : ∃ b, (decide (8 < s.size) && decide (s.size < 12)) = b := ⟨_, rfl⟩
  obtain ⟨t4, ht4⟩ : ∃ t, failS b4 2 (st3 s) = t := ⟨_, rfl⟩
  have hk4 : t4.k ≤ s.size := by rw [← ht4, failS_k]; exact hk3
  have F4 := fun g gr => failC (B := w.heap.size) (w0 := w) (g := g) (gr := gr) (s := s) (is := b4) (c := 2) (t := st3 s)
  have e4 := failS_eq b4 2 (st3 s)
  rw [ht4] at F4 e4
  have F4 := Lib.hid F4
  obtain ⟨⟨v6, ver, kind, resp, a, quiet, rob, every, src, recs⟩, t5, hres⟩ : ∃ R t, qryF s t4 (secF s) = (R, t) := ⟨_, _, rfl⟩
  have hrec : recs = [] := by have := qryF_recs s t4 (secF s); rw [hres] at this; exact this
  subst hrec
  have hT : readT s = (⟨v6, ver, kind, resp, a, quiet, rob, every, src, []⟩, t5) := by unfold readT; rw [if_pos hk, hb4, ht4, hres]
  have RP := Lib.hid (show ∀ (W : World) (H : HB) (Q : Ending → World → Prop) (g gr gt : Nat), Hp w.heap.size w W ((gt, 29, true, [.one (.bool false), .one (.int .i64 0), .one (.int .i64 1), .one (.int .i64 0), .many (zeroL Tryz.prog 25) 17, .one (.bool false), .one (.int .i64 0), .one (.int .i64 0), .one (.slice none 0 0), .one (.slice none 0 0)]) :: rdH g gr s t4 H) → (∀ W' sp sc D, Hid (∀ B w0 W, Hp B w0 W D → AdsAt W sp src) → Hid (∀ r ∈ D, r.2.2.1 = true) → Hp w.heap.size w W' ((gt, 29, true, [.one (.bool v6), .one (.int .i64 ver), .one (.int .i64 kind), .one (.int .i64 resp), .many (adL a) 17, .one (.bool quiet), .one (.int .i64 rob), .one (.int .i64 every), .one (.slice sp src.length sc), .one (.slice none 0 0)]) :: rdH g gr s t5 (H ++ D)) → Q (.returned (.tuple #[])) W') → Calls Tryz.prog 157 #[.pointer (some ⟨g, 0, none⟩), .pointer (some ⟨gt, 0, none⟩), .int .i64 (secF s : Int)] W Q from fun W H Q g gr gt hH hQ => by
    refine iqueries_any (c := secF s) zadr_ok (by omega) hs hk4 (hH.perm ((List.Perm.swap _ _ _).trans ((List.Perm.swap _ _ _).cons _))) ?_
    intro W' R2 t2 D sp sc e hA hD hH
    have e2 := e.out.symm.trans hres
    injection e2 with e3 e4
    subst e3
    subst e4
    exact hQ W' sp sc D hA hD (hH.perm (((List.Perm.swap _ _ _).cons _).trans (List.Perm.swap _ _ _))))
  clear hres ht4 hk hk3 hk4 hv2
  generalize secF s = v2 at *
  generalize st3 s = t3 at *
  obtain ⟨k3, b3, e3⟩ := t3
  obtain ⟨k4, b4', e4'⟩ := t4
  simp only at e4
  injection e4 with x1 x2 x3
  subst x1
  subst x2
  clear x3
  have oA := adL_ok a
  obtain ⟨A, hA⟩ : ∃ Y, Y = adL a := ⟨_, rfl⟩
  have HA := Lib.hid hA
  rw [← hA] at RP oA
  clear hA
  have hb5 := hb4.symm.trans E8
  subst hb5
  clear hb4 E8
  rw [hT] at he
  clear hT
  obtain ⟨k5, b5, e5⟩ := t5
  simp only at he
  by_cases hz : e5 = 0
  · subst hz
    rw [if_pos rfl] at he
    rw [he]
    clear he
    have d2 : ((0 : Int) != 0) = false := rfl
    go_enter Tryz.func111, Tryz.ntmps111
    go_wp2_with (first | ((go_at_call 151; refine callR 0 hH rfl (fun hr => hgood hr) ?_; (clear hH; (first | intro W g hH | intro W hH); (try simp only [Act.put, pA, pB, pC])))) | ((go_at_call 47; refine hNew hH ?_; (clear hH; intro W gr hH); (try simp only [Act.put, List.setIfInBounds_toArray, List.set_cons_succ, List.set_cons_zero]))) | ((go_at_call 155; (first | refine N1.out _ _ _ _ _ _ _ _ 0 1 rfl hH rfl rfl rfl rfl ?_ | refine N2.out _ _ _ _ _ _ _ _ 0 1 rfl hH rfl rfl rfl rfl ?_ | refine N3.out _ _ _ _ _ _ _ _ 0 1 rfl hH rfl rfl rfl rfl ?_); (clear hH; (first | intro W g hH | intro W hH); (try simp only [Act.put, pA, pB, pC])))) | ((go_at_call 157; refine RP.out _ _ _ _ _ _ hH ?_; (clear hH; intro W sp sc D hA hD hH); (try simp only [List.cons_append, List.nil_append, List.append_assoc] at hH); (try simp only [Act.put, List.setIfInBounds_toArray, List.set_cons_succ, List.set_cons_zero]))) | ((go_at_call 156; refine F4.out _ _ _ _ _ _ _ _ _ 1 2 rfl rfl hH rfl rfl rfl rfl ?_; (clear hH; (first | intro W g hH | intro W hH); (try simp only [Act.put, pA, pB, pC])))) | (refine st ?_; clear hH; first | intro W g hH | intro W hH))
    (refine iRet2 Tryz.results111 tab_ok rfl rfl hH ?_; refine ⟨_, _, rfl, rfl, rfl, ?_⟩)
    refine RdPost.mk (sp := sp) (rp := none) (sc := sc) (rc := 0) (D := D) (by unfold tkS; simp only; rw [← HA.out]; rfl) ⟨hH.sub (SubH.drop (SubH.drop (SubH.drop (SubH.drop (SubH.drop SubH.refl))))), hD.out⟩ (fun B w0 W h => ⟨hA.out _ _ _ h, RcsAt.nil⟩)
  · rw [if_neg hz] at he
    rw [he]
    clear he
    have d2 : (e5 != 0) = true := by simpa using hz
    go_enter Tryz.func111, Tryz.ntmps111
    go_wp2_with (first | ((go_at_call 151; refine callR 0 hH rfl (fun hr => hgood hr) ?_; (clear hH; (first | intro W g hH | intro W hH); (try simp only [Act.put, pA, pB, pC])))) | ((go_at_call 47; refine hNew hH ?_; (clear hH; intro W gr hH); (try simp only [Act.put, List.setIfInBounds_toArray, List.set_cons_succ, List.set_cons_zero]))) | ((go_at_call 155; (first | refine N1.out _ _ _ _ _ _ _ _ 0 1 rfl hH rfl rfl rfl rfl ?_ | refine N2.out _ _ _ _ _ _ _ _ 0 1 rfl hH rfl rfl rfl rfl ?_ | refine N3.out _ _ _ _ _ _ _ _ 0 1 rfl hH rfl rfl rfl rfl ?_); (clear hH; (first | intro W g hH | intro W hH); (try simp only [Act.put, pA, pB, pC])))) | ((go_at_call 157; refine RP.out _ _ _ _ _ _ hH ?_; (clear hH; intro W sp sc D hA hD hH); (try simp only [List.cons_append, List.nil_append, List.append_assoc] at hH); (try simp only [Act.put, List.setIfInBounds_toArray, List.set_cons_succ, List.set_cons_zero]))) | ((go_at_call 156; refine F4.out _ _ _ _ _ _ _ _ _ 1 2 rfl rfl hH rfl rfl rfl rfl ?_; (clear hH; (first | intro W g hH | intro W hH); (try simp only [Act.put, pA, pB, pC])))) | (refine st ?_; clear hH; first | intro W g hH | intro W hH))
    ((with_reducible refine regM hH (SubH.drop (SubH.keep (SubH.keep (SubH.drop (SubH.drop SubH.refl))))) (by kernel_rfl) ?_); (clear hH; intro W hH); refine mtt [0, 1] ?_; refine hm_two (fuel := 4) 2 5 rfl rfl (by kernel_rfl) ?_ ?_; (focus (go_wp2_with (refine st ?_; clear hH; first | intro W g hH | intro W hH); refine me ?_; refine mtt [3, 4] ?_; refine mo 5 ?_; go_wp2_with (refine st ?_; clear hH; first | intro W g hH | intro W hH); refine me ?_; refine mtt [6] ?_; refine hm_end (by kernel_rfl) ?_)); rotate_left 1; (focus (go_wp2_with (refine st ?_; clear hH; first | intro W g hH | intro W hH); refine me ?_; refine mo 2 ?_; go_wp2_with (refine st ?_; clear hH; first | intro W g hH | intro W hH); refine me ?_; refine mtt [3, 4, 6] ?_; refine hm_end (by kernel_rfl) ?_)))
    all_goals
      go_wp2_with (refine st ?_; clear hH; first | intro W g hH | intro W hH)
      (refine iRet2 Tryz.results111 tab_ok rfl rfl hH ?_; refine ⟨_, _, rfl, rfl, rfl, ?_⟩)
      exact RdPost.mk (sp := none) (rp := none) (sc := 0) (rc := 0) (D := []) (by rw [tkz_seg]; rfl) ⟨hH.nil, by simp⟩ TkIn.z
end
end
section
open Go.ChangeShapes Go.WideShapes Go.ChangeAt Go.RowKit
set_option linter.unusedVariables false
set_option linter.unusedSimpArgs false
set_option maxRecDepth 20000
attribute [local irreducible] wpList

section
variable {w : World} {s : ByteArray}
set_option maxHeartbeats 2000000 in
theorem iread_18 (hs : s.size ≤ 100000) (h : 8 ≤ s.size) (hb : sumOk s = true) (hk : kindF s = 18) : Calls Tryz.prog 111 #[.string s] w fun e w' => RdPost w (readF s).1 (readF s).2 e w' := by
  have hH := Hp.refl w
  have d1 : decide ((s.size : Int) < 8) = false := decide_eq_false (by omega)
  have hgood := @sgood_any s hs
  rw [hb] at hgood
  obtain ⟨t1, t2, v3, N1, N2, N3⟩ := pre3 w.heap.size w hs
  have N1 := Lib.hid N1
  have N2 := Lib.hid N2
  have N3 := Lib.hid N3
  have hk3 := st3_k (s := s)
  have hv2 : secF s < 256 := numV_lt _ _ _
  have he := readE h hb
  rw [hk] at N1
  have A1 := fun g gr => addrC (B := w.heap.size) (w0 := w) (g := g) (gr := gr) hs hk3
  obtain ⟨a, ha⟩ : ∃ a, addrS s 4 (st3 s) = a := ⟨_, rfl⟩
  obtain ⟨t4, ht4⟩ : ∃ t, stepS s 4 (st3 s) = t := ⟨_, rfl⟩
  rw [ha, ht4] at A1
  have F5 := Lib.hid (fun g gr => failC (B := w.heap.size) (w0 := w) (g := g) (gr := gr) (s := s) (is := !grp4 a) (c := 2) (t := t4))
  obtain ⟨t5, ht5⟩ : ∃ t, failS (!grp4 a) 2 t4 = t := ⟨_, rfl⟩
  have e5 := failS_eq (!grp4 a) 2 t4
  rw [ht5] at F5 e5
  have hT : readT s = (⟨false, 1, 2, 0, a, false, 0, 0, [], []⟩, t5) := by unfold readT ver1F kind1F; rw [if_neg (by omega), if_neg (by omega), if_pos (by omega), ha, ht4, ht5, if_pos hk, if_neg (by omega)]
  clear ha ht4 ht5 hk hk3 hv2
  have f1 : ∀ w, Gives Tryz.prog 160 #[.agg (fls [.many (adL a) 17]).toArray] w (.bool (grp4 a)) := fun w => igroup_any
  have oA := adL_ok a
  obtain ⟨A, hA⟩ : ∃ Y, Y = adL a := ⟨_, rfl⟩
  have HA := Lib.hid hA
  rw [← hA] at A1 f1 oA
  have A1 := Lib.hid A1
  clear hA
  generalize grp4 a = gb at *
  generalize st3 s = t3 at *
  obtain ⟨k3, b3, e3⟩ := t3
  obtain ⟨k4, b4, e4⟩ := t4
  obtain ⟨k6, b6, e6⟩ := t5
  simp only at e5
  injection e5 with x1 x2 x3
  subst x1
  subst x2
  clear x3
  rw [hT] at he
  clear hT
  simp only at he
  by_cases hz : e6 = 0
  · subst hz
    rw [if_pos rfl] at he
    rw [he]
    clear he
    have d2 : ((0 : Int) != 0) = false := rfl
    go_enter Tryz.func111, Tryz.ntmps111
    go_wp2_with (first | ((go_at_call 151; refine callR 0 hH rfl (fun hr => hgood hr) ?_; (clear hH; (first | intro W g hH | intro W hH); (try simp only [Act.put, pA, pB, pC])))) | ((go_at_call 47; refine hNew hH ?_; (clear hH; intro W gr hH); (try simp only [Act.put, List.setIfInBounds_toArray, List.set_cons_succ, List.set_cons_zero]))) | ((go_at_call 155; (first | refine N1.out _ _ _ _ _ _ _ _ 0 1 rfl hH rfl rfl rfl rfl ?_ | refine N2.out _ _ _ _ _ _ _ _ 0 1 rfl hH rfl rfl rfl rfl ?_ | refine N3.out _ _ _ _ _ _ _ _ 0 1 rfl hH rfl rfl rfl rfl ?_); (clear hH; (first | intro W g hH | intro W hH); (try simp only [Act.put, pA, pB, pC])))) | ((go_at_call 159; refine A1.out _ _ _ _ _ _ _ 1 2 hH rfl rfl rfl rfl ?_; (clear hH; (first | intro W g hH | intro W hH); (try simp only [Act.put, pA, pB, pC])))) | ((go_at_call 156; refine F5.out _ _ _ _ _ _ _ _ _ 1 2 rfl rfl hH rfl rfl rfl rfl ?_; (clear hH; (first | intro W g hH | intro W hH); (try simp only [Act.put, pA, pB, pC])))) | (refine st ?_; clear hH; first | intro W g hH | intro W hH))
    (refine iRet2 Tryz.results111 tab_ok rfl rfl hH ?_; refine ⟨_, _, rfl, rfl, rfl, ?_⟩)
    exact RdPost.mk (sp := none) (rp := none) (sc := 0) (rc := 0) (D := []) (by unfold tkS; simp only; rw [← HA.out]; rfl) ⟨hH.nil, by simp⟩ (fun B w0 W h => ⟨AdsAt.nil, RcsAt.nil⟩)
  · rw [if_neg hz] at he
    rw [he]
    clear he
    have d2 : (e6 != 0) = true := by simpa using hz
    go_enter Tryz.func111, Tryz.ntmps111
    go_wp2_with (first | ((go_at_call 151; refine callR 0 hH rfl (fun hr => hgood hr) ?_; (clear hH; (first | intro W g hH | intro W hH); (try simp only [Act.put, pA, pB, pC])))) | ((go_at_call 47; refine hNew hH ?_; (clear hH; intro W gr hH); (try simp only [Act.put, List.setIfInBounds_toArray, List.set_cons_succ, List.set_cons_zero]))) | ((go_at_call 155; (first | refine N1.out _ _ _ _ _ _ _ _ 0 1 rfl hH rfl rfl rfl rfl ?_ | refine N2.out _ _ _ _ _ _ _ _ 0 1 rfl hH rfl rfl rfl rfl ?_ | refine N3.out _ _ _ _ _ _ _ _ 0 1 rfl hH rfl rfl rfl rfl ?_); (clear hH; (first | intro W g hH | intro W hH); (try simp only [Act.put, pA, pB, pC])))) | ((go_at_call 159; refine A1.out _ _ _ _ _ _ _ 1 2 hH rfl rfl rfl rfl ?_; (clear hH; (first | intro W g hH | intro W hH); (try simp only [Act.put, pA, pB, pC])))) | ((go_at_call 156; refine F5.out _ _ _ _ _ _ _ _ _ 1 2 rfl rfl hH rfl rfl rfl rfl ?_; (clear hH; (first | intro W g hH | intro W hH); (try simp only [Act.put, pA, pB, pC])))) | (refine st ?_; clear hH; first | intro W g hH | intro W hH))
    ((with_reducible refine regM hH (SubH.drop (SubH.keep (SubH.keep (SubH.drop (SubH.drop SubH.refl))))) (by kernel_rfl) ?_); (clear hH; intro W hH); refine mtt [0, 1] ?_; refine hm_two (fuel := 4) 2 5 rfl rfl (by kernel_rfl) ?_ ?_; (focus (go_wp2_with (refine st ?_; clear hH; first | intro W g hH | intro W hH); refine me ?_; refine mtt [3, 4] ?_; refine mo 5 ?_; go_wp2_with (refine st ?_; clear hH; first | intro W g hH | intro W hH); refine me ?_; refine mtt [6] ?_; refine hm_end (by kernel_rfl) ?_)); rotate_left 1; (focus (go_wp2_with (refine st ?_; clear hH; first | intro W g hH | intro W hH); refine me ?_; refine mo 2 ?_; go_wp2_with (refine st ?_; clear hH; first | intro W g hH | intro W hH); refine me ?_; refine mtt [3, 4, 6] ?_; refine hm_end (by kernel_rfl) ?_)))
    all_goals
      go_wp2_with (refine st ?_; clear hH; first | intro W g hH | intro W hH)
      (refine iRet2 Tryz.results111 tab_ok rfl rfl hH ?_; refine ⟨_, _, rfl, rfl, rfl, ?_⟩)
      exact RdPost.mk (sp := none) (rp := none) (sc := 0) (rc := 0) (D := []) (by rw [tkz_seg]; rfl) ⟨hH.nil, by simp⟩ TkIn.z
set_option maxHeartbeats 2000000 in
theorem iread_22 (hs : s.size ≤ 100000) (h : 8 ≤ s.size) (hb : sumOk s = true) (hk : kindF s = 22) : Calls Tryz.prog 111 #[.string s] w fun e w' => RdPost w (readF s).1 (readF s).2 e w' := by
  have hH := Hp.refl w
  have d1 : decide ((s.size : Int) < 8) = false := decide_eq_false (by omega)
  have hgood := @sgood_any s hs
  rw [hb] at hgood
  obtain ⟨t1, t2, v3, N1, N2, N3⟩ := pre3 w.heap.size w hs
  have N1 := Lib.hid N1
  have N2 := Lib.hid N2
  have N3 := Lib.hid N3
  have hk3 := st3_k (s := s)
  have hv2 : secF s < 256 := numV_lt _ _ _
  have he := readE h hb
  rw [hk] at N1
  have A1 := fun g gr => addrC (B := w.heap.size) (w0 := w) (g := g) (gr := gr) hs hk3
  obtain ⟨a, ha⟩ : ∃ a, addrS s 4 (st3 s) = a := ⟨_, rfl⟩
  obtain ⟨t4, ht4⟩ : ∃ t, stepS s 4 (st3 s) = t := ⟨_, rfl⟩
  rw [ha, ht4] at A1
  have F5 := Lib.hid (fun g gr => failC (B := w.heap.size) (w0 := w) (g := g) (gr := gr) (s := s) (is := !grp4 a) (c := 2) (t := t4))
  obtain ⟨t5, ht5⟩ : ∃ t, failS (!grp4 a) 2 t4 = t := ⟨_, rfl⟩
  have e5 := failS_eq (!grp4 a) 2 t4
  rw [ht5] at F5 e5
  have hT : readT s = (⟨false, 2, 2, 0, a, false, 0, 0, [], []⟩, t5) := by unfold readT ver1F kind1F; rw [if_neg (by omega), if_neg (by omega), if_pos (by omega), ha, ht4, ht5, if_neg (by omega), if_neg (by omega)]
  clear ha ht4 ht5 hk hk3 hv2
  have f1 : ∀ w, Gives Tryz.prog 160 #[.agg (fls [.many (adL a) 17]).toArray] w (.bool (grp4 a)) := fun w => igroup_any
  have oA := adL_ok a
  obtain ⟨A, hA⟩ : ∃ Y, Y = adL a := ⟨_, rfl⟩
  have HA := Lib.hid hA
  rw [← hA] at A1 f1 oA
  have A1 := Lib.hid A1
  clear hA
  generalize grp4 a = gb at *
  generalize st3 s = t3 at *
  obtain ⟨k3, b3, e3⟩ := t3
  obtain ⟨k4, b4, e4⟩ := t4
  obtain ⟨k6, b6, e6⟩ := t5
  simp only at e5
  injection e5 with x1 x2 x3
  subst x1
  subst x2
  clear x3
  rw [hT] at he
  clear hT
  simp only at he
  by_cases hz : e6 = 0
  · subst hz
    rw [if_pos rfl] at he
    rw [he]
    clear he
    have d2 : ((0 : Int) != 0) = false := rfl
    go_enter Tryz.func111, Tryz.ntmps111
    go_wp2_with (first | ((go_at_call 151; refine callR 0 hH rfl (fun hr => hgood hr) ?_; (clear hH; (first | intro W g hH | intro W hH); (try simp only [Act.put, pA, pB, pC])))) | ((go_at_call 47; refine hNew hH ?_; (clear hH; intro W gr hH); (try simp only [Act.put, List.setIfInBounds_toArray, List.set_cons_succ, List.set_cons_zero]))) | ((go_at_call 155; (first | refine N1.out _ _ _ _ _ _ _ _ 0 1 rfl hH rfl rfl rfl rfl ?_ | refine N2.out _ _ _ _ _ _ _ _ 0 1 rfl hH rfl rfl rfl rfl ?_ | refine N3.out _ _ _ _ _ _ _ _ 0 1 rfl hH rfl rfl rfl rfl ?_); (clear hH; (first | intro W g hH | intro W hH); (try simp only [Act.put, pA, pB, pC])))) | ((go_at_call 159; refine A1.out _ _ _ _ _ _ _ 1 2 hH rfl rfl rfl rfl ?_; (clear hH; (first | intro W g hH | intro W hH); (try simp only [Act.put, pA, pB, pC])))) | ((go_at_call 156; refine F5.out _ _ _ _ _ _ _ _ _ 1 2 rfl rfl hH rfl rfl rfl rfl ?_; (clear hH; (first | intro W g hH | intro W hH); (try simp only [Act.put, pA, pB, pC])))) | (refine st ?_; clear hH; first | intro W g hH | intro W hH))
    (refine iRet2 Tryz.results111 tab_ok rfl rfl hH ?_; refine ⟨_, _, rfl, rfl, rfl, ?_⟩)
    exact RdPost.mk (sp := none) (rp := none) (sc := 0) (rc := 0) (D := []) (by unfold tkS; simp only; rw [← HA.out]; rfl) ⟨hH.nil, by simp⟩ (fun B w0 W h => ⟨AdsAt.nil, RcsAt.nil⟩)
  · rw [if_neg hz] at he
    rw [he]
    clear he
    have d2 : (e6 != 0) = true := by simpa using hz
    go_enter Tryz.func111, Tryz.ntmps111
    go_wp2_with (first | ((go_at_call 151; refine callR 0 hH rfl (fun hr => hgood hr) ?_; (clear hH; (first | intro W g hH | intro W hH); (try simp only [Act.put, pA, pB, pC])))) | ((go_at_call 47; refine hNew hH ?_; (clear hH; intro W gr hH); (try simp only [Act.put, List.setIfInBounds_toArray, List.set_cons_succ, List.set_cons_zero]))) | ((go_at_call 155; (first | refine N1.out _ _ _ _ _ _ _ _ 0 1 rfl hH rfl rfl rfl rfl ?_ | refine N2.out _ _ _ _ _ _ _ _ 0 1 rfl hH rfl rfl rfl rfl ?_ | refine N3.out _ _ _ _ _ _ _ _ 0 1 rfl hH rfl rfl rfl rfl ?_); (clear hH; (first | intro W g hH | intro W hH); (try simp only [Act.put, pA, pB, pC])))) | ((go_at_call 159; refine A1.out _ _ _ _ _ _ _ 1 2 hH rfl rfl rfl rfl ?_; (clear hH; (first | intro W g hH | intro W hH); (try simp only [Act.put, pA, pB, pC])))) | ((go_at_call 156; refine F5.out _ _ _ _ _ _ _ _ _ 1 2 rfl rfl hH rfl rfl rfl rfl ?_; (clear hH; (first | intro W g hH | intro W hH); (try simp only [Act.put, pA, pB, pC])))) | (refine st ?_; clear hH; first | intro W g hH | intro W hH))
    ((with_reducible refine regM hH (SubH.drop (SubH.keep (SubH.keep (SubH.drop (SubH.drop SubH.refl))))) (by kernel_rfl) ?_); (clear hH; intro W hH); refine mtt [0, 1] ?_; refine hm_two (fuel := 4) 2 5 rfl rfl (by kernel_rfl) ?_ ?_; (focus (go_wp2_with (refine st ?_; clear hH; first | intro W g hH | intro W hH); refine me ?_; refine mtt [3, 4] ?_; refine mo 5 ?_; go_wp2_with (refine st ?_; clear hH; first | intro W g hH | intro W hH); refine me ?_; refine mtt [6] ?_; refine hm_end (by kernel_rfl) ?_)); rotate_left 1; (focus (go_wp2_with (refine st ?_; clear hH; first | intro W g hH | intro W hH); refine me ?_; refine mo 2 ?_; go_wp2_with (refine st ?_; clear hH; first | intro W g hH | intro W hH); refine me ?_; refine mtt [3, 4, 6] ?_; refine hm_end (by kernel_rfl) ?_)))
    all_goals
      go_wp2_with (refine st ?_; clear hH; first | intro W g hH | intro W hH)
      (refine iRet2 Tryz.results111 tab_ok rfl rfl hH ?_; refine ⟨_, _, rfl, rfl, rfl, ?_⟩)
      exact RdPost.mk (sp := none) (rp := none) (sc := 0) (rc := 0) (D := []) (by rw [tkz_seg]; rfl) ⟨hH.nil, by simp⟩ TkIn.z
set_option maxHeartbeats 2000000 in
theorem iread_23 (hs : s.size ≤ 100000) (h : 8 ≤ s.size) (hb : sumOk s = true) (hk : kindF s = 23) : Calls Tryz.prog 111 #[.string s] w fun e w' => RdPost w (readF s).1 (readF s).2 e w' := by
  have hH := Hp.refl w
  have d1 : decide ((s.size : Int) < 8) = false := decide_eq_false (by omega)
  have hgood := @sgood_any s hs
  rw [hb] at hgood
  obtain ⟨t1, t2, v3, N1, N2, N3⟩ := pre3 w.heap.size w hs
  have N1 := Lib.hid N1
  have N2 := Lib.hid N2
  have N3 := Lib.hid N3
  have hk3 := st3_k (s := s)
  have hv2 : secF s < 256 := numV_lt _ _ _
  have he := readE h hb
  rw [hk] at N1
  have A1 := fun g gr => addrC (B := w.heap.size) (w0 := w) (g := g) (gr := gr) hs hk3
  obtain ⟨a, ha⟩ : ∃ a, addrS s 4 (st3 s) = a := ⟨_, rfl⟩
  obtain ⟨t4, ht4⟩ : ∃ t, stepS s 4 (st3 s) = t := ⟨_, rfl⟩
  rw [ha, ht4] at A1
  have F5 := Lib.hid (fun g gr => failC (B := w.heap.size) (w0 := w) (g := g) (gr := gr) (s := s) (is := !grp4 a) (c := 2) (t := t4))
  obtain ⟨t5, ht5⟩ : ∃ t, failS (!grp4 a) 2 t4 = t := ⟨_, rfl⟩
  have e5 := failS_eq (!grp4 a) 2 t4
  rw [ht5] at F5 e5
  have hT : readT s = (⟨false, 2, 3, 0, a, false, 0, 0, [], []⟩, t5) := by unfold readT ver1F kind1F; rw [if_neg (by omega), if_neg (by omega), if_pos (by omega), ha, ht4, ht5, if_neg (by omega), if_pos hk]
  clear ha ht4 ht5 hk hk3 hv2
  have f1 : ∀ w, Gives Tryz.prog 160 #[.agg (fls [.many (adL a) 17]).toArray] w (.bool (grp4 a)) := fun w => igroup_any
  have oA := adL_ok a
  obtain ⟨A, hA⟩ : ∃ Y, Y = adL a := ⟨_, rfl⟩
  have HA := Lib.hid hA
  rw [← hA] at A1 f1 oA
  have A1 := Lib.hid A1
  clear hA
  generalize grp4 a = gb at *
  generalize st3 s = t3 at *
  obtain ⟨k3, b3, e3⟩ := t3
  obtain ⟨k4, b4, e4⟩ := t4
  obtain ⟨k6, b6, e6⟩ := t5
  simp only at e5
  injection e5 with x1 x2 x3
  subst x1
  subst x2
  clear x3
  rw [hT] at he
  clear hT
  simp only at he
  by_cases hz : e6 = 0
  · subst hz
    rw [if_pos rfl] at he
    rw [he]
    clear he
    have d2 : ((0 : Int) != 0) = false := rfl
    go_enter Tryz.func111, Tryz.ntmps111
    go_wp2_with (first | ((go_at_call 151; refine callR 0 hH rfl (fun hr => hgood hr) ?_; (clear hH; (first | intro W g hH | intro W hH); (try simp only [Act.put, pA, pB, pC])))) | ((go_at_call 47; refine hNew hH ?_; (clear hH; intro W gr hH); (try simp only [Act.put, List.setIfInBounds_toArray, List.set_cons_succ, List.set_cons_zero]))) | ((go_at_call 155; (first | refine N1.out _ _ _ _ _ _ _ _ 0 1 rfl hH rfl rfl rfl rfl ?_ | refine N2.out _ _ _ _ _ _ _ _ 0 1 rfl hH rfl rfl rfl rfl ?_ | refine N3.out _ _ _ _ _ _ _ _ 0 1 rfl hH rfl rfl rfl rfl ?_); (clear hH; (first | intro W g hH | intro W hH); (try simp only [Act.put, pA, pB, pC])))) | ((go_at_call 159; refine A1.out _ _ _ _ _ _ _ 1 2 hH rfl rfl rfl rfl ?_; (clear hH; (first | intro W g hH | intro W hH); (try simp only [Act.put, pA, pB, pC])))) | ((go_at_call 156; refine F5.out _ _ _ _ _ _ _ _ _ 1 2 rfl rfl hH rfl rfl rfl rfl ?_; (clear hH; (first | intro W g hH | intro W hH); (try simp only [Act.put, pA, pB, pC])))) | (refine st ?_; clear hH; first | intro W g hH | intro W hH))
    (refine iRet2 Tryz.results111 tab_ok rfl rfl hH ?_; refine ⟨_, _, rfl, rfl, rfl, ?_⟩)
    exact RdPost.mk (sp := none) (rp := none) (sc := 0) (rc := 0) (D := []) (by unfold tkS; simp only; rw [← HA.out]; rfl) ⟨hH.nil, by simp⟩ (fun B w0 W h => ⟨AdsAt.nil, RcsAt.nil⟩)
  · rw [if_neg hz] at he
    rw [he]
    clear he
    have d2 : (e6 != 0) = true := by simpa using hz
    go_enter Tryz.func111, Tryz.ntmps111
    go_wp2_with (first | ((go_at_call 151; refine callR 0 hH rfl (fun hr => hgood hr) ?_; (clear hH; (first | intro W g hH | intro W hH); (try simp only [Act.put, pA, pB, pC])))) | ((go_at_call 47; refine hNew hH ?_; (clear hH; intro W gr hH); (try simp only [Act.put, List.setIfInBounds_toArray, List.set_cons_succ, List.set_cons_zero]))) | ((go_at_call 155; (first | refine N1.out _ _ _ _ _ _ _ _ 0 1 rfl hH rfl rfl rfl rfl ?_ | refine N2.out _ _ _ _ _ _ _ _ 0 1 rfl hH rfl rfl rfl rfl ?_ | refine N3.out _ _ _ _ _ _ _ _ 0 1 rfl hH rfl rfl rfl rfl ?_); (clear hH; (first | intro W g hH | intro W hH); (try simp only [Act.put, pA, pB, pC])))) | ((go_at_call 159; refine A1.out _ _ _ _ _ _ _ 1 2 hH rfl rfl rfl rfl ?_; (clear hH; (first | intro W g hH | intro W hH); (try simp only [Act.put, pA, pB, pC])))) | ((go_at_call 156; refine F5.out _ _ _ _ _ _ _ _ _ 1 2 rfl rfl hH rfl rfl rfl rfl ?_; (clear hH; (first | intro W g hH | intro W hH); (try simp only [Act.put, pA, pB, pC])))) | (refine st ?_; clear hH; first | intro W g hH | intro W hH))
    ((with_reducible refine regM hH (SubH.drop (SubH.keep (SubH.keep (SubH.drop (SubH.drop SubH.refl))))) (by kernel_rfl) ?_); (clear hH; intro W hH); refine mtt [0, 1] ?_; refine hm_two (fuel := 4) 2 5 rfl rfl (by kernel_rfl) ?_ ?_; (focus (go_wp2_with (refine st ?_; clear hH; first | intro W g hH | intro W hH); refine me ?_; refine mtt [3, 4] ?_; refine mo 5 ?_; go_wp2_with (refine st ?_; clear hH; first | intro W g hH | intro W hH); refine me ?_; refine mtt [6] ?_; refine hm_end (by kernel_rfl) ?_)); rotate_left 1; (focus (go_wp2_with (refine st ?_; clear hH; first | intro W g hH | intro W hH); refine me ?_; refine mo 2 ?_; go_wp2_with (refine st ?_; clear hH; first | intro W g hH | intro W hH); refine me ?_; refine mtt [3, 4, 6] ?_; refine hm_end (by kernel_rfl) ?_)))
    all_goals
      go_wp2_with (refine st ?_; clear hH; first | intro W g hH | intro W hH)
      (refine iRet2 Tryz.results111 tab_ok rfl rfl hH ?_; refine ⟨_, _, rfl, rfl, rfl, ?_⟩)
      exact RdPost.mk (sp := none) (rp := none) (sc := 0) (rc := 0) (D := []) (by rw [tkz_seg]; rfl) ⟨hH.nil, by simp⟩ TkIn.z
end
end
section
open Go.ChangeShapes Go.WideShapes Go.ChangeAt Go.RowKit
set_option linter.unusedVariables false
set_option linter.unusedSimpArgs false
set_option maxRecDepth 20000
attribute [local irreducible] wpList

section
variable {w : World} {s : ByteArray}
set_option maxHeartbeats 2000000 in
theorem iread_none (hs : s.size ≤ 100000) (h : 8 ≤ s.size) (hb : sumOk s = true) (h1 : kindF s ≠ 17) (h2 : kindF s ≠ 34) (h3 : kindF s ≠ 18) (h4 : kindF s ≠ 22) (h5 : kindF s ≠ 23) : Calls Tryz.prog 111 #[.string s] w fun e w' => RdPost w (readF s).1 (readF s).2 e w' := by
  have hH := Hp.refl w
  have d1 : decide ((s.size : Int) < 8) = false := decide_eq_false (by omega)
  have hgood := @sgood_any s hs
  rw [hb] at hgood
  obtain ⟨t1, t2, v3, N1, N2, N3⟩ := pre3 w.heap.size w hs
  have N1 := Lib.hid N1
  have N2 := Lib.hid N2
  have N3 := Lib.hid N3
  have hk3 := st3_k (s := s)
  have hv2 : secF s < 256 := numV_lt _ _ _
  have he := readE h hb
  have hT : readT s = (Tk.z, ⟨(st3 s).k, (st3 s).b, 5⟩) := by unfold readT; rw [if_neg (by omega), if_neg (by omega), if_neg (by omega)]
  rw [hT] at he
  clear hT
  simp only at he
  rw [if_neg (by decide)] at he
  rw [he]
  clear he hv2 hk3
  generalize kindF s = v1 at *
  have d17 : ((v1 : Int) == 17) = false := by simp; omega
  have d34 : ((v1 : Int) == 34) = false := by simp; omega
  have d18 : ((v1 : Int) == 18) = false := by simp; omega
  have d22 : ((v1 : Int) == 22) = false := by simp; omega
  have d23 : ((v1 : Int) == 23) = false := by simp; omega
  clear h1 h2 h3 h4 h5
  generalize st3 s = t3 at *
  obtain ⟨k3, b3, e3⟩ := t3
  go_enter Tryz.func111, Tryz.ntmps111
  go_wp2_with (first | ((go_at_call 151; refine callR 0 hH rfl (fun hr => hgood hr) ?_; (clear hH; (first | intro W g hH | intro W hH); (try simp only [Act.put, pA, pB, pC])))) | ((go_at_call 47; refine hNew hH ?_; (clear hH; intro W gr hH); (try simp only [Act.put, List.setIfInBounds_toArray, List.set_cons_succ, List.set_cons_zero]))) | ((go_at_call 155; (first | refine N1.out _ _ _ _ _ _ _ _ 0 1 rfl hH rfl rfl rfl rfl ?_ | refine N2.out _ _ _ _ _ _ _ _ 0 1 rfl hH rfl rfl rfl rfl ?_ | refine N3.out _ _ _ _ _ _ _ _ 0 1 rfl hH rfl rfl rfl rfl ?_); (clear hH; (first | intro W g hH | intro W hH); (try simp only [Act.put, pA, pB, pC])))) | (refine st ?_; clear hH; first | intro W g hH | intro W hH))
  ((with_reducible refine regM hH (SubH.drop (SubH.keep (SubH.keep (SubH.drop (SubH.drop SubH.refl))))) (by kernel_rfl) ?_); (clear hH; intro W hH); refine mtt [0, 1] ?_; refine hm_two (fuel := 4) 2 5 rfl rfl (by kernel_rfl) ?_ ?_; (focus (go_wp2_with (refine st ?_; clear hH; first | intro W g hH | intro W hH); refine me ?_; refine mtt [3, 4] ?_; refine mo 5 ?_; go_wp2_with (refine st ?_; clear hH; first | intro W g hH | intro W hH); refine me ?_; refine mtt [6] ?_; refine hm_end (by kernel_rfl) ?_)); rotate_left 1; (focus (go_wp2_with (refine st ?_; clear hH; first | intro W g hH | intro W hH); refine me ?_; refine mo 2 ?_; go_wp2_with (refine st ?_; clear hH; first | intro W g hH | intro W hH); refine me ?_; refine mtt [3, 4, 6] ?_; refine hm_end (by kernel_rfl) ?_)))
  all_goals
    go_wp2_with (refine st ?_; clear hH; first | intro W g hH | intro W hH)
    (refine iRet2 Tryz.results111 tab_ok rfl rfl hH ?_; refine ⟨_, _, rfl, rfl, rfl, ?_⟩)
    exact RdPost.mk (sp := none) (rp := none) (sc := 0) (rc := 0) (D := []) (by rw [tkz_seg]; rfl) ⟨hH.nil, by simp⟩ TkIn.z
end
end
section
open Go.ChangeShapes Go.WideShapes Go.ChangeAt Go.RowKit
set_option linter.unusedVariables false
set_option linter.unusedSimpArgs false
set_option maxRecDepth 20000
attribute [local irreducible] wpList

section
variable {w : World} {s : ByteArray}
theorem iread_any (hs : s.size ≤ 100000) : Calls Tryz.prog 111 #[.string s] w fun e w' => RdPost w (readF s).1 (readF s).2 e w' := by
  by_cases h8 : s.size < 8
  · have e : readF s = (Tk.z, 3) := by unfold readF; rw [if_pos h8]
    rw [e]
    exact iread_short h8
  have h := Nat.le_of_not_lt h8
  cases hb : sumOk s
  · have e : readF s = (Tk.z, 4) := by unfold readF; rw [if_neg h8, if_pos hb]
    rw [e]
    exact iread_sum hs h hb
  by_cases h1 : kindF s = 17
  · by_cases h9 : s.size ≤ 8
    · exact iread_17a hs h hb h9 h1
    · by_cases h12 : s.size < 12
      · exact iread_17b hs h hb (by omega) h12 h1
      · exact iread_17c hs h hb (by omega) (by omega) h1
  by_cases h2 : kindF s = 34
  · exact iread_34 hs h hb h2
  by_cases h3 : kindF s = 18
  · exact iread_18 hs h hb h3
  by_cases h4 : kindF s = 22
  · exact iread_22 hs h hb h4
  by_cases h5 : kindF s = 23
  · exact iread_23 hs h hb h5
  exact iread_none hs h hb h1 h2 h3 h4 h5
end
end
end Go.Proofs.YtdnehjhijmeihaaGreat
namespace Go.Proofs.YtdnehjhijmeihaaGreat
open Go.ChangeShapes Go.WideShapes Go.ChangeAt Go.RowKit
set_option linter.unusedVariables false
set_option linter.unusedSimpArgs false
set_option maxRecDepth 20000
attribute [local irreducible] wpList
def ad4 (s : ByteArray) (k : Nat) : Ad := adR (s.extract k (k + 4))
def srcAt (s : ByteArray) (k n : Nat) : List Ad := (List.range n).map fun i => ad4 s (k + 4 * i)
def rSrcF (s : ByteArray) (k n : Nat) : List Ad × Int := if 64 < n then ([], 6) else if s.size < k + 4 * n then ([], 3) else (srcAt s k n, 0)
theorem srcAt_len (s : ByteArray) (k n : Nat) : (srcAt s k n).length = n := by simp [srcAt]
def SrcPost (w : World) (L : List Ad) (c : Int) (e : Ending) (w' : World) : Prop := ∃ p cc D, e = .returned (.tuple #[.slice p L.length cc, .int .i64 c]) ∧ Made w w' D ∧ ∀ B w0 W, Hp B w0 W D → AdsAt W p L
theorem SrcPost.mk {w : World} {L : List Ad} {c : Int} {e : Ending} {w' : World} {p : Option Addr} {cc : Nat} {D : HB} (h1 : e = .returned (.tuple #[.slice p L.length cc, .int .i64 c])) (h2 : Made w w' D) (h3 : ∀ B w0 W, Hp B w0 W D → AdsAt W p L) : SrcPost w L c e w' := ⟨p, cc, D, h1, h2, h3⟩
section
variable {w : World} {s : ByteArray}
end
def recAt (s : ByteArray) (k : Nat) : Rc := ⟨numAt s k 1, ad4 s (k + 4), (rSrcF s (k + 8) (numAt s (k + 2) 2)).1⟩
def okAt (s : ByteArray) (k : Nat) : Bool := decide (0 < numAt s k 1) && (decide (numAt s k 1 < 7) && grp4 (ad4 s (k + 4)))
def endAt (s : ByteArray) (k : Nat) : Nat := k + 8 + 4 * numAt s (k + 2) 2 + 4 * numAt s (k + 1) 1
def rRecL (s : ByteArray) (n : Nat) : Nat → Nat → Nat → List Rc → List Rc × Int
  | 0, _, _, X => (X, 0)
  | f + 1, i, k, X => if i < n then (if s.size < k + 8 then (X, 3) else if (rSrcF s (k + 8) (numAt s (k + 2) 2)).2 ≠ 0 then (X, (rSrcF s (k + 8) (numAt s (k + 2) 2)).2) else if s.size < endAt s k then (X, 3) else rRecL s n f (i + 1) (endAt s k) (if okAt s k then X ++ [recAt s k] else X)) else (X, 0)
def rRecF (s : ByteArray) : List Rc × Int := if 64 < numAt s 6 2 then ([], 6) else rRecL s (numAt s 6 2) 65 0 8 []
theorem rRecL_end {s : ByteArray} {n f i k : Nat} {X : List Rc} (h : ¬i < n) : rRecL s n f i k X = (X, 0) := by
  cases f with
  | zero => rfl
  | succ f => rw [rRecL, if_neg h]
def RecsPost (w : World) (R : List Rc) (c : Int) (e : Ending) (w' : World) : Prop := ∃ p cc D, e = .returned (.tuple #[.slice p R.length cc, .int .i64 c]) ∧ Made w w' D ∧ ∀ B w0 W, Hp B w0 W D → RcsAt W p R
theorem RecsPost.mk {w : World} {R : List Rc} {c : Int} {e : Ending} {w' : World} {p : Option Addr} {cc : Nat} {D : HB} (h1 : e = .returned (.tuple #[.slice p R.length cc, .int .i64 c])) (h2 : Made w w' D) (h3 : ∀ B w0 W, Hp B w0 W D → RcsAt W p R) : RecsPost w R c e w' := ⟨p, cc, D, h1, h2, h3⟩
theorem RecsPost.own {w w' : World} {R : List Rc} {c : Int} {e : Ending} {X : List Rv} {go cc q : Nat} {J : List Value} {D : HB} (hR : R = X.map Rv.r) (h1 : e = .returned (.tuple #[.slice (some ⟨go, 0, none⟩) X.length cc, .int .i64 c])) (hXm : X.length ≤ 1000)
    (hH : Hp w.heap.size w w' ((go, 119, true, [.many (rvsL X) (X.length * 19), .many J q]) :: D)) (HD : Hid (∀ r ∈ D, r.2.2.1 = true)) (HXD : Hid (∀ x ∈ X, ∀ B w0 W, Hp B w0 W D → AdsAt W x.p x.r.src)) : RecsPost w R c e w' := by
  subst hR
  refine RecsPost.mk (D := (go, 119, true, [.many (rvsL X) (X.length * 19), .many J q]) :: D) (p := some ⟨go, 0, none⟩) (cc := cc) (by rw [List.length_map]; exact h1) ⟨hH, fun r hr => ?_⟩ (fun B w0 W h => rcsAt_row (by omega) (by have := (h.rows.mem (i := 0) rfl).1; rwa [fls_two] at this) (fun x hx => HXD.out x hx _ _ _ (h.sub (SubH.drop SubH.refl))))
  rcases List.mem_cons.1 hr with rfl | hr
  · rfl
  · exact HD.out r hr
theorem rSrcF_ok {s : ByteArray} {k n : Nat} (h : (rSrcF s k n).2 = 0) : n ≤ 64 ∧ k + 4 * n ≤ s.size ∧ (rSrcF s k n).1 = srcAt s k n := by
  unfold rSrcF at *
  split at h
  · simp at h
  · split at h
    · simp at h
    · rename_i h1 h2
      rw [if_neg h1, if_neg h2]
      exact ⟨by omega, by omega, rfl⟩
section
variable {B : Nat} {w0 w : World} {s : ByteArray}
end
end Go.Proofs.YtdnehjhijmeihaaGreat
namespace Go.Proofs.YtdnehjhijmeihaaGreat
section
open Go.ChangeShapes Go.WideShapes Go.ChangeAt Go.RowKit
set_option linter.unusedVariables false
set_option linter.unusedSimpArgs false
set_option maxRecDepth 20000
attribute [local irreducible] wpList

noncomputable def rQryF (s : ByteArray) : Tk × Int :=
  if 8 < s.size ∧ s.size < 12 then (⟨false, 2, 1, (numAt s 1 1 : Int), ad4 s 4, false, 0, 0, [], []⟩, 2)
  else if (ad4 s 4 == Ad.z || grp4 (ad4 s 4)) = false then (⟨false, 2, 1, (numAt s 1 1 : Int), ad4 s 4, false, 0, 0, [], []⟩, 2)
  else if s.size = 8 then
    if numAt s 1 1 = 0 then (⟨false, 1, 1, (numAt s 1 1 : Int), ad4 s 4, false, 0, 0, [], []⟩, if (ad4 s 4 == Ad.z) = true then 0 else 2)
    else (⟨false, 2, 1, (numAt s 1 1 : Int), ad4 s 4, false, 0, 0, [], []⟩, 0)
  else if (ad4 s 4 == Ad.z) = true ∧ 0 < numAt s 10 2 then (⟨false, 3, 1, (valN 16 (numAt s 1 1) : Int), ad4 s 4, decide (numAt s 8 1 / 8 % 2 = 1), ((numAt s 8 1 % 8 : Nat) : Int), (valN 16 (numAt s 9 1) : Int), [], []⟩, 2)
  else (⟨false, 3, 1, (valN 16 (numAt s 1 1) : Int), ad4 s 4, decide (numAt s 8 1 / 8 % 2 = 1), ((numAt s 8 1 % 8 : Nat) : Int), (valN 16 (numAt s 9 1) : Int), (rSrcF s 12 (numAt s 10 2)).1, []⟩, (rSrcF s 12 (numAt s 10 2)).2)
theorem q8 (b : Nat) : decide (b / 8 % 2 = 1) = (((b : Int) / 8 % 2) == 1) := by
  rw [Bool.eq_iff_iff]
  simp
  omega
theorem m8 (b : Nat) : ((b % 8 : Nat) : Int) = (b : Int) % 8 := by omega
end
section
set_option linter.unusedVariables false
set_option linter.unusedSimpArgs false

theorem ne_false {b : Bool} (h : ¬ b = false) : b = true := by
  cases b
  · exact absurd rfl h
  · rfl
section
variable {s : ByteArray} {k n : Nat} {e : Int} {t : St}
theorem fits_ok (h : k + n ≤ s.size) : rdFits s k false n = true := by simp [rdFits, h]
theorem fits_no (h : s.size < k + n) : rdFits s k false n = false := by simp [rdFits]; omega
theorem stepS_ok (h : k + n ≤ s.size) : stepS s n ⟨k, false, e⟩ = ⟨k + n, false, e⟩ := by
  unfold stepS rdB rdK
  simp only [fits_ok h]
  simp [failS]
theorem stepS_no (h : s.size < k + n) : stepS s n ⟨k, false, 0⟩ = ⟨k, true, 3⟩ := by
  unfold stepS rdB rdK
  simp only [fits_no h]
  simp [failS]
theorem failS_bad {is : Bool} {c : Int} (h : t.e ≠ 0) : failS is c t = t := by
  unfold failS
  rw [if_neg (by simp [h])]
theorem stepS_bad (h : t.e ≠ 0) : (stepS s n t).e = t.e := by
  unfold stepS
  rw [failS_bad (by exact h)]
theorem numV_ok (h : k + n ≤ s.size) : numV s n ⟨k, false, e⟩ = numAt s k n := by
  unfold numV rdS numAt
  simp only [fits_ok h, if_true]
  rw [toList_extract, Nat.add_sub_cancel_left]
theorem addrS_ok (h : k + 4 ≤ s.size) : addrS s 4 ⟨k, false, e⟩ = ad4 s k := by
  unfold addrS ad4 rdS
  simp only [fits_ok h, if_true]
theorem srcAt_zero : srcAt s k 0 = [] := rfl
theorem srcAt_succ : srcAt s k (n + 1) = ad4 s k :: srcAt s (k + 4) n := by
  unfold srcAt
  rw [List.range_succ_eq_map, List.map_cons, List.map_map]
  have h : List.map ((fun i => ad4 s (k + 4 * i)) ∘ Nat.succ) (List.range n) = List.map (fun i => ad4 s (k + 4 + 4 * i)) (List.range n) := List.map_congr_left fun i _ => by
    rw [Function.comp_apply, show k + 4 * Nat.succ i = k + 4 + 4 * i by omega]
  rw [h, Nat.mul_zero, Nat.add_zero]
theorem srcL_bad {f : Nat} {X : List Ad} (h : t.e ≠ 0) : srcL s n f X t = (X, t) := srcL_end fun h' => h h'.2
theorem srcF_bad (h : t.e ≠ 0) : srcF s n t = ([], t) := by
  unfold srcF
  rw [failS_bad h, srcL_bad h]
theorem srcL_run : ∀ {m f : Nat} {X : List Ad} {k : Nat}, m ≤ f → X.length + m = n → k + 4 * m ≤ s.size → srcL s n f X ⟨k, false, 0⟩ = (X ++ srcAt s k m, ⟨k + 4 * m, false, 0⟩)
  | 0, f, X, k, _, hX, _ => by
    rw [srcL_end (fun h => by have := h.1; omega), srcAt_zero, List.append_nil]
    rfl
  | m + 1, 0, _, _, h, _, _ => by omega
  | m + 1, f + 1, X, k, hf, hX, hk => by
    rw [srcL_more ⟨by omega, rfl⟩, addrS_ok (by omega), stepS_ok (by omega), srcL_run (m := m) (by omega) (by simp; omega) (by omega), srcAt_succ]
    simp only [List.append_assoc, List.singleton_append, Prod.mk.injEq, St.mk.injEq, true_and, and_true]
    omega
theorem srcL_short : ∀ {m f : Nat} {X : List Ad} {k : Nat}, m ≤ f → X.length + m = n → k ≤ s.size → s.size < k + 4 * m → (srcL s n f X ⟨k, false, 0⟩).2.e = 3
  | 0, f, X, k, _, hX, _, h => by omega
  | m + 1, 0, _, _, h, _, _, _ => by omega
  | m + 1, f + 1, X, k, hf, hX, hk, h => by
    rw [srcL_more ⟨by omega, rfl⟩]
    by_cases h4 : k + 4 ≤ s.size
    · rw [stepS_ok h4]
      exact srcL_short (m := m) (by omega) (by simp; omega) h4 (by omega)
    · rw [stepS_no (by omega), srcL_bad (by simp)]
theorem srcF_is (hk : k ≤ s.size) : (srcF s n ⟨k, false, 0⟩).2.e = (rSrcF s k n).2 ∧ ((rSrcF s k n).2 = 0 → srcF s n ⟨k, false, 0⟩ = ((rSrcF s k n).1, ⟨k + 4 * n, false, 0⟩)) := by
  unfold srcF rSrcF
  by_cases h64 : 64 < n
  · have e : failS (decide (64 < n)) 6 (⟨k, false, 0⟩ : St) = ⟨k, false, 6⟩ := by simp [failS, h64]
    rw [e, srcL_bad (by simp), if_pos h64]
    exact ⟨rfl, fun h => by simp at h⟩
  · have e : failS (decide (64 < n)) 6 (⟨k, false, 0⟩ : St) = ⟨k, false, 0⟩ := by simp [failS, h64]
    rw [e, if_neg h64]
    by_cases hz : s.size < k + 4 * n
    · rw [if_pos hz]
      exact ⟨srcL_short (m := n) (by omega) (by simp) hk hz, fun h => by simp at h⟩
    · rw [if_neg hz, srcL_run (m := n) (by omega) (by simp) (by omega)]
      exact ⟨rfl, fun _ => by simp⟩
theorem recF_bad (h : (stepS s 4 (stepS s 2 (stepS s 1 (stepS s 1 t)))).e ≠ 0) : (recF s t).2.2.e = (stepS s 4 (stepS s 2 (stepS s 1 (stepS s 1 t)))).e := by
  unfold recF
  simp only
  rw [srcF_bad h, if_neg h]
theorem recF_short (hk : k ≤ s.size) (h : s.size < k + 8) : (recF s ⟨k, false, 0⟩).2.2.e = 3 := by
  have h3 : (stepS s 4 (stepS s 2 (stepS s 1 (stepS s 1 ⟨k, false, 0⟩)))).e = 3 := by
    by_cases h1 : k + 1 ≤ s.size
    · rw [stepS_ok h1]
      by_cases h2 : k + 2 ≤ s.size
      · rw [stepS_ok (by omega)]
        by_cases h4 : k + 4 ≤ s.size
        · rw [stepS_ok (by omega), stepS_no (by omega)]
        · rw [stepS_no (by omega), stepS_bad (by simp)]
      · rw [stepS_no (by omega), stepS_bad (by rw [stepS_bad (by simp)]; simp), stepS_bad (by simp)]
    · have e1 : (stepS s 1 ⟨k, false, 0⟩).e = 3 := by rw [stepS_no (by omega)]
      have e2 : (stepS s 1 (stepS s 1 ⟨k, false, 0⟩)).e = 3 := by rw [stepS_bad (by rw [e1]; simp), e1]
      have e3 : (stepS s 2 (stepS s 1 (stepS s 1 ⟨k, false, 0⟩))).e = 3 := by rw [stepS_bad (by rw [e2]; simp), e2]
      rw [stepS_bad (by rw [e3]; simp), e3]
  rw [recF_bad (by rw [h3]; simp), h3]
theorem recF_is (h : k + 8 ≤ s.size) : recF s ⟨k, false, 0⟩ = (⟨numAt s k 1, ad4 s (k + 4), (srcF s (numAt s (k + 2) 2) ⟨k + 8, false, 0⟩).1⟩, decide (1 ≤ numAt s k 1) && (decide (numAt s k 1 ≤ 6) && grp4 (ad4 s (k + 4))), if (srcF s (numAt s (k + 2) 2) ⟨k + 8, false, 0⟩).2.e = 0 then stepS s (numAt s (k + 1) 1 * 4) (srcF s (numAt s (k + 2) 2) ⟨k + 8, false, 0⟩).2 else (srcF s (numAt s (k + 2) 2) ⟨k + 8, false, 0⟩).2) := by
  have e1 : stepS s 1 ⟨k, false, 0⟩ = ⟨k + 1, false, 0⟩ := stepS_ok (by omega)
  have e2 : stepS s 1 ⟨k + 1, false, 0⟩ = ⟨k + 2, false, 0⟩ := stepS_ok (by omega)
  have e3 : stepS s 2 ⟨k + 2, false, 0⟩ = ⟨k + 4, false, 0⟩ := stepS_ok (by omega)
  have e4 : stepS s 4 ⟨k + 4, false, 0⟩ = ⟨k + 8, false, 0⟩ := stepS_ok (by omega)
  unfold recF
  simp only [e1, e2, e3, e4]
  rw [numV_ok (by omega), numV_ok (by omega), numV_ok (by omega), addrS_ok (by omega)]
theorem okAt_is : (decide (1 ≤ numAt s k 1) && (decide (numAt s k 1 ≤ 6) && grp4 (ad4 s (k + 4)))) = okAt s k := by
  unfold okAt
  rw [show decide (1 ≤ numAt s k 1) = decide (0 < numAt s k 1) from decide_eq_decide.2 (by omega), show decide (numAt s k 1 ≤ 6) = decide (numAt s k 1 < 7) from decide_eq_decide.2 (by omega)]
theorem repL_bad {f i : Nat} {X : List Rc} (h : t.e ≠ 0) : repL s n f i X t = (X, t) := repL_end fun h' => h h'.2
theorem repL_is : ∀ {f i k : Nat} {X : List Rc}, k ≤ s.size → (repL s n f i X ⟨k, false, 0⟩).2.e = (rRecL s n f i k X).2 ∧ ((rRecL s n f i k X).2 = 0 → (repL s n f i X ⟨k, false, 0⟩).1 = (rRecL s n f i k X).1)
  | 0, i, k, X, _ => ⟨rfl, fun _ => rfl⟩
  | f + 1, i, k, X, hk => by
    by_cases hi : i < n
    rotate_left
    · rw [repL_end (fun h => hi h.1), rRecL_end hi]
      exact ⟨rfl, fun _ => rfl⟩
    rw [repL_more ⟨hi, rfl⟩, rRecL, if_pos hi]
    by_cases h8 : s.size < k + 8
    · rw [if_pos h8]
      have h3 := recF_short hk h8
      rw [repL_bad (by rw [h3]; simp)]
      exact ⟨h3, fun h => by simp at h⟩
    rw [if_neg h8]
    have hr := recF_is (s := s) (k := k) (by omega)
    obtain ⟨q1, q2⟩ := srcF_is (s := s) (n := numAt s (k + 2) 2) (k := k + 8) (by omega)
    by_cases hc : (rSrcF s (k + 8) (numAt s (k + 2) 2)).2 = 0
    rotate_left
    · rw [if_pos hc]
      have he : (srcF s (numAt s (k + 2) 2) ⟨k + 8, false, 0⟩).2.e ≠ 0 := by rw [q1]; exact hc
      rw [if_neg he] at hr
      have h3 : (recF s ⟨k, false, 0⟩).2.2.e = (rSrcF s (k + 8) (numAt s (k + 2) 2)).2 := by rw [hr]; exact q1
      rw [repL_bad (by rw [h3]; exact hc)]
      exact ⟨h3, fun h => absurd h hc⟩
    rw [if_neg (show ¬ (rSrcF s (k + 8) (numAt s (k + 2) 2)).2 ≠ 0 from fun h => h hc)]
    have he : (srcF s (numAt s (k + 2) 2) ⟨k + 8, false, 0⟩).2.e = 0 := by rw [q1]; exact hc
    rw [if_pos he, q2 hc, okAt_is] at hr
    simp only at hr
    by_cases h2 : s.size < endAt s k
    · rw [if_pos h2]
      unfold endAt at h2
      rw [stepS_no (by omega)] at hr
      have h3 : (recF s ⟨k, false, 0⟩).2.2.e = 3 := by rw [hr]
      rw [repL_bad (by rw [h3]; simp)]
      exact ⟨h3, fun h => by simp at h⟩
    rw [if_neg h2]
    have h2' := h2
    unfold endAt at h2'
    rw [stepS_ok (by omega)] at hr
    rw [hr]
    simp only
    have e1 : k + 8 + 4 * numAt s (k + 2) 2 + numAt s (k + 1) 1 * 4 = endAt s k := by unfold endAt; omega
    have e2 : (⟨numAt s k 1, ad4 s (k + 4), (rSrcF s (k + 8) (numAt s (k + 2) 2)).1⟩ : Rc) = recAt s k := rfl
    rw [e1, e2]
    exact repL_is (f := f) (by omega)
noncomputable def rReadT (s : ByteArray) : Tk × Int :=
  if numAt s 0 1 = 17 then rQryF s
  else if numAt s 0 1 = 34 then (⟨false, 3, 2, 0, Ad.z, false, 0, 0, [], (rRecF s).1⟩, (rRecF s).2)
  else if numAt s 0 1 = 18 ∨ numAt s 0 1 = 22 ∨ numAt s 0 1 = 23 then (⟨false, if numAt s 0 1 = 18 then 1 else 2, if numAt s 0 1 = 23 then 3 else 2, 0, ad4 s 4, false, 0, 0, [], []⟩, if grp4 (ad4 s 4) then 0 else 2)
  else (Tk.z, 5)
noncomputable def rReadF (s : ByteArray) : Tk × Int :=
  if s.size < 8 then (Tk.z, 3) else if sumOk s = false then (Tk.z, 4) else if (rReadT s).2 = 0 then ((rReadT s).1, 0) else (Tk.z, (rReadT s).2)
theorem st3_is (h : 8 ≤ s.size) : st3 s = ⟨4, false, 0⟩ := by
  unfold st3 st0
  rw [stepS_ok (by omega), stepS_ok (by omega), stepS_ok (by omega)]
theorem kindF_is (h : 8 ≤ s.size) : kindF s = numAt s 0 1 := numV_ok (by omega)
theorem secF_is (h : 8 ≤ s.size) : secF s = numAt s 1 1 := by
  unfold secF st0
  rw [stepS_ok (by omega), numV_ok (by omega)]
theorem repF_is (h : 8 ≤ s.size) : (repF s ⟨4, false, 0⟩).2.e = (rRecF s).2 ∧ ((rRecF s).2 = 0 → (repF s ⟨4, false, 0⟩).1 = (rRecF s).1) := by
  unfold repF rRecF
  rw [stepS_ok (by omega), stepS_ok (by omega), numV_ok (by omega)]
  by_cases h64 : 64 < numAt s 6 2
  · have e : failS (decide (64 < numAt s 6 2)) 6 (⟨4 + 2 + 2, false, 0⟩ : St) = ⟨8, false, 6⟩ := by simp [failS, h64]
    rw [e, if_pos h64, repL_bad (by simp)]
    exact ⟨rfl, fun h => by simp at h⟩
  · have e : failS (decide (64 < numAt s 6 2)) 6 (⟨4 + 2 + 2, false, 0⟩ : St) = ⟨8, false, 0⟩ := by simp [failS, h64]
    rw [e, if_neg h64]
    exact repL_is (by omega)
theorem qryF_bad {c : Nat} (h : (failS (!(addrS s 4 t == Ad.z || grp4 (addrS s 4 t))) 2 (stepS s 4 t)).e ≠ 0) : (qryF s t c).2.e = (failS (!(addrS s 4 t == Ad.z || grp4 (addrS s 4 t))) 2 (stepS s 4 t)).e := by
  unfold qryF
  simp only
  generalize failS (!(addrS s 4 t == Ad.z || grp4 (addrS s 4 t))) 2 (stepS s 4 t) = t2 at *
  split
  · split
    · rw [failS_bad h]
    · rfl
  · have e1 : (stepS s 1 t2).e = t2.e := stepS_bad h
    have e2 : (stepS s 1 (stepS s 1 t2)).e = t2.e := by rw [stepS_bad (by rw [e1]; exact h), e1]
    have e3 : (stepS s 2 (stepS s 1 (stepS s 1 t2))).e = t2.e := by rw [stepS_bad (by rw [e2]; exact h), e2]
    rw [failS_bad (by rw [e3]; exact h), srcF_bad (by rw [e3]; exact h), e3]
theorem qryF_is (h : 8 ≤ s.size) : (qryF s (failS (decide (8 < s.size) && decide (s.size < 12)) 2 ⟨4, false, 0⟩) (numAt s 1 1)).2.e = (rQryF s).2 ∧ ((rQryF s).2 = 0 → (qryF s (failS (decide (8 < s.size) && decide (s.size < 12)) 2 ⟨4, false, 0⟩) (numAt s 1 1)).1 = (rQryF s).1) := by
  by_cases h12 : 8 < s.size ∧ s.size < 12
  · have e : failS (decide (8 < s.size) && decide (s.size < 12)) 2 (⟨4, false, 0⟩ : St) = ⟨4, false, 2⟩ := by simp [failS, h12]
    have e2 : rQryF s = (⟨false, 2, 1, (numAt s 1 1 : Int), ad4 s 4, false, 0, 0, [], []⟩, 2) := by unfold rQryF; rw [if_pos h12]
    rw [e, e2]
    have e3 : ∀ b, failS b 2 (stepS s 4 ⟨4, false, 2⟩) = ⟨8, false, 2⟩ := fun b => by rw [stepS_ok (by omega), failS_bad (by simp)]
    rw [qryF_bad (by rw [e3]; simp), e3]
    exact ⟨rfl, fun h => by simp at h⟩
  have e : failS (decide (8 < s.size) && decide (s.size < 12)) 2 (⟨4, false, 0⟩ : St) = ⟨4, false, 0⟩ := by
    have : (decide (8 < s.size) && decide (s.size < 12)) = false := by simpa using h12
    rw [this]; rfl
  rw [e]
  have ea : addrS s 4 ⟨4, false, 0⟩ = ad4 s 4 := addrS_ok (by omega)
  have e1 : stepS s 4 ⟨4, false, 0⟩ = ⟨8, false, 0⟩ := stepS_ok (by omega)
  by_cases hq : (ad4 s 4 == Ad.z || grp4 (ad4 s 4)) = false
  · have e2 : rQryF s = (⟨false, 2, 1, (numAt s 1 1 : Int), ad4 s 4, false, 0, 0, [], []⟩, 2) := by unfold rQryF; rw [if_neg h12, if_pos hq]
    have e3 : failS (!(addrS s 4 ⟨4, false, 0⟩ == Ad.z || grp4 (addrS s 4 ⟨4, false, 0⟩))) 2 (stepS s 4 ⟨4, false, 0⟩) = ⟨8, false, 2⟩ := by rw [ea, e1, hq]; rfl
    rw [e2, qryF_bad (by rw [e3]; simp), e3]
    exact ⟨rfl, fun h => by simp at h⟩
  have e3 : failS (!(ad4 s 4 == Ad.z || grp4 (ad4 s 4))) 2 ⟨8, false, 0⟩ = ⟨8, false, 0⟩ := by
    have : (ad4 s 4 == Ad.z || grp4 (ad4 s 4)) = true := ne_false hq
    rw [this]; rfl
  unfold qryF rQryF
  simp only [ea, e1, e3]
  rw [if_neg h12, if_neg hq]
  by_cases h8 : s.size = 8
  · rw [if_pos (by omega), if_pos h8]
    by_cases hc : numAt s 1 1 = 0
    · rw [if_pos hc, if_pos hc]
      refine ⟨?_, fun _ => rfl⟩
      by_cases hz : (ad4 s 4 == Ad.z) = true
      · rw [if_pos hz, hz]; rfl
      · have : (ad4 s 4 == Ad.z) = false := by simpa using hz
        rw [if_neg hz, this]; rfl
    · rw [if_neg hc, if_neg hc]
      exact ⟨rfl, fun _ => rfl⟩
  rw [if_neg (by omega), if_neg h8]
  have f1 : stepS s 1 ⟨8, false, 0⟩ = ⟨9, false, 0⟩ := stepS_ok (by omega)
  have f2 : stepS s 1 ⟨9, false, 0⟩ = ⟨10, false, 0⟩ := stepS_ok (by omega)
  have f3 : stepS s 2 ⟨10, false, 0⟩ = ⟨12, false, 0⟩ := stepS_ok (by omega)
  have n1 : numV s 1 ⟨8, false, 0⟩ = numAt s 8 1 := numV_ok (by omega)
  have n2 : numV s 1 ⟨9, false, 0⟩ = numAt s 9 1 := numV_ok (by omega)
  have n3 : numV s 2 ⟨10, false, 0⟩ = numAt s 10 2 := numV_ok (by omega)
  simp only [f1, f2, f3, n1, n2, n3]
  by_cases hz : (ad4 s 4 == Ad.z) = true ∧ 0 < numAt s 10 2
  · rw [if_pos hz]
    have e4 : failS (ad4 s 4 == Ad.z && decide (0 < numAt s 10 2)) 2 (⟨12, false, 0⟩ : St) = ⟨12, false, 2⟩ := by rw [hz.1, decide_eq_true hz.2]; rfl
    rw [e4, srcF_bad (by simp)]
    exact ⟨rfl, fun h => by simp at h⟩
  · rw [if_neg hz]
    have e4 : failS (ad4 s 4 == Ad.z && decide (0 < numAt s 10 2)) 2 (⟨12, false, 0⟩ : St) = ⟨12, false, 0⟩ := by
      have : (ad4 s 4 == Ad.z && decide (0 < numAt s 10 2)) = false := by
        rw [Bool.and_eq_false_iff]
        by_cases h0 : (ad4 s 4 == Ad.z) = true
        · exact .inr (decide_eq_false fun h => hz ⟨h0, h⟩)
        · exact .inl (by simpa using h0)
      rw [this]; rfl
    rw [e4]
    obtain ⟨q1, q2⟩ := srcF_is (s := s) (n := numAt s 10 2) (k := 12) (by omega)
    exact ⟨q1, fun h => by rw [q2 h]⟩
theorem readT_is (h : 8 ≤ s.size) : (readT s).2.e = (rReadT s).2 ∧ ((rReadT s).2 = 0 → (readT s).1 = (rReadT s).1) := by
  unfold readT rReadT ver1F kind1F
  rw [kindF_is h, secF_is h, st3_is h]
  by_cases h17 : numAt s 0 1 = 17
  · rw [if_pos h17, if_pos h17]
    exact qryF_is h
  rw [if_neg h17, if_neg h17]
  by_cases h34 : numAt s 0 1 = 34
  · rw [if_pos h34, if_pos h34]
    obtain ⟨q1, q2⟩ := repF_is h
    exact ⟨q1, fun h => by rw [show (repF s ⟨4, false, 0⟩).1 = (rRecF s).1 from q2 h]⟩
  rw [if_neg h34, if_neg h34]
  by_cases h3 : numAt s 0 1 = 18 ∨ numAt s 0 1 = 22 ∨ numAt s 0 1 = 23
  · rw [if_pos h3, if_pos h3, addrS_ok (by omega), stepS_ok (by omega)]
    refine ⟨?_, fun _ => rfl⟩
    cases grp4 (ad4 s 4) <;> rfl
  · rw [if_neg h3, if_neg h3]
    exact ⟨rfl, fun _ => rfl⟩
theorem readF_is : readF s = rReadF s := by
  unfold readF rReadF
  by_cases h8 : s.size < 8
  · rw [if_pos h8, if_pos h8]
  rw [if_neg h8, if_neg h8]
  obtain ⟨q1, q2⟩ := readT_is (s := s) (by omega)
  rw [q1]
  by_cases h0 : (rReadT s).2 = 0
  · rw [if_pos h0, if_pos h0, q2 h0]
  · rw [if_neg h0, if_neg h0]
theorem ad4_src (h : k + 4 ≤ s.size) : src4 (ad4 s k) = true := by
  have hx : (s.extract k (k + 4)).size = 4 := by rw [extract_size h (by omega)]; omega
  have hl := size_toList (s.extract k (k + 4))
  rw [hx] at hl
  have e : (adOf (s.extract k (k + 4))).drop 4 = List.replicate 12 0 := by
    unfold adOf
    rw [hx, List.drop_append, List.drop_of_length_le (by omega), hl]
    rfl
  unfold src4 ad4 adR
  rw [dif_pos hx]
  show (!false && (false || (adOf (s.extract k (k + 4))).drop 4 == List.replicate 12 0)) = true
  rw [e]
  rfl
theorem srcAt_good (h : k + 4 * n ≤ s.size) (hn : n ≤ 64) : srcs4 (srcAt s k n) = true := by
  unfold srcs4
  rw [srcAt_len, decide_eq_true (show n < 65 by omega), Bool.and_true, List.all_eq_true]
  intro a ha
  obtain ⟨i, hi, rfl⟩ := List.mem_map.1 ha
  have := List.mem_range.1 hi
  exact ad4_src (by omega)
theorem rSrcF_good (h : (rSrcF s k n).2 = 0) : srcs4 (rSrcF s k n).1 = true ∧ (rSrcF s k n).1.length = n := by
  obtain ⟨h1, h2, h3⟩ := rSrcF_ok h
  rw [h3]
  exact ⟨srcAt_good h2 h1, srcAt_len _ _ _⟩
theorem rRecL_good : ∀ {f i k : Nat} {X : List Rc}, X.all rcOk4 = true → 8 + recN 8 4 X ≤ k → X.length ≤ i → i ≤ n → k ≤ s.size → n ≤ 64 → (rRecL s n f i k X).2 = 0 → (rRecL s n f i k X).1.all rcOk4 = true ∧ 8 + recN 8 4 (rRecL s n f i k X).1 ≤ s.size ∧ (rRecL s n f i k X).1.length ≤ n
  | 0, i, k, X, h1, h2, h3, h4, h5, h6, _ => ⟨h1, show 8 + recN 8 4 X ≤ s.size by omega, show X.length ≤ n by omega⟩
  | f + 1, i, k, X, h1, h2, h3, h4, h5, h6, h => by
    by_cases hi : i < n
    rotate_left
    · rw [rRecL_end hi]
      exact ⟨h1, show 8 + recN 8 4 X ≤ s.size by omega, show X.length ≤ n by omega⟩
    rw [rRecL, if_pos hi] at h ⊢
    by_cases h8 : s.size < k + 8
    · rw [if_pos h8] at h; simp at h
    rw [if_neg h8] at h ⊢
    by_cases hc : (rSrcF s (k + 8) (numAt s (k + 2) 2)).2 = 0
    rotate_left
    · rw [if_pos hc] at h; exact absurd h hc
    rw [if_neg (show ¬ (rSrcF s (k + 8) (numAt s (k + 2) 2)).2 ≠ 0 from fun h => h hc)] at h ⊢
    by_cases he : s.size < endAt s k
    · rw [if_pos he] at h; simp at h
    rw [if_neg he] at h ⊢
    have he' := he
    unfold endAt at he'
    obtain ⟨g1, g2⟩ := rSrcF_good hc
    by_cases ho : okAt s k = true
    · rw [if_pos ho] at h ⊢
      refine rRecL_good (f := f) ?_ ?_ (by simp; omega) hi (by omega) h6 h
      · rw [List.all_append, h1, Bool.true_and, List.all_cons, List.all_nil, Bool.and_true]
        unfold okAt at ho
        simp only [Bool.and_eq_true, decide_eq_true_eq] at ho
        unfold rcOk4 recAt
        simp only
        rw [decide_eq_true (show (1 : Int) ≤ (numAt s k 1 : Int) by omega), decide_eq_true (show (numAt s k 1 : Int) ≤ 6 by omega), ho.2.2, g1]
        rfl
      · rw [recN_app]
        have : recN 8 4 [recAt s k] = 8 + 4 * numAt s (k + 2) 2 := by simp [recN, recAt, g2]
        rw [this]
        unfold endAt
        omega
    · rw [if_neg ho] at h ⊢
      exact rRecL_good (f := f) h1 (by unfold endAt; omega) (by omega) hi (by omega) h6 h
theorem ex8_val {c : Nat} (hc : c < 256) : ex8 (valN 16 c : Int) = true := by
  have h1 : IsCode 16 ((valN 16 c : Int)).toNat c := by rw [Int.toNat_natCast]; exact IsCode.self (by omega) (by omega)
  have h2 := IsCode.unique (by omega) (cod8_is (valN 16 c : Int)) h1
  unfold ex8
  rw [h2]
  simp
end
section
variable {s : ByteArray}
theorem rReadT_good (h8 : 8 ≤ s.size) (hs : s.size ≤ 1400) (h : (rReadT s).2 = 0) : good4 (rReadT s).1 = true := by
  have hc1 : numAt s 1 1 < 256 := numAt_lt s 1 1
  have hc9 : numAt s 9 1 < 256 := numAt_lt s 9 1
  unfold rReadT at h ⊢
  by_cases h17 : numAt s 0 1 = 17
  · rw [if_pos h17] at h ⊢
    unfold rQryF at h ⊢
    by_cases h12 : 8 < s.size ∧ s.size < 12
    · rw [if_pos h12] at h; simp at h
    rw [if_neg h12] at h ⊢
    by_cases hq : (ad4 s 4 == Ad.z || grp4 (ad4 s 4)) = false
    · rw [if_pos hq] at h; simp at h
    rw [if_neg hq] at h ⊢
    have hq' : (ad4 s 4 != Ad.z && !grp4 (ad4 s 4)) = false := by
      have : (ad4 s 4 == Ad.z || grp4 (ad4 s 4)) = true := ne_false hq
      have e : (ad4 s 4 != Ad.z) = !(ad4 s 4 == Ad.z) := rfl
      rw [e]
      cases hx : (ad4 s 4 == Ad.z) <;> rw [hx] at this <;> simp_all
    by_cases e8 : s.size = 8
    · rw [if_pos e8] at h ⊢
      by_cases hc : numAt s 1 1 = 0
      · rw [if_pos hc] at h ⊢
        by_cases hz : (ad4 s 4 == Ad.z) = true
        · have hz' : ad4 s 4 = Ad.z := by simpa using hz
          simp only at h ⊢
          rw [hc, hz']
          simp [good4]
        · rw [if_neg hz] at h; simp at h
      · rw [if_neg hc] at h ⊢
        simp only at h ⊢
        unfold good4
        simp only [hq']
        simp
        omega
    rw [if_neg e8] at h ⊢
    by_cases hz : (ad4 s 4 == Ad.z) = true ∧ 0 < numAt s 10 2
    · rw [if_pos hz] at h; simp at h
    rw [if_neg hz] at h ⊢
    simp only at h ⊢
    obtain ⟨g1, g2⟩ := rSrcF_good h
    have hl : (ad4 s 4 != Ad.z || (rSrcF s 12 (numAt s 10 2)).1.length == 0) = true := by
      rw [g2]
      have e : (ad4 s 4 != Ad.z) = !(ad4 s 4 == Ad.z) := rfl
      rw [e]
      cases hx : (ad4 s 4 == Ad.z)
      · rfl
      · have : numAt s 10 2 = 0 := by
          by_cases h0 : numAt s 10 2 = 0
          · exact h0
          · exact absurd ⟨hx, by omega⟩ hz
        rw [this]; rfl
    unfold good4
    simp only [hq', hl, g1, ex8_val hc1, ex8_val hc9]
    have := Nat.mod_lt (numAt s 8 1) (show 0 < 8 by omega)
    simp
    omega
  rw [if_neg h17] at h ⊢
  by_cases h34 : numAt s 0 1 = 34
  · rw [if_pos h34] at h ⊢
    simp only at h ⊢
    unfold rRecF at h ⊢
    by_cases h64 : 64 < numAt s 6 2
    · rw [if_pos h64] at h; simp at h
    rw [if_neg h64] at h ⊢
    obtain ⟨g1, g2, g3⟩ := rRecL_good (s := s) (n := numAt s 6 2) (f := 65) (i := 0) (k := 8) (X := []) rfl (by simp [recN]) (by simp) (by omega) (by omega) (by omega) h
    unfold good4
    simp only [g1]
    simp
    omega
  rw [if_neg h34] at h ⊢
  by_cases h3 : numAt s 0 1 = 18 ∨ numAt s 0 1 = 22 ∨ numAt s 0 1 = 23
  · rw [if_pos h3] at h ⊢
    simp only at h ⊢
    have hg : grp4 (ad4 s 4) = true := by
      cases hx : grp4 (ad4 s 4)
      · rw [hx] at h; simp at h
      · rfl
    rcases h3 with h3 | h3 | h3
    all_goals
      rw [h3]
      unfold good4
      simp [hg]
  · rw [if_neg h3] at h; simp at h
theorem rReadF_good (hs : s.size ≤ 1400) (h : (rReadF s).2 = 0) : good4 (rReadF s).1 = true := by
  unfold rReadF at h ⊢
  by_cases h8 : s.size < 8
  · rw [if_pos h8] at h; simp at h
  rw [if_neg h8] at h ⊢
  by_cases hb : sumOk s = false
  · rw [if_pos hb] at h; simp at h
  rw [if_neg hb] at h ⊢
  by_cases h0 : (rReadT s).2 = 0
  · rw [if_pos h0] at h ⊢
    exact rReadT_good (by omega) hs h0
  · rw [if_neg h0] at h; exact absurd h h0
end
end
section
set_option linter.unusedVariables false
set_option linter.unusedSimpArgs false

def srcB (L : List Ad) : List UInt8 := L.flatMap fun a => bytesA a.v a.b
section
variable {s : ByteArray} {pre post : List UInt8} {k n v : Nat} {a : Ad}
theorem numAt_mid (hs : s.data.toList = pre ++ (putL v n ++ post)) (hk : pre.length = k) (hv : v < 256 ^ n) : numAt s k n = v := by
  subst hk
  unfold numAt
  rw [hs, List.drop_left, List.take_append_of_le_length (by rw [putL_length]; omega), List.take_of_length_le (by rw [putL_length]; omega), numL_putL, Nat.mod_eq_of_lt hv]
theorem bytesA_take {v : Bool} {l : List UInt8} (h : l.length = 16) : bytesA v l = l.take (if v then 16 else 4) := by
  unfold bytesA
  cases v
  · rfl
  · rw [if_pos rfl, if_pos rfl, List.take_of_length_le (by omega)]
theorem src4_len (h : src4 a = true) : (bytesA a.v a.b).length = 4 := by
  have hv : a.v = false := by unfold src4 at h; simp at h; exact h.1
  rw [hv, bytesA_take a.h, List.length_take, a.h]
  rfl
theorem adOf_back {v : Bool} {l : List UInt8} (hl : l.length = 16) (hg : goodA v l = true) {x : ByteArray} (hx : x.data.toList = bytesA v l) : adOf x = l := by
  have hsz := size_toList x
  unfold adOf
  rw [hx] at hsz ⊢
  rw [bytesA_take hl] at hsz ⊢
  cases v
  · unfold goodA at hg
    simp at hg
    simp only [Bool.false_eq_true, if_false] at hsz ⊢
    rw [List.length_take, hl] at hsz
    rw [← hsz]
    have := List.take_append_drop 4 l
    rw [hg] at this
    exact this
  · simp only [if_true] at hsz ⊢
    rw [List.take_of_length_le (by omega)] at hsz ⊢
    rw [← hsz, hl]
    simp
theorem ad4_mid (hs : s.data.toList = pre ++ (bytesA a.v a.b ++ post)) (hk : pre.length = k) (ha : src4 a = true) : ad4 s k = a := by
  have hl := src4_len ha
  subst hk
  have hx : (s.extract pre.length (pre.length + 4)).data.toList = bytesA a.v a.b := by
    rw [toList_extract, hs, List.drop_left, Nat.add_sub_cancel_left, List.take_append_of_le_length (by omega), List.take_of_length_le (by omega)]
  have hz : (s.extract pre.length (pre.length + 4)).size = 4 := by rw [← size_toList, hx, hl]
  have hv : a.v = false ∧ goodA a.v a.b = true := by unfold src4 at ha; simpa using ha
  unfold ad4 adR
  rw [dif_pos hz]
  refine Ad.ext2 hv.1.symm ?_
  exact adOf_back a.h hv.2 hx
theorem srcAt_mid : ∀ {L : List Ad} {pre : List UInt8} {k : Nat}, L.all src4 = true → s.data.toList = pre ++ (srcB L ++ post) → pre.length = k → srcAt s k L.length = L
  | [], _, _, _, _, _ => rfl
  | a :: L, pre, k, h, hs, hk => by
    simp only [List.all_cons, Bool.and_eq_true] at h
    have hs1 : s.data.toList = pre ++ (bytesA a.v a.b ++ (srcB L ++ post)) := by rw [hs]; simp [srcB]
    have hs2 : s.data.toList = (pre ++ bytesA a.v a.b) ++ (srcB L ++ post) := by rw [hs1, List.append_assoc]
    rw [List.length_cons, srcAt_succ, ad4_mid hs1 hk h.1, srcAt_mid (pre := pre ++ bytesA a.v a.b) h.2 hs2 (by rw [List.length_append, src4_len h.1, hk])]
theorem srcB_len : ∀ {L : List Ad}, L.all src4 = true → (srcB L).length = 4 * L.length
  | [], _ => rfl
  | a :: L, h => by
    simp only [List.all_cons, Bool.and_eq_true] at h
    have := srcB_len h.2
    have h1 := src4_len h.1
    simp only [srcB, List.flatMap_cons, List.length_append, List.length_cons] at *
    omega
theorem srcs4_all {L : List Ad} (h : srcs4 L = true) : L.all src4 = true ∧ L.length ≤ 64 := by
  unfold srcs4 at h
  rw [Bool.and_eq_true] at h
  exact ⟨h.1, by have := of_decide_eq_true h.2; omega⟩
theorem rSrcF_mid {L : List Ad} (h : srcs4 L = true) (hs : s.data.toList = pre ++ (srcB L ++ post)) (hk : pre.length = k) : rSrcF s k L.length = (L, 0) := by
  obtain ⟨h1, h2⟩ := srcs4_all h
  have hz : s.size = k + 4 * L.length + post.length := by rw [← size_toList, hs, List.length_append, List.length_append, srcB_len h1, hk]; omega
  unfold rSrcF
  rw [if_neg (by omega), if_neg (by omega), srcAt_mid h1 hs hk]
def recB (r : Rc) : List UInt8 := putL r.kind.toNat 1 ++ (putL 0 1 ++ (putL r.src.length 2 ++ (bytesA r.grp.v r.grp.b ++ srcB r.src)))
def recsB (R : List Rc) : List UInt8 := R.flatMap recB
theorem grp4_src (h : grp4 a = true) : src4 a = true := by
  unfold grp4 at h
  unfold src4
  rw [Bool.and_eq_true] at h
  exact h.1
theorem rcOk4_all {r : Rc} (h : rcOk4 r = true) : 1 ≤ r.kind ∧ r.kind ≤ 6 ∧ grp4 r.grp = true ∧ srcs4 r.src = true := by
  unfold rcOk4 at h
  simp only [Bool.and_eq_true, decide_eq_true_eq] at h
  exact ⟨h.1.1.1, h.1.1.2, h.1.2, h.2⟩
theorem recB_len {r : Rc} (h : rcOk4 r = true) : (recB r).length = 8 + 4 * r.src.length := by
  obtain ⟨_, _, h3, h4⟩ := rcOk4_all h
  unfold recB
  simp only [List.length_append, putL_length]
  rw [src4_len (grp4_src h3), srcB_len (srcs4_all h4).1]
  omega
theorem recsB_len : ∀ {R : List Rc}, R.all rcOk4 = true → (recsB R).length = recN 8 4 R
  | [], _ => rfl
  | r :: R, h => by
    simp only [List.all_cons, Bool.and_eq_true] at h
    have := recsB_len h.2
    have h1 := recB_len h.1
    simp only [recsB, List.flatMap_cons, List.length_append, recN] at *
    omega
theorem rRecL_mid {n : Nat} : ∀ {R : List Rc} {pre : List UInt8} {k f i : Nat} {X : List Rc}, R.all rcOk4 = true → s.data.toList = pre ++ recsB R → pre.length = k → R.length + i = n → R.length < f → rRecL s n f i k X = (X ++ R, 0)
  | [], pre, k, f, i, X, _, _, _, hi, _ => by rw [rRecL_end (by simp at hi; omega), List.append_nil]
  | r :: R, pre, k, 0, i, X, _, _, _, _, hf => by omega
  | r :: R, pre, k, f + 1, i, X, h, hs, hk, hi, hf => by
    simp only [List.all_cons, Bool.and_eq_true] at h
    obtain ⟨h1, h2, h3, h4⟩ := rcOk4_all h.1
    obtain ⟨g1, g2⟩ := srcs4_all h4
    have hl := recB_len h.1
    have hlr := recsB_len h.2
    have s0 : s.data.toList = pre ++ (recB r ++ recsB R) := by rw [hs]; rfl
    have s1 : s.data.toList = pre ++ (putL r.kind.toNat 1 ++ (putL 0 1 ++ (putL r.src.length 2 ++ (bytesA r.grp.v r.grp.b ++ (srcB r.src ++ recsB R))))) := by rw [s0]; unfold recB; simp only [List.append_assoc]
    have s2 : s.data.toList = (pre ++ putL r.kind.toNat 1) ++ (putL 0 1 ++ (putL r.src.length 2 ++ (bytesA r.grp.v r.grp.b ++ (srcB r.src ++ recsB R)))) := by rw [s1]; simp only [List.append_assoc]
    have s3 : s.data.toList = (pre ++ putL r.kind.toNat 1 ++ putL 0 1) ++ (putL r.src.length 2 ++ (bytesA r.grp.v r.grp.b ++ (srcB r.src ++ recsB R))) := by rw [s1]; simp only [List.append_assoc]
    have s4 : s.data.toList = (pre ++ putL r.kind.toNat 1 ++ putL 0 1 ++ putL r.src.length 2) ++ (bytesA r.grp.v r.grp.b ++ (srcB r.src ++ recsB R)) := by rw [s1]; simp only [List.append_assoc]
    have s5 : s.data.toList = (pre ++ putL r.kind.toNat 1 ++ putL 0 1 ++ putL r.src.length 2 ++ bytesA r.grp.v r.grp.b) ++ (srcB r.src ++ recsB R) := by rw [s1]; simp only [List.append_assoc]
    have s6 : s.data.toList = (pre ++ recB r) ++ recsB R := by rw [s0, List.append_assoc]
    have n1 : numAt s k 1 = r.kind.toNat := numAt_mid s1 hk (by omega)
    have n2 : numAt s (k + 1) 1 = 0 := numAt_mid s2 (by simp only [List.length_append, putL_length]; omega) (by omega)
    have n3 : numAt s (k + 2) 2 = r.src.length := numAt_mid s3 (by simp only [List.length_append, putL_length]; omega) (by omega)
    have n4 : ad4 s (k + 4) = r.grp := ad4_mid s4 (by simp only [List.length_append, putL_length]; omega) (grp4_src h3)
    have n5 : rSrcF s (k + 8) r.src.length = (r.src, 0) := rSrcF_mid h4 s5 (by simp only [List.length_append, putL_length, src4_len (grp4_src h3)]; omega)
    have hz : s.size = k + (8 + 4 * r.src.length) + (recsB R).length := by rw [← size_toList, s0, List.length_append, List.length_append, hl, hk]; omega
    have e1 : endAt s k = k + (8 + 4 * r.src.length) := by unfold endAt; rw [n2, n3]; omega
    have e2 : okAt s k = true := by
      unfold okAt
      rw [n1, n4, h3, decide_eq_true (show 0 < r.kind.toNat by omega), decide_eq_true (show r.kind.toNat < 7 by omega)]
      rfl
    have e3 : recAt s k = r := by
      unfold recAt
      rw [n1, n3, n4, n5]
      obtain ⟨kd, g, l⟩ := r
      simp only at h1 ⊢
      rw [Int.toNat_of_nonneg (by omega)]
    simp only [List.length_cons] at hi hf
    rw [rRecL, if_pos (by omega), if_neg (by omega), n3, n5, if_neg (by simp), if_neg (by rw [e1]; omega), e2, if_pos rfl, e3, e1, rRecL_mid (R := R) (pre := pre ++ recB r) h.2 s6 (by rw [List.length_append, hl, hk]) (by omega) (by omega), List.append_assoc]
    rfl
end
noncomputable def flagN (T : Tk) : Nat := T.rob.toNat + (if T.quiet then 8 else 0)
noncomputable def restL (T : Tk) : List UInt8 :=
  if T.kind = 2 ∧ T.ver = 3 then putL 0 2 ++ (putL T.recs.length 2 ++ recsB T.recs)
  else if T.kind = 1 ∧ T.ver = 3 then bytesA T.grp.v T.grp.b ++ (putL (flagN T) 1 ++ (putL (cod8 T.every) 1 ++ (putL T.src.length 2 ++ srcB T.src)))
  else bytesA T.grp.v T.grp.b
def kindN (T : Tk) : Nat := if T.kind = 3 then 23 else if T.kind = 2 then (if T.ver = 1 then 18 else if T.ver = 2 then 22 else 34) else 17
noncomputable def secN (T : Tk) : Nat := if T.kind = 1 then (if T.ver = 3 then cod8 T.resp else T.resp.toNat) else 0
noncomputable def headL (T : Tk) : List UInt8 := putL (kindN T) 1 ++ putL (secN T) 1
noncomputable def sumN (T : Tk) : Nat := 65535 - foldN (wsum (headL T ++ restL T))
noncomputable def writeT (T : Tk) : ByteArray := str (headL T ++ (putL (sumN T) 2 ++ restL T))
theorem fold_check (n : Nat) : foldN (n + (65535 - foldN n)) = 65535 := by
  have h1 := foldN_le n
  have h := foldN_add n (65535 - foldN n)
  rw [← h, foldN_small (by omega)]
  omega
theorem good4_cases {T : Tk} (h : good4 T = true) :
    T = ⟨false, 1, 1, 0, Ad.z, false, 0, 0, [], []⟩ ∨
    (∃ r g, T = ⟨false, 2, 1, r, g, false, 0, 0, [], []⟩ ∧ 0 < r ∧ r < 256 ∧ (g = Ad.z ∨ grp4 g = true)) ∨
    (∃ g k v, T = ⟨false, v, k, 0, g, false, 0, 0, [], []⟩ ∧ grp4 g = true ∧ ((v = 1 ∧ k = 2) ∨ (v = 2 ∧ k = 2) ∨ (v = 2 ∧ k = 3))) ∨
    (∃ R, T = ⟨false, 3, 2, 0, Ad.z, false, 0, 0, [], R⟩ ∧ R.all rcOk4 = true ∧ R.length < 65) ∨
    (∃ resp g q rob ev src, T = ⟨false, 3, 1, resp, g, q, rob, ev, src, []⟩ ∧ ex8 resp = true ∧ ex8 ev = true ∧ 0 ≤ rob ∧ rob < 8 ∧ srcs4 src = true ∧ (g = Ad.z ∨ grp4 g = true) ∧ (g ≠ Ad.z ∨ src = [])) := by
  obtain ⟨v6, ver, kind, resp, g, quiet, rob, every, src, recs⟩ := T
  unfold good4 at h
  simp only at h
  split at h
  · cases h
  rename_i h1
  split at h
  · cases h
  rename_i h2
  split at h
  · cases h
  rename_i h3
  have a1 : v6 = false ∧ 1 ≤ ver ∧ ver ≤ 3 ∧ 1 ≤ kind ∧ kind ≤ 3 := by
    simp at h1
    obtain ⟨⟨⟨h1, g1⟩, g2⟩, g3⟩ := h1
    refine ⟨?_, ?_, ?_, ?_, ?_⟩ <;> first | exact h1 | exact h1.1 | omega
  obtain ⟨rfl, v1, v2, k1, k2⟩ := a1
  clear h1
  have hx : ¬(ver = 3 ∧ kind = 1) → quiet = false ∧ rob = 0 ∧ every = 0 ∧ src = [] := fun hn => by
    have e : (!(ver == 3 && kind == 1)) = true := by
      simp
      omega
    rw [e] at h2
    simp at h2
    exact ⟨h2.1.1.1, h2.1.1.2, h2.1.2, h2.2⟩
  have hr : kind ≠ 1 → resp = 0 := fun hn => by
    have e : (kind != 1) = true := by simpa using hn
    rw [e] at h3
    simp at h3
    exact h3.1
  have hc : ¬(ver = 3 ∧ kind = 2) → recs = [] := fun hn => by
    have e : (decide (ver < 3) || kind != 2) = true := by
      simp
      omega
    rw [e] at h3
    simp at h3
    exact h3.2
  clear h2 h3
  by_cases e3 : kind = 3
  · subst e3
    obtain ⟨rfl, rfl, rfl, rfl⟩ := hx (by omega)
    obtain rfl := hr (by omega)
    obtain rfl := hc (by omega)
    rw [if_pos (by rfl)] at h
    simp at h
    obtain ⟨rfl, hg⟩ := h
    exact .inr (.inr (.inl ⟨g, 3, 2, rfl, hg, .inr (.inr ⟨rfl, rfl⟩)⟩))
  rw [if_neg (by simpa using e3)] at h
  by_cases e2 : kind = 2
  · subst e2
    obtain ⟨rfl, rfl, rfl, rfl⟩ := hx (by omega)
    obtain rfl := hr (by omega)
    by_cases e4 : ver = 3
    · subst e4
      simp at h
      obtain ⟨hR, ⟨rfl, hl⟩, _⟩ := h
      exact .inr (.inr (.inr (.inl ⟨recs, rfl, by simpa using hR, hl⟩)))
    · obtain rfl := hc (by omega)
      rw [if_pos (by simp; omega)] at h
      exact .inr (.inr (.inl ⟨g, 2, ver, rfl, h, by omega⟩))
  obtain rfl : kind = 1 := by omega
  obtain rfl := hc (by omega)
  simp only [show ((1 : Int) == 2) = false from rfl, Bool.false_and, Bool.false_eq_true, if_false] at h
  by_cases w1 : ver = 1
  · subst w1
    obtain ⟨rfl, rfl, rfl, rfl⟩ := hx (by omega)
    simp at h
    obtain ⟨rfl, rfl⟩ := h
    exact .inl rfl
  rw [if_neg (by simpa using w1)] at h
  split at h
  · cases h
  rename_i h4
  have hg : g = Ad.z ∨ grp4 g = true := by
    by_cases hz : g = Ad.z
    · exact .inl hz
    · right
      have e : (g != Ad.z) = true := by simpa using hz
      rw [e] at h4
      simpa using h4
  by_cases w2 : ver = 2
  · subst w2
    obtain ⟨rfl, rfl, rfl, rfl⟩ := hx (by omega)
    rw [if_pos (by rfl)] at h
    simp at h
    exact .inr (.inl ⟨resp, g, rfl, h.1, h.2, hg⟩)
  obtain rfl : ver = 3 := by omega
  rw [if_neg (by decide)] at h
  simp only [Bool.and_eq_true, decide_eq_true_eq, Bool.or_eq_true, bne_iff_ne, ne_eq, beq_iff_eq, List.length_eq_zero_iff] at h
  exact .inr (.inr (.inr (.inr ⟨resp, g, quiet, rob, every, src, rfl, h.1.1.1.1.1, h.1.1.1.1.2, h.1.1.1.2, h.1.1.2, h.1.2, hg, h.2⟩)))
theorem src4_z : src4 Ad.z = true := by decide
theorem back_len {T : Tk} : (headL T).length = 2 := by unfold headL; simp [putL_length]
theorem back_sum {T : Tk} : sumOk (writeT T) = true := by
  unfold sumOk writeT
  have e : (str (headL T ++ (putL (sumN T) 2 ++ restL T))).data.toList = headL T ++ (putL (sumN T) 2 ++ restL T) := by simp [str]
  have hf := foldN_le (wsum (headL T ++ restL T))
  have w2 : wsum (putL (sumN T) 2) = sumN T := by rw [wsum_two _ (by rw [putL_length]), numL_putL, Nat.mod_eq_of_lt (by unfold sumN; omega)]
  rw [e, wsum_append (by rw [back_len]), wsum_append (by rw [putL_length]), w2]
  have h2 : wsum (headL T ++ restL T) = wsum (headL T) + wsum (restL T) := wsum_append (by rw [back_len]) _
  have := fold_check (wsum (headL T ++ restL T))
  have e2 : wsum (headL T) + (sumN T + wsum (restL T)) = wsum (headL T ++ restL T) + (65535 - foldN (wsum (headL T ++ restL T))) := by unfold sumN; omega
  rw [e2, this]
  rfl
theorem cod8_val {n : Int} (h : ex8 n = true) : ((valN 16 (cod8 n) : Nat) : Int) = n := by
  unfold ex8 at h
  simp at h
  exact h.2
set_option maxHeartbeats 1000000 in
theorem back_all {T : Tk} (h : good4 T = true) : rReadF (writeT T) = (T, 0) := by
  have hs : (writeT T).data.toList = putL (kindN T) 1 ++ (putL (secN T) 1 ++ (putL (sumN T) 2 ++ restL T)) := by unfold writeT headL; simp [str]
  have hz : (writeT T).size = 4 + (restL T).length := by rw [← size_toList, hs]; simp only [List.length_append, putL_length]; omega
  have hb := back_sum (T := T)
  generalize writeT T = s at *
  have s0 : s.data.toList = [] ++ (putL (kindN T) 1 ++ (putL (secN T) 1 ++ (putL (sumN T) 2 ++ restL T))) := hs
  have s1 : s.data.toList = putL (kindN T) 1 ++ (putL (secN T) 1 ++ (putL (sumN T) 2 ++ restL T)) := hs
  have s4 : s.data.toList = (putL (kindN T) 1 ++ putL (secN T) 1 ++ putL (sumN T) 2) ++ restL T := by rw [hs]; simp only [List.append_assoc]
  have l4 : (putL (kindN T) 1 ++ putL (secN T) 1 ++ putL (sumN T) 2).length = 4 := by simp only [List.length_append, putL_length]
  have hk : kindN T < 256 := by unfold kindN; split <;> (try split) <;> (try split) <;> (try split) <;> omega
  have n0 : numAt s 0 1 = kindN T := numAt_mid s0 rfl (by omega)
  have n1 : secN T < 256 → numAt s 1 1 = secN T := fun h => numAt_mid s1 (by rw [putL_length]) (by omega)
  have one : ∀ g : Ad, src4 g = true → restL T = bytesA g.v g.b → ad4 s 4 = g := fun g hg he => ad4_mid (post := []) (by rw [s4, he, List.append_nil]) l4 hg
  generalize putL (kindN T) 1 ++ putL (secN T) 1 ++ putL (sumN T) 2 = P at *
  have fin : ∀ T', rReadT s = (T', 0) → 8 ≤ s.size → rReadF s = (T', 0) := fun T' e h8 => by
    unfold rReadF
    rw [if_neg (by omega), if_neg (by rw [hb]; simp), e, if_pos rfl]
  rcases good4_cases h with rfl | ⟨r, g, rfl, r1, r2, hg⟩ | ⟨g, k, v, rfl, hg, hkv⟩ | ⟨R, rfl, hR, hl⟩ | ⟨resp, g, q, rob, ev, src, rfl, h1, h2, h3, h4, h5, hg, h6⟩
  · have er : restL ⟨false, 1, 1, 0, Ad.z, false, 0, 0, [], []⟩ = bytesA Ad.z.v Ad.z.b := by simp [restL]
    have ek : kindN ⟨false, 1, 1, 0, Ad.z, false, 0, 0, [], []⟩ = 17 := by simp [kindN]
    have es : secN ⟨false, 1, 1, 0, Ad.z, false, 0, 0, [], []⟩ = 0 := by simp [secN]
    have ea := one Ad.z src4_z er
    rw [ek] at n0
    rw [es] at n1
    rw [er, src4_len src4_z] at hz
    refine fin _ ?_ (by omega)
    unfold rReadT rQryF
    rw [if_pos n0, if_neg (by omega), ea, if_neg (by simp), if_pos (by omega), n1 (by omega), if_pos rfl, if_pos (by simp)]
    rfl
  · have hg4 : src4 g = true := by
      rcases hg with rfl | hg
      · exact src4_z
      · exact grp4_src hg
    have er : restL ⟨false, 2, 1, r, g, false, 0, 0, [], []⟩ = bytesA g.v g.b := by simp [restL]
    have ek : kindN ⟨false, 2, 1, r, g, false, 0, 0, [], []⟩ = 17 := by simp [kindN]
    have es : secN ⟨false, 2, 1, r, g, false, 0, 0, [], []⟩ = r.toNat := by simp [secN]
    have ea := one g hg4 er
    rw [ek] at n0
    rw [es] at n1
    rw [er, src4_len hg4] at hz
    refine fin _ ?_ (by omega)
    unfold rReadT rQryF
    have hq : ¬ (g == Ad.z || grp4 g) = false := by rcases hg with rfl | hg <;> simp_all
    rw [if_pos n0, if_neg (by omega), ea, if_neg hq, if_pos (by omega), n1 (by omega), if_neg (by omega), Int.toNat_of_nonneg (by omega)]
  · have hg4 := grp4_src hg
    have er : restL ⟨false, v, k, 0, g, false, 0, 0, [], []⟩ = bytesA g.v g.b := by
      unfold restL
      simp only
      rw [if_neg (by omega), if_neg (by omega)]
    have ea := one g hg4 er
    rw [er, src4_len hg4] at hz
    refine fin _ ?_ (by omega)
    unfold rReadT
    rcases hkv with ⟨rfl, rfl⟩ | ⟨rfl, rfl⟩ | ⟨rfl, rfl⟩
    · have ek : kindN ⟨false, 1, 2, 0, g, false, 0, 0, [], []⟩ = 18 := by simp [kindN]
      rw [ek] at n0
      rw [n0, if_neg (by omega), if_neg (by omega), if_pos (by omega), ea, hg]
      rfl
    · have ek : kindN ⟨false, 2, 2, 0, g, false, 0, 0, [], []⟩ = 22 := by simp [kindN]
      rw [ek] at n0
      rw [n0, if_neg (by omega), if_neg (by omega), if_pos (by omega), ea, hg]
      rfl
    · have ek : kindN ⟨false, 2, 3, 0, g, false, 0, 0, [], []⟩ = 23 := by simp [kindN]
      rw [ek] at n0
      rw [n0, if_neg (by omega), if_neg (by omega), if_pos (by omega), ea, hg]
      rfl
  · have er : restL ⟨false, 3, 2, 0, Ad.z, false, 0, 0, [], R⟩ = putL 0 2 ++ (putL R.length 2 ++ recsB R) := by simp [restL]
    have ek : kindN ⟨false, 3, 2, 0, Ad.z, false, 0, 0, [], R⟩ = 34 := by simp [kindN]
    rw [ek] at n0
    rw [er] at hz s4
    simp only [List.length_append, putL_length] at hz
    refine fin _ ?_ (by omega)
    have n6 : numAt s 6 2 = R.length := numAt_mid (pre := P ++ putL 0 2) (post := recsB R) (by rw [s4]; simp only [List.append_assoc]) (by simp only [List.length_append, putL_length]; omega) (by omega)
    have e8 := rRecL_mid (s := s) (n := R.length) (R := R) (pre := P ++ putL 0 2 ++ putL R.length 2) (k := 8) (f := 65) (i := 0) (X := []) hR (by rw [s4]; simp only [List.append_assoc]) (by simp only [List.length_append, putL_length]; omega) (by omega) (by omega)
    unfold rReadT rRecF
    rw [n0, if_neg (by omega), if_pos rfl, n6, if_neg (by omega), e8]
    rfl
  · have hg4 : src4 g = true := by
      rcases hg with rfl | hg
      · exact src4_z
      · exact grp4_src hg
    have er : restL ⟨false, 3, 1, resp, g, q, rob, ev, src, []⟩ = bytesA g.v g.b ++ (putL (flagN ⟨false, 3, 1, resp, g, q, rob, ev, src, []⟩) 1 ++ (putL (cod8 ev) 1 ++ (putL src.length 2 ++ srcB src))) := by simp [restL]
    have ek : kindN ⟨false, 3, 1, resp, g, q, rob, ev, src, []⟩ = 17 := by simp [kindN]
    have es : secN ⟨false, 3, 1, resp, g, q, rob, ev, src, []⟩ = cod8 resp := by simp [secN]
    have ef : flagN ⟨false, 3, 1, resp, g, q, rob, ev, src, []⟩ = rob.toNat + (if q then 8 else 0) := rfl
    have hf : flagN ⟨false, 3, 1, resp, g, q, rob, ev, src, []⟩ < 16 := by rw [ef]; split <;> omega
    generalize flagN ⟨false, 3, 1, resp, g, q, rob, ev, src, []⟩ = fl at *
    have c1 := cod8_le resp
    have c2 := cod8_le ev
    obtain ⟨_, hl⟩ := srcs4_all h5
    rw [ek] at n0
    rw [es] at n1
    rw [er] at hz s4
    have lg := src4_len hg4
    simp only [List.length_append, putL_length, lg] at hz
    have ea : ad4 s 4 = g := ad4_mid s4 l4 hg4
    have n8 : numAt s 8 1 = fl := numAt_mid (pre := P ++ bytesA g.v g.b) (post := putL (cod8 ev) 1 ++ (putL src.length 2 ++ srcB src)) (by rw [s4]; simp only [List.append_assoc]) (by simp only [List.length_append]; omega) (by omega)
    have n9 : numAt s 9 1 = cod8 ev := numAt_mid (pre := P ++ bytesA g.v g.b ++ putL fl 1) (post := putL src.length 2 ++ srcB src) (by rw [s4]; simp only [List.append_assoc]) (by simp only [List.length_append, putL_length]; omega) (by omega)
    have n10 : numAt s 10 2 = src.length := numAt_mid (pre := P ++ bytesA g.v g.b ++ putL fl 1 ++ putL (cod8 ev) 1) (post := srcB src) (by rw [s4]; simp only [List.append_assoc]) (by simp only [List.length_append, putL_length]; omega) (by omega)
    have n12 : rSrcF s 12 src.length = (src, 0) := rSrcF_mid (post := []) (pre := P ++ bytesA g.v g.b ++ putL fl 1 ++ putL (cod8 ev) 1 ++ putL src.length 2) h5 (by rw [s4]; simp only [List.append_assoc, List.append_nil]) (by simp only [List.length_append, putL_length]; omega)
    refine fin _ ?_ (by omega)
    have hq : ¬ (g == Ad.z || grp4 g) = false := by rcases hg with rfl | hg <;> simp_all
    have hzz : ¬ ((g == Ad.z) = true ∧ 0 < src.length) := fun hh => by
      rcases h6 with h6 | h6
      · exact h6 (by simpa using hh.1)
      · rw [h6] at hh
        simp at hh
    have eq1 : decide (fl / 8 % 2 = 1) = q := by rw [ef]; cases q <;> simp <;> omega
    have eq2 : ((fl % 8 : Nat) : Int) = rob := by rw [ef]; cases q <;> simp <;> omega
    unfold rReadT rQryF
    rw [if_pos n0, if_neg (by omega), ea, if_neg hq, if_neg (by omega), n1 (by omega), n8, n9, n10, n12, if_neg hzz, eq1, eq2, cod8_val h1, cod8_val h2]
end
end Go.Proofs.YtdnehjhijmeihaaGreat
