/-
  Contract of digest.All; the reads as arms.
-/
import Derived.Test.YtdbdlhmgokllaaaR6
import Derived.Test.YtdbdlhmgokllaaaIn
namespace Go.Proofs.Ytdbdlhmgokllaaa
-- %in
open Go.ChangeShapes Go.WideShapes Go.ChangeAt Go.RowKit
set_option linter.unusedVariables false
set_option linter.unusedSimpArgs false
set_option maxRecDepth 20000
attribute [local irreducible] wpList

theorem readC_ok {s : ByteArray} (h : (readC s).2.2 = 0) : 8 ≤ (readC s).2.1 ∧ (readC s).2.1 ≤ s.size := by
  rw [← refC_eq] at h ⊢
  have hw := wdS_or s
  unfold refC at h ⊢
  split at h
  · simp at h
  · split at h
    · simp at h
    · rename_i h1 h2
      rw [if_neg h1, if_neg h2]
      simp only
      omega
theorem readC_bad {s : ByteArray} (h : (readC s).2.2 ≠ 0) : (readC s).1 = Ch.z ∧ (readC s).2.1 = 0 := by
  rw [← refC_eq] at h ⊢
  unfold refC at h ⊢
  split
  · exact ⟨rfl, rfl⟩
  · split
    · exact ⟨rfl, rfl⟩
    · rename_i h1 h2
      rw [if_neg h1, if_neg h2] at h
      exact absurd rfl h
/-- all changes that bytes are -/
noncomputable def allC : Nat → ByteArray → List Ch → List Ch × Int
  | 0, _, X => (X, 0)
  | f + 1, s, X => if s.size = 0 then (X, 0) else if (readC s).2.2 = 0 then allC f (s.extract (readC s).2.1 s.size) (X ++ [(readC s).1]) else ([], (readC s).2.2)
section
variable {B : Nat} {w0 W : World} {H : HB} {s : ByteArray} {Q : Ending → World → Prop} {x : Ch} {n : Nat} {e : Int}
theorem hDRead (hs : s.size ≤ 100000) (hr : readC s = (x, n, e)) (hH : Hp B w0 W H) (hQ : ∀ W' p c D, Hid (∀ B w0 W, Hp B w0 W D → AdsAt W p x.e.src) → Hid (∀ r ∈ D, r.2.2.1 = true) → Hp B w0 W' (H ++ D) → Q (.returned (.tuple #[.agg (fls (chS x p c)).toArray, .int .i64 (n : Int), .int .i64 e])) W') : Calls Try.prog 35 #[.string s] W Q := by
  have h := dread_any (w := W) hs
  rw [hr] at h
  exact h.mono fun _ _ ⟨p, c, D, he, hm, hr⟩ => by subst he; exact hQ _ p c D (Lib.hid hr) (Lib.hid hm.2) (hH.join hm)
theorem hRefRead (hs : s.size ≤ 100000) (hr : readC s = (x, n, e)) (hH : Hp B w0 W H) (hQ : ∀ W' p c D, Hid (∀ B w0 W, Hp B w0 W D → AdsAt W p x.e.src) → Hid (∀ r ∈ D, r.2.2.1 = true) → Hp B w0 W' (H ++ D) → Q (.returned (.tuple #[.agg (fls (chS x p c)).toArray, .int .i64 (n : Int), .int .i64 e])) W') : Calls Try.prog 15 #[.string s] W Q := by
  have h := rread_any (w := W) hs
  rw [refC_eq, hr] at h
  exact h.mono fun _ _ ⟨p, c, D, he, hm, hr⟩ => by subst he; exact hQ _ p c D (Lib.hid hr) (Lib.hid hm.2) (hH.join hm)
end
def AllP (w : World) (R : List Ch × Int) (e : Ending) (w' : World) : Prop := ∃ p c D, e = .returned (.tuple #[.slice p R.1.length c, .int .i64 R.2]) ∧ Made w w' D ∧ ∀ B w0 W, Hp B w0 W D → ChsAt W p R.1
theorem AllP.mk {w : World} {R : List Ch × Int} {e : Ending} {w' : World} {p : Option Addr} {c : Nat} {D : HB} (h1 : e = .returned (.tuple #[.slice p R.1.length c, .int .i64 R.2])) (h2 : Made w w' D) (h3 : ∀ B w0 W, Hp B w0 W D → ChsAt W p R.1) : AllP w R e w' := ⟨p, c, D, h1, h2, h3⟩
theorem notEmptyD {s : ByteArray} (h : s.size ≠ 0) : s.toList.isEmpty = false := by
  rw [ByteArray.toList_eq]
  have := size_toList s
  cases hq : s.data.toList with
  | nil => rw [hq] at this; simp at this; omega
  | cons a l => rfl
theorem isEmptyD {s : ByteArray} (h : s.size = 0) : s.toList.isEmpty = true := by
  rw [ByteArray.toList_eq]
  have := size_toList s
  cases hq : s.data.toList with
  | nil => rfl
  | cons a l => rw [hq] at this; simp at this; omega
section
variable {w : World} {s : ByteArray}
set_option maxHeartbeats 8000000 in
theorem dAll_any (hs : s.size ≤ 1000) : Calls Try.prog 17 #[.string s] w fun e w' => AllP w (allC (s.size + 1) s []) e w' := by
  have hH := Hp.refl w
  generalize hres : allC (s.size + 1) s [] = res
  have HRES := Lib.hid hres
  clear hres
  go_enter Try.func17, Try.ntmps17
  go_wp2_with (first | ((first | (refine iL tab_ok rfl ?_ rfl hH ?_; (focus (first | exact wN rfl | exact rfl)); refine ⟨_, _, rfl, rfl, ?_⟩) | (refine iLi tab_ok rfl ?_ rfl hH ?_; (focus (first | exact wN rfl | exact rfl)); refine ⟨_, _, _, ?_, rfl, rfl, rfl, ?_, ?_⟩; rotate_left; (focus assumption)) | (refine iS1 tab_ok rfl ?_ rfl hH ?_; (focus (first | exact wN rfl | exact rfl)); refine ⟨_, _, _, _, rfl, rfl, rfl, rfl, rfl, ?_⟩) | (refine iSR tab_ok rfl ?_ rfl hH ?_; (focus (first | exact wN rfl | exact rfl)); refine ⟨_, _, _, _, rfl, rfl, rfl, rfl, rfl, ?_, ?_⟩; (focus (repeat (first | exact trivial | assumption | exact OkA.z (by kernel_rfl) (by kernel_rfl) | refine ⟨rfl, ?_⟩ | refine ⟨?_, ?_⟩)))) | (refine hAl tab_ok rfl ?_ hH rfl ?_; (focus (first | exact wN rfl | exact rfl))) | (refine hBx1 rfl ?_ rfl hH ?_; (focus (first | exact wN rfl | exact rfl))) | (refine hBx rfl ?_ rfl hH ?_ ?_; (focus (first | exact wN rfl | exact rfl)); (focus (repeat (first | exact trivial | assumption | exact OkA.z (by kernel_rfl) (by kernel_rfl) | refine ⟨rfl, ?_⟩ | refine ⟨?_, ?_⟩)))) | (refine hBd tab_ok rfl ?_ rfl rfl rfl hH ?_; (focus (first | exact wN rfl | exact rfl)); refine ⟨?_, ?_, ?_⟩; rotate_left; (focus (repeat (first | exact BR.nil | refine BR.one rfl rfl rfl ?_ | (refine BR.row rfl rfl rfl rfl ?_ ?_; (focus (repeat (first | exact trivial | assumption | exact OkA.z (by kernel_rfl) (by kernel_rfl) | refine ⟨rfl, ?_⟩ | refine ⟨?_, ?_⟩))))))))); clear hH; (first | intro W g hH | intro W hH); ((try simp only [Act.put, pA, pB, pC]))))
  go_loopw [0, 4] (fun s0 s4 wr => ∃ (t : ByteArray) (X : List Cv) (D : HB) (f : Nat), s0 = .string t ∧ Hid (allC f t (X.map Cv.x) = res) ∧ t.size < f ∧ t.size + X.length ≤ 1000 ∧ Hid (∀ r ∈ D, r.2.2.1 = true) ∧ Hid (InC X D) ∧ ((X = [] ∧ s4 = .slice none 0 0 ∧ Hp w.heap.size w wr D) ∨ (∃ (ga cc q : Nat) (J : List Value), s4 = .slice (some ⟨ga, 0, none⟩) X.length cc ∧ Grow 21 X.length cc (X.length * 21) q ∧ OkA J q ∧ Hp w.heap.size w wr ((ga, 37, true, [.many (cvsL X) (X.length * 21), .many J q]) :: D)))) (fun s0 _ _ => match s0 with | .string t => t.size | _ => 0)
  case atStart => exact ⟨s, [], [], s.size + 1, rfl, HRES, by omega, by simpa using hs, Lib.hid (by simp), Lib.hid InC.nil, .inl ⟨rfl, rfl, hH⟩⟩
  case round =>
    clear hH HRES
    obtain ⟨t, X, D, f, rfl, HR, hf, htX, hD, hXD, hor⟩ := hrel
    obtain ⟨f, rfl⟩ : ∃ f', f = f' + 1 := ⟨f - 1, by omega⟩
    have hR := HR.out
    unfold allC at hR
    clear HR
    by_cases h0 : t.size = 0
    · have hem := isEmptyD h0
      rw [if_pos h0] at hR
      subst hR
      have hX1 : X.length ≤ 1000 := by omega
      clear hf htX h0
      rcases hor with ⟨rfl, rfl, hH⟩ | ⟨ga, cc, q, J, rfl, hG, oJ, hH⟩
      · go_wp2_with (first | ((first | (refine iL tab_ok rfl ?_ rfl hH ?_; (focus (first | exact wN rfl | exact rfl)); refine ⟨_, _, rfl, rfl, ?_⟩) | (refine iLi tab_ok rfl ?_ rfl hH ?_; (focus (first | exact wN rfl | exact rfl)); refine ⟨_, _, _, ?_, rfl, rfl, rfl, ?_, ?_⟩; rotate_left; (focus assumption)) | (refine iS1 tab_ok rfl ?_ rfl hH ?_; (focus (first | exact wN rfl | exact rfl)); refine ⟨_, _, _, _, rfl, rfl, rfl, rfl, rfl, ?_⟩) | (refine iSR tab_ok rfl ?_ rfl hH ?_; (focus (first | exact wN rfl | exact rfl)); refine ⟨_, _, _, _, rfl, rfl, rfl, rfl, rfl, ?_, ?_⟩; (focus (repeat (first | exact trivial | assumption | exact OkA.z (by kernel_rfl) (by kernel_rfl) | refine ⟨rfl, ?_⟩ | refine ⟨?_, ?_⟩)))) | (refine hAl tab_ok rfl ?_ hH rfl ?_; (focus (first | exact wN rfl | exact rfl))) | (refine hBx1 rfl ?_ rfl hH ?_; (focus (first | exact wN rfl | exact rfl))) | (refine hBx rfl ?_ rfl hH ?_ ?_; (focus (first | exact wN rfl | exact rfl)); (focus (repeat (first | exact trivial | assumption | exact OkA.z (by kernel_rfl) (by kernel_rfl) | refine ⟨rfl, ?_⟩ | refine ⟨?_, ?_⟩)))) | (refine hBd tab_ok rfl ?_ rfl rfl rfl hH ?_; (focus (first | exact wN rfl | exact rfl)); refine ⟨?_, ?_, ?_⟩; rotate_left; (focus (repeat (first | exact BR.nil | refine BR.one rfl rfl rfl ?_ | (refine BR.row rfl rfl rfl rfl ?_ ?_; (focus (repeat (first | exact trivial | assumption | exact OkA.z (by kernel_rfl) (by kernel_rfl) | refine ⟨rfl, ?_⟩ | refine ⟨?_, ?_⟩))))))))); clear hH; (first | intro W g hH | intro W hH); ((try simp only [Act.put, pA, pB, pC]))))
        go_ret2
        exact AllP.mk (p := none) (c := 0) (D := []) rfl ⟨hH.nil, by simp⟩ (fun B w0 W h => ChsAt.nil)
      · clear hG
        go_wp2_with (first | ((first | (refine iL tab_ok rfl ?_ rfl hH ?_; (focus (first | exact wN rfl | exact rfl)); refine ⟨_, _, rfl, rfl, ?_⟩) | (refine iLi tab_ok rfl ?_ rfl hH ?_; (focus (first | exact wN rfl | exact rfl)); refine ⟨_, _, _, ?_, rfl, rfl, rfl, ?_, ?_⟩; rotate_left; (focus assumption)) | (refine iS1 tab_ok rfl ?_ rfl hH ?_; (focus (first | exact wN rfl | exact rfl)); refine ⟨_, _, _, _, rfl, rfl, rfl, rfl, rfl, ?_⟩) | (refine iSR tab_ok rfl ?_ rfl hH ?_; (focus (first | exact wN rfl | exact rfl)); refine ⟨_, _, _, _, rfl, rfl, rfl, rfl, rfl, ?_, ?_⟩; (focus (repeat (first | exact trivial | assumption | exact OkA.z (by kernel_rfl) (by kernel_rfl) | refine ⟨rfl, ?_⟩ | refine ⟨?_, ?_⟩)))) | (refine hAl tab_ok rfl ?_ hH rfl ?_; (focus (first | exact wN rfl | exact rfl))) | (refine hBx1 rfl ?_ rfl hH ?_; (focus (first | exact wN rfl | exact rfl))) | (refine hBx rfl ?_ rfl hH ?_ ?_; (focus (first | exact wN rfl | exact rfl)); (focus (repeat (first | exact trivial | assumption | exact OkA.z (by kernel_rfl) (by kernel_rfl) | refine ⟨rfl, ?_⟩ | refine ⟨?_, ?_⟩)))) | (refine hBd tab_ok rfl ?_ rfl rfl rfl hH ?_; (focus (first | exact wN rfl | exact rfl)); refine ⟨?_, ?_, ?_⟩; rotate_left; (focus (repeat (first | exact BR.nil | refine BR.one rfl rfl rfl ?_ | (refine BR.row rfl rfl rfl rfl ?_ ?_; (focus (repeat (first | exact trivial | assumption | exact OkA.z (by kernel_rfl) (by kernel_rfl) | refine ⟨rfl, ?_⟩ | refine ⟨?_, ?_⟩))))))))); clear hH; (first | intro W g hH | intro W hH); ((try simp only [Act.put, pA, pB, pC]))))
        go_ret2
        refine AllP.mk (p := some ⟨ga, 0, none⟩) (c := cc) (D := (ga, 37, true, [.many (cvsL X) (X.length * 21), .many J q]) :: D) (by simp only [List.length_map]; rfl) ⟨hH, fun r hr => ?_⟩ (fun B w0 W h => ?_)
        · rcases List.mem_cons.1 hr with rfl | hr
          · rfl
          · exact hD.out r hr
        · exact chsAt_row (by omega) (by have := (h.rows.mem (i := 0) rfl).1; rwa [fls_two] at this) (fun x hx => hXD.out x hx _ _ _ (h.sub (SubH.drop SubH.refl)))
    · have hem := notEmptyD h0
      rw [if_neg h0] at hR
      obtain ⟨x, n, e, hrd⟩ : ∃ x n e, readC t = (x, n, e) := ⟨_, _, _, rfl⟩
      have HRD := Lib.hid (show ∀ (W : World) (H : HB) (Q : Ending → World → Prop), Hp w.heap.size w W H → (∀ W' p c D, Hid (∀ B w0 W, Hp B w0 W D → AdsAt W p x.e.src) → Hid (∀ r ∈ D, r.2.2.1 = true) → Hp w.heap.size w W' (H ++ D) → Q (.returned (.tuple #[.agg (fls (chS x p c)).toArray, .int .i64 (n : Int), .int .i64 e])) W') → Calls Try.prog 35 #[.string t] W Q from fun W H Q hH hQ => hDRead (by omega) hrd hH hQ)
      have hok := readC_ok (s := t)
      rw [hrd] at hR hok
      simp only at hR hok
      clear hrd
      obtain ⟨⟨k, G, ex, l⟩, gn⟩ := x
      have oY := adL_ok G
      unfold chS at HRD
      simp only at HRD
      obtain ⟨Y, hY⟩ : ∃ Y, Y = adL G := ⟨_, rfl⟩
      rw [← hY] at HRD oY
      have HY := Lib.hid hY
      clear hY
      by_cases hz : e = 0
      · subst hz
        obtain ⟨hn8, hnt⟩ := hok rfl
        rw [if_pos rfl] at hR
        have HR2 := Lib.hid hR
        clear hR hok
        have hsz : (t.extract n t.size).size = t.size - n := extract_size (Nat.le_refl _) hnt
        have hX1 : X.length ≤ 1000 := by omega
        rcases hor with ⟨rfl, rfl, hH⟩ | ⟨ga, cc, q, J, rfl, hG, oJ, hH⟩
        · go_wp2_with (first | ((go_at_call 35; with_reducible refine HRD.out _ _ _ hH ?_; (clear hH; intro W px cx Dx hAx hDx hH); (try simp only [List.cons_append, List.nil_append] at hH); ((try simp only [Act.put, pA, pB, pC])))) | ((first | (refine iL tab_ok rfl ?_ rfl hH ?_; (focus (first | exact wN rfl | exact rfl)); refine ⟨_, _, rfl, rfl, ?_⟩) | (refine iLi tab_ok rfl ?_ rfl hH ?_; (focus (first | exact wN rfl | exact rfl)); refine ⟨_, _, _, ?_, rfl, rfl, rfl, ?_, ?_⟩; rotate_left; (focus assumption)) | (refine iS1 tab_ok rfl ?_ rfl hH ?_; (focus (first | exact wN rfl | exact rfl)); refine ⟨_, _, _, _, rfl, rfl, rfl, rfl, rfl, ?_⟩) | (refine iSR tab_ok rfl ?_ rfl hH ?_; (focus (first | exact wN rfl | exact rfl)); refine ⟨_, _, _, _, rfl, rfl, rfl, rfl, rfl, ?_, ?_⟩; (focus (repeat (first | exact trivial | assumption | exact OkA.z (by kernel_rfl) (by kernel_rfl) | refine ⟨rfl, ?_⟩ | refine ⟨?_, ?_⟩)))) | (refine hAl tab_ok rfl ?_ hH rfl ?_; (focus (first | exact wN rfl | exact rfl))) | (refine hBx1 rfl ?_ rfl hH ?_; (focus (first | exact wN rfl | exact rfl))) | (refine hBx rfl ?_ rfl hH ?_ ?_; (focus (first | exact wN rfl | exact rfl)); (focus (repeat (first | exact trivial | assumption | exact OkA.z (by kernel_rfl) (by kernel_rfl) | refine ⟨rfl, ?_⟩ | refine ⟨?_, ?_⟩)))) | (refine hBd tab_ok rfl ?_ rfl rfl rfl hH ?_; (focus (first | exact wN rfl | exact rfl)); refine ⟨?_, ?_, ?_⟩; rotate_left; (focus (repeat (first | exact BR.nil | refine BR.one rfl rfl rfl ?_ | (refine BR.row rfl rfl rfl rfl ?_ ?_; (focus (repeat (first | exact trivial | assumption | exact OkA.z (by kernel_rfl) (by kernel_rfl) | refine ⟨rfl, ?_⟩ | refine ⟨?_, ?_⟩))))))))); clear hH; (first | intro W g hH | intro W hH); ((try simp only [Act.put, pA, pB, pC]))))
          ((with_reducible refine regKN [] hH (SubH.keep SubH.nil) (by kernel_rfl) ?_); (clear hH; intro W hH); (refine hk_pures (fuel := 5) (pk 0 rfl (pk 4 rfl (pk 5 rfl (pk 6 rfl (PickR.nil))))) (by kernel_rfl) (by kernel_rfl) (fun _ _ _ _ _ h => h) ?_; (repeat (first | (go_big_quiet_want; (refine qBd tab_ok rfl rfl rfl rfl ?_; refine ⟨?_, ?_, ?_⟩; rotate_left; (focus (repeat (first | exact BR.nil | refine BR.one rfl rfl rfl ?_ | (refine BR.row rfl rfl rfl rfl ?_ ?_; (focus (repeat (first | exact trivial | assumption | exact OkA.z (by kernel_rfl) (by kernel_rfl) | refine ⟨rfl, ?_⟩ | refine ⟨?_, ?_⟩)))))))); (try simp only [Act.put, pA, pB, pC]); go_big_quiet_on) | go_big_quiet_step (fail))); refine hk_nil ?_); (refine hk_loads (fuel := 4) (pk 1 rfl (PickR.nil)) (by kernel_rfl) (by kernel_rfl) (fun _ _ _ _ _ h => h) hH ?_ ?_; (focus (exact SubI.h)); intro hne; (repeat (first | (go_big_quiet_want; (first | (refine qiL tab_ok rfl rfl ?_; refine ⟨_, _, rfl, rfl, ?_⟩) | (refine qiLi tab_ok rfl rfl ?_; refine ⟨_, _, _, ?_, rfl, rfl, rfl, ?_, ?_⟩; rotate_left; (focus assumption)) | (refine qBd tab_ok rfl rfl rfl rfl ?_; refine ⟨?_, ?_, ?_⟩; rotate_left; (focus (repeat (first | exact BR.nil | refine BR.one rfl rfl rfl ?_ | (refine BR.row rfl rfl rfl rfl ?_ ?_; (focus (repeat (first | exact trivial | assumption | exact OkA.z (by kernel_rfl) (by kernel_rfl) | refine ⟨rfl, ?_⟩ | refine ⟨?_, ?_⟩))))))))); (try simp only [Act.put, pA, pB, pC]); go_big_quiet_on) | go_big_quiet_step (fail))); refine hk_nil ?_; clear hne); (refine hk_one (fuel := 3) 2 rfl (by kernel_rfl) ?_; go_wp2_with (first | ((refine hSl tab_ok rfl ?_ rfl tabs_ok rfl rfl rfl rfl rfl hH ?_; (focus (first | exact wN rfl | exact rfl)); refine ⟨?_, ?_, ?_⟩; rotate_left; (focus (repeat (first | exact BR.nil | refine BR.one rfl rfl rfl ?_ | (refine BR.row rfl rfl rfl rfl ?_ ?_; (focus (repeat (first | exact trivial | assumption | exact OkA.z (by kernel_rfl) (by kernel_rfl) | refine ⟨rfl, ?_⟩ | refine ⟨?_, ?_⟩))))))); clear hH; intro W g hH; (try simp only [Act.put, pA, pB, pC]))) | (((first | (refine hApp0 0 tab_ok tabs_ok rfl rfl rfl rfl rfl rfl rfl hH rfl rfl rfl ?_; refine ⟨?_, ?_, ?_⟩; (focus (first | omega | (simp; omega))); (focus (first | omega | (simp; omega))))); clear hH; intro W g c p q J hG hL hJ hH; (try simp only [putH, fls, List.append_nil] at hH hL); (try simp only [Act.put, pA, pB, pC])))); refine hkQ_normal hH ?_ ?_; (focus (exact SubI.h)); (try simp only [Act.put, pA, pB, pC])); (refine hk_one (fuel := 2) 3 rfl (by kernel_rfl) ?_; go_wp2_with (first | ((refine hSl tab_ok rfl ?_ rfl tabs_ok rfl rfl rfl rfl rfl hH ?_; (focus (first | exact wN rfl | exact rfl)); refine ⟨?_, ?_, ?_⟩; rotate_left; (focus (repeat (first | exact BR.nil | refine BR.one rfl rfl rfl ?_ | (refine BR.row rfl rfl rfl rfl ?_ ?_; (focus (repeat (first | exact trivial | assumption | exact OkA.z (by kernel_rfl) (by kernel_rfl) | refine ⟨rfl, ?_⟩ | refine ⟨?_, ?_⟩))))))); clear hH; intro W g hH; (try simp only [Act.put, pA, pB, pC]))) | (((first | (refine hApp0 0 tab_ok tabs_ok rfl rfl rfl rfl rfl rfl rfl hH rfl rfl rfl ?_; refine ⟨?_, ?_, ?_⟩; (focus (first | omega | (simp; omega))); (focus (first | omega | (simp; omega))))); clear hH; intro W g c p q J hG hL hJ hH; (try simp only [putH, fls, List.append_nil] at hH hL); (try simp only [Act.put, pA, pB, pC])))); refine hkQ_normal hH ?_ ?_; (focus (exact SubI.h)); (try simp only [Act.put, pA, pB, pC])); (refine hk_pures (fuel := 0) (pk 7 rfl (pk 8 rfl (PickR.nil))) (by kernel_rfl) (by kernel_rfl) (fun _ _ _ _ _ h => h) ?_; (repeat (first | (go_big_quiet_want; (refine qBd tab_ok rfl rfl rfl rfl ?_; refine ⟨?_, ?_, ?_⟩; rotate_left; (focus (repeat (first | exact BR.nil | refine BR.one rfl rfl rfl ?_ | (refine BR.row rfl rfl rfl rfl ?_ ?_; (focus (repeat (first | exact trivial | assumption | exact OkA.z (by kernel_rfl) (by kernel_rfl) | refine ⟨rfl, ?_⟩ | refine ⟨?_, ?_⟩)))))))); (try simp only [Act.put, pA, pB, pC]); go_big_quiet_on) | go_big_quiet_step (fail))); refine hk_nil ?_); refine hk_endN (by kernel_rfl) ?_)
          go_wp2_with (first | ((first | (refine iL tab_ok rfl ?_ rfl hH ?_; (focus (first | exact wN rfl | exact rfl)); refine ⟨_, _, rfl, rfl, ?_⟩) | (refine iLi tab_ok rfl ?_ rfl hH ?_; (focus (first | exact wN rfl | exact rfl)); refine ⟨_, _, _, ?_, rfl, rfl, rfl, ?_, ?_⟩; rotate_left; (focus assumption)) | (refine iS1 tab_ok rfl ?_ rfl hH ?_; (focus (first | exact wN rfl | exact rfl)); refine ⟨_, _, _, _, rfl, rfl, rfl, rfl, rfl, ?_⟩) | (refine iSR tab_ok rfl ?_ rfl hH ?_; (focus (first | exact wN rfl | exact rfl)); refine ⟨_, _, _, _, rfl, rfl, rfl, rfl, rfl, ?_, ?_⟩; (focus (repeat (first | exact trivial | assumption | exact OkA.z (by kernel_rfl) (by kernel_rfl) | refine ⟨rfl, ?_⟩ | refine ⟨?_, ?_⟩)))) | (refine hAl tab_ok rfl ?_ hH rfl ?_; (focus (first | exact wN rfl | exact rfl))) | (refine hBx1 rfl ?_ rfl hH ?_; (focus (first | exact wN rfl | exact rfl))) | (refine hBx rfl ?_ rfl hH ?_ ?_; (focus (first | exact wN rfl | exact rfl)); (focus (repeat (first | exact trivial | assumption | exact OkA.z (by kernel_rfl) (by kernel_rfl) | refine ⟨rfl, ?_⟩ | refine ⟨?_, ?_⟩)))) | (refine hBd tab_ok rfl ?_ rfl rfl rfl hH ?_; (focus (first | exact wN rfl | exact rfl)); refine ⟨?_, ?_, ?_⟩; rotate_left; (focus (repeat (first | exact BR.nil | refine BR.one rfl rfl rfl ?_ | (refine BR.row rfl rfl rfl rfl ?_ ?_; (focus (repeat (first | exact trivial | assumption | exact OkA.z (by kernel_rfl) (by kernel_rfl) | refine ⟨rfl, ?_⟩ | refine ⟨?_, ?_⟩))))))))); clear hH; (first | intro W g hH | intro W hH); ((try simp only [Act.put, pA, pB, pC]))))
          have hp := hG.hp
          have hq := hG.hq
          have hle := hG.le
          have hmo := hG.most
          clear hG
          have e1 : (([] : List Cv) ++ [(⟨⟨⟨k, G, ex, l⟩, gn⟩, px, cx⟩ : Cv)]).length = ([] : List Cv).length + 1 := by simp
          have e2 : cvsL (([] : List Cv) ++ [(⟨⟨⟨k, G, ex, l⟩, gn⟩, px, cx⟩ : Cv)]) = cvsL ([] : List Cv) ++ (.int .i64 k :: (Y ++ [.bool ex, .slice px l.length cx, .bool gn])) := by rw [cvsL_snoc, HY.out]; rfl
          refine ⟨⟨t.extract n t.size, ([] : List Cv) ++ [⟨⟨⟨k, G, ex, l⟩, gn⟩, px, cx⟩], D ++ Dx, f, rfl, Lib.hid (by have := HR2.out; simpa using this), by omega, by rw [e1, hsz]; omega, own_app hD hDx, Lib.hid (InC.snoc hXD.out hAx.out), .inr ⟨g, c, q, J, by rw [e1] <;> simp, by rw [e1]; exact ⟨rfl, by rw [← hq, hp] <;> rfl, hle, hmo⟩, hJ, ?_⟩⟩, by show (t.extract n t.size).size < t.size; rw [hsz]; omega⟩
          rw [show (([] : List Cv) ++ [(⟨⟨⟨k, G, ex, l⟩, gn⟩, px, cx⟩ : Cv)]).length * 21 = p by rw [hp, e1] <;> rfl, e2]
          exact hH.sub (SubH.keep (SubH.drop (SubH.drop SubH.refl)))
        · go_wp2_with (first | ((go_at_call 35; with_reducible refine HRD.out _ _ _ hH ?_; (clear hH; intro W px cx Dx hAx hDx hH); (try simp only [List.cons_append, List.nil_append] at hH); ((try simp only [Act.put, pA, pB, pC])))) | ((first | (refine iL tab_ok rfl ?_ rfl hH ?_; (focus (first | exact wN rfl | exact rfl)); refine ⟨_, _, rfl, rfl, ?_⟩) | (refine iLi tab_ok rfl ?_ rfl hH ?_; (focus (first | exact wN rfl | exact rfl)); refine ⟨_, _, _, ?_, rfl, rfl, rfl, ?_, ?_⟩; rotate_left; (focus assumption)) | (refine iS1 tab_ok rfl ?_ rfl hH ?_; (focus (first | exact wN rfl | exact rfl)); refine ⟨_, _, _, _, rfl, rfl, rfl, rfl, rfl, ?_⟩) | (refine iSR tab_ok rfl ?_ rfl hH ?_; (focus (first | exact wN rfl | exact rfl)); refine ⟨_, _, _, _, rfl, rfl, rfl, rfl, rfl, ?_, ?_⟩; (focus (repeat (first | exact trivial | assumption | exact OkA.z (by kernel_rfl) (by kernel_rfl) | refine ⟨rfl, ?_⟩ | refine ⟨?_, ?_⟩)))) | (refine hAl tab_ok rfl ?_ hH rfl ?_; (focus (first | exact wN rfl | exact rfl))) | (refine hBx1 rfl ?_ rfl hH ?_; (focus (first | exact wN rfl | exact rfl))) | (refine hBx rfl ?_ rfl hH ?_ ?_; (focus (first | exact wN rfl | exact rfl)); (focus (repeat (first | exact trivial | assumption | exact OkA.z (by kernel_rfl) (by kernel_rfl) | refine ⟨rfl, ?_⟩ | refine ⟨?_, ?_⟩)))) | (refine hBd tab_ok rfl ?_ rfl rfl rfl hH ?_; (focus (first | exact wN rfl | exact rfl)); refine ⟨?_, ?_, ?_⟩; rotate_left; (focus (repeat (first | exact BR.nil | refine BR.one rfl rfl rfl ?_ | (refine BR.row rfl rfl rfl rfl ?_ ?_; (focus (repeat (first | exact trivial | assumption | exact OkA.z (by kernel_rfl) (by kernel_rfl) | refine ⟨rfl, ?_⟩ | refine ⟨?_, ?_⟩))))))))); clear hH; (first | intro W g hH | intro W hH); ((try simp only [Act.put, pA, pB, pC]))))
          ((with_reducible refine regKN [] hH (SubH.keep SubH.nil) (by kernel_rfl) ?_); (clear hH; intro W hH); (refine hk_pures (fuel := 5) (pk 0 rfl (pk 4 rfl (pk 5 rfl (pk 6 rfl (PickR.nil))))) (by kernel_rfl) (by kernel_rfl) (fun _ _ _ _ _ h => h) ?_; (repeat (first | (go_big_quiet_want; (refine qBd tab_ok rfl rfl rfl rfl ?_; refine ⟨?_, ?_, ?_⟩; rotate_left; (focus (repeat (first | exact BR.nil | refine BR.one rfl rfl rfl ?_ | (refine BR.row rfl rfl rfl rfl ?_ ?_; (focus (repeat (first | exact trivial | assumption | exact OkA.z (by kernel_rfl) (by kernel_rfl) | refine ⟨rfl, ?_⟩ | refine ⟨?_, ?_⟩)))))))); (try simp only [Act.put, pA, pB, pC]); go_big_quiet_on) | go_big_quiet_step (fail))); refine hk_nil ?_); (refine hk_loads (fuel := 4) (pk 1 rfl (PickR.nil)) (by kernel_rfl) (by kernel_rfl) (fun _ _ _ _ _ h => h) hH ?_ ?_; (focus (exact SubI.h)); intro hne; (repeat (first | (go_big_quiet_want; (first | (refine qiL tab_ok rfl rfl ?_; refine ⟨_, _, rfl, rfl, ?_⟩) | (refine qiLi tab_ok rfl rfl ?_; refine ⟨_, _, _, ?_, rfl, rfl, rfl, ?_, ?_⟩; rotate_left; (focus assumption)) | (refine qBd tab_ok rfl rfl rfl rfl ?_; refine ⟨?_, ?_, ?_⟩; rotate_left; (focus (repeat (first | exact BR.nil | refine BR.one rfl rfl rfl ?_ | (refine BR.row rfl rfl rfl rfl ?_ ?_; (focus (repeat (first | exact trivial | assumption | exact OkA.z (by kernel_rfl) (by kernel_rfl) | refine ⟨rfl, ?_⟩ | refine ⟨?_, ?_⟩))))))))); (try simp only [Act.put, pA, pB, pC]); go_big_quiet_on) | go_big_quiet_step (fail))); refine hk_nil ?_; clear hne); (refine hk_one (fuel := 3) 2 rfl (by kernel_rfl) ?_; go_wp2_with (first | ((refine hSl tab_ok rfl ?_ rfl tabs_ok rfl rfl rfl rfl rfl hH ?_; (focus (first | exact wN rfl | exact rfl)); refine ⟨?_, ?_, ?_⟩; rotate_left; (focus (repeat (first | exact BR.nil | refine BR.one rfl rfl rfl ?_ | (refine BR.row rfl rfl rfl rfl ?_ ?_; (focus (repeat (first | exact trivial | assumption | exact OkA.z (by kernel_rfl) (by kernel_rfl) | refine ⟨rfl, ?_⟩ | refine ⟨?_, ?_⟩))))))); clear hH; intro W g hH; (try simp only [Act.put, pA, pB, pC]))) | (((first | (refine hApp 2 0 tab_ok tabs_ok rfl rfl rfl rfl rfl rfl rfl hH rfl rfl rfl rfl ?_; refine ⟨?_, ?_, ?_⟩; (focus assumption); (focus (first | omega | (simp; omega))))); clear hH; intro W g c p q J hG hL hJ hH; (try simp only [putH, fls, List.append_nil] at hH hL); (try simp only [Act.put, pA, pB, pC])))); refine hkQ_normal hH ?_ ?_; (focus (exact SubI.h)); (try simp only [Act.put, pA, pB, pC])); (refine hk_one (fuel := 2) 3 rfl (by kernel_rfl) ?_; go_wp2_with (first | ((refine hSl tab_ok rfl ?_ rfl tabs_ok rfl rfl rfl rfl rfl hH ?_; (focus (first | exact wN rfl | exact rfl)); refine ⟨?_, ?_, ?_⟩; rotate_left; (focus (repeat (first | exact BR.nil | refine BR.one rfl rfl rfl ?_ | (refine BR.row rfl rfl rfl rfl ?_ ?_; (focus (repeat (first | exact trivial | assumption | exact OkA.z (by kernel_rfl) (by kernel_rfl) | refine ⟨rfl, ?_⟩ | refine ⟨?_, ?_⟩))))))); clear hH; intro W g hH; (try simp only [Act.put, pA, pB, pC]))) | (((first | (refine hApp 2 0 tab_ok tabs_ok rfl rfl rfl rfl rfl rfl rfl hH rfl rfl rfl rfl ?_; refine ⟨?_, ?_, ?_⟩; (focus assumption); (focus (first | omega | (simp; omega))))); clear hH; intro W g c p q J hG hL hJ hH; (try simp only [putH, fls, List.append_nil] at hH hL); (try simp only [Act.put, pA, pB, pC])))); refine hkQ_normal hH ?_ ?_; (focus (exact SubI.h)); (try simp only [Act.put, pA, pB, pC])); (refine hk_pures (fuel := 0) (pk 7 rfl (pk 8 rfl (PickR.nil))) (by kernel_rfl) (by kernel_rfl) (fun _ _ _ _ _ h => h) ?_; (repeat (first | (go_big_quiet_want; (refine qBd tab_ok rfl rfl rfl rfl ?_; refine ⟨?_, ?_, ?_⟩; rotate_left; (focus (repeat (first | exact BR.nil | refine BR.one rfl rfl rfl ?_ | (refine BR.row rfl rfl rfl rfl ?_ ?_; (focus (repeat (first | exact trivial | assumption | exact OkA.z (by kernel_rfl) (by kernel_rfl) | refine ⟨rfl, ?_⟩ | refine ⟨?_, ?_⟩)))))))); (try simp only [Act.put, pA, pB, pC]); go_big_quiet_on) | go_big_quiet_step (fail))); refine hk_nil ?_); refine hk_endN (by kernel_rfl) ?_)
          go_wp2_with (first | ((first | (refine iL tab_ok rfl ?_ rfl hH ?_; (focus (first | exact wN rfl | exact rfl)); refine ⟨_, _, rfl, rfl, ?_⟩) | (refine iLi tab_ok rfl ?_ rfl hH ?_; (focus (first | exact wN rfl | exact rfl)); refine ⟨_, _, _, ?_, rfl, rfl, rfl, ?_, ?_⟩; rotate_left; (focus assumption)) | (refine iS1 tab_ok rfl ?_ rfl hH ?_; (focus (first | exact wN rfl | exact rfl)); refine ⟨_, _, _, _, rfl, rfl, rfl, rfl, rfl, ?_⟩) | (refine iSR tab_ok rfl ?_ rfl hH ?_; (focus (first | exact wN rfl | exact rfl)); refine ⟨_, _, _, _, rfl, rfl, rfl, rfl, rfl, ?_, ?_⟩; (focus (repeat (first | exact trivial | assumption | exact OkA.z (by kernel_rfl) (by kernel_rfl) | refine ⟨rfl, ?_⟩ | refine ⟨?_, ?_⟩)))) | (refine hAl tab_ok rfl ?_ hH rfl ?_; (focus (first | exact wN rfl | exact rfl))) | (refine hBx1 rfl ?_ rfl hH ?_; (focus (first | exact wN rfl | exact rfl))) | (refine hBx rfl ?_ rfl hH ?_ ?_; (focus (first | exact wN rfl | exact rfl)); (focus (repeat (first | exact trivial | assumption | exact OkA.z (by kernel_rfl) (by kernel_rfl) | refine ⟨rfl, ?_⟩ | refine ⟨?_, ?_⟩)))) | (refine hBd tab_ok rfl ?_ rfl rfl rfl hH ?_; (focus (first | exact wN rfl | exact rfl)); refine ⟨?_, ?_, ?_⟩; rotate_left; (focus (repeat (first | exact BR.nil | refine BR.one rfl rfl rfl ?_ | (refine BR.row rfl rfl rfl rfl ?_ ?_; (focus (repeat (first | exact trivial | assumption | exact OkA.z (by kernel_rfl) (by kernel_rfl) | refine ⟨rfl, ?_⟩ | refine ⟨?_, ?_⟩))))))))); clear hH; (first | intro W g hH | intro W hH); ((try simp only [Act.put, pA, pB, pC]))))
          have hp := hG.hp
          have hq := hG.hq
          have hle := hG.le
          have hmo := hG.most
          clear hG
          have e1 : (X ++ [(⟨⟨⟨k, G, ex, l⟩, gn⟩, px, cx⟩ : Cv)]).length = X.length + 1 := by simp
          have e2 : cvsL (X ++ [(⟨⟨⟨k, G, ex, l⟩, gn⟩, px, cx⟩ : Cv)]) = cvsL X ++ (.int .i64 k :: (Y ++ [.bool ex, .slice px l.length cx, .bool gn])) := by rw [cvsL_snoc, HY.out]; rfl
          refine ⟨⟨t.extract n t.size, X ++ [⟨⟨⟨k, G, ex, l⟩, gn⟩, px, cx⟩], D ++ Dx, f, rfl, Lib.hid (by have := HR2.out; simpa using this), by omega, by rw [e1, hsz]; omega, own_app hD hDx, Lib.hid (InC.snoc hXD.out hAx.out), .inr ⟨g, c, q, J, by rw [e1] <;> simp, by rw [e1]; exact ⟨rfl, by rw [← hq, hp] <;> rfl, hle, hmo⟩, hJ, ?_⟩⟩, by show (t.extract n t.size).size < t.size; rw [hsz]; omega⟩
          rw [show (X ++ [(⟨⟨⟨k, G, ex, l⟩, gn⟩, px, cx⟩ : Cv)]).length * 21 = p by rw [hp, e1] <;> rfl, e2]
          exact hH.sub (SubH.drop (SubH.drop SubH.refl))
      · rw [if_neg hz] at hR
        subst hR
        have hze : (e != 0) = true := by simpa using hz
        have HZ := Lib.hid hz
        clear hok hz
        rcases hor with ⟨rfl, rfl, hH⟩ | ⟨ga, cc, q, J, rfl, hG, oJ, hH⟩
        all_goals
          go_wp2_with (first | ((go_at_call 35; with_reducible refine HRD.out _ _ _ hH ?_; (clear hH; intro W px cx Dx hAx hDx hH); (try simp only [List.cons_append, List.nil_append] at hH); ((try simp only [Act.put, pA, pB, pC])))) | ((first | (refine iL tab_ok rfl ?_ rfl hH ?_; (focus (first | exact wN rfl | exact rfl)); refine ⟨_, _, rfl, rfl, ?_⟩) | (refine iLi tab_ok rfl ?_ rfl hH ?_; (focus (first | exact wN rfl | exact rfl)); refine ⟨_, _, _, ?_, rfl, rfl, rfl, ?_, ?_⟩; rotate_left; (focus assumption)) | (refine iS1 tab_ok rfl ?_ rfl hH ?_; (focus (first | exact wN rfl | exact rfl)); refine ⟨_, _, _, _, rfl, rfl, rfl, rfl, rfl, ?_⟩) | (refine iSR tab_ok rfl ?_ rfl hH ?_; (focus (first | exact wN rfl | exact rfl)); refine ⟨_, _, _, _, rfl, rfl, rfl, rfl, rfl, ?_, ?_⟩; (focus (repeat (first | exact trivial | assumption | exact OkA.z (by kernel_rfl) (by kernel_rfl) | refine ⟨rfl, ?_⟩ | refine ⟨?_, ?_⟩)))) | (refine hAl tab_ok rfl ?_ hH rfl ?_; (focus (first | exact wN rfl | exact rfl))) | (refine hBx1 rfl ?_ rfl hH ?_; (focus (first | exact wN rfl | exact rfl))) | (refine hBx rfl ?_ rfl hH ?_ ?_; (focus (first | exact wN rfl | exact rfl)); (focus (repeat (first | exact trivial | assumption | exact OkA.z (by kernel_rfl) (by kernel_rfl) | refine ⟨rfl, ?_⟩ | refine ⟨?_, ?_⟩)))) | (refine hBd tab_ok rfl ?_ rfl rfl rfl hH ?_; (focus (first | exact wN rfl | exact rfl)); refine ⟨?_, ?_, ?_⟩; rotate_left; (focus (repeat (first | exact BR.nil | refine BR.one rfl rfl rfl ?_ | (refine BR.row rfl rfl rfl rfl ?_ ?_; (focus (repeat (first | exact trivial | assumption | exact OkA.z (by kernel_rfl) (by kernel_rfl) | refine ⟨rfl, ?_⟩ | refine ⟨?_, ?_⟩))))))))); clear hH; (first | intro W g hH | intro W hH); ((try simp only [Act.put, pA, pB, pC]))))
          go_ret2
          exact AllP.mk (p := none) (c := 0) (D := []) rfl ⟨hH.nil, by simp⟩ (fun B w0 W h => ChsAt.nil)
end
end Go.Proofs.Ytdbdlhmgokllaaa
