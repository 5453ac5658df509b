/-
  Contracts of acequiaref09: records.
-/
import Derived.Test.YtealimfmognglaaVj
import Derived.Test.YtealimfmognglaaVef
import Derived.Test.YtealimfmognglaaIn
namespace Go.Proofs.Ytealimfmognglaa
-- %in
open Go.ChangeShapes Go.WideShapes Go.ChangeAt Go.RowKit
set_option linter.unusedVariables false
set_option linter.unusedSimpArgs false
set_option maxRecDepth 20000
attribute [local irreducible] wpList

theorem numAt_get {s : ByteArray} {k : Nat} (h : k < s.size) : s[k].toNat = numAt s k 1 := by
  have hl : k < s.data.toList.length := by rw [size_toList]; exact h
  unfold numAt
  rw [List.drop_eq_getElem_cons hl, List.take_succ_cons, List.take_zero]
  show (s.data[k]).toNat = _
  rw [← Array.getElem_toList]
  simp [numL]
theorem rNumAt8 {s : ByteArray} {i j : Nat} {w : World} (h : i ≤ j) (hj : j ≤ i + 8) : Gives Try.prog 56 #[.string (s.extract i j)] w (.int .u64 (numAt s i (j - i) : Int)) := by
  have := rnum_any (s := s.extract i j) (w := w) (Nat.le_trans (cut_size2 s i j) (by omega))
  rwa [toList_extract] at this
theorem run_at {s : ByteArray} {k : Nat} (h : k < s.size) (x : Int) (hx : x = (k : Int)) (W : World) : (Instr.index 9 (.string s) (.int .i64 x)).run Try.prog W = .ok (.int .u8 (numAt s k 1 : Int)) W := by
  rw [run_idx Try.underlying9 s k h x hx W, numAt_get h]
def recAt (s : ByteArray) (k : Nat) : Rc := ⟨numAt s k 1, ad16 s (k + 4), (rSrcF s (k + 20) (numAt s (k + 2) 2)).1⟩
def okAt (s : ByteArray) (k : Nat) : Bool := decide (0 < numAt s k 1) && (decide (numAt s k 1 < 7) && grp6 (ad16 s (k + 4)))
def endAt (s : ByteArray) (k : Nat) : Nat := k + 20 + 16 * numAt s (k + 2) 2 + 4 * numAt s (k + 1) 1
def rRecL (s : ByteArray) (n : Nat) : Nat → Nat → Nat → List Rc → List Rc × Int
  | 0, _, _, X => (X, 0)
  | f + 1, i, k, X => if i < n then (if s.size < k + 20 then (X, 3) else if (rSrcF s (k + 20) (numAt s (k + 2) 2)).2 ≠ 0 then (X, (rSrcF s (k + 20) (numAt s (k + 2) 2)).2) else if s.size < endAt s k then (X, 3) else rRecL s n f (i + 1) (endAt s k) (if okAt s k then X ++ [recAt s k] else X)) else (X, 0)
def rRecF (s : ByteArray) : List Rc × Int := if 64 < numAt s 6 2 then ([], 6) else rRecL s (numAt s 6 2) 65 0 8 []
theorem rRecL_end {s : ByteArray} {n f i k : Nat} {X : List Rc} (h : ¬i < n) : rRecL s n f i k X = (X, 0) := by
  cases f with
  | zero => rfl
  | succ f => rw [rRecL, if_neg h]
def RecsPost (w : World) (R : List Rc) (c : Int) (e : Ending) (w' : World) : Prop := ∃ p cc D, e = .returned (.tuple #[.slice p R.length cc, .int .i64 c]) ∧ Made w w' D ∧ ∀ B w0 W, Hp B w0 W D → RcsAt W p R
theorem RecsPost.mk {w : World} {R : List Rc} {c : Int} {e : Ending} {w' : World} {p : Option Addr} {cc : Nat} {D : HB} (h1 : e = .returned (.tuple #[.slice p R.length cc, .int .i64 c])) (h2 : Made w w' D) (h3 : ∀ B w0 W, Hp B w0 W D → RcsAt W p R) : RecsPost w R c e w' := ⟨p, cc, D, h1, h2, h3⟩
theorem RecsPost.own {w w' : World} {R : List Rc} {c : Int} {e : Ending} {X : List Rv} {go cc q : Nat} {J : List Value} {D : HB} (hR : R = X.map Rv.r) (h1 : e = .returned (.tuple #[.slice (some ⟨go, 0, none⟩) X.length cc, .int .i64 c])) (hXm : X.length ≤ 1000)
    (hH : Hp w.heap.size w w' ((go, 52, true, [.many (rvsL X) (X.length * 19), .many J q]) :: D)) (HD : Hid (∀ r ∈ D, r.2.2.1 = true)) (HXD : Hid (∀ x ∈ X, ∀ B w0 W, Hp B w0 W D → AdsAt W x.p x.r.src)) : RecsPost w R c e w' := by
  subst hR
  refine RecsPost.mk (D := (go, 52, true, [.many (rvsL X) (X.length * 19), .many J q]) :: D) (p := some ⟨go, 0, none⟩) (cc := cc) (by rw [List.length_map]; exact h1) ⟨hH, fun r hr => ?_⟩ (fun B w0 W h => rcsAt_row (by omega) (by have := (h.rows.mem (i := 0) rfl).1; rwa [fls_two] at this) (fun x hx => HXD.out x hx _ _ _ (h.sub (SubH.drop SubH.refl))))
  rcases List.mem_cons.1 hr with rfl | hr
  · rfl
  · exact HD.out r hr
/-- sources, from any place -/
def SrcR (B : Nat) (w0 : World) (s : ByteArray) (k n : Nat) (L : List Ad) (c : Int) : Prop :=
  ∀ (W : World) (H : HB) (Q : Ending → World → Prop) (x y : Int), x = (k : Int) → y = (n : Int) → Hp B w0 W H → (∀ W' p cc D, Hid (∀ B w0 W, Hp B w0 W D → AdsAt W p L) → Hid (∀ r ∈ D, r.2.2.1 = true) → Hp B w0 W' (H ++ D) → Q (.returned (.tuple #[.slice p L.length cc, .int .i64 c])) W') → Calls Try.prog 73 #[.string s, .int .i64 x, .int .i64 y] W Q
theorem rSrcF_ok {s : ByteArray} {k n : Nat} (h : (rSrcF s k n).2 = 0) : n ≤ 64 ∧ k + 16 * n ≤ s.size ∧ (rSrcF s k n).1 = srcAt s k n := by
  unfold rSrcF at *
  split at h
  · simp at h
  · split at h
    · simp at h
    · rename_i h1 h2
      rw [if_neg h1, if_neg h2]
      exact ⟨by omega, by omega, rfl⟩
section
variable {B : Nat} {w0 w : World} {s : ByteArray}
theorem srcR {k n : Nat} (hn : n < 65536) (hk : k ≤ 200000) (hs : s.size ≤ 100000) : SrcR B w0 s k n (rSrcF s k n).1 (rSrcF s k n).2 := by
  intro W H Q x y hx hy hH hQ
  subst hx
  subst hy
  exact (rsources_any hn hk hs).mono fun _ _ ⟨p, cc, D, he, hm, hr⟩ => by subst he; exact hQ _ p cc D (Lib.hid hr) (Lib.hid hm.2) (hH.join hm)
set_option maxHeartbeats 2000000 in
theorem rrecords_any (h8 : 8 ≤ s.size) (hs : s.size ≤ 100000) : Calls Try.prog 43 #[.string s] w fun e w' => RecsPost w (rRecF s).1 (rRecF s).2 e w' := by
  have n1 : ∀ w, Gives Try.prog 56 #[.string (s.extract 6 8)] w (.int .u64 (numAt s 6 2 : Int)) := fun w => rNumAt8 (by omega) (by omega)
  have hn : numAt s 6 2 < 65536 := numAt_lt s 6 2
  unfold rRecF
  obtain ⟨n, en⟩ : ∃ n, numAt s 6 2 = n := ⟨_, rfl⟩
  rw [en] at n1 hn ⊢
  clear en
  have hH := Hp.refl w
  have dz : decide ((8 : Int) ≤ (s.size : Int)) = true := decide_eq_true (by omega)
  by_cases h64 : 64 < n
  · rw [if_pos h64]
    have d1 : decide ((64 : Int) < (n : Int)) = true := decide_eq_true (by omega)
    go_enter Try.func43, Try.ntmps43
    go_wp2_with (first | ((refine hSl0 tab_ok rfl ?_ tabs_ok rfl rfl rfl hH ?_; (focus (first | exact wN rfl | exact rfl)); clear hH; intro W g hH; (try simp only [Act.put, pA, pB, pC]))) | ((first | ((with_reducible refine callH hH ?_); refine ⟨?_, ?_, ?_⟩; rotate_left; (focus (first | (with_reducible exact n1 _))))); clear hH; (first | intro W g hH | intro W hH); ((try simp only [Act.put, pA, pB, pC]))))
    go_ret2
    exact RecsPost.mk (R := []) (p := some ⟨g, 0, none⟩) (cc := 0) (D := []) rfl ⟨hH.nil, by simp⟩ (fun B w0 W h => RcsAt.nil)
  rw [if_neg h64]
  obtain ⟨res, hres⟩ : ∃ r, rRecL s n 65 0 8 [] = r := ⟨_, rfl⟩
  rw [hres]
  have HL := Lib.hid hres
  clear hres
  have d1 : decide ((64 : Int) < (n : Int)) = false := decide_eq_false (by omega)
  have hn64 : n ≤ 64 := by omega
  clear h64
  go_enter Try.func43, Try.ntmps43
  go_wp2_with (first | ((refine hSl0 tab_ok rfl ?_ tabs_ok rfl rfl rfl hH ?_; (focus (first | exact wN rfl | exact rfl)); clear hH; intro W g hH; (try simp only [Act.put, pA, pB, pC]))) | ((first | ((with_reducible refine callH hH ?_); refine ⟨?_, ?_, ?_⟩; rotate_left; (focus (first | (with_reducible exact n1 _))))); clear hH; (first | intro W g hH | intro W hH); ((try simp only [Act.put, pA, pB, pC]))))
  clear n1 d1 dz
  go_loopw [4, 5, 7] (fun sl at_ i wr => ∃ (j k f : Nat) (X : List Rv) (D : HB) (go cc q : Nat) (J : List Value), i = .int .i64 (j : Int) ∧ at_ = .int .i64 (k : Int) ∧ sl = .slice (some ⟨go, 0, none⟩) X.length cc ∧ Hid (rRecL s n f j k (X.map Rv.r) = res) ∧ f + j = 65 ∧ j ≤ n ∧ k ≤ s.size ∧ X.length ≤ j ∧ Hid (∀ r ∈ D, r.2.2.1 = true) ∧ Hid (∀ x ∈ X, ∀ B w0 W, Hp B w0 W D → AdsAt W x.p x.r.src) ∧ Grow 19 X.length cc (X.length * 19) q ∧ OkA J q ∧ Hp w.heap.size w wr ((go, 52, true, [.many (rvsL X) (X.length * 19), .many J q]) :: D)) (fun _ _ i _ => n - (intOf i).toNat)
  case atStart => exact ⟨0, 8, 65, [], [], g, 0, 0, [], rfl, rfl, rfl, HL, rfl, by omega, h8, by simp, Lib.hid (by simp), Lib.hid (by simp), ⟨rfl, rfl, Nat.le_refl _, by simp [maxLen]⟩, ⟨rfl, by simp⟩, hH⟩
  case round =>
    clear hH HL
    obtain ⟨j, k, f, X, D, go, cc, q, J, rfl, rfl, rfl, HL, hf, hj, hk, hXj, HD, HXD, hG, oJ, hH⟩ := hrel
    have hXm : X.length ≤ 1000 := by omega
    by_cases hjn : j < n
    rotate_left
    · have dj : decide ((j : Int) < (n : Int)) = false := decide_eq_false (by omega)
      have HE := Lib.hid ((rRecL_end (f := f) (k := k) (X := X.map Rv.r) hjn).symm.trans HL.out)
      clear hG hXj HL
      go_wp2_with (fail)
      go_ret2
      rw [← HE.out]
      exact RecsPost.own rfl rfl hXm hH HD HXD
    have dj : decide ((j : Int) < (n : Int)) = true := decide_eq_true (by omega)
    obtain ⟨f', rfl⟩ : ∃ f', f = f' + 1 := ⟨f - 1, by omega⟩
    have hL := HL.out
    rw [rRecL, if_pos hjn] at hL
    clear HL
    by_cases h1 : s.size < k + 20
    · rw [if_pos h1] at hL
      have HE := Lib.hid hL
      have d1 : decide ((s.size : Int) < (k : Int) + 20) = true := decide_eq_true (by omega)
      have d2 : (s.size : Int) < (k : Int) + 20 := by omega
      clear hG hXj hL
      go_wp2_with (fail)
      go_ret2
      rw [← HE.out]
      exact RecsPost.own rfl rfl hXm hH HD HXD
    rw [if_neg h1] at hL
    have hk8 : k + 20 ≤ s.size := by omega
    have d1 : decide ((s.size : Int) < (k : Int) + 20) = false := decide_eq_false (by omega)
    have d2 : (k : Int) + 20 ≤ (s.size : Int) := by omega
    have d3 : (k : Int) + 4 ≤ (s.size : Int) := by omega
    have d4 : decide ((k : Int) + 4 ≤ (s.size : Int)) = true := decide_eq_true (by omega)
    have d5 : decide ((k : Int) + 2 ≤ (k : Int) + 4) = true := decide_eq_true (by omega)
    have n2 : ∀ w, Gives Try.prog 56 #[.string (s.extract (k + 2) (k + 4))] w (.int .u64 (numAt s (k + 2) 2 : Int)) := fun w => by
      have := rNumAt8 (s := s) (w := w) (i := k + 2) (j := k + 4) (by omega) (by omega)
      rwa [show k + 4 - (k + 2) = 2 by omega] at this
    have i0 : ∀ W, (Instr.index 9 (.string s) (.int .i64 (k : Int))).run Try.prog W = .ok (.int .u8 (numAt s k 1 : Int)) W := fun W => run_at (by omega) _ rfl W
    have i1 : ∀ W, (Instr.index 9 (.string s) (.int .i64 ((k : Int) + 1))).run Try.prog W = .ok (.int .u8 (numAt s (k + 1) 1 : Int)) W := fun W => run_at (by omega) _ (by push_cast; rfl) W
    have f4 : ∀ w, Gives Try.prog 72 #[.string s, .int .i64 ((k : Int) + 4)] w (.agg (fls [.many (adL (ad16 s (k + 4))) 17]).toArray) := fun w => by
      have := rsixteen_any (w := w) (s := s) (k := k + 4) (by omega) hs
      rwa [show ((k + 4 : Nat) : Int) = (k : Int) + 4 by push_cast; rfl] at this
    have hb0 : numAt s k 1 < 256 := numAt_lt s k 1
    have hb1 : numAt s (k + 1) 1 < 256 := numAt_lt s (k + 1) 1
    have hm : numAt s (k + 2) 2 < 65536 := numAt_lt s (k + 2) 2
    have SR := srcR (B := w.heap.size) (w0 := w) (s := s) (k := k + 20) hm (by omega) hs
    have hok := rSrcF_ok (s := s) (k := k + 20) (n := numAt s (k + 2) 2)
    unfold endAt okAt recAt at hL
    generalize numAt s k 1 = b0 at *
    generalize numAt s (k + 1) 1 = b1 at *
    generalize numAt s (k + 2) 2 = m at *
    generalize ad16 s (k + 4) = a at *
    have f7 : ∀ w, Gives Try.prog 22 #[.agg (fls [.many (adL a) 17]).toArray] w (.bool (grp6 a)) := fun w => rGroup6_any
    have oA := adL_ok a
    obtain ⟨A, hA'⟩ : ∃ Y, Y = adL a := ⟨_, rfl⟩
    rw [← hA'] at f4 f7 oA
    have HA' := Lib.hid hA'
    clear hA'
    generalize grp6 a = gb at *
    obtain ⟨L, c, hLc⟩ : ∃ L c, rSrcF s (k + 20) m = (L, c) := ⟨_, _, rfl⟩
    rw [hLc] at hL SR hok
    simp only at hL SR hok
    have SR := Lib.hid SR
    have HF := Lib.hid hf
    clear hLc h1 hf
    by_cases hc : c = 0
    rotate_left
    · rw [if_pos hc] at hL
      have HE := Lib.hid hL
      have dc : (c != 0) = true := by simpa using hc
      clear hG hXj hL hok
      go_wp2_with (first | ((go_at_call 73; refine SR.out _ _ _ _ _ ?_ ?_ hH ?_; (focus (first | rfl | (push_cast; rfl) | (simp; done))); (focus (first | rfl | (push_cast; rfl) | (simp; done))); (clear hH; intro W sp sc D' hA hD' hH); (try simp only [List.cons_append, List.nil_append, List.append_assoc] at hH); (try simp only [Act.put, List.setIfInBounds_toArray, List.set_cons_succ, List.set_cons_zero]))) | ((first | ((with_reducible refine callH hH ?_); refine ⟨?_, ?_, ?_⟩; rotate_left; (focus (first | (with_reducible exact n2 _))))); clear hH; (first | intro W g hH | intro W hH); ((try simp only [Act.put, pA, pB, pC]))))
      go_ret2
      rw [← HE.out]
      refine RecsPost.own (D := D ++ D') rfl rfl hXm hH (own_app HD hD') (in_app HXD)
    have hm64 := (hok hc).1
    have hkm := (hok hc).2.1
    subst hc
    rw [if_neg (by simp)] at hL
    clear hok
    by_cases h2 : s.size < k + 20 + 16 * m + 4 * b1
    · rw [if_pos h2] at hL
      have HE := Lib.hid hL
      have d6 : decide ((s.size : Int) < (k : Int) + 20 + 16 * (m : Int) + 4 * (b1 : Int)) = true := decide_eq_true (by omega)
      have d7 : (s.size : Int) < (k : Int) + 20 + 16 * (m : Int) + 4 * (b1 : Int) := by omega
      clear hG hXj hL h2
      go_wp2_with (first | ((go_at_call 73; refine SR.out _ _ _ _ _ ?_ ?_ hH ?_; (focus (first | rfl | (push_cast; rfl) | (simp; done))); (focus (first | rfl | (push_cast; rfl) | (simp; done))); (clear hH; intro W sp sc D' hA hD' hH); (try simp only [List.cons_append, List.nil_append, List.append_assoc] at hH); (try simp only [Act.put, List.setIfInBounds_toArray, List.set_cons_succ, List.set_cons_zero]))) | ((first | ((with_reducible refine callH hH ?_); refine ⟨?_, ?_, ?_⟩; rotate_left; (focus (first | (with_reducible exact n2 _))))); clear hH; (first | intro W g hH | intro W hH); ((try simp only [Act.put, pA, pB, pC]))))
      go_ret2
      rw [← HE.out]
      refine RecsPost.own (D := D ++ D') rfl rfl hXm hH (own_app HD hD') (in_app HXD)
    rw [if_neg h2] at hL
    have d6 : decide ((s.size : Int) < (k : Int) + 20 + 16 * (m : Int) + 4 * (b1 : Int)) = false := decide_eq_false (by omega)
    have d7 : (k : Int) + 20 + 16 * (m : Int) + 4 * (b1 : Int) ≤ (s.size : Int) := by omega
    have hke : k + 20 + 16 * m + 4 * b1 ≤ s.size := by omega
    have HXj := Lib.hid hXj
    clear hXj h2
    have HXm := Lib.hid hXm
    go_wp2_with (first | ((go_at_call 73; refine SR.out _ _ _ _ _ ?_ ?_ hH ?_; (focus (first | rfl | (push_cast; rfl) | (simp; done))); (focus (first | rfl | (push_cast; rfl) | (simp; done))); (clear hH; intro W sp sc D' hA hD' hH); (try simp only [List.cons_append, List.nil_append, List.append_assoc] at hH); (try simp only [Act.put, List.setIfInBounds_toArray, List.set_cons_succ, List.set_cons_zero]))) | ((first | ((with_reducible refine callH hH ?_); refine ⟨?_, ?_, ?_⟩; rotate_left; (focus (first | (with_reducible exact n2 _))))); clear hH; (first | intro W g hH | intro W hH); ((try simp only [Act.put, pA, pB, pC]))))
    clear d1 d2 d3 d4 d5 d6 d7
    have dk : 0 ≤ (k : Int) + 4 := by omega
    by_cases h0 : 0 < b0
    rotate_left
    · have e0 : decide ((0 : Int) < (b0 : Int)) = false := decide_eq_false (by omega)
      have hokv := Lib.hid (show false = (decide (0 < b0) && (decide (b0 < 7) && gb)) by rw [decide_eq_false h0, Bool.false_and])
      have HL2 := Lib.hid hL
      obtain rfl : b0 = 0 := by omega
      clear hL h0 e0
      clear i1 n2
      ((with_reducible refine regM hH (SubH.refl) (by kernel_rfl) ?_); (clear hH; intro W hH); (refine hm_takes (fuel := 4) (pk 0 rfl (pk 1 rfl (pk 2 rfl (pk 3 rfl (pk 4 rfl (pk 5 rfl (pk 6 rfl (pk 8 rfl (PickR.nil))))))))) (by kernel_rfl) (by kernel_rfl) (fun _ _ _ _ _ h => h) hH ?_ ?_; (focus (exact SubI.h)); intro hne; (repeat (go_big_quiet_step (fail))); refine hm_nil ?_; clear hne); refine hm_two (fuel := 3) 7 10 rfl rfl (by kernel_rfl) ?_ ?_; (focus (go_wp2_with (first | ((first | ((with_reducible refine callH hH ?_); refine ⟨?_, ?_, ?_⟩; rotate_left; (focus (first | (with_reducible exact f4 _))))); clear hH; (first | intro W g hH | intro W hH); ((try simp only [Act.put, pA, pB, pC])))); refine hmQ_normal hH ?_ ?_; (focus (exact SubI.h)); (try simp only [Act.put, List.setIfInBounds_toArray, List.set_cons_succ, List.set_cons_zero]); (refine hm_takes (fuel := 2) (pk 9 rfl (PickR.nil)) (by kernel_rfl) (by kernel_rfl) (fun _ _ _ _ _ h => h) hH ?_ ?_; (focus (exact SubI.h)); intro hne; (repeat (first | (go_big_quiet_want; (first | (refine qBd tab_ok rfl rfl rfl rfl ?_; refine ⟨?_, ?_, ?_⟩; rotate_left; (focus (repeat (first | exact BR.nil | refine BR.one rfl rfl rfl ?_ | (refine BR.row rfl rfl rfl rfl ?_ ?_; (focus (repeat (first | exact trivial | assumption | exact OkA.z (by kernel_rfl) (by kernel_rfl) | refine ⟨rfl, ?_⟩ | refine ⟨?_, ?_⟩))))))))); (try simp only [Act.put, pA, pB, pC]); go_big_quiet_on) | go_big_quiet_step (fail))); refine hm_nil ?_; clear hne); (refine hm_one (fuel := 1) 10 rfl (by kernel_rfl) ?_; go_wp2_with (first | ((first | (refine hAl tab_ok rfl ?_ hH rfl ?_; (focus (first | exact wN rfl | exact rfl)))); clear hH; (first | intro W g hH | intro W hH); ((try simp only [Act.put, pA, pB, pC])))); refine hmQ_normal hH ?_ ?_; (focus (exact SubI.h)); (try simp only [Act.put, List.setIfInBounds_toArray, List.set_cons_succ, List.set_cons_zero])); (refine hm_one (fuel := 0) 11 rfl (by kernel_rfl) ?_; go_wp2_with (first | ((first | (refine iSR tab_ok rfl ?_ rfl hH ?_; (focus (first | exact wN rfl | exact rfl)); refine ⟨_, _, _, _, rfl, rfl, rfl, rfl, rfl, ?_, ?_⟩; (focus (repeat (first | exact trivial | assumption | exact OkA.z (by kernel_rfl) (by kernel_rfl) | refine ⟨rfl, ?_⟩ | refine ⟨?_, ?_⟩))))); clear hH; (first | intro W g hH | intro W hH); ((try simp only [Act.put, pA, pB, pC])))); refine hmQ_normal hH ?_ ?_; (focus (exact SubI.h)); (try simp only [Act.put, List.setIfInBounds_toArray, List.set_cons_succ, List.set_cons_zero])); refine hm_end (by kernel_rfl) ?_)); rotate_left 1; (focus (go_wp2_with (first | ((first | (refine hAl tab_ok rfl ?_ hH rfl ?_; (focus (first | exact wN rfl | exact rfl)))); clear hH; (first | intro W g hH | intro W hH); ((try simp only [Act.put, pA, pB, pC])))); refine hmQ_normal hH ?_ ?_; (focus (exact SubI.h)); (try simp only [Act.put, List.setIfInBounds_toArray, List.set_cons_succ, List.set_cons_zero]); (refine hm_one (fuel := 2) 7 rfl (by kernel_rfl) ?_; go_wp2_with (first | ((first | ((with_reducible refine callH hH ?_); refine ⟨?_, ?_, ?_⟩; rotate_left; (focus (first | (with_reducible exact f4 _))))); clear hH; (first | intro W g hH | intro W hH); ((try simp only [Act.put, pA, pB, pC])))); refine hmQ_normal hH ?_ ?_; (focus (exact SubI.h)); (try simp only [Act.put, List.setIfInBounds_toArray, List.set_cons_succ, List.set_cons_zero])); (refine hm_takes (fuel := 1) (pk 9 rfl (PickR.nil)) (by kernel_rfl) (by kernel_rfl) (fun _ _ _ _ _ h => h) hH ?_ ?_; (focus (exact SubI.h)); intro hne; (repeat (first | (go_big_quiet_want; (first | (refine qBd tab_ok rfl rfl rfl rfl ?_; refine ⟨?_, ?_, ?_⟩; rotate_left; (focus (repeat (first | exact BR.nil | refine BR.one rfl rfl rfl ?_ | (refine BR.row rfl rfl rfl rfl ?_ ?_; (focus (repeat (first | exact trivial | assumption | exact OkA.z (by kernel_rfl) (by kernel_rfl) | refine ⟨rfl, ?_⟩ | refine ⟨?_, ?_⟩))))))))); (try simp only [Act.put, pA, pB, pC]); go_big_quiet_on) | go_big_quiet_step (fail))); refine hm_nil ?_; clear hne); (refine hm_one (fuel := 0) 11 rfl (by kernel_rfl) ?_; go_wp2_with (first | ((first | (refine iSR tab_ok rfl ?_ rfl hH ?_; (focus (first | exact wN rfl | exact rfl)); refine ⟨_, _, _, _, rfl, rfl, rfl, rfl, rfl, ?_, ?_⟩; (focus (repeat (first | exact trivial | assumption | exact OkA.z (by kernel_rfl) (by kernel_rfl) | refine ⟨rfl, ?_⟩ | refine ⟨?_, ?_⟩))))); clear hH; (first | intro W g hH | intro W hH); ((try simp only [Act.put, pA, pB, pC])))); refine hmQ_normal hH ?_ ?_; (focus (exact SubI.h)); (try simp only [Act.put, List.setIfInBounds_toArray, List.set_cons_succ, List.set_cons_zero])); refine hm_end (by kernel_rfl) ?_)))
      all_goals
        go_wp2_with (first | ((first | (refine iL tab_ok rfl ?_ rfl hH ?_; (focus (first | exact wN rfl | exact rfl)); refine ⟨_, _, rfl, rfl, ?_⟩)); clear hH; (first | intro W g hH | intro W hH); ((try simp only [Act.put, pA, pB, pC]))))
        have HL3 := Lib.hid (show rRecL s n f' (j + 1) (k + 20 + 16 * m + 4 * b1) (X.map Rv.r) = res by have := HL2.out; rwa [← hokv.out] at this)
        refine ⟨⟨j + 1, k + 20 + 16 * m + 4 * b1, f', X, D ++ D', go, cc, q, J, by simp, by push_cast; rfl, rfl, HL3, by have := HF.out; omega, by omega, hke, by have := HXj.out; omega, own_app HD hD', in_app HXD, hG, oJ, hH.sub (SubH.drop SubH.refl)⟩, by simp [intOf]; omega⟩
    have e0 : decide ((0 : Int) < (b0 : Int)) = true := decide_eq_true (by omega)
    by_cases h7 : b0 < 7
    rotate_left
    · have e7 : decide ((b0 : Int) < 7) = false := decide_eq_false (by omega)
      have hokv := Lib.hid (show false = (decide (0 < b0) && (decide (b0 < 7) && gb)) by rw [decide_eq_false h7, Bool.false_and, Bool.and_false])
      have HL2 := Lib.hid hL
      have e7' : (7 : Int) ≤ (b0 : Int) := by omega
      clear hL
      clear i1 n2
      ((with_reducible refine regM hH (SubH.refl) (by kernel_rfl) ?_); (clear hH; intro W hH); (refine hm_takes (fuel := 4) (pk 0 rfl (pk 1 rfl (pk 2 rfl (pk 3 rfl (pk 4 rfl (pk 5 rfl (pk 6 rfl (pk 8 rfl (PickR.nil))))))))) (by kernel_rfl) (by kernel_rfl) (fun _ _ _ _ _ h => h) hH ?_ ?_; (focus (exact SubI.h)); intro hne; (repeat (go_big_quiet_step (fail))); refine hm_nil ?_; clear hne); refine hm_two (fuel := 3) 7 10 rfl rfl (by kernel_rfl) ?_ ?_; (focus (go_wp2_with (first | ((first | ((with_reducible refine callH hH ?_); refine ⟨?_, ?_, ?_⟩; rotate_left; (focus (first | (with_reducible exact f4 _))))); clear hH; (first | intro W g hH | intro W hH); ((try simp only [Act.put, pA, pB, pC])))); refine hmQ_normal hH ?_ ?_; (focus (exact SubI.h)); (try simp only [Act.put, List.setIfInBounds_toArray, List.set_cons_succ, List.set_cons_zero]); (refine hm_takes (fuel := 2) (pk 9 rfl (PickR.nil)) (by kernel_rfl) (by kernel_rfl) (fun _ _ _ _ _ h => h) hH ?_ ?_; (focus (exact SubI.h)); intro hne; (repeat (first | (go_big_quiet_want; (first | (refine qBd tab_ok rfl rfl rfl rfl ?_; refine ⟨?_, ?_, ?_⟩; rotate_left; (focus (repeat (first | exact BR.nil | refine BR.one rfl rfl rfl ?_ | (refine BR.row rfl rfl rfl rfl ?_ ?_; (focus (repeat (first | exact trivial | assumption | exact OkA.z (by kernel_rfl) (by kernel_rfl) | refine ⟨rfl, ?_⟩ | refine ⟨?_, ?_⟩))))))))); (try simp only [Act.put, pA, pB, pC]); go_big_quiet_on) | go_big_quiet_step (fail))); refine hm_nil ?_; clear hne); (refine hm_one (fuel := 1) 10 rfl (by kernel_rfl) ?_; go_wp2_with (first | ((first | (refine hAl tab_ok rfl ?_ hH rfl ?_; (focus (first | exact wN rfl | exact rfl)))); clear hH; (first | intro W g hH | intro W hH); ((try simp only [Act.put, pA, pB, pC])))); refine hmQ_normal hH ?_ ?_; (focus (exact SubI.h)); (try simp only [Act.put, List.setIfInBounds_toArray, List.set_cons_succ, List.set_cons_zero])); (refine hm_one (fuel := 0) 11 rfl (by kernel_rfl) ?_; go_wp2_with (first | ((first | (refine iSR tab_ok rfl ?_ rfl hH ?_; (focus (first | exact wN rfl | exact rfl)); refine ⟨_, _, _, _, rfl, rfl, rfl, rfl, rfl, ?_, ?_⟩; (focus (repeat (first | exact trivial | assumption | exact OkA.z (by kernel_rfl) (by kernel_rfl) | refine ⟨rfl, ?_⟩ | refine ⟨?_, ?_⟩))))); clear hH; (first | intro W g hH | intro W hH); ((try simp only [Act.put, pA, pB, pC])))); refine hmQ_normal hH ?_ ?_; (focus (exact SubI.h)); (try simp only [Act.put, List.setIfInBounds_toArray, List.set_cons_succ, List.set_cons_zero])); refine hm_end (by kernel_rfl) ?_)); rotate_left 1; (focus (go_wp2_with (first | ((first | (refine hAl tab_ok rfl ?_ hH rfl ?_; (focus (first | exact wN rfl | exact rfl)))); clear hH; (first | intro W g hH | intro W hH); ((try simp only [Act.put, pA, pB, pC])))); refine hmQ_normal hH ?_ ?_; (focus (exact SubI.h)); (try simp only [Act.put, List.setIfInBounds_toArray, List.set_cons_succ, List.set_cons_zero]); (refine hm_one (fuel := 2) 7 rfl (by kernel_rfl) ?_; go_wp2_with (first | ((first | ((with_reducible refine callH hH ?_); refine ⟨?_, ?_, ?_⟩; rotate_left; (focus (first | (with_reducible exact f4 _))))); clear hH; (first | intro W g hH | intro W hH); ((try simp only [Act.put, pA, pB, pC])))); refine hmQ_normal hH ?_ ?_; (focus (exact SubI.h)); (try simp only [Act.put, List.setIfInBounds_toArray, List.set_cons_succ, List.set_cons_zero])); (refine hm_takes (fuel := 1) (pk 9 rfl (PickR.nil)) (by kernel_rfl) (by kernel_rfl) (fun _ _ _ _ _ h => h) hH ?_ ?_; (focus (exact SubI.h)); intro hne; (repeat (first | (go_big_quiet_want; (first | (refine qBd tab_ok rfl rfl rfl rfl ?_; refine ⟨?_, ?_, ?_⟩; rotate_left; (focus (repeat (first | exact BR.nil | refine BR.one rfl rfl rfl ?_ | (refine BR.row rfl rfl rfl rfl ?_ ?_; (focus (repeat (first | exact trivial | assumption | exact OkA.z (by kernel_rfl) (by kernel_rfl) | refine ⟨rfl, ?_⟩ | refine ⟨?_, ?_⟩))))))))); (try simp only [Act.put, pA, pB, pC]); go_big_quiet_on) | go_big_quiet_step (fail))); refine hm_nil ?_; clear hne); (refine hm_one (fuel := 0) 11 rfl (by kernel_rfl) ?_; go_wp2_with (first | ((first | (refine iSR tab_ok rfl ?_ rfl hH ?_; (focus (first | exact wN rfl | exact rfl)); refine ⟨_, _, _, _, rfl, rfl, rfl, rfl, rfl, ?_, ?_⟩; (focus (repeat (first | exact trivial | assumption | exact OkA.z (by kernel_rfl) (by kernel_rfl) | refine ⟨rfl, ?_⟩ | refine ⟨?_, ?_⟩))))); clear hH; (first | intro W g hH | intro W hH); ((try simp only [Act.put, pA, pB, pC])))); refine hmQ_normal hH ?_ ?_; (focus (exact SubI.h)); (try simp only [Act.put, List.setIfInBounds_toArray, List.set_cons_succ, List.set_cons_zero])); refine hm_end (by kernel_rfl) ?_)))
      all_goals
        go_wp2_with (first | ((first | (refine iL tab_ok rfl ?_ rfl hH ?_; (focus (first | exact wN rfl | exact rfl)); refine ⟨_, _, rfl, rfl, ?_⟩)); clear hH; (first | intro W g hH | intro W hH); ((try simp only [Act.put, pA, pB, pC]))))
        have HL3 := Lib.hid (show rRecL s n f' (j + 1) (k + 20 + 16 * m + 4 * b1) (X.map Rv.r) = res by have := HL2.out; rwa [← hokv.out] at this)
        refine ⟨⟨j + 1, k + 20 + 16 * m + 4 * b1, f', X, D ++ D', go, cc, q, J, by simp, by push_cast; rfl, rfl, HL3, by have := HF.out; omega, by omega, hke, by have := HXj.out; omega, own_app HD hD', in_app HXD, hG, oJ, hH.sub (SubH.drop SubH.refl)⟩, by simp [intOf]; omega⟩
    have e7 : decide ((b0 : Int) < 7) = true := decide_eq_true (by omega)
    cases gb
    · have hokv := Lib.hid (show false = (decide (0 < b0) && (decide (b0 < 7) && false)) by rw [Bool.and_false, Bool.and_false])
      have HL2 := Lib.hid hL
      clear hL
      clear i1 n2
      ((with_reducible refine regM hH (SubH.refl) (by kernel_rfl) ?_); (clear hH; intro W hH); (refine hm_takes (fuel := 4) (pk 0 rfl (pk 1 rfl (pk 2 rfl (pk 3 rfl (pk 4 rfl (pk 5 rfl (pk 6 rfl (pk 8 rfl (PickR.nil))))))))) (by kernel_rfl) (by kernel_rfl) (fun _ _ _ _ _ h => h) hH ?_ ?_; (focus (exact SubI.h)); intro hne; (repeat (go_big_quiet_step (fail))); refine hm_nil ?_; clear hne); refine hm_two (fuel := 3) 7 10 rfl rfl (by kernel_rfl) ?_ ?_; (focus (go_wp2_with (first | ((first | ((with_reducible refine callH hH ?_); refine ⟨?_, ?_, ?_⟩; rotate_left; (focus (first | (with_reducible exact f4 _))))); clear hH; (first | intro W g hH | intro W hH); ((try simp only [Act.put, pA, pB, pC])))); refine hmQ_normal hH ?_ ?_; (focus (exact SubI.h)); (try simp only [Act.put, List.setIfInBounds_toArray, List.set_cons_succ, List.set_cons_zero]); (refine hm_takes (fuel := 2) (pk 9 rfl (PickR.nil)) (by kernel_rfl) (by kernel_rfl) (fun _ _ _ _ _ h => h) hH ?_ ?_; (focus (exact SubI.h)); intro hne; (repeat (first | (go_big_quiet_want; (first | (refine qBd tab_ok rfl rfl rfl rfl ?_; refine ⟨?_, ?_, ?_⟩; rotate_left; (focus (repeat (first | exact BR.nil | refine BR.one rfl rfl rfl ?_ | (refine BR.row rfl rfl rfl rfl ?_ ?_; (focus (repeat (first | exact trivial | assumption | exact OkA.z (by kernel_rfl) (by kernel_rfl) | refine ⟨rfl, ?_⟩ | refine ⟨?_, ?_⟩))))))))); (try simp only [Act.put, pA, pB, pC]); go_big_quiet_on) | go_big_quiet_step (fail))); refine hm_nil ?_; clear hne); (refine hm_one (fuel := 1) 10 rfl (by kernel_rfl) ?_; go_wp2_with (first | ((first | (refine hAl tab_ok rfl ?_ hH rfl ?_; (focus (first | exact wN rfl | exact rfl)))); clear hH; (first | intro W g hH | intro W hH); ((try simp only [Act.put, pA, pB, pC])))); refine hmQ_normal hH ?_ ?_; (focus (exact SubI.h)); (try simp only [Act.put, List.setIfInBounds_toArray, List.set_cons_succ, List.set_cons_zero])); (refine hm_one (fuel := 0) 11 rfl (by kernel_rfl) ?_; go_wp2_with (first | ((first | (refine iSR tab_ok rfl ?_ rfl hH ?_; (focus (first | exact wN rfl | exact rfl)); refine ⟨_, _, _, _, rfl, rfl, rfl, rfl, rfl, ?_, ?_⟩; (focus (repeat (first | exact trivial | assumption | exact OkA.z (by kernel_rfl) (by kernel_rfl) | refine ⟨rfl, ?_⟩ | refine ⟨?_, ?_⟩))))); clear hH; (first | intro W g hH | intro W hH); ((try simp only [Act.put, pA, pB, pC])))); refine hmQ_normal hH ?_ ?_; (focus (exact SubI.h)); (try simp only [Act.put, List.setIfInBounds_toArray, List.set_cons_succ, List.set_cons_zero])); refine hm_end (by kernel_rfl) ?_)); rotate_left 1; (focus (go_wp2_with (first | ((first | (refine hAl tab_ok rfl ?_ hH rfl ?_; (focus (first | exact wN rfl | exact rfl)))); clear hH; (first | intro W g hH | intro W hH); ((try simp only [Act.put, pA, pB, pC])))); refine hmQ_normal hH ?_ ?_; (focus (exact SubI.h)); (try simp only [Act.put, List.setIfInBounds_toArray, List.set_cons_succ, List.set_cons_zero]); (refine hm_one (fuel := 2) 7 rfl (by kernel_rfl) ?_; go_wp2_with (first | ((first | ((with_reducible refine callH hH ?_); refine ⟨?_, ?_, ?_⟩; rotate_left; (focus (first | (with_reducible exact f4 _))))); clear hH; (first | intro W g hH | intro W hH); ((try simp only [Act.put, pA, pB, pC])))); refine hmQ_normal hH ?_ ?_; (focus (exact SubI.h)); (try simp only [Act.put, List.setIfInBounds_toArray, List.set_cons_succ, List.set_cons_zero])); (refine hm_takes (fuel := 1) (pk 9 rfl (PickR.nil)) (by kernel_rfl) (by kernel_rfl) (fun _ _ _ _ _ h => h) hH ?_ ?_; (focus (exact SubI.h)); intro hne; (repeat (first | (go_big_quiet_want; (first | (refine qBd tab_ok rfl rfl rfl rfl ?_; refine ⟨?_, ?_, ?_⟩; rotate_left; (focus (repeat (first | exact BR.nil | refine BR.one rfl rfl rfl ?_ | (refine BR.row rfl rfl rfl rfl ?_ ?_; (focus (repeat (first | exact trivial | assumption | exact OkA.z (by kernel_rfl) (by kernel_rfl) | refine ⟨rfl, ?_⟩ | refine ⟨?_, ?_⟩))))))))); (try simp only [Act.put, pA, pB, pC]); go_big_quiet_on) | go_big_quiet_step (fail))); refine hm_nil ?_; clear hne); (refine hm_one (fuel := 0) 11 rfl (by kernel_rfl) ?_; go_wp2_with (first | ((first | (refine iSR tab_ok rfl ?_ rfl hH ?_; (focus (first | exact wN rfl | exact rfl)); refine ⟨_, _, _, _, rfl, rfl, rfl, rfl, rfl, ?_, ?_⟩; (focus (repeat (first | exact trivial | assumption | exact OkA.z (by kernel_rfl) (by kernel_rfl) | refine ⟨rfl, ?_⟩ | refine ⟨?_, ?_⟩))))); clear hH; (first | intro W g hH | intro W hH); ((try simp only [Act.put, pA, pB, pC])))); refine hmQ_normal hH ?_ ?_; (focus (exact SubI.h)); (try simp only [Act.put, List.setIfInBounds_toArray, List.set_cons_succ, List.set_cons_zero])); refine hm_end (by kernel_rfl) ?_)))
      all_goals
        go_wp2_with (first | ((first | (refine iL tab_ok rfl ?_ rfl hH ?_; (focus (first | exact wN rfl | exact rfl)); refine ⟨_, _, rfl, rfl, ?_⟩) | ((with_reducible refine callH hH ?_); refine ⟨?_, ?_, ?_⟩; rotate_left; (focus (first | (with_reducible exact f7 _))))); clear hH; (first | intro W g hH | intro W hH); ((try simp only [Act.put, pA, pB, pC]))))
        have HL3 := Lib.hid (show rRecL s n f' (j + 1) (k + 20 + 16 * m + 4 * b1) (X.map Rv.r) = res by have := HL2.out; rwa [← hokv.out] at this)
        refine ⟨⟨j + 1, k + 20 + 16 * m + 4 * b1, f', X, D ++ D', go, cc, q, J, by simp, by push_cast; rfl, rfl, HL3, by have := HF.out; omega, by omega, hke, by have := HXj.out; omega, own_app HD hD', in_app HXD, hG, oJ, hH.sub (SubH.drop SubH.refl)⟩, by simp [intOf]; omega⟩
    · have hokv := Lib.hid (show true = (decide (0 < b0) && (decide (b0 < 7) && true)) by rw [decide_eq_true h0, decide_eq_true h7]; rfl)
      have HL2 := Lib.hid hL
      clear hL
      clear i1 n2
      ((with_reducible refine regM hH (SubH.refl) (by kernel_rfl) ?_); (clear hH; intro W hH); (refine hm_takes (fuel := 4) (pk 0 rfl (pk 1 rfl (pk 2 rfl (pk 3 rfl (pk 4 rfl (pk 5 rfl (pk 6 rfl (pk 8 rfl (PickR.nil))))))))) (by kernel_rfl) (by kernel_rfl) (fun _ _ _ _ _ h => h) hH ?_ ?_; (focus (exact SubI.h)); intro hne; (repeat (go_big_quiet_step (fail))); refine hm_nil ?_; clear hne); refine hm_two (fuel := 3) 7 10 rfl rfl (by kernel_rfl) ?_ ?_; (focus (go_wp2_with (first | ((first | ((with_reducible refine callH hH ?_); refine ⟨?_, ?_, ?_⟩; rotate_left; (focus (first | (with_reducible exact f4 _))))); clear hH; (first | intro W g hH | intro W hH); ((try simp only [Act.put, pA, pB, pC])))); refine hmQ_normal hH ?_ ?_; (focus (exact SubI.h)); (try simp only [Act.put, List.setIfInBounds_toArray, List.set_cons_succ, List.set_cons_zero]); (refine hm_takes (fuel := 2) (pk 9 rfl (PickR.nil)) (by kernel_rfl) (by kernel_rfl) (fun _ _ _ _ _ h => h) hH ?_ ?_; (focus (exact SubI.h)); intro hne; (repeat (first | (go_big_quiet_want; (first | (refine qBd tab_ok rfl rfl rfl rfl ?_; refine ⟨?_, ?_, ?_⟩; rotate_left; (focus (repeat (first | exact BR.nil | refine BR.one rfl rfl rfl ?_ | (refine BR.row rfl rfl rfl rfl ?_ ?_; (focus (repeat (first | exact trivial | assumption | exact OkA.z (by kernel_rfl) (by kernel_rfl) | refine ⟨rfl, ?_⟩ | refine ⟨?_, ?_⟩))))))))); (try simp only [Act.put, pA, pB, pC]); go_big_quiet_on) | go_big_quiet_step (fail))); refine hm_nil ?_; clear hne); (refine hm_one (fuel := 1) 10 rfl (by kernel_rfl) ?_; go_wp2_with (first | ((first | (refine hAl tab_ok rfl ?_ hH rfl ?_; (focus (first | exact wN rfl | exact rfl)))); clear hH; (first | intro W g hH | intro W hH); ((try simp only [Act.put, pA, pB, pC])))); refine hmQ_normal hH ?_ ?_; (focus (exact SubI.h)); (try simp only [Act.put, List.setIfInBounds_toArray, List.set_cons_succ, List.set_cons_zero])); (refine hm_one (fuel := 0) 11 rfl (by kernel_rfl) ?_; go_wp2_with (first | ((first | (refine iSR tab_ok rfl ?_ rfl hH ?_; (focus (first | exact wN rfl | exact rfl)); refine ⟨_, _, _, _, rfl, rfl, rfl, rfl, rfl, ?_, ?_⟩; (focus (repeat (first | exact trivial | assumption | exact OkA.z (by kernel_rfl) (by kernel_rfl) | refine ⟨rfl, ?_⟩ | refine ⟨?_, ?_⟩))))); clear hH; (first | intro W g hH | intro W hH); ((try simp only [Act.put, pA, pB, pC])))); refine hmQ_normal hH ?_ ?_; (focus (exact SubI.h)); (try simp only [Act.put, List.setIfInBounds_toArray, List.set_cons_succ, List.set_cons_zero])); refine hm_end (by kernel_rfl) ?_)); rotate_left 1; (focus (go_wp2_with (first | ((first | (refine hAl tab_ok rfl ?_ hH rfl ?_; (focus (first | exact wN rfl | exact rfl)))); clear hH; (first | intro W g hH | intro W hH); ((try simp only [Act.put, pA, pB, pC])))); refine hmQ_normal hH ?_ ?_; (focus (exact SubI.h)); (try simp only [Act.put, List.setIfInBounds_toArray, List.set_cons_succ, List.set_cons_zero]); (refine hm_one (fuel := 2) 7 rfl (by kernel_rfl) ?_; go_wp2_with (first | ((first | ((with_reducible refine callH hH ?_); refine ⟨?_, ?_, ?_⟩; rotate_left; (focus (first | (with_reducible exact f4 _))))); clear hH; (first | intro W g hH | intro W hH); ((try simp only [Act.put, pA, pB, pC])))); refine hmQ_normal hH ?_ ?_; (focus (exact SubI.h)); (try simp only [Act.put, List.setIfInBounds_toArray, List.set_cons_succ, List.set_cons_zero])); (refine hm_takes (fuel := 1) (pk 9 rfl (PickR.nil)) (by kernel_rfl) (by kernel_rfl) (fun _ _ _ _ _ h => h) hH ?_ ?_; (focus (exact SubI.h)); intro hne; (repeat (first | (go_big_quiet_want; (first | (refine qBd tab_ok rfl rfl rfl rfl ?_; refine ⟨?_, ?_, ?_⟩; rotate_left; (focus (repeat (first | exact BR.nil | refine BR.one rfl rfl rfl ?_ | (refine BR.row rfl rfl rfl rfl ?_ ?_; (focus (repeat (first | exact trivial | assumption | exact OkA.z (by kernel_rfl) (by kernel_rfl) | refine ⟨rfl, ?_⟩ | refine ⟨?_, ?_⟩))))))))); (try simp only [Act.put, pA, pB, pC]); go_big_quiet_on) | go_big_quiet_step (fail))); refine hm_nil ?_; clear hne); (refine hm_one (fuel := 0) 11 rfl (by kernel_rfl) ?_; go_wp2_with (first | ((first | (refine iSR tab_ok rfl ?_ rfl hH ?_; (focus (first | exact wN rfl | exact rfl)); refine ⟨_, _, _, _, rfl, rfl, rfl, rfl, rfl, ?_, ?_⟩; (focus (repeat (first | exact trivial | assumption | exact OkA.z (by kernel_rfl) (by kernel_rfl) | refine ⟨rfl, ?_⟩ | refine ⟨?_, ?_⟩))))); clear hH; (first | intro W g hH | intro W hH); ((try simp only [Act.put, pA, pB, pC])))); refine hmQ_normal hH ?_ ?_; (focus (exact SubI.h)); (try simp only [Act.put, List.setIfInBounds_toArray, List.set_cons_succ, List.set_cons_zero])); refine hm_end (by kernel_rfl) ?_)))
      all_goals
        go_wp2_with (first | ((refine hSl tab_ok rfl ?_ rfl tabs_ok rfl rfl rfl rfl rfl hH ?_; (focus (first | exact wN rfl | exact rfl)); refine ⟨?_, ?_, ?_⟩; rotate_left; (focus (repeat (first | exact BR.nil | refine BR.one rfl rfl rfl ?_ | (refine BR.row rfl rfl rfl rfl ?_ ?_; (focus (repeat (first | exact trivial | assumption | exact OkA.z (by kernel_rfl) (by kernel_rfl) | refine ⟨rfl, ?_⟩ | refine ⟨?_, ?_⟩))))))); clear hH; intro W g hH; (try simp only [Act.put, pA, pB, pC]))) | (((first | (refine hApp 2 0 tab_ok tabs_ok rfl rfl rfl rfl rfl rfl rfl hH rfl rfl rfl rfl ?_; refine ⟨?_, ?_, ?_⟩; (focus assumption); (focus (first | omega | (simp; omega))))); clear hH; intro W g c p q J hG hL hJ hH; (try simp only [putH, fls, List.append_nil] at hH hL); (try simp only [Act.put, pA, pB, pC]))) | ((first | (refine iL tab_ok rfl ?_ rfl hH ?_; (focus (first | exact wN rfl | exact rfl)); refine ⟨_, _, rfl, rfl, ?_⟩) | ((with_reducible refine callH hH ?_); refine ⟨?_, ?_, ?_⟩; rotate_left; (focus (first | (with_reducible exact f7 _))))); clear hH; (first | intro W g hH | intro W hH); ((try simp only [Act.put, pA, pB, pC]))))
        have HL3 := Lib.hid (show rRecL s n f' (j + 1) (k + 20 + 16 * m + 4 * b1) (X.map Rv.r ++ [⟨b0, a, L⟩]) = res by have := HL2.out; rwa [← hokv.out] at this)
        have hp := hG.hp
        have hq := hG.hq
        have hle := hG.le
        have hmo := hG.most
        have e1 : (X ++ [(⟨⟨b0, a, L⟩, sp, sc⟩ : Rv)]).length = X.length + 1 := by simp
        refine ⟨⟨j + 1, k + 20 + 16 * m + 4 * b1, f', X ++ [⟨⟨b0, a, L⟩, sp, sc⟩], D ++ D', g, c, q, J, by simp, by push_cast; rfl, by simp, Lib.hid (by rw [List.map_append]; exact HL3.out), by have := HF.out; omega, by omega, hke, by have := HXj.out; simp; omega, own_app HD hD', in_snoc HXD hA, by rw [e1]; exact ⟨rfl, by rw [← hq, hp], hle, hmo⟩, hJ, ?_⟩, by simp [intOf]; omega⟩
        rw [show (X ++ [(⟨⟨b0, a, L⟩, sp, sc⟩ : Rv)]).length * 19 = p by rw [hp, e1], show rvsL (X ++ [(⟨⟨b0, a, L⟩, sp, sc⟩ : Rv)]) = rvsL X ++ (.int .i64 b0 :: (A ++ [.slice sp L.length sc])) by rw [rvsL_snoc, HA'.out]; rfl]
        exact hH.sub (SubH.drop (SubH.drop SubH.refl))
end
end Go.Proofs.Ytealimfmognglaa
