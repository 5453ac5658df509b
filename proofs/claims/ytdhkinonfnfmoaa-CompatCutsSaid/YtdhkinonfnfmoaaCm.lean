/-
  Contracts of packages compat, acequiaref16: records of talks, copies.
-/
import Derived.Test.YtdhkinonfnfmoaaTf
import Derived.Test.YtdhkinonfnfmoaaTs
import Derived.Test.YtdhkinonfnfmoaaAo
import Derived.Test.YtdhkinonfnfmoaaCompat
namespace Go.Proofs.Ytdhkinonfnfmoaa
open Go.ChangeShapes Go.WideShapes Go.ChangeAt Go.RowKit
set_option linter.unusedVariables false
set_option linter.unusedSimpArgs false
attribute [local irreducible] wpList

theorem AdsAt.cells {w : World} {q : Addr} {L : List Ad} (h : AdsAt w (some q) L) : OldS w q (adsL L) := by
  intro j u hj
  have hlt : j < L.length * 17 := by rw [← adsL_len]; exact (List.getElem?_eq_some_iff.1 hj).1
  have hi : j / 17 < L.length := by omega
  obtain ⟨q', h1, h2⟩ := h.2 _ hi
  injection h1 with h1
  subst h1
  obtain ⟨pre, post, e1, e2⟩ := adsL_at hi
  have hr : j % 17 < 17 := Nat.mod_lt _ (by omega)
  have hj2 : (fls [.many (adL L[j / 17]) 17])[j % 17]? = some u := by
    rw [e1, List.getElem?_append_right (by omega), List.getElem?_append_left (by rw [fls1, adL_len]; omega)] at hj
    rwa [show j - pre.length = j % 17 by omega] at hj
  have := h2.1 _ _ hj2
  have e : (q.add (j / 17 * 17)).add (j % 17) = q.add j := by
    have e3 : j / 17 * 17 + j % 17 = j := by omega
    generalize j / 17 * 17 = x at *
    generalize j % 17 = y at *
    subst e3
    unfold Addr.add
    by_cases hx : x = 0 <;> by_cases hy : y = 0 <;> simp [hx, hy, Nat.add_assoc]
  rwa [e] at this
def ClonePost (w : World) (L : List Ad) (e : Ending) (w' : World) : Prop := ∃ p c D, e = .returned (.slice p L.length c) ∧ Made w w' D ∧ ∀ B w0 W, Hp B w0 W D → AdsAt W p L
theorem ClonePost.mk {w : World} {L : List Ad} {e : Ending} {w' : World} {p : Option Addr} {c : Nat} {D : HB} (h1 : e = .returned (.slice p L.length c)) (h2 : Made w w' D) (h3 : ∀ B w0 W, Hp B w0 W D → AdsAt W p L) : ClonePost w L e w' := ⟨p, c, D, h1, h2, h3⟩
section
variable {w : World} {p : Option Addr} {q : Addr} {c : Nat} {L : List Ad}
theorem clone_any (h : AdsAt w p L) (hl : L.length ≤ 1000) : Calls Try.prog 38 #[.slice p L.length c] w fun e w' => ClonePost w L e w' := by
  have hH := Hp.refl w
  cases p with
  | none =>
    have e0 : L = [] := by
      cases L with
      | nil => rfl
      | cons a L => obtain ⟨q, h1, _⟩ := h.2 0 (by simp); cases h1
    subst e0
    clear h
    have eS : ∀ w, (binOp .eql 30 (.slice none 0 c) (.slice none 0 0)).run Try.prog w = .ok (.bool true) w := fun w => Go.Lib.run_eql_slice_nil w _ _ none 0 c _ _ Try.underlying30
    go_enter Try.func38, Try.ntmps38
    go_wp2_with (first | ((first | (refine gL rfl ?_; first | (refine hL1 tab_ok 0 rfl ?_ rfl hH rfl rfl rfl rfl ?_; (focus (first | exact wN rfl | exact rfl))) | (refine hL1 tab_ok 1 rfl ?_ rfl hH rfl rfl rfl rfl ?_; (focus (first | exact wN rfl | exact rfl))) | (refine hLR tab_ok 0 rfl ?_ rfl hH rfl rfl rfl rfl ?_; (focus (first | exact wN rfl | exact rfl))) | (refine hLR tab_ok 1 rfl ?_ rfl hH rfl rfl rfl rfl ?_; (focus (first | exact wN rfl | exact rfl))) | (refine hL1i tab_ok 0 rfl ?_ rfl hH rfl rfl rfl rfl ?_; (focus (first | exact wN rfl | exact rfl)); refine ⟨?_, ?_, ?_⟩; rotate_left; (focus assumption)) | (refine hL1i tab_ok 1 rfl ?_ rfl hH rfl rfl rfl rfl ?_; (focus (first | exact wN rfl | exact rfl)); refine ⟨?_, ?_, ?_⟩; rotate_left; (focus assumption))) | (refine gS rfl ?_; first | (refine hS1 tab_ok 0 rfl ?_ rfl rfl hH rfl rfl rfl rfl rfl ?_; (focus (first | exact wN rfl | exact rfl))) | (refine hS1 tab_ok 1 rfl ?_ rfl rfl hH rfl rfl rfl rfl rfl ?_; (focus (first | exact wN rfl | exact rfl))) | (refine hSR tab_ok 0 rfl ?_ rfl rfl hH rfl rfl rfl rfl rfl ?_ ?_; (focus (first | exact wN rfl | exact rfl)); (focus (repeat (first | exact trivial | assumption | exact OkA.z (by kernel_rfl) (by kernel_rfl) | refine ⟨rfl, ?_⟩ | refine ⟨?_, ?_⟩)))) | (refine hSR tab_ok 1 rfl ?_ rfl rfl hH rfl rfl rfl rfl rfl ?_ ?_; (focus (first | exact wN rfl | exact rfl)); (focus (repeat (first | exact trivial | assumption | exact OkA.z (by kernel_rfl) (by kernel_rfl) | refine ⟨rfl, ?_⟩ | refine ⟨?_, ?_⟩))))) | (refine hAl tab_ok rfl ?_ hH rfl ?_; (focus (first | exact wN rfl | exact rfl))) | (refine hBx1 rfl ?_ rfl hH ?_; (focus (first | exact wN rfl | exact rfl))) | (refine hBx rfl ?_ rfl hH ?_ ?_; (focus (first | exact wN rfl | exact rfl)); (focus (repeat (first | exact trivial | assumption | exact OkA.z (by kernel_rfl) (by kernel_rfl) | refine ⟨rfl, ?_⟩ | refine ⟨?_, ?_⟩)))) | (refine hBd tab_ok rfl ?_ rfl rfl rfl hH ?_; (focus (first | exact wN rfl | exact rfl)); refine ⟨?_, ?_, ?_⟩; rotate_left; (focus (repeat (first | exact BR.nil | refine BR.one rfl rfl rfl ?_ | (refine BR.row rfl rfl rfl rfl ?_ ?_; (focus (repeat (first | exact trivial | assumption | exact OkA.z (by kernel_rfl) (by kernel_rfl) | refine ⟨rfl, ?_⟩ | refine ⟨?_, ?_⟩))))))))); clear hH; (first | intro W g hH | intro W hH); (try simp only [Act.put, List.setIfInBounds_toArray, List.set_cons_succ, List.set_cons_zero])))
    go_ret
    exact ClonePost.mk (p := none) (c := 0) (D := []) rfl ⟨hH, by simp⟩ (fun _ _ _ _ => AdsAt.nil)
  | some q =>
    have HC := Lib.hid h.cells
    have oA := adsL_ok L
    clear h
    have eS : ∀ w, (binOp .eql 30 (.slice (some q) L.length c) (.slice none 0 0)).run Try.prog w = .ok (.bool false) w := fun w => Go.Lib.run_eql_slice_nil w _ _ (some q) L.length c _ _ Try.underlying30
    go_enter Try.func38, Try.ntmps38
    generalize hA : adsL L = A at *
    have HA := Lib.hid hA
    clear hA
    go_wp2_with (first | ((refine hSl0 tab_ok rfl ?_ tabs_ok rfl rfl rfl hH ?_; (focus (first | exact wN rfl | exact rfl)); clear hH; intro W g hH; (try simp only [Act.put, List.setIfInBounds_toArray, List.set_cons_succ, List.set_cons_zero]))) | ((refine hAppO 0 tab_ok tabs_ok rfl rfl rfl rfl rfl rfl rfl hH rfl rfl ?_; refine ⟨A, (HC.out.below hH.below), oA, (show Grow 17 0 0 0 0 from ⟨rfl, rfl, Nat.le_refl _, by simp [maxLen]⟩), ?_, ?_⟩; (focus (first | omega | (simp; omega))); clear hH; intro W g c p q J hG hL hJ hH; (try simp only [putH, fls, List.append_nil, List.nil_append] at hH hL); (try simp only [Act.put, List.setIfInBounds_toArray, List.set_cons_succ, List.set_cons_zero]))) | ((first | (refine gL rfl ?_; first | (refine hL1 tab_ok 0 rfl ?_ rfl hH rfl rfl rfl rfl ?_; (focus (first | exact wN rfl | exact rfl))) | (refine hL1 tab_ok 1 rfl ?_ rfl hH rfl rfl rfl rfl ?_; (focus (first | exact wN rfl | exact rfl))) | (refine hLR tab_ok 0 rfl ?_ rfl hH rfl rfl rfl rfl ?_; (focus (first | exact wN rfl | exact rfl))) | (refine hLR tab_ok 1 rfl ?_ rfl hH rfl rfl rfl rfl ?_; (focus (first | exact wN rfl | exact rfl))) | (refine hL1i tab_ok 0 rfl ?_ rfl hH rfl rfl rfl rfl ?_; (focus (first | exact wN rfl | exact rfl)); refine ⟨?_, ?_, ?_⟩; rotate_left; (focus assumption)) | (refine hL1i tab_ok 1 rfl ?_ rfl hH rfl rfl rfl rfl ?_; (focus (first | exact wN rfl | exact rfl)); refine ⟨?_, ?_, ?_⟩; rotate_left; (focus assumption))) | (refine gS rfl ?_; first | (refine hS1 tab_ok 0 rfl ?_ rfl rfl hH rfl rfl rfl rfl rfl ?_; (focus (first | exact wN rfl | exact rfl))) | (refine hS1 tab_ok 1 rfl ?_ rfl rfl hH rfl rfl rfl rfl rfl ?_; (focus (first | exact wN rfl | exact rfl))) | (refine hSR tab_ok 0 rfl ?_ rfl rfl hH rfl rfl rfl rfl rfl ?_ ?_; (focus (first | exact wN rfl | exact rfl)); (focus (repeat (first | exact trivial | assumption | exact OkA.z (by kernel_rfl) (by kernel_rfl) | refine ⟨rfl, ?_⟩ | refine ⟨?_, ?_⟩)))) | (refine hSR tab_ok 1 rfl ?_ rfl rfl hH rfl rfl rfl rfl rfl ?_ ?_; (focus (first | exact wN rfl | exact rfl)); (focus (repeat (first | exact trivial | assumption | exact OkA.z (by kernel_rfl) (by kernel_rfl) | refine ⟨rfl, ?_⟩ | refine ⟨?_, ?_⟩))))) | (refine hAl tab_ok rfl ?_ hH rfl ?_; (focus (first | exact wN rfl | exact rfl))) | (refine hBx1 rfl ?_ rfl hH ?_; (focus (first | exact wN rfl | exact rfl))) | (refine hBx rfl ?_ rfl hH ?_ ?_; (focus (first | exact wN rfl | exact rfl)); (focus (repeat (first | exact trivial | assumption | exact OkA.z (by kernel_rfl) (by kernel_rfl) | refine ⟨rfl, ?_⟩ | refine ⟨?_, ?_⟩)))) | (refine hBd tab_ok rfl ?_ rfl rfl rfl hH ?_; (focus (first | exact wN rfl | exact rfl)); refine ⟨?_, ?_, ?_⟩; rotate_left; (focus (repeat (first | exact BR.nil | refine BR.one rfl rfl rfl ?_ | (refine BR.row rfl rfl rfl rfl ?_ ?_; (focus (repeat (first | exact trivial | assumption | exact OkA.z (by kernel_rfl) (by kernel_rfl) | refine ⟨rfl, ?_⟩ | refine ⟨?_, ?_⟩))))))))); clear hH; (first | intro W g hH | intro W hH); (try simp only [Act.put, List.setIfInBounds_toArray, List.set_cons_succ, List.set_cons_zero])))
    go_ret
    have hl2 : L.length ≤ 9223372036854775807 := by omega
    rw [← HA.out] at hH
    exact ClonePost.mk (p := some ⟨g, 0, none⟩) (c := c) (D := [(g, 29, true, [.many (adsL L) p, .many J q])]) (by simp) ⟨hH, by simp⟩ (fun B w0 W h => adsAt_row hl2 (by have := (h.rows.mem (i := 0) rfl).1; rwa [fls_two] at this))
theorem hClone {B : Nat} {w0 W : World} {H : HB} {Q : Ending → World → Prop} (hH : Hp B w0 W H) (h : AdsAt W p L) (hl : L.length ≤ 1000) (hR : ∀ W' p c D, Hid (∀ B w0 W, Hp B w0 W D → AdsAt W p L) → Hid (∀ r ∈ D, r.2.2.1 = true) → Hp B w0 W' (H ++ D) → Q (.returned (.slice p L.length c)) W') :
    Calls Try.prog 38 #[.slice p L.length c] W Q :=
  (clone_any h hl).mono fun _ _ ⟨p, c, D, he, hm, hr⟩ => by subst he; exact hR _ p c D (Lib.hid hr) (Lib.hid hm.2) (hH.join hm)
def OwnPost (w : World) (r : Rc) (e : Ending) (w' : World) : Prop := ∃ x D, e = .returned (.agg (fls (rvS x)).toArray) ∧ x.r = r ∧ Made w w' D ∧ ∀ B w0 W, Hp B w0 W D → AdsAt W x.p x.r.src
theorem OwnPost.mk {w : World} {r : Rc} {e : Ending} {w' : World} {x : Rv} {D : HB} (h1 : e = .returned (.agg (fls (rvS x)).toArray)) (h0 : x.r = r) (h2 : Made w w' D) (h3 : ∀ B w0 W, Hp B w0 W D → AdsAt W x.p x.r.src) : OwnPost w r e w' := ⟨x, D, h1, h0, h2, h3⟩
theorem own16_any {x : Rv} (h : AdsAt w x.p x.r.src) (hl : x.r.src.length ≤ 1000) : Calls Try.prog 26 #[.agg (fls [.one (.int .i64 x.r.kind), .many (adL x.r.grp) 17, .one (.slice x.p x.r.src.length x.c)]).toArray] w fun e w' => OwnPost w x.r e w' := by
  obtain ⟨⟨k, G, l⟩, p, c⟩ := x
  simp only at *
  have oG := adL_ok G
  obtain ⟨Y, hY⟩ : ∃ Y, Y = adL G := ⟨_, rfl⟩
  rw [← hY] at oG ⊢
  have HY := Lib.hid hY
  clear hY
  have hH := Hp.refl w
  go_enter Try.func26, Try.ntmps26
  go_wp2_with (first | ((go_at_call 38; refine hClone hH (h.below hH.below) hl ?_; (clear hH; intro W pc cc Dc hc hDc hH); (try simp only [List.cons_append, List.nil_append] at hH); (try simp only [Act.put, List.setIfInBounds_toArray, List.set_cons_succ, List.set_cons_zero]))) | ((first | (refine gL rfl ?_; first | (refine hL1 tab_ok 0 rfl ?_ rfl hH rfl rfl rfl rfl ?_; (focus (first | exact wN rfl | exact rfl))) | (refine hL1 tab_ok 1 rfl ?_ rfl hH rfl rfl rfl rfl ?_; (focus (first | exact wN rfl | exact rfl))) | (refine hL1 tab_ok 2 rfl ?_ rfl hH rfl rfl rfl rfl ?_; (focus (first | exact wN rfl | exact rfl))) | (refine hLR tab_ok 0 rfl ?_ rfl hH rfl rfl rfl rfl ?_; (focus (first | exact wN rfl | exact rfl))) | (refine hLR tab_ok 1 rfl ?_ rfl hH rfl rfl rfl rfl ?_; (focus (first | exact wN rfl | exact rfl))) | (refine hLR tab_ok 2 rfl ?_ rfl hH rfl rfl rfl rfl ?_; (focus (first | exact wN rfl | exact rfl))) | (refine hL1i tab_ok 0 rfl ?_ rfl hH rfl rfl rfl rfl ?_; (focus (first | exact wN rfl | exact rfl)); refine ⟨?_, ?_, ?_⟩; rotate_left; (focus assumption)) | (refine hL1i tab_ok 1 rfl ?_ rfl hH rfl rfl rfl rfl ?_; (focus (first | exact wN rfl | exact rfl)); refine ⟨?_, ?_, ?_⟩; rotate_left; (focus assumption)) | (refine hL1i tab_ok 2 rfl ?_ rfl hH rfl rfl rfl rfl ?_; (focus (first | exact wN rfl | exact rfl)); refine ⟨?_, ?_, ?_⟩; rotate_left; (focus assumption))) | (refine gS rfl ?_; first | (refine hS1 tab_ok 0 rfl ?_ rfl rfl hH rfl rfl rfl rfl rfl ?_; (focus (first | exact wN rfl | exact rfl))) | (refine hS1 tab_ok 1 rfl ?_ rfl rfl hH rfl rfl rfl rfl rfl ?_; (focus (first | exact wN rfl | exact rfl))) | (refine hS1 tab_ok 2 rfl ?_ rfl rfl hH rfl rfl rfl rfl rfl ?_; (focus (first | exact wN rfl | exact rfl))) | (refine hSR tab_ok 0 rfl ?_ rfl rfl hH rfl rfl rfl rfl rfl ?_ ?_; (focus (first | exact wN rfl | exact rfl)); (focus (repeat (first | exact trivial | assumption | exact OkA.z (by kernel_rfl) (by kernel_rfl) | refine ⟨rfl, ?_⟩ | refine ⟨?_, ?_⟩)))) | (refine hSR tab_ok 1 rfl ?_ rfl rfl hH rfl rfl rfl rfl rfl ?_ ?_; (focus (first | exact wN rfl | exact rfl)); (focus (repeat (first | exact trivial | assumption | exact OkA.z (by kernel_rfl) (by kernel_rfl) | refine ⟨rfl, ?_⟩ | refine ⟨?_, ?_⟩)))) | (refine hSR tab_ok 2 rfl ?_ rfl rfl hH rfl rfl rfl rfl rfl ?_ ?_; (focus (first | exact wN rfl | exact rfl)); (focus (repeat (first | exact trivial | assumption | exact OkA.z (by kernel_rfl) (by kernel_rfl) | refine ⟨rfl, ?_⟩ | refine ⟨?_, ?_⟩))))) | (refine hAl tab_ok rfl ?_ hH rfl ?_; (focus (first | exact wN rfl | exact rfl))) | (refine hBx1 rfl ?_ rfl hH ?_; (focus (first | exact wN rfl | exact rfl))) | (refine hBx rfl ?_ rfl hH ?_ ?_; (focus (first | exact wN rfl | exact rfl)); (focus (repeat (first | exact trivial | assumption | exact OkA.z (by kernel_rfl) (by kernel_rfl) | refine ⟨rfl, ?_⟩ | refine ⟨?_, ?_⟩)))) | (refine hBd tab_ok rfl ?_ rfl rfl rfl hH ?_; (focus (first | exact wN rfl | exact rfl)); refine ⟨?_, ?_, ?_⟩; rotate_left; (focus (repeat (first | exact BR.nil | refine BR.one rfl rfl rfl ?_ | (refine BR.row rfl rfl rfl rfl ?_ ?_; (focus (repeat (first | exact trivial | assumption | exact OkA.z (by kernel_rfl) (by kernel_rfl) | refine ⟨rfl, ?_⟩ | refine ⟨?_, ?_⟩))))))))); clear hH; (first | intro W g hH | intro W hH); (try simp only [Act.put, List.setIfInBounds_toArray, List.set_cons_succ, List.set_cons_zero])))
  (first | refine retC Try.results26 tab_ok 0 rfl rfl hH rfl rfl rfl rfl ?_ | refine retC Try.results26 tab_ok 1 rfl rfl hH rfl rfl rfl rfl ?_ | refine retC Try.results26 tab_ok 2 rfl rfl hH rfl rfl rfl rfl ?_)
  exact OwnPost.mk (x := ⟨⟨k, G, l⟩, pc, cc⟩) (D := Dc) (by rw [HY.out]; rfl) rfl ⟨hH.sub (SubH.drop (SubH.drop SubH.refl)), hDc.out⟩ hc.out
theorem hOwn {B : Nat} {w0 W : World} {H : HB} {x : Rv} {Q : Ending → World → Prop} (hH : Hp B w0 W H) (h : AdsAt W x.p x.r.src) (hl : x.r.src.length ≤ 1000) (hR : ∀ W' y D, Hid (y.r = x.r) → Hid (∀ B w0 W, Hp B w0 W D → AdsAt W y.p y.r.src) → Hid (∀ r ∈ D, r.2.2.1 = true) → Hp B w0 W' (H ++ D) → Q (.returned (.agg (fls (rvS y)).toArray)) W') :
    Calls Try.prog 26 #[.agg (fls [.one (.int .i64 x.r.kind), .many (adL x.r.grp) 17, .one (.slice x.p x.r.src.length x.c)]).toArray] W Q :=
  (own16_any h hl).mono fun _ _ ⟨y, D, he, h0, hm, hr⟩ => by subst he; exact hR _ y D (Lib.hid h0) (Lib.hid hr) (Lib.hid hm.2) (hH.join hm)
end
end Go.Proofs.Ytdhkinonfnfmoaa
