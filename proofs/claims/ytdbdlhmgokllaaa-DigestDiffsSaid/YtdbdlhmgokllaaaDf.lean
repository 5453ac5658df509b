/-
  Contracts of acequialaw27: copies of entries.
-/
import Derived.Test.YtdbdlhmgokllaaaDe
import Derived.Test.YtdbdlhmgokllaaaAf
namespace Go.Proofs.Ytdbdlhmgokllaaa
open Go.ChangeShapes Go.WideShapes Go.ChangeAt Go.RowKit
set_option linter.unusedVariables false
set_option linter.unusedSimpArgs false
set_option maxRecDepth 20000
attribute [local irreducible] wpList

def fewE (e : En) : En := { e with src := e.src.take 6 }
section
variable {w : World} {p p' : Option Addr} {c c' : Nat}
def EnPost (w : World) (e : En) (x : Ending) (w' : World) : Prop := ∃ g c q J, x = .returned (.agg (fls (enS e (some ⟨g, 0, none⟩) c)).toArray) ∧ Made w w' [(g, 25, true, [.many (adsL e.src) (e.src.length * 17), .many J q])]
theorem EnPost.mk {w : World} {e : En} {x : Ending} {w' : World} {g c q : Nat} {J : List Value} (h1 : x = .returned (.agg (fls (enS e (some ⟨g, 0, none⟩) c)).toArray)) (h2 : Hp w.heap.size w w' [(g, 25, true, [.many (adsL e.src) (e.src.length * 17), .many J q])]) : EnPost w e x w' := ⟨g, c, q, J, h1, h2, by simp⟩
theorem entry_any {e : En} (h : AdsAt w p e.src) : Calls Try.prog 8 #[.agg (fls (enS e p c)).toArray] w fun x w' => EnPost w (fewE e) x w' := by
  have oG := adL_ok e.grp
  have hH := Hp.refl w
  go_enter Try.func8, Try.ntmps8
  go_wp2_with (first | ((go_at_call 29; refine hAddrs hH (h.below hH.below) ?_; (clear hH; intro W ga ca qa Ja l6 hl6 hH); ((try simp only [Act.put, List.setIfInBounds_toArray, List.set_cons_succ, List.set_cons_zero])))) | ((first | (refine gL rfl ?_; first | (refine hL1 tab_ok 0 rfl ?_ rfl hH rfl rfl rfl rfl ?_; (focus first|exact wN rfl|exact rfl)) | (refine hL1 tab_ok 1 rfl ?_ rfl hH rfl rfl rfl rfl ?_; (focus first|exact wN rfl|exact rfl)) | (refine hL1 tab_ok 2 rfl ?_ rfl hH rfl rfl rfl rfl ?_; (focus first|exact wN rfl|exact rfl)) | (refine hLR tab_ok 0 rfl ?_ rfl hH rfl rfl rfl rfl ?_; (focus first|exact wN rfl|exact rfl)) | (refine hLR tab_ok 1 rfl ?_ rfl hH rfl rfl rfl rfl ?_; (focus first|exact wN rfl|exact rfl)) | (refine hLR tab_ok 2 rfl ?_ rfl hH rfl rfl rfl rfl ?_; (focus first|exact wN rfl|exact rfl)) | (refine hL1i tab_ok 0 rfl ?_ rfl hH rfl rfl rfl rfl ?_; (focus first|exact wN rfl|exact rfl); refine ⟨?_, ?_, ?_⟩; rotate_left; (focus assumption)) | (refine hL1i tab_ok 1 rfl ?_ rfl hH rfl rfl rfl rfl ?_; (focus first|exact wN rfl|exact rfl); refine ⟨?_, ?_, ?_⟩; rotate_left; (focus assumption)) | (refine hL1i tab_ok 2 rfl ?_ rfl hH rfl rfl rfl rfl ?_; (focus first|exact wN rfl|exact rfl); refine ⟨?_, ?_, ?_⟩; rotate_left; (focus assumption))) | (refine gS rfl ?_; first | (refine hS1 tab_ok 0 rfl ?_ rfl rfl hH rfl rfl rfl rfl rfl ?_; (focus first|exact wN rfl|exact rfl)) | (refine hS1 tab_ok 1 rfl ?_ rfl rfl hH rfl rfl rfl rfl rfl ?_; (focus first|exact wN rfl|exact rfl)) | (refine hS1 tab_ok 2 rfl ?_ rfl rfl hH rfl rfl rfl rfl rfl ?_; (focus first|exact wN rfl|exact rfl)) | (refine hSR tab_ok 0 rfl ?_ rfl rfl hH rfl rfl rfl rfl rfl ?_ ?_; (focus first|exact wN rfl|exact rfl); (focus (repeat (first | exact trivial | assumption | exact OkA.z (by kernel_rfl) (by kernel_rfl) | refine ⟨rfl, ?_⟩ | refine ⟨?_, ?_⟩)))) | (refine hSR tab_ok 1 rfl ?_ rfl rfl hH rfl rfl rfl rfl rfl ?_ ?_; (focus first|exact wN rfl|exact rfl); (focus (repeat (first | exact trivial | assumption | exact OkA.z (by kernel_rfl) (by kernel_rfl) | refine ⟨rfl, ?_⟩ | refine ⟨?_, ?_⟩)))) | (refine hSR tab_ok 2 rfl ?_ rfl rfl hH rfl rfl rfl rfl rfl ?_ ?_; (focus first|exact wN rfl|exact rfl); (focus (repeat (first | exact trivial | assumption | exact OkA.z (by kernel_rfl) (by kernel_rfl) | refine ⟨rfl, ?_⟩ | refine ⟨?_, ?_⟩))))) | (refine hAl tab_ok rfl ?_ hH rfl ?_; (focus first|exact wN rfl|exact rfl)) | (refine hBx1 rfl ?_ rfl hH ?_; (focus first|exact wN rfl|exact rfl)) | (refine hBx rfl ?_ rfl hH ?_ ?_; (focus first|exact wN rfl|exact rfl); (focus (repeat (first | exact trivial | assumption | exact OkA.z (by kernel_rfl) (by kernel_rfl) | refine ⟨rfl, ?_⟩ | refine ⟨?_, ?_⟩)))) | (refine hBd tab_ok rfl ?_ rfl rfl rfl hH ?_; (focus first|exact wN rfl|exact rfl); refine ⟨?_, ?_, ?_⟩; rotate_left; (focus (repeat (first | exact BR.nil | refine BR.one rfl rfl rfl ?_ | (refine BR.row rfl rfl rfl rfl ?_ ?_; (focus (repeat (first | exact trivial | assumption | exact OkA.z (by kernel_rfl) (by kernel_rfl) | refine ⟨rfl, ?_⟩ | refine ⟨?_, ?_⟩))))))))); clear hH; (first | intro W g hH | intro W hH); ((try simp only [Act.put, List.setIfInBounds_toArray, List.set_cons_succ, List.set_cons_zero]))))
  (first | refine retC Try.results8 tab_ok 0 rfl rfl hH rfl rfl rfl rfl ?_ | refine retC Try.results8 tab_ok 1 rfl rfl hH rfl rfl rfl rfl ?_ | refine retC Try.results8 tab_ok 2 rfl rfl hH rfl rfl rfl rfl ?_)
  have hT : fewE e = { e with src := l6 } := by unfold fewE; rw [hl6.out]
  rw [hT]
  exact EnPost.mk rfl (hH.sub (by first | exact SubH.keep (SubH.drop (SubH.drop SubH.nil)) | exact SubH.drop (SubH.keep (SubH.drop SubH.nil)) | exact SubH.drop (SubH.drop (SubH.keep SubH.nil))))
theorem hEntry {B : Nat} {w0 W : World} {H : HB} {e : En} {Q : Ending → World → Prop} (hH : Hp B w0 W H) (h : AdsAt W p e.src) (hR : ∀ W' g c q J l6, Hid (l6 = e.src.take 6) → Hp B w0 W' ((g, 25, true, [.many (adsL l6) (l6.length * 17), .many J q]) :: H) → Q (.returned (.agg (fls (enS ⟨e.vlan, e.grp, e.ex, l6⟩ (some ⟨g, 0, none⟩) c)).toArray)) W') :
    Calls Try.prog 8 #[.agg (fls (enS e p c')).toArray] W Q :=
  (entry_any h).mono fun _ _ ⟨g, c, q, J, he, hm⟩ => by subst he; exact hR _ g c q J _ (Lib.hid rfl) (hH.joinF hm)
theorem hEntryS {B : Nat} {w0 W : World} {H : HB} {k : Int} {G : Ad} {b : Bool} {l : List Ad} {Y : List Value} {Q : Ending → World → Prop} (hY : Hid (Y = adL G)) (hH : Hp B w0 W H) (h : AdsAt W p l) (hR : ∀ W' g c q J l6, Hid (l6 = l.take 6) → Hp B w0 W' ((g, 25, true, [.many (adsL l6) (l6.length * 17), .many J q]) :: H) → Q (.returned (.agg (fls [.one (.int .i64 k), .many Y 17, .one (.bool b), .one (.slice (some ⟨g, 0, none⟩) l6.length c)]).toArray)) W') :
    Calls Try.prog 8 #[.agg (fls [.one (.int .i64 k), .many Y 17, .one (.bool b), .one (.slice p l.length c')]).toArray] W Q := by
  obtain rfl := hY.out
  exact hEntry (e := ⟨k, G, b, l⟩) hH h hR
def EnsPost (w : World) (R : List En) (e : Ending) (w' : World) : Prop := ∃ g c D, e = .returned (.slice (some ⟨g, 0, none⟩) R.length c) ∧ Made w w' D ∧ ∀ B w0 W, Hp B w0 W D → EnsAt W (some ⟨g, 0, none⟩) R
theorem EnsPost.mk {w : World} {R : List En} {e : Ending} {w' : World} {g c : Nat} {D : HB} (h1 : e = .returned (.slice (some ⟨g, 0, none⟩) R.length c)) (h2 : Made w w' D) (h3 : ∀ B w0 W, Hp B w0 W D → EnsAt W (some ⟨g, 0, none⟩) R) : EnsPost w R e w' := ⟨g, c, D, h1, h2, h3⟩
set_option maxHeartbeats 1000000 in
theorem ownE_any {R : List En} (hm : R.length ≤ 1000) (h : EnsAt w p R) : Calls Try.prog 10 #[.slice p R.length c] w fun e w' => EnsPost w (R.map fewE) e w' := by
  have HR := Lib.hid h
  clear h
  have hH := Hp.refl w
  go_enter Try.func10, Try.ntmps10
  go_wp2_with (first | ((first | (refine gL rfl ?_; first | (refine hL1 tab_ok 0 rfl ?_ rfl hH rfl rfl rfl rfl ?_; (focus first|exact wN rfl|exact rfl)) | (refine hL1 tab_ok 1 rfl ?_ rfl hH rfl rfl rfl rfl ?_; (focus first|exact wN rfl|exact rfl)) | (refine hLR tab_ok 0 rfl ?_ rfl hH rfl rfl rfl rfl ?_; (focus first|exact wN rfl|exact rfl)) | (refine hLR tab_ok 1 rfl ?_ rfl hH rfl rfl rfl rfl ?_; (focus first|exact wN rfl|exact rfl)) | (refine hL1i tab_ok 0 rfl ?_ rfl hH rfl rfl rfl rfl ?_; (focus first|exact wN rfl|exact rfl); refine ⟨?_, ?_, ?_⟩; rotate_left; (focus assumption)) | (refine hL1i tab_ok 1 rfl ?_ rfl hH rfl rfl rfl rfl ?_; (focus first|exact wN rfl|exact rfl); refine ⟨?_, ?_, ?_⟩; rotate_left; (focus assumption))) | (refine gS rfl ?_; first | (refine hS1 tab_ok 0 rfl ?_ rfl rfl hH rfl rfl rfl rfl rfl ?_; (focus first|exact wN rfl|exact rfl)) | (refine hS1 tab_ok 1 rfl ?_ rfl rfl hH rfl rfl rfl rfl rfl ?_; (focus first|exact wN rfl|exact rfl)) | (refine hSR tab_ok 0 rfl ?_ rfl rfl hH rfl rfl rfl rfl rfl ?_ ?_; (focus first|exact wN rfl|exact rfl); (focus (repeat (first | exact trivial | assumption | exact OkA.z (by kernel_rfl) (by kernel_rfl) | refine ⟨rfl, ?_⟩ | refine ⟨?_, ?_⟩)))) | (refine hSR tab_ok 1 rfl ?_ rfl rfl hH rfl rfl rfl rfl rfl ?_ ?_; (focus first|exact wN rfl|exact rfl); (focus (repeat (first | exact trivial | assumption | exact OkA.z (by kernel_rfl) (by kernel_rfl) | refine ⟨rfl, ?_⟩ | refine ⟨?_, ?_⟩))))) | (refine hAl tab_ok rfl ?_ hH rfl ?_; (focus first|exact wN rfl|exact rfl)) | (refine hBx1 rfl ?_ rfl hH ?_; (focus first|exact wN rfl|exact rfl)) | (refine hBx rfl ?_ rfl hH ?_ ?_; (focus first|exact wN rfl|exact rfl); (focus (repeat (first | exact trivial | assumption | exact OkA.z (by kernel_rfl) (by kernel_rfl) | refine ⟨rfl, ?_⟩ | refine ⟨?_, ?_⟩)))) | (refine hBd tab_ok rfl ?_ rfl rfl rfl hH ?_; (focus first|exact wN rfl|exact rfl); refine ⟨?_, ?_, ?_⟩; rotate_left; (focus (repeat (first | exact BR.nil | refine BR.one rfl rfl rfl ?_ | (refine BR.row rfl rfl rfl rfl ?_ ?_; (focus (repeat (first | exact trivial | assumption | exact OkA.z (by kernel_rfl) (by kernel_rfl) | refine ⟨rfl, ?_⟩ | refine ⟨?_, ?_⟩))))))))); clear hH; (first | intro W g hH | intro W hH); ((try simp only [Act.put, List.setIfInBounds_toArray, List.set_cons_succ, List.set_cons_zero]))))
  have hH := hH.alloc 30 (S := [.many [] 0, .many [] 0]) ⟨⟨rfl, by simp⟩, ⟨rfl, by simp⟩, trivial⟩
  go_loopw [3, 4] (fun s i wr => ∃ (j : Nat) (X : List Ev) (g cc q : Nat) (J : List Value) (D : HB), i = .int .i64 (j : Int) ∧ j ≤ R.length ∧ X.map Ev.e = (R.take j).map fewE ∧ X.length = j ∧ s = .slice (some ⟨g, 0, none⟩) X.length cc ∧ Grow 20 X.length cc (X.length * 20) q ∧ OkA J q ∧ Hp w.heap.size w wr ((g, 30, true, [.many (evsL X) (X.length * 20), .many J q]) :: D) ∧ (∀ r ∈ D, r.2.2.1 = true) ∧ ∀ x ∈ X, ∀ B w0 W, Hp B w0 W D → AdsAt W x.p x.e.src) (fun _ i _ => 1000 - (intOf i).toNat)
  case atStart => exact ⟨0, [], _, 0, 0, [], [], rfl, by omega, rfl, rfl, rfl, ⟨rfl, rfl, Nat.le_refl _, by simp [maxLen]⟩, ⟨rfl, by simp⟩, hH, by simp, by simp⟩
  case round =>
    clear hH
    obtain ⟨j, X, g, cc, q, J, D, rfl, hjR, hX, hXj, rfl, hG, oJ, hH, hD, hXD⟩ := hrel
    have hXD := Lib.hid hXD
    have hD := Lib.hid hD
    by_cases hjl : j < R.length
    · obtain ⟨a, s, c1, ha, fO, fA⟩ := HR.out.get hjl
      subst ha
      have dj : decide ((j : Int) < (R.length : Int)) = true := decide_eq_true (by omega)
      have hTake := Lib.hid (show (R.take (j + 1)).map fewE = X.map Ev.e ++ [fewE R[j]] by rw [hX, ← List.take_append_getElem hjl, List.map_append]; rfl)
      have HXj := Lib.hid hXj
      have hX1 : X.length ≤ 1000 := by omega
      have hj1 : j < 1000 := by omega
      have HjR := Lib.hid hjl
      clear hX HR hXj hjR
      generalize hr : R[j] = r at *
      clear hr
      obtain ⟨k, G, b, l⟩ := r
      unfold enS at fO
      simp only at fO fA hTake
      have oG := adL_ok G
      obtain ⟨Y, hYY⟩ : ∃ Y, Y = adL G := ⟨_, rfl⟩
      rw [← hYY] at fO oG
      have HY := Lib.hid hYY
      clear hYY
      go_wp2_with (first | ((refine gL rfl ?_; refine hLoR tab_ok rfl ?_ rfl hH rfl rfl ?_; (focus first|exact wN rfl|exact rfl); refine ⟨_, fO, ⟨rfl, oG, rfl, rfl, trivial⟩, rfl, ?_⟩; (clear hH; (first | intro W g hH | intro W hH); (try simp only [Act.put, List.setIfInBounds_toArray, List.set_cons_succ, List.set_cons_zero])))) | ((go_at_call 8; refine hEntryS HY hH (fA.below hH.below) ?_; (clear hH; intro W ga ca qa Ja l6 hl6 hH); ((try simp only [Act.put, List.setIfInBounds_toArray, List.set_cons_succ, List.set_cons_zero])))) | ((refine hSl tab_ok rfl ?_ rfl tabs_ok rfl rfl rfl rfl rfl hH ?_; (focus first|exact wN rfl|exact rfl); refine ⟨?_, ?_, ?_⟩; rotate_left; (focus (repeat (first | exact BR.nil | refine BR.one rfl rfl rfl ?_ | (refine BR.row rfl rfl rfl rfl ?_ ?_; (focus (repeat (first | exact trivial | assumption | exact OkA.z (by kernel_rfl) (by kernel_rfl) | refine ⟨rfl, ?_⟩ | refine ⟨?_, ?_⟩))))))); clear hH; intro W g hH; (try simp only [Act.put, List.setIfInBounds_toArray, List.set_cons_succ, List.set_cons_zero]))) | (((first | (refine hApp 2 0 tab_ok tabs_ok rfl rfl rfl rfl rfl rfl rfl hH rfl rfl rfl rfl ?_; refine ⟨?_, ?_, ?_⟩; (focus assumption); (focus (first | omega | (simp; omega))))); clear hH; intro W g c p q J hG hL hJ hH; (try simp only [putH, fls, List.append_nil] at hH hL); (try simp only [Act.put, List.setIfInBounds_toArray, List.set_cons_succ, List.set_cons_zero]))) | ((first | (refine gL rfl ?_; first | (refine hL1 tab_ok 0 rfl ?_ rfl hH rfl rfl rfl rfl ?_; (focus first|exact wN rfl|exact rfl)) | (refine hL1 tab_ok 1 rfl ?_ rfl hH rfl rfl rfl rfl ?_; (focus first|exact wN rfl|exact rfl)) | (refine hL1 tab_ok 2 rfl ?_ rfl hH rfl rfl rfl rfl ?_; (focus first|exact wN rfl|exact rfl)) | (refine hLR tab_ok 0 rfl ?_ rfl hH rfl rfl rfl rfl ?_; (focus first|exact wN rfl|exact rfl)) | (refine hLR tab_ok 1 rfl ?_ rfl hH rfl rfl rfl rfl ?_; (focus first|exact wN rfl|exact rfl)) | (refine hLR tab_ok 2 rfl ?_ rfl hH rfl rfl rfl rfl ?_; (focus first|exact wN rfl|exact rfl)) | (refine hL1i tab_ok 0 rfl ?_ rfl hH rfl rfl rfl rfl ?_; (focus first|exact wN rfl|exact rfl); refine ⟨?_, ?_, ?_⟩; rotate_left; (focus assumption)) | (refine hL1i tab_ok 1 rfl ?_ rfl hH rfl rfl rfl rfl ?_; (focus first|exact wN rfl|exact rfl); refine ⟨?_, ?_, ?_⟩; rotate_left; (focus assumption)) | (refine hL1i tab_ok 2 rfl ?_ rfl hH rfl rfl rfl rfl ?_; (focus first|exact wN rfl|exact rfl); refine ⟨?_, ?_, ?_⟩; rotate_left; (focus assumption))) | (refine gS rfl ?_; first | (refine hS1 tab_ok 0 rfl ?_ rfl rfl hH rfl rfl rfl rfl rfl ?_; (focus first|exact wN rfl|exact rfl)) | (refine hS1 tab_ok 1 rfl ?_ rfl rfl hH rfl rfl rfl rfl rfl ?_; (focus first|exact wN rfl|exact rfl)) | (refine hS1 tab_ok 2 rfl ?_ rfl rfl hH rfl rfl rfl rfl rfl ?_; (focus first|exact wN rfl|exact rfl)) | (refine hSR tab_ok 0 rfl ?_ rfl rfl hH rfl rfl rfl rfl rfl ?_ ?_; (focus first|exact wN rfl|exact rfl); (focus (repeat (first | exact trivial | assumption | exact OkA.z (by kernel_rfl) (by kernel_rfl) | refine ⟨rfl, ?_⟩ | refine ⟨?_, ?_⟩)))) | (refine hSR tab_ok 1 rfl ?_ rfl rfl hH rfl rfl rfl rfl rfl ?_ ?_; (focus first|exact wN rfl|exact rfl); (focus (repeat (first | exact trivial | assumption | exact OkA.z (by kernel_rfl) (by kernel_rfl) | refine ⟨rfl, ?_⟩ | refine ⟨?_, ?_⟩)))) | (refine hSR tab_ok 2 rfl ?_ rfl rfl hH rfl rfl rfl rfl rfl ?_ ?_; (focus first|exact wN rfl|exact rfl); (focus (repeat (first | exact trivial | assumption | exact OkA.z (by kernel_rfl) (by kernel_rfl) | refine ⟨rfl, ?_⟩ | refine ⟨?_, ?_⟩))))) | (refine hAl tab_ok rfl ?_ hH rfl ?_; (focus first|exact wN rfl|exact rfl)) | (refine hBx1 rfl ?_ rfl hH ?_; (focus first|exact wN rfl|exact rfl)) | (refine hBx rfl ?_ rfl hH ?_ ?_; (focus first|exact wN rfl|exact rfl); (focus (repeat (first | exact trivial | assumption | exact OkA.z (by kernel_rfl) (by kernel_rfl) | refine ⟨rfl, ?_⟩ | refine ⟨?_, ?_⟩)))) | (refine hBd tab_ok rfl ?_ rfl rfl rfl hH ?_; (focus first|exact wN rfl|exact rfl); refine ⟨?_, ?_, ?_⟩; rotate_left; (focus (repeat (first | exact BR.nil | refine BR.one rfl rfl rfl ?_ | (refine BR.row rfl rfl rfl rfl ?_ ?_; (focus (repeat (first | exact trivial | assumption | exact OkA.z (by kernel_rfl) (by kernel_rfl) | refine ⟨rfl, ?_⟩ | refine ⟨?_, ?_⟩))))))))); clear hH; (first | intro W g hH | intro W hH); ((try simp only [Act.put, List.setIfInBounds_toArray, List.set_cons_succ, List.set_cons_zero]))))
      have hp := hG.hp
      have hq := hG.hq
      have hle := hG.le
      have hmo := hG.most
      clear hG
      have h6 : l6.length ≤ 6 := by rw [hl6.out, List.length_take]; omega
      refine ⟨⟨j + 1, X ++ [⟨⟨k, G, b, l6⟩, some ⟨ga, 0, none⟩, ca⟩], g, c, q, J, (ga, 25, true, [.many (adsL l6) (l6.length * 17), .many Ja qa]) :: D, by simp, HjR.out, ?_, by simp [HXj.out], by simp, ?_, hJ, ?_, ?_, ?_⟩, by simp [intOf]; omega⟩
      · rw [hTake.out, List.map_append]
        unfold fewE
        rw [← hl6.out]
        rfl
      · have e1 : (X ++ [(⟨⟨k, G, b, l6⟩, some ⟨ga, 0, none⟩, ca⟩ : Ev)]).length = X.length + 1 := by simp
        rw [e1]
        exact ⟨rfl, by rw [← hq, hp], hle, hmo⟩
      · have e1 : (X ++ [(⟨⟨k, G, b, l6⟩, some ⟨ga, 0, none⟩, ca⟩ : Ev)]).length * 20 = p := by rw [hp]; simp
        have e2 : evsL (X ++ [(⟨⟨k, G, b, l6⟩, some ⟨ga, 0, none⟩, ca⟩ : Ev)]) = evsL X ++ (.int .i64 k :: (Y ++ [.bool b, .slice (some ⟨ga, 0, none⟩) l6.length ca])) := by rw [evsL_snoc, HY.out]; rfl
        rw [e1, e2]
        exact (hH.sub (SubH.drop SubH.refl)).perm (List.Perm.swap _ _ _)
      · intro r hr
        rcases List.mem_cons.1 hr with rfl | hr
        · rfl
        · exact hD.out r hr
      · intro x hx B w0 W h
        rcases List.mem_append.1 hx with hx | hx
        · exact hXD.out x hx _ _ _ (h.sub (SubH.drop SubH.refl))
        · obtain rfl := List.mem_singleton.1 hx
          exact adsAt_row (L := l6) (Nat.le_trans h6 (by decide)) (by have := (h.rows.mem (i := 0) rfl).1; rwa [fls_two] at this)
    · have hend := Lib.hid (show R.map fewE = X.map Ev.e by rw [hX, List.take_of_length_le (by omega)])
      have dj : decide ((j : Int) < (R.length : Int)) = false := decide_eq_false (by omega)
      have hXm : X.length ≤ 9223372036854775807 := by omega
      have hjl2 : R.length ≤ j := by omega
      clear hX HR hjl hjR
      go_wp2_with (first | ((first | (refine gL rfl ?_; first | (refine hL1 tab_ok 0 rfl ?_ rfl hH rfl rfl rfl rfl ?_; (focus first|exact wN rfl|exact rfl)) | (refine hL1 tab_ok 1 rfl ?_ rfl hH rfl rfl rfl rfl ?_; (focus first|exact wN rfl|exact rfl)) | (refine hLR tab_ok 0 rfl ?_ rfl hH rfl rfl rfl rfl ?_; (focus first|exact wN rfl|exact rfl)) | (refine hLR tab_ok 1 rfl ?_ rfl hH rfl rfl rfl rfl ?_; (focus first|exact wN rfl|exact rfl)) | (refine hL1i tab_ok 0 rfl ?_ rfl hH rfl rfl rfl rfl ?_; (focus first|exact wN rfl|exact rfl); refine ⟨?_, ?_, ?_⟩; rotate_left; (focus assumption)) | (refine hL1i tab_ok 1 rfl ?_ rfl hH rfl rfl rfl rfl ?_; (focus first|exact wN rfl|exact rfl); refine ⟨?_, ?_, ?_⟩; rotate_left; (focus assumption))) | (refine gS rfl ?_; first | (refine hS1 tab_ok 0 rfl ?_ rfl rfl hH rfl rfl rfl rfl rfl ?_; (focus first|exact wN rfl|exact rfl)) | (refine hS1 tab_ok 1 rfl ?_ rfl rfl hH rfl rfl rfl rfl rfl ?_; (focus first|exact wN rfl|exact rfl)) | (refine hSR tab_ok 0 rfl ?_ rfl rfl hH rfl rfl rfl rfl rfl ?_ ?_; (focus first|exact wN rfl|exact rfl); (focus (repeat (first | exact trivial | assumption | exact OkA.z (by kernel_rfl) (by kernel_rfl) | refine ⟨rfl, ?_⟩ | refine ⟨?_, ?_⟩)))) | (refine hSR tab_ok 1 rfl ?_ rfl rfl hH rfl rfl rfl rfl rfl ?_ ?_; (focus first|exact wN rfl|exact rfl); (focus (repeat (first | exact trivial | assumption | exact OkA.z (by kernel_rfl) (by kernel_rfl) | refine ⟨rfl, ?_⟩ | refine ⟨?_, ?_⟩))))) | (refine hAl tab_ok rfl ?_ hH rfl ?_; (focus first|exact wN rfl|exact rfl)) | (refine hBx1 rfl ?_ rfl hH ?_; (focus first|exact wN rfl|exact rfl)) | (refine hBx rfl ?_ rfl hH ?_ ?_; (focus first|exact wN rfl|exact rfl); (focus (repeat (first | exact trivial | assumption | exact OkA.z (by kernel_rfl) (by kernel_rfl) | refine ⟨rfl, ?_⟩ | refine ⟨?_, ?_⟩)))) | (refine hBd tab_ok rfl ?_ rfl rfl rfl hH ?_; (focus first|exact wN rfl|exact rfl); refine ⟨?_, ?_, ?_⟩; rotate_left; (focus (repeat (first | exact BR.nil | refine BR.one rfl rfl rfl ?_ | (refine BR.row rfl rfl rfl rfl ?_ ?_; (focus (repeat (first | exact trivial | assumption | exact OkA.z (by kernel_rfl) (by kernel_rfl) | refine ⟨rfl, ?_⟩ | refine ⟨?_, ?_⟩))))))))); clear hH; (first | intro W g hH | intro W hH); ((try simp only [Act.put, List.setIfInBounds_toArray, List.set_cons_succ, List.set_cons_zero]))))
      go_ret
      refine EnsPost.mk (D := (g, 30, true, [.many (evsL X) (X.length * 20), .many J q]) :: D) (by rw [hend.out, List.length_map]; rfl) ⟨hH, fun r hr => ?_⟩ (fun B w0 W h => ?_)
      · rcases List.mem_cons.1 hr with rfl | hr
        · rfl
        · exact hD.out r hr
      · rw [hend.out]
        exact ensAt_row hXm (by have := (h.rows.mem (i := 0) rfl).1; rwa [fls_two] at this) (fun x hx => hXD.out x hx _ _ _ (h.sub (SubH.drop SubH.refl)))
theorem hOwnE {B : Nat} {w0 W : World} {H : HB} {R : List En} {Q : Ending → World → Prop} (hm : R.length ≤ 1000) (hH : Hp B w0 W H) (h : EnsAt W p R) (hR : ∀ W' g c D R', Hid (R' = R.map fewE) → Hid (∀ B w0 W, Hp B w0 W D → EnsAt W (some ⟨g, 0, none⟩) R') → Hid (∀ r ∈ D, r.2.2.1 = true) → Hp B w0 W' (H ++ D) → Q (.returned (.slice (some ⟨g, 0, none⟩) R'.length c)) W') :
    Calls Try.prog 10 #[.slice p R.length c] W Q :=
  (ownE_any hm h).mono fun _ _ ⟨g, c, D, he, hm, hr⟩ => by subst he; exact hR _ g c D _ (Lib.hid rfl) (Lib.hid hr) (Lib.hid hm.2) (hH.join hm)
end
end Go.Proofs.Ytdbdlhmgokllaaa
