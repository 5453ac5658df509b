/-
  DigestJudges: whether any entries are a good digest. No condition.
-/
import Derived.Test.YtdbdlhmgokllaaaE5
import Derived.Test.YtdbdlhmgokllaaaRows
namespace Go.Proofs.Ytdbdlhmgokllaaa
open Go.ChangeShapes Go.WideShapes Go.ChangeAt Go.RowKit
set_option linter.unusedVariables false
set_option linter.unusedSimpArgs false
set_option maxRecDepth 20000
attribute [local irreducible] wpList

theorem fewE_len (e : En) : (fewE e).src.length ≤ 6 := by unfold fewE; simp; omega
theorem fewE_twice (e : En) : fewE (fewE e) = fewE e := by unfold fewE; simp [List.take_take]
section
variable {w : World} {p : Option Addr} {c : Nat} {L : List En}
set_option maxHeartbeats 4000000 in
theorem judges_walk (h : EnsAt w p L) : Gives Try.prog 3 #[.slice p L.length c] w (.bool true) := by
  have hl := h.1
  have HR := Lib.hid h
  clear h
  refine Gives.of ?_
  have hH := Hp.refl w
  go_enter Try.func3, Try.ntmps3
  go_wp2_with (first | ((refine hSl0 tab_ok rfl ?_ tabs_ok rfl rfl rfl hH ?_; (focus (first | exact wN rfl | exact rfl)); clear hH; intro W g hH; (try simp only [Act.put, List.setIfInBounds_toArray, List.set_cons_succ, List.set_cons_zero]))) | ((first | (refine gL rfl ?_; first | (refine hL1 tab_ok 0 rfl ?_ rfl hH rfl rfl rfl rfl ?_; (focus (first | exact wN rfl | exact rfl))) | (refine hL1 tab_ok 1 rfl ?_ rfl hH rfl rfl rfl rfl ?_; (focus (first | exact wN rfl | exact rfl))) | (refine hLR tab_ok 0 rfl ?_ rfl hH rfl rfl rfl rfl ?_; (focus (first | exact wN rfl | exact rfl))) | (refine hLR tab_ok 1 rfl ?_ rfl hH rfl rfl rfl rfl ?_; (focus (first | exact wN rfl | exact rfl))) | (refine hL1i tab_ok 0 rfl ?_ rfl hH rfl rfl rfl rfl ?_; (focus (first | exact wN rfl | exact rfl)); refine ⟨?_, ?_, ?_⟩; rotate_left; (focus assumption)) | (refine hL1i tab_ok 1 rfl ?_ rfl hH rfl rfl rfl rfl ?_; (focus (first | exact wN rfl | exact rfl)); refine ⟨?_, ?_, ?_⟩; rotate_left; (focus assumption))) | (refine gS rfl ?_; first | (refine hS1 tab_ok 0 rfl ?_ rfl rfl hH rfl rfl rfl rfl rfl ?_; (focus (first | exact wN rfl | exact rfl))) | (refine hS1 tab_ok 1 rfl ?_ rfl rfl hH rfl rfl rfl rfl rfl ?_; (focus (first | exact wN rfl | exact rfl))) | (refine hSR tab_ok 0 rfl ?_ rfl rfl hH rfl rfl rfl rfl rfl ?_ ?_; (focus (first | exact wN rfl | exact rfl)); (focus (repeat (first | exact trivial | assumption | exact OkA.z (by kernel_rfl) (by kernel_rfl) | refine ⟨rfl, ?_⟩ | refine ⟨?_, ?_⟩)))) | (refine hSR tab_ok 1 rfl ?_ rfl rfl hH rfl rfl rfl rfl rfl ?_ ?_; (focus (first | exact wN rfl | exact rfl)); (focus (repeat (first | exact trivial | assumption | exact OkA.z (by kernel_rfl) (by kernel_rfl) | refine ⟨rfl, ?_⟩ | refine ⟨?_, ?_⟩))))) | (refine hAl tab_ok rfl ?_ hH rfl ?_; (focus (first | exact wN rfl | exact rfl))) | (refine hBx1 rfl ?_ rfl hH ?_; (focus (first | exact wN rfl | exact rfl))) | (refine hBx rfl ?_ rfl hH ?_ ?_; (focus (first | exact wN rfl | exact rfl)); (focus (repeat (first | exact trivial | assumption | exact OkA.z (by kernel_rfl) (by kernel_rfl) | refine ⟨rfl, ?_⟩ | refine ⟨?_, ?_⟩)))) | (refine hBd tab_ok rfl ?_ rfl rfl rfl hH ?_; (focus (first | exact wN rfl | exact rfl)); refine ⟨?_, ?_, ?_⟩; rotate_left; (focus (repeat (first | exact BR.nil | refine BR.one rfl rfl rfl ?_ | (refine BR.row rfl rfl rfl rfl ?_ ?_; (focus (repeat (first | exact trivial | assumption | exact OkA.z (by kernel_rfl) (by kernel_rfl) | refine ⟨rfl, ?_⟩ | refine ⟨?_, ?_⟩))))))))); clear hH; (first | intro W g hH | intro W hH); ((try simp only [Act.put, List.setIfInBounds_toArray, List.set_cons_succ, List.set_cons_zero]))))
  go_loopw [3, 4] (fun s i wr => ∃ (j : Nat) (X : List Ev) (g cc q : Nat) (J : List Value) (D : HB), i = .int .i64 (j : Int) ∧ j ≤ 8 ∧ X.map Ev.e = (L.take j).map fewE ∧ X.length = j ∧ s = .slice (some ⟨g, 0, none⟩) X.length cc ∧ Grow 20 X.length cc (X.length * 20) q ∧ OkA J q ∧ Hp w.heap.size w wr ((g, 30, true, [.many (evsL X) (X.length * 20), .many J q]) :: D) ∧ (∀ r ∈ D, r.2.2.1 = true) ∧ ∀ x ∈ X, ∀ B w0 W, Hp B w0 W D → AdsAt W x.p x.e.src) (fun _ i _ => 8 - (intOf i).toNat)
  case atStart => exact ⟨0, [], g, 0, 0, [], [], rfl, by omega, rfl, rfl, rfl, ⟨rfl, rfl, Nat.le_refl _, by simp [maxLen]⟩, ⟨rfl, by simp⟩, hH, by simp, by simp⟩
  case round =>
    clear hH
    obtain ⟨j, X, g, cc, q, J, D, rfl, hj8, hX, hXj, rfl, hG, oJ, hH, hD, hXD⟩ := hrel
    have hXD := Lib.hid hXD
    have hD := Lib.hid hD
    by_cases hin : j < L.length ∧ j < 8
    · obtain ⟨hjl, hj⟩ := hin
      obtain ⟨a, s, c1, ha, fO, fA⟩ := HR.out.get hjl
      subst ha
      have dj : decide ((j : Int) < (L.length : Int)) = true := decide_eq_true (by omega)
      have dm : decide ((j : Int) < 8) = true := decide_eq_true (by omega)
      have hTake := Lib.hid (show (L.take (j + 1)).map fewE = X.map Ev.e ++ [fewE L[j]] by rw [hX, ← List.take_append_getElem hjl, List.map_append]; rfl)
      have HXj := Lib.hid hXj
      have hX1 : X.length ≤ 1000 := by omega
      clear hX HR hXj
      generalize hr : L[j] = r at *
      clear hr
      obtain ⟨k, G, b, l⟩ := r
      unfold enS at fO
      simp only at fO fA hTake
      have oG := adL_ok G
      obtain ⟨Y, hYY⟩ : ∃ Y, Y = adL G := ⟨_, rfl⟩
      rw [← hYY] at fO oG
      have HY := Lib.hid hYY
      clear hYY
      go_wp2_with (first | ((refine gL rfl ?_; refine hLoR tab_ok rfl ?_ rfl hH rfl rfl ?_; (focus (first | exact wN rfl | exact rfl)); refine ⟨_, fO, ⟨rfl, oG, rfl, rfl, trivial⟩, rfl, ?_⟩; (clear hH; (first | intro W g hH | intro W hH); (try simp only [Act.put, List.setIfInBounds_toArray, List.set_cons_succ, List.set_cons_zero])))) | ((go_at_call 8; refine hEntryS HY hH (fA.below hH.below) ?_; (clear hH; intro W ga ca qa Ja l6 hl6 hH); ((try simp only [Act.put, List.setIfInBounds_toArray, List.set_cons_succ, List.set_cons_zero])))) | ((refine hSl tab_ok rfl ?_ rfl tabs_ok rfl rfl rfl rfl rfl hH ?_; (focus (first | exact wN rfl | exact rfl)); refine ⟨?_, ?_, ?_⟩; rotate_left; (focus (repeat (first | exact BR.nil | refine BR.one rfl rfl rfl ?_ | (refine BR.row rfl rfl rfl rfl ?_ ?_; (focus (repeat (first | exact trivial | assumption | exact OkA.z (by kernel_rfl) (by kernel_rfl) | refine ⟨rfl, ?_⟩ | refine ⟨?_, ?_⟩))))))); clear hH; intro W g hH; (try simp only [Act.put, List.setIfInBounds_toArray, List.set_cons_succ, List.set_cons_zero]))) | (((first | (refine hApp 2 0 tab_ok tabs_ok rfl rfl rfl rfl rfl rfl rfl hH rfl rfl rfl rfl ?_; refine ⟨?_, ?_, ?_⟩; (focus assumption); (focus (first | omega | (simp; omega))))); clear hH; intro W g c p q J hG hL hJ hH; (try simp only [putH, fls, List.append_nil] at hH hL); (try simp only [Act.put, List.setIfInBounds_toArray, List.set_cons_succ, List.set_cons_zero]))) | ((first | (refine gL rfl ?_; first | (refine hL1 tab_ok 0 rfl ?_ rfl hH rfl rfl rfl rfl ?_; (focus (first | exact wN rfl | exact rfl))) | (refine hL1 tab_ok 1 rfl ?_ rfl hH rfl rfl rfl rfl ?_; (focus (first | exact wN rfl | exact rfl))) | (refine hL1 tab_ok 2 rfl ?_ rfl hH rfl rfl rfl rfl ?_; (focus (first | exact wN rfl | exact rfl))) | (refine hLR tab_ok 0 rfl ?_ rfl hH rfl rfl rfl rfl ?_; (focus (first | exact wN rfl | exact rfl))) | (refine hLR tab_ok 1 rfl ?_ rfl hH rfl rfl rfl rfl ?_; (focus (first | exact wN rfl | exact rfl))) | (refine hLR tab_ok 2 rfl ?_ rfl hH rfl rfl rfl rfl ?_; (focus (first | exact wN rfl | exact rfl))) | (refine hL1i tab_ok 0 rfl ?_ rfl hH rfl rfl rfl rfl ?_; (focus (first | exact wN rfl | exact rfl)); refine ⟨?_, ?_, ?_⟩; rotate_left; (focus assumption)) | (refine hL1i tab_ok 1 rfl ?_ rfl hH rfl rfl rfl rfl ?_; (focus (first | exact wN rfl | exact rfl)); refine ⟨?_, ?_, ?_⟩; rotate_left; (focus assumption)) | (refine hL1i tab_ok 2 rfl ?_ rfl hH rfl rfl rfl rfl ?_; (focus (first | exact wN rfl | exact rfl)); refine ⟨?_, ?_, ?_⟩; rotate_left; (focus assumption))) | (refine gS rfl ?_; first | (refine hS1 tab_ok 0 rfl ?_ rfl rfl hH rfl rfl rfl rfl rfl ?_; (focus (first | exact wN rfl | exact rfl))) | (refine hS1 tab_ok 1 rfl ?_ rfl rfl hH rfl rfl rfl rfl rfl ?_; (focus (first | exact wN rfl | exact rfl))) | (refine hS1 tab_ok 2 rfl ?_ rfl rfl hH rfl rfl rfl rfl rfl ?_; (focus (first | exact wN rfl | exact rfl))) | (refine hSR tab_ok 0 rfl ?_ rfl rfl hH rfl rfl rfl rfl rfl ?_ ?_; (focus (first | exact wN rfl | exact rfl)); (focus (repeat (first | exact trivial | assumption | exact OkA.z (by kernel_rfl) (by kernel_rfl) | refine ⟨rfl, ?_⟩ | refine ⟨?_, ?_⟩)))) | (refine hSR tab_ok 1 rfl ?_ rfl rfl hH rfl rfl rfl rfl rfl ?_ ?_; (focus (first | exact wN rfl | exact rfl)); (focus (repeat (first | exact trivial | assumption | exact OkA.z (by kernel_rfl) (by kernel_rfl) | refine ⟨rfl, ?_⟩ | refine ⟨?_, ?_⟩)))) | (refine hSR tab_ok 2 rfl ?_ rfl rfl hH rfl rfl rfl rfl rfl ?_ ?_; (focus (first | exact wN rfl | exact rfl)); (focus (repeat (first | exact trivial | assumption | exact OkA.z (by kernel_rfl) (by kernel_rfl) | refine ⟨rfl, ?_⟩ | refine ⟨?_, ?_⟩))))) | (refine hAl tab_ok rfl ?_ hH rfl ?_; (focus (first | exact wN rfl | exact rfl))) | (refine hBx1 rfl ?_ rfl hH ?_; (focus (first | exact wN rfl | exact rfl))) | (refine hBx rfl ?_ rfl hH ?_ ?_; (focus (first | exact wN rfl | exact rfl)); (focus (repeat (first | exact trivial | assumption | exact OkA.z (by kernel_rfl) (by kernel_rfl) | refine ⟨rfl, ?_⟩ | refine ⟨?_, ?_⟩)))) | (refine hBd tab_ok rfl ?_ rfl rfl rfl hH ?_; (focus (first | exact wN rfl | exact rfl)); refine ⟨?_, ?_, ?_⟩; rotate_left; (focus (repeat (first | exact BR.nil | refine BR.one rfl rfl rfl ?_ | (refine BR.row rfl rfl rfl rfl ?_ ?_; (focus (repeat (first | exact trivial | assumption | exact OkA.z (by kernel_rfl) (by kernel_rfl) | refine ⟨rfl, ?_⟩ | refine ⟨?_, ?_⟩))))))))); clear hH; (first | intro W g hH | intro W hH); ((try simp only [Act.put, List.setIfInBounds_toArray, List.set_cons_succ, List.set_cons_zero]))))
      have hp := hG.hp
      have hq := hG.hq
      have hle := hG.le
      have hmo := hG.most
      clear hG
      have h6 : l6.length ≤ 6 := by rw [hl6.out, List.length_take]; omega
      refine ⟨⟨j + 1, X ++ [⟨⟨k, G, b, l6⟩, some ⟨ga, 0, none⟩, ca⟩], g, c, q, J, (ga, 25, true, [.many (adsL l6) (l6.length * 17), .many Ja qa]) :: D, by simp, by omega, ?_, by simp [HXj.out], by simp, ?_, hJ, ?_, ?_, ?_⟩, by simp [intOf]; omega⟩
      · rw [hTake.out, List.map_append]
        unfold fewE
        rw [← hl6.out]
        rfl
      · have e1 : (X ++ [(⟨⟨k, G, b, l6⟩, some ⟨ga, 0, none⟩, ca⟩ : Ev)]).length = X.length + 1 := by simp
        rw [e1]
        exact ⟨rfl, by rw [← hq, hp], hle, hmo⟩
      · have e1 : (X ++ [(⟨⟨k, G, b, l6⟩, some ⟨ga, 0, none⟩, ca⟩ : Ev)]).length * 20 = p := by rw [hp]; simp
        have e2 : evsL (X ++ [(⟨⟨k, G, b, l6⟩, some ⟨ga, 0, none⟩, ca⟩ : Ev)]) = evsL X ++ (.int .i64 k :: (Y ++ [.bool b, .slice (some ⟨ga, 0, none⟩) l6.length ca])) := by rw [evsL_snoc, HY.out]; rfl
        rw [e1, e2]
        exact (hH.sub (SubH.drop SubH.refl)).perm (List.Perm.swap _ _ _)
      · intro r hr
        rcases List.mem_cons.1 hr with rfl | hr
        · rfl
        · exact hD.out r hr
      · intro x hx B w0 W h
        rcases List.mem_append.1 hx with hx | hx
        · exact hXD.out x hx _ _ _ (h.sub (SubH.drop SubH.refl))
        · obtain rfl := List.mem_singleton.1 hx
          exact adsAt_row (L := l6) (Nat.le_trans h6 (by decide)) (by have := (h.rows.mem (i := 0) rfl).1; rwa [fls_two] at this)
    · have hcase : (L.length ≤ j ∧ decide ((j : Int) < (L.length : Int)) = false) ∨ (j < L.length ∧ 8 ≤ j ∧ decide ((j : Int) < (L.length : Int)) = true ∧ decide ((j : Int) < 8) = false) := by
        by_cases h1 : j < L.length
        · exact .inr ⟨h1, by omega, decide_eq_true (by omega), decide_eq_false (by omega)⟩
        · exact .inl ⟨by omega, decide_eq_false (by omega)⟩
      have hXm : X.length ≤ 9223372036854775807 := by omega
      have hX8 : X.length ≤ 1000 := by omega
      have hXe : ∀ e ∈ X.map Ev.e, e.src.length ≤ 1000 := fun e he => by
        rw [hX] at he
        obtain ⟨e', _, rfl⟩ := List.mem_map.1 he
        have := fewE_len e'
        omega
      have hXf := Lib.hid (show (X.map Ev.e).map fewE = X.map Ev.e by
        rw [hX, List.map_map]
        refine List.map_congr_left fun e _ => fewE_twice e)
      have HX := Lib.hid (show ∀ B w0 W, Hp B w0 W ((g, 30, true, [.many (evsL X) (X.length * 20), .many J q]) :: D) → EnsAt W (some ⟨g, 0, none⟩) (X.map Ev.e) from fun B w0 W h =>
        ensAt_row hXm (by have := (h.rows.mem (i := 0) rfl).1; rwa [fls_two] at this) (fun x hx => hXD.out x hx _ _ _ (h.sub (SubH.drop SubH.refl))))
      have hXl : X.length = (X.map Ev.e).length := by simp
      generalize ((g, 30, true, [.many (evsL X) (X.length * 20), .many J q]) :: D : HB) = DD at *
      rw [hXl] at hXm hX8 hXj ⊢
      generalize X.map Ev.e = R at *
      clear hXl hXj hG oJ hD hXD hX
      have FG := Lib.hid (fun (W : World) p c (h : EnsAt W p R) => dGood_any (c := c) h)
      have FR := Lib.hid (fun (W : World) p c (h : EnsAt W p R) => rGoodD_any (c := c) hXe h)
      have FO := Lib.hid (fun (W : World) (Q : Ending → World → Prop) p (c : Nat) hH (h : EnsAt W p R) hQ => hOwnE (B := w.heap.size) (w0 := w) (H := DD) (Q := Q) (c := c) hX8 hH h hQ)
      generalize goodD R = gd at *
      clear HR hin hXe
      rcases hcase with ⟨hj1, dj⟩ | ⟨hj1, hj2, dj, dm⟩
      all_goals
        cases gd
        all_goals
          go_wp2_with (first | ((go_at_call 10; refine FO.out _ _ _ _ hH (HX.out _ _ _ hH) ?_; (clear hH; intro W go co Do R2 hR2 hRo hDo hH); (obtain rfl : R2 = R := hR2.out.trans hXf.out); ((try simp only [Act.put, List.setIfInBounds_toArray, List.set_cons_succ, List.set_cons_zero])))) | ((go_at_call 9; refine callH hH ⟨_, FG.out _ _ _ (hRo.out _ _ _ (hH.sub SubH.appR)), ?_⟩; (clear hH; (first | intro W g hH | intro W hH); (try simp only [Act.put, List.setIfInBounds_toArray, List.set_cons_succ, List.set_cons_zero])))) | ((go_at_call 11; refine callH hH ⟨_, FR.out _ _ _ (HX.out _ _ _ (hH.sub SubH.appL)), ?_⟩; (clear hH; (first | intro W g hH | intro W hH); (try simp only [Act.put, List.setIfInBounds_toArray, List.set_cons_succ, List.set_cons_zero])))) | ((first | (refine gL rfl ?_; first | (refine hL1 tab_ok 0 rfl ?_ rfl hH rfl rfl rfl rfl ?_; (focus (first | exact wN rfl | exact rfl))) | (refine hL1 tab_ok 1 rfl ?_ rfl hH rfl rfl rfl rfl ?_; (focus (first | exact wN rfl | exact rfl))) | (refine hLR tab_ok 0 rfl ?_ rfl hH rfl rfl rfl rfl ?_; (focus (first | exact wN rfl | exact rfl))) | (refine hLR tab_ok 1 rfl ?_ rfl hH rfl rfl rfl rfl ?_; (focus (first | exact wN rfl | exact rfl))) | (refine hL1i tab_ok 0 rfl ?_ rfl hH rfl rfl rfl rfl ?_; (focus (first | exact wN rfl | exact rfl)); refine ⟨?_, ?_, ?_⟩; rotate_left; (focus assumption)) | (refine hL1i tab_ok 1 rfl ?_ rfl hH rfl rfl rfl rfl ?_; (focus (first | exact wN rfl | exact rfl)); refine ⟨?_, ?_, ?_⟩; rotate_left; (focus assumption))) | (refine gS rfl ?_; first | (refine hS1 tab_ok 0 rfl ?_ rfl rfl hH rfl rfl rfl rfl rfl ?_; (focus (first | exact wN rfl | exact rfl))) | (refine hS1 tab_ok 1 rfl ?_ rfl rfl hH rfl rfl rfl rfl rfl ?_; (focus (first | exact wN rfl | exact rfl))) | (refine hSR tab_ok 0 rfl ?_ rfl rfl hH rfl rfl rfl rfl rfl ?_ ?_; (focus (first | exact wN rfl | exact rfl)); (focus (repeat (first | exact trivial | assumption | exact OkA.z (by kernel_rfl) (by kernel_rfl) | refine ⟨rfl, ?_⟩ | refine ⟨?_, ?_⟩)))) | (refine hSR tab_ok 1 rfl ?_ rfl rfl hH rfl rfl rfl rfl rfl ?_ ?_; (focus (first | exact wN rfl | exact rfl)); (focus (repeat (first | exact trivial | assumption | exact OkA.z (by kernel_rfl) (by kernel_rfl) | refine ⟨rfl, ?_⟩ | refine ⟨?_, ?_⟩))))) | (refine hAl tab_ok rfl ?_ hH rfl ?_; (focus (first | exact wN rfl | exact rfl))) | (refine hBx1 rfl ?_ rfl hH ?_; (focus (first | exact wN rfl | exact rfl))) | (refine hBx rfl ?_ rfl hH ?_ ?_; (focus (first | exact wN rfl | exact rfl)); (focus (repeat (first | exact trivial | assumption | exact OkA.z (by kernel_rfl) (by kernel_rfl) | refine ⟨rfl, ?_⟩ | refine ⟨?_, ?_⟩)))) | (refine hBd tab_ok rfl ?_ rfl rfl rfl hH ?_; (focus (first | exact wN rfl | exact rfl)); refine ⟨?_, ?_, ?_⟩; rotate_left; (focus (repeat (first | exact BR.nil | refine BR.one rfl rfl rfl ?_ | (refine BR.row rfl rfl rfl rfl ?_ ?_; (focus (repeat (first | exact trivial | assumption | exact OkA.z (by kernel_rfl) (by kernel_rfl) | refine ⟨rfl, ?_⟩ | refine ⟨?_, ?_⟩)))))))) | ((with_reducible refine callH hH ?_); refine ⟨?_, ?_, ?_⟩; rotate_left; (focus (first | (with_reducible exact lives27))))); clear hH; (first | intro W g hH | intro W hH); ((try simp only [Act.put, List.setIfInBounds_toArray, List.set_cons_succ, List.set_cons_zero]))))
          go_ret
          exact ⟨rfl, hH.below⟩
theorem ens_open {Hh : Type} {enc : TypeId × Value → Hh} {v : Value} {d : DataW Hh} {ps : List MemPlace} (h : DataW.Trod enc Try.prog w 0 (fun _ => true) true 22 v d ps) (hv : v.cells = #[v]) : ∃ (p : Option Addr) (L : List En) (c : Nat), v = .slice p L.length c ∧ EnsAt w p L ∧ (∀ r ∈ L, inI r.vlan) ∧ L.length ≤ c := by
  obtain ⟨fuel0, hf0⟩ := h
  rw [hv] at hf0
  obtain ⟨p, L, c, hc, hA, hI, hlc, _⟩ := ens_trod hf0
  exact ⟨p, L, c, by simpa using hc, hA, hI, hlc⟩
end
set_option maxRecDepth 100000 in
theorem digestJudges_lifted (os : Os) (started : os.Started) (H : Type) (enc : TypeId × Value → H) :
    ReturnsInHanded {} Try.checked os 3 .any (Rows.digestJudgesSpec.pre6 enc Try.prog Try.f3 Rows.digestJudgesRow.domain false) (Rows.digestJudgesSpec.post enc Try.prog Try.f3 false true false false) := by
  refine lifted_of_walk (C := Try.checked) (tb := 4) own started (by kernel_rfl) Try.func3
    (ChangeSpec.witness6 (enc := enc) (C := Try.checked) false ⟨#[], #[.slice none 0 0], []⟩ 8 (by kernel_rfl) (by kernel_rfl) (by kernel_rfl) (by kernel_rfl))
    (by kernel_rfl) Try.underlying4 (by kernel_rfl) (by kernel_rfl) rfl ?_ ?_
  · intro ds hl
    match ds, hl with
    | [d0], _ => exact ⟨rfl, rfl, rfl⟩
  · intro W base args ds ps hval hA hfz
    have hA' : DataW.TrodAll enc Try.prog W 0 (fun _ => true) true Try.f3.params.toList args.toList ds ps := hA
    rw [Try.params3] at hA'
    obtain ⟨v0, vs0, d0, ds0, p0, q0, hargs0, rfl, rfl, h0, r0⟩ := trodAll_cons hA'
    obtain ⟨hvs, rfl, rfl⟩ := trodAll_nil r0
    obtain rfl : args = #[v0] := by cases args; simp_all
    have g0 := hval 0 22 v0 rfl rfl
    obtain ⟨b0, n0, c0, rfl⟩ := okWide_slice Try.underlying22 g0
    obtain ⟨p, L, c, e, hA, _⟩ := ens_open h0 rfl
    rw [e]
    exact judges_walk hA
theorem digestJudges_proved : Rows.DigestJudgesSaid :=
  OpenClaim.holds_of_wide 3 Try.f3 rfl rfl rfl rfl rfl rfl rfl ⟨rfl, rfl, rfl, rfl, rfl⟩ rfl rfl rfl rfl rfl (by kernel_rfl) Try.func3 (by kernel_rfl)
    (of_decide_eq_true (by kernel_rfl)) (by unfold Func.isWrapper; first | (rw [if_pos (by decide +kernel)]; kernel_rfl) | (rw [if_neg (by decide +kernel)]; exact ⟨rfl, rfl⟩))
    (fun os started H enc _ => digestJudges_lifted os started H enc)
end Go.Proofs.Ytdbdlhmgokllaaa
