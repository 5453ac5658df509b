/-
  Contract of acequialaw08.Addrs, for seats that know no talks.
-/
import Derived.Test.YtjegjgdihpihoaaGreatDoorAd
namespace Go.Proofs.YtjegjgdihpihoaaGreatDoor
open Go.ChangeShapes Go.WideShapes Go.ChangeAt Go.RowKit
set_option linter.unusedVariables false
set_option linter.unusedSimpArgs false
set_option maxRecDepth 20000
attribute [local irreducible] wpList

/-- what copies of addresses leave -/
def AdsPost (w : World) (L : List Ad) (e : Ending) (w' : World) : Prop := ∃ g c q J, e = .returned (.slice (some ⟨g, 0, none⟩) L.length c) ∧ Made w w' [(g, 24, true, [.many (adsL L) (L.length * 17), .many J q])]
theorem AdsPost.mk {w : World} {L : List Ad} {e : Ending} {w' : World} {g c q : Nat} {J : List Value} (h1 : e = .returned (.slice (some ⟨g, 0, none⟩) L.length c)) (h2 : Hp w.heap.size w w' [(g, 24, true, [.many (adsL L) (L.length * 17), .many J q])]) : AdsPost w L e w' := ⟨g, c, q, J, h1, h2, by simp⟩
section
variable {w : World} {p p' : Option Addr} {c c' : Nat} {L M : List Ad}
theorem addrs_any {m : Int} (hm : m ≤ 1000) (h : AdsAt w p L) : Calls Tryz.prog 16 #[.slice p L.length c, .int .i64 m] w fun e w' => AdsPost w (L.take m.toNat) e w' := by
  obtain ⟨hl, hA⟩ := h
  have HA := Lib.hid hA
  clear hA
  have hH := Hp.refl w
  go_enter Tryz.func16, Tryz.ntmps16
  go_wp2_with (first | ((first | (refine gL rfl ?_; first | (refine hL1 tab_ok 0 rfl ?_ rfl hH rfl rfl rfl rfl ?_; (focus (first | exact wN rfl | exact rfl))) | (refine hL1 tab_ok 1 rfl ?_ rfl hH rfl rfl rfl rfl ?_; (focus (first | exact wN rfl | exact rfl))) | (refine hLR tab_ok 0 rfl ?_ rfl hH rfl rfl rfl rfl ?_; (focus (first | exact wN rfl | exact rfl))) | (refine hLR tab_ok 1 rfl ?_ rfl hH rfl rfl rfl rfl ?_; (focus (first | exact wN rfl | exact rfl))) | (refine hL1i tab_ok 0 rfl ?_ rfl hH rfl rfl rfl rfl ?_; (focus (first | exact wN rfl | exact rfl)); refine ⟨?_, ?_, ?_⟩; rotate_left; (focus assumption)) | (refine hL1i tab_ok 1 rfl ?_ rfl hH rfl rfl rfl rfl ?_; (focus (first | exact wN rfl | exact rfl)); refine ⟨?_, ?_, ?_⟩; rotate_left; (focus assumption))) | (refine gS rfl ?_; first | (refine hS1 tab_ok 0 rfl ?_ rfl rfl hH rfl rfl rfl rfl rfl ?_; (focus (first | exact wN rfl | exact rfl))) | (refine hS1 tab_ok 1 rfl ?_ rfl rfl hH rfl rfl rfl rfl rfl ?_; (focus (first | exact wN rfl | exact rfl))) | (refine hSR tab_ok 0 rfl ?_ rfl rfl hH rfl rfl rfl rfl rfl ?_ ?_; (focus (first | exact wN rfl | exact rfl)); (focus (repeat (first | exact trivial | assumption | exact OkA.z (by kernel_rfl) (by kernel_rfl) | refine ⟨rfl, ?_⟩ | refine ⟨?_, ?_⟩)))) | (refine hSR tab_ok 1 rfl ?_ rfl rfl hH rfl rfl rfl rfl rfl ?_ ?_; (focus (first | exact wN rfl | exact rfl)); (focus (repeat (first | exact trivial | assumption | exact OkA.z (by kernel_rfl) (by kernel_rfl) | refine ⟨rfl, ?_⟩ | refine ⟨?_, ?_⟩))))) | (refine hAl tab_ok rfl ?_ hH rfl ?_; (focus (first | exact wN rfl | exact rfl))) | (refine hBx1 rfl ?_ rfl hH ?_; (focus (first | exact wN rfl | exact rfl))) | (refine hBx rfl ?_ rfl hH ?_ ?_; (focus (first | exact wN rfl | exact rfl)); (focus (repeat (first | exact trivial | assumption | exact OkA.z (by kernel_rfl) (by kernel_rfl) | refine ⟨rfl, ?_⟩ | refine ⟨?_, ?_⟩)))) | (refine hBd tab_ok rfl ?_ rfl rfl rfl hH ?_; (focus (first | exact wN rfl | exact rfl)); refine ⟨?_, ?_, ?_⟩; rotate_left; (focus (repeat (first | exact BR.nil | refine BR.one rfl rfl rfl ?_ | (refine BR.row rfl rfl rfl rfl ?_ ?_; (focus (repeat (first | exact trivial | assumption | exact OkA.z (by kernel_rfl) (by kernel_rfl) | refine ⟨rfl, ?_⟩ | refine ⟨?_, ?_⟩))))))))); clear hH; (first | intro W g hH | intro W hH); ((try simp only [Act.put, List.setIfInBounds_toArray, List.set_cons_succ, List.set_cons_zero]))))
  have hH := hH.alloc 24 (S := [.many [] 0, .many [] 0]) ⟨⟨rfl, by simp⟩, ⟨rfl, by simp⟩, trivial⟩
  go_loopw [5, 6] (fun s i wr => ∃ (j : Nat) (X : List Ad) (g cc q : Nat) (J : List Value), i = .int .i64 (j : Int) ∧ j ≤ 1000 ∧ X = L.take j ∧ X.length = j ∧ (j : Int) ≤ max m 0 ∧ s = .slice (some ⟨g, 0, none⟩) X.length cc ∧ Grow 17 X.length cc (X.length * 17) q ∧ OkA J q ∧ Hp w.heap.size w wr [(g, 24, true, [.many (adsL X) (X.length * 17), .many J q])]) (fun _ i _ => 1000 - (intOf i).toNat)
  case atStart => exact ⟨0, [], _, 0, 0, [], rfl, by omega, rfl, rfl, by omega, rfl, ⟨rfl, rfl, Nat.le_refl _, by simp [maxLen]⟩, ⟨rfl, by simp⟩, hH⟩
  case round =>
    clear hH
    obtain ⟨j, X, g, cc, q, J, rfl, hj, hX, hXj, hjm, rfl, hG, oJ, hH⟩ := hrel
    by_cases hin : j < L.length ∧ (j : Int) < m
    · obtain ⟨hjl, hjm⟩ := hin
      obtain ⟨a, ha, fO⟩ := HA.out j hjl
      subst ha
      have dj : decide ((j : Int) < (L.length : Int)) = true := decide_eq_true (by omega)
      have dm : decide ((j : Int) < m) = true := decide_eq_true (by omega)
      have hSnoc := Lib.hid (adsL_snoc X L[j])
      have hTake := Lib.hid (show X ++ [L[j]] = L.take (j + 1) by rw [hX, List.take_append_getElem])
      have oX := adL_ok L[j]
      have hX' := Lib.hid hX
      clear hX HA
      generalize hY : L[j] = y at *
      have HY := Lib.hid hY
      clear hY
      obtain ⟨Y, hYY⟩ : ∃ Y, Y = adL y := ⟨_, rfl⟩
      rw [← hYY] at fO oX hSnoc
      clear hYY
      go_wp2_with (first | ((refine gL rfl ?_; refine hLoR tab_ok rfl ?_ rfl hH rfl rfl ?_; (focus (first | exact wN rfl | exact rfl)); refine ⟨_, fO, ⟨oX, trivial⟩, rfl, ?_⟩; (clear hH; (first | intro W g hH | intro W hH); (try simp only [Act.put, List.setIfInBounds_toArray, List.set_cons_succ, List.set_cons_zero])))) | ((refine hSl tab_ok rfl ?_ rfl tabs_ok rfl rfl rfl rfl rfl hH ?_; (focus (first | exact wN rfl | exact rfl)); refine ⟨?_, ?_, ?_⟩; rotate_left; (focus (repeat (first | exact BR.nil | refine BR.one rfl rfl rfl ?_ | (refine BR.row rfl rfl rfl rfl ?_ ?_; (focus (repeat (first | exact trivial | assumption | exact OkA.z (by kernel_rfl) (by kernel_rfl) | refine ⟨rfl, ?_⟩ | refine ⟨?_, ?_⟩))))))); clear hH; intro W g hH; (try simp only [Act.put, List.setIfInBounds_toArray, List.set_cons_succ, List.set_cons_zero]))) | (((first | (refine hApp 1 0 tab_ok tabs_ok rfl rfl rfl rfl rfl rfl rfl hH rfl rfl rfl rfl ?_; refine ⟨?_, ?_, ?_⟩; (focus assumption); (focus (first | omega | (simp; omega)))) | (refine hApp 2 0 tab_ok tabs_ok rfl rfl rfl rfl rfl rfl rfl hH rfl rfl rfl rfl ?_; refine ⟨?_, ?_, ?_⟩; (focus assumption); (focus (first | omega | (simp; omega)))) | (refine hApp0 0 tab_ok tabs_ok rfl rfl rfl rfl rfl rfl rfl hH rfl rfl rfl ?_; refine ⟨?_, ?_, ?_⟩; (focus (first | omega | (simp; omega))); (focus (first | omega | (simp; omega)))) | (refine hApp 0 1 tab_ok tabs_ok rfl rfl rfl rfl rfl rfl rfl hH rfl rfl rfl rfl ?_; refine ⟨?_, ?_, ?_⟩; (focus assumption); (focus (first | omega | (simp; omega)))) | (refine hApp 2 1 tab_ok tabs_ok rfl rfl rfl rfl rfl rfl rfl hH rfl rfl rfl rfl ?_; refine ⟨?_, ?_, ?_⟩; (focus assumption); (focus (first | omega | (simp; omega)))) | (refine hApp0 1 tab_ok tabs_ok rfl rfl rfl rfl rfl rfl rfl hH rfl rfl rfl ?_; refine ⟨?_, ?_, ?_⟩; (focus (first | omega | (simp; omega))); (focus (first | omega | (simp; omega))))); clear hH; intro W g c p q J hG hL hJ hH; (try simp only [putH, fls, List.append_nil] at hH hL); (try simp only [Act.put, List.setIfInBounds_toArray, List.set_cons_succ, List.set_cons_zero]))) | ((first | (refine gL rfl ?_; first | (refine hL1 tab_ok 0 rfl ?_ rfl hH rfl rfl rfl rfl ?_; (focus (first | exact wN rfl | exact rfl))) | (refine hL1 tab_ok 1 rfl ?_ rfl hH rfl rfl rfl rfl ?_; (focus (first | exact wN rfl | exact rfl))) | (refine hL1 tab_ok 2 rfl ?_ rfl hH rfl rfl rfl rfl ?_; (focus (first | exact wN rfl | exact rfl))) | (refine hLR tab_ok 0 rfl ?_ rfl hH rfl rfl rfl rfl ?_; (focus (first | exact wN rfl | exact rfl))) | (refine hLR tab_ok 1 rfl ?_ rfl hH rfl rfl rfl rfl ?_; (focus (first | exact wN rfl | exact rfl))) | (refine hLR tab_ok 2 rfl ?_ rfl hH rfl rfl rfl rfl ?_; (focus (first | exact wN rfl | exact rfl))) | (refine hL1i tab_ok 0 rfl ?_ rfl hH rfl rfl rfl rfl ?_; (focus (first | exact wN rfl | exact rfl)); refine ⟨?_, ?_, ?_⟩; rotate_left; (focus assumption)) | (refine hL1i tab_ok 1 rfl ?_ rfl hH rfl rfl rfl rfl ?_; (focus (first | exact wN rfl | exact rfl)); refine ⟨?_, ?_, ?_⟩; rotate_left; (focus assumption)) | (refine hL1i tab_ok 2 rfl ?_ rfl hH rfl rfl rfl rfl ?_; (focus (first | exact wN rfl | exact rfl)); refine ⟨?_, ?_, ?_⟩; rotate_left; (focus assumption))) | (refine gS rfl ?_; first | (refine hS1 tab_ok 0 rfl ?_ rfl rfl hH rfl rfl rfl rfl rfl ?_; (focus (first | exact wN rfl | exact rfl))) | (refine hS1 tab_ok 1 rfl ?_ rfl rfl hH rfl rfl rfl rfl rfl ?_; (focus (first | exact wN rfl | exact rfl))) | (refine hS1 tab_ok 2 rfl ?_ rfl rfl hH rfl rfl rfl rfl rfl ?_; (focus (first | exact wN rfl | exact rfl))) | (refine hSR tab_ok 0 rfl ?_ rfl rfl hH rfl rfl rfl rfl rfl ?_ ?_; (focus (first | exact wN rfl | exact rfl)); (focus (repeat (first | exact trivial | assumption | exact OkA.z (by kernel_rfl) (by kernel_rfl) | refine ⟨rfl, ?_⟩ | refine ⟨?_, ?_⟩)))) | (refine hSR tab_ok 1 rfl ?_ rfl rfl hH rfl rfl rfl rfl rfl ?_ ?_; (focus (first | exact wN rfl | exact rfl)); (focus (repeat (first | exact trivial | assumption | exact OkA.z (by kernel_rfl) (by kernel_rfl) | refine ⟨rfl, ?_⟩ | refine ⟨?_, ?_⟩)))) | (refine hSR tab_ok 2 rfl ?_ rfl rfl hH rfl rfl rfl rfl rfl ?_ ?_; (focus (first | exact wN rfl | exact rfl)); (focus (repeat (first | exact trivial | assumption | exact OkA.z (by kernel_rfl) (by kernel_rfl) | refine ⟨rfl, ?_⟩ | refine ⟨?_, ?_⟩))))) | (refine hAl tab_ok rfl ?_ hH rfl ?_; (focus (first | exact wN rfl | exact rfl))) | (refine hBx1 rfl ?_ rfl hH ?_; (focus (first | exact wN rfl | exact rfl))) | (refine hBx rfl ?_ rfl hH ?_ ?_; (focus (first | exact wN rfl | exact rfl)); (focus (repeat (first | exact trivial | assumption | exact OkA.z (by kernel_rfl) (by kernel_rfl) | refine ⟨rfl, ?_⟩ | refine ⟨?_, ?_⟩)))) | (refine hBd tab_ok rfl ?_ rfl rfl rfl hH ?_; (focus (first | exact wN rfl | exact rfl)); refine ⟨?_, ?_, ?_⟩; rotate_left; (focus (repeat (first | exact BR.nil | refine BR.one rfl rfl rfl ?_ | (refine BR.row rfl rfl rfl rfl ?_ ?_; (focus (repeat (first | exact trivial | assumption | exact OkA.z (by kernel_rfl) (by kernel_rfl) | refine ⟨rfl, ?_⟩ | refine ⟨?_, ?_⟩))))))))); clear hH; (first | intro W g hH | intro W hH); ((try simp only [Act.put, List.setIfInBounds_toArray, List.set_cons_succ, List.set_cons_zero]))))
      have hp := hG.hp
      have hq := hG.hq
      have hle := hG.le
      have hmo := hG.most
      clear hG
      refine ⟨⟨j + 1, X ++ [y], g, c, q, J, by simp, by omega, hTake.out, by simp [hXj], by omega, by simp, ?_, hJ, ?_⟩, by simp [intOf]; omega⟩
      · have e1 : (X ++ [y]).length = X.length + 1 := by simp
        rw [e1]
        exact ⟨rfl, by rw [← hq, hp], hle, hmo⟩
      · have e1 : (X ++ [y]).length * 17 = p := by rw [hp]; simp
        rw [e1, hSnoc.out]
        exact hH.sub (SubH.drop SubH.refl)
    · have hend := Lib.hid (show L.take m.toNat = X by
        rw [hX]
        by_cases h : L.length ≤ j
        · rw [List.take_of_length_le h, List.take_of_length_le]
          rw [hX, List.length_take] at hXj
          omega
        · congr 1; omega)
      clear hX
      have hcase : (L.length ≤ j ∧ decide ((j : Int) < (L.length : Int)) = false) ∨ (j < L.length ∧ m ≤ (j : Int) ∧ decide ((j : Int) < (L.length : Int)) = true ∧ decide ((j : Int) < m) = false) := by
        by_cases h1 : j < L.length
        · exact .inr ⟨h1, by omega, decide_eq_true (by omega), decide_eq_false (by omega)⟩
        · exact .inl ⟨by omega, decide_eq_false (by omega)⟩
      clear HA hin
      rcases hcase with ⟨hj1, dj⟩ | ⟨hj1, hj2, dj, dm⟩
      all_goals
        go_wp2_with (first | ((first | (refine gL rfl ?_; first | (refine hL1 tab_ok 0 rfl ?_ rfl hH rfl rfl rfl rfl ?_; (focus (first | exact wN rfl | exact rfl))) | (refine hL1 tab_ok 1 rfl ?_ rfl hH rfl rfl rfl rfl ?_; (focus (first | exact wN rfl | exact rfl))) | (refine hLR tab_ok 0 rfl ?_ rfl hH rfl rfl rfl rfl ?_; (focus (first | exact wN rfl | exact rfl))) | (refine hLR tab_ok 1 rfl ?_ rfl hH rfl rfl rfl rfl ?_; (focus (first | exact wN rfl | exact rfl))) | (refine hL1i tab_ok 0 rfl ?_ rfl hH rfl rfl rfl rfl ?_; (focus (first | exact wN rfl | exact rfl)); refine ⟨?_, ?_, ?_⟩; rotate_left; (focus assumption)) | (refine hL1i tab_ok 1 rfl ?_ rfl hH rfl rfl rfl rfl ?_; (focus (first | exact wN rfl | exact rfl)); refine ⟨?_, ?_, ?_⟩; rotate_left; (focus assumption))) | (refine gS rfl ?_; first | (refine hS1 tab_ok 0 rfl ?_ rfl rfl hH rfl rfl rfl rfl rfl ?_; (focus (first | exact wN rfl | exact rfl))) | (refine hS1 tab_ok 1 rfl ?_ rfl rfl hH rfl rfl rfl rfl rfl ?_; (focus (first | exact wN rfl | exact rfl))) | (refine hSR tab_ok 0 rfl ?_ rfl rfl hH rfl rfl rfl rfl rfl ?_ ?_; (focus (first | exact wN rfl | exact rfl)); (focus (repeat (first | exact trivial | assumption | exact OkA.z (by kernel_rfl) (by kernel_rfl) | refine ⟨rfl, ?_⟩ | refine ⟨?_, ?_⟩)))) | (refine hSR tab_ok 1 rfl ?_ rfl rfl hH rfl rfl rfl rfl rfl ?_ ?_; (focus (first | exact wN rfl | exact rfl)); (focus (repeat (first | exact trivial | assumption | exact OkA.z (by kernel_rfl) (by kernel_rfl) | refine ⟨rfl, ?_⟩ | refine ⟨?_, ?_⟩))))) | (refine hAl tab_ok rfl ?_ hH rfl ?_; (focus (first | exact wN rfl | exact rfl))) | (refine hBx1 rfl ?_ rfl hH ?_; (focus (first | exact wN rfl | exact rfl))) | (refine hBx rfl ?_ rfl hH ?_ ?_; (focus (first | exact wN rfl | exact rfl)); (focus (repeat (first | exact trivial | assumption | exact OkA.z (by kernel_rfl) (by kernel_rfl) | refine ⟨rfl, ?_⟩ | refine ⟨?_, ?_⟩)))) | (refine hBd tab_ok rfl ?_ rfl rfl rfl hH ?_; (focus (first | exact wN rfl | exact rfl)); refine ⟨?_, ?_, ?_⟩; rotate_left; (focus (repeat (first | exact BR.nil | refine BR.one rfl rfl rfl ?_ | (refine BR.row rfl rfl rfl rfl ?_ ?_; (focus (repeat (first | exact trivial | assumption | exact OkA.z (by kernel_rfl) (by kernel_rfl) | refine ⟨rfl, ?_⟩ | refine ⟨?_, ?_⟩))))))))); clear hH; (first | intro W g hH | intro W hH); ((try simp only [Act.put, List.setIfInBounds_toArray, List.set_cons_succ, List.set_cons_zero]))))
        go_ret
        exact AdsPost.mk (by rw [hend.out]; rfl) (by rw [hend.out]; exact hH)
theorem hAddrs {B : Nat} {w0 W : World} {H : HB} {R : Ending → World → Prop} (hH : Hp B w0 W H) (h : AdsAt W p L) (hR : ∀ W' g c q J L', Hid (L' = L.take 6) → Hp B w0 W' ((g, 24, true, [.many (adsL L') (L'.length * 17), .many J q]) :: H) → R (.returned (.slice (some ⟨g, 0, none⟩) L'.length c)) W') :
    Calls Tryz.prog 16 #[.slice p L.length c, .int .i64 6] W R :=
  (addrs_any (m := 6) (by omega) h).mono fun _ _ ⟨g, c, q, J, he, hm⟩ => by subst he; exact hR _ g c q J _ (Lib.hid rfl) (hH.joinF hm)
end
end Go.Proofs.YtjegjgdihpihoaaGreatDoor
