/-
  DigestApplies: any digest behind any changes, that it is good, and what of it is wanted of any group. No condition.
-/
import Derived.Test.YtdbdlhmgokllaaaQz
import Derived.Test.YtdbdlhmgokllaaaS7
import Derived.Test.YtdbdlhmgokllaaaR3
import Derived.Test.YtdbdlhmgokllaaaRows
namespace Go.Proofs.Ytdbdlhmgokllaaa
-- %in
open Go.ChangeShapes Go.WideShapes Go.ChangeAt Go.RowKit
set_option linter.unusedVariables false
set_option linter.unusedSimpArgs false
set_option maxRecDepth 20000
attribute [local irreducible] wpList

theorem chQ_20 {x : Ch} {p : Option Addr} {c : Nat} : (fls (chS x p c))[19 + 1]? = some (.bool x.gone) := by
  have h := (adL_ok x.e.grp).1
  show (Value.int .i64 x.e.vlan :: (adL x.e.grp ++ [.bool x.e.ex, .slice p x.e.src.length c, .bool x.gone]))[19 + 1]? = _
  rw [List.getElem?_cons_succ, List.getElem?_append_right (by omega), h]
  rfl
theorem chQ_pre {x : Ch} {p : Option Addr} {c : Nat} : fls (chS x p c) = [] ++ (fls (enS x.e p c) ++ [.bool x.gone]) := by
  show (Value.int .i64 x.e.vlan :: (adL x.e.grp ++ [.bool x.e.ex, .slice p x.e.src.length c, .bool x.gone])) = (Value.int .i64 x.e.vlan :: (adL x.e.grp ++ [.bool x.e.ex, .slice p x.e.src.length c])) ++ [.bool x.gone]
  simp
theorem hFew27 {B : Nat} {w0 W : World} {H : HB} {p : Option Addr} {c : Nat} {L : List En} {Q : Ending → World → Prop} (hH : Hp B w0 W H) (h : EnsAt W p L) (hR : ∀ W' g c D, Hid (∀ B w0 W, Hp B w0 W D → EnsAt W (some ⟨g, 0, none⟩) (fewD L)) → Hid (∀ r ∈ D, r.2.2.1 = true) → Hp B w0 W' (H ++ D) → Q (.returned (.slice (some ⟨g, 0, none⟩) (fewD L).length c)) W') :
    Calls Try.prog 20 #[.slice p L.length c] W Q :=
  (few_any27 h).mono fun _ _ ⟨g, c, D, he, hm, hr⟩ => by subst he; exact hR _ g c D (Lib.hid hr) (Lib.hid hm.2) (hH.join hm)
def chE (x : Ch) : Ch := ⟨fewE x.e, x.gone⟩
theorem chE_snoc {R : List En} {C : List Ch} {j : Nat} (hR : GoodE R) (hj : j < C.length) : applyF R ((C.take (j + 1)).map chE) = refStep (applyF R ((C.take j).map chE)) (chE C[j]) := by
  rw [(step_good (apply_good hR).1).2.1]
  unfold applyF
  rw [← List.take_append_getElem hj, List.map_append, List.foldl_append]
  rfl
theorem zAd_cells : fls [.one (.bool false), .many (zeroL Try.prog 23) 16] = fls [.many (adL Ad.z) 17] := by
  rw [fls1, adL_z]
  kernel_rfl
def TrF (_ _ _ : Nat) (_ : List Value) : Prop := True
theorem trF {a b c : Nat} {d : List Value} : TrF a b c d := trivial
def FndF (fs : List Ad) (_ _ : Nat) (_ : HB) (pf : Option Addr) (_ : Nat) (Dg : HB) : Prop := Hid (∀ B w0 W, Hp B w0 W Dg → AdsAt W pf fs)
def ChInF (R : List En) (gf cf : Nat) (Df : HB) : Prop := Hid (∀ B w0 W, Hp B w0 W Df → EnsAt W (some ⟨gf, 0, none⟩) R) ∧ Hid (∀ r ∈ Df, r.2.2.1 = true)
section
variable {w : World} {p p' : Option Addr} {c c' : Nat} {L : List En} {C : List Ch} {v : Int} {g0 : Ad}
set_option maxHeartbeats 32000000 in
theorem applies_walk (h : EnsAt w p L) (h' : ChsAt w p' C) : Gives Try.prog 6 #[.agg (fls (apS p L.length c p' C.length c' v g0)).toArray] w (.bool true) := by
  refine Gives.of ?_
  have HC := Lib.hid h'
  have f3 : ∀ w, Gives Try.prog 21 #[.agg (fls [.many (adL g0) 17]).toArray] w (.bool (gdA g0)) := fun w => rgood_seg
  have HFEW := Lib.hid (show ∀ (W : World) (H : HB) (Q : Ending → World → Prop), Hp w.heap.size w W H → (∀ W' g c D, Hid (∀ B w0 W, Hp B w0 W D → EnsAt W (some ⟨g, 0, none⟩) (fewD L)) → Hid (∀ r ∈ D, r.2.2.1 = true) → Hp w.heap.size w W' (H ++ D) → Q (.returned (.slice (some ⟨g, 0, none⟩) (fewD L).length c)) W') → Calls Try.prog 20 #[.slice p L.length c] W Q from fun W H Q hH hQ => hFew27 hH (h.below hH.below) hQ)
  have HG0 := Lib.hid (fewD_good L)
  have HS0 := Lib.hid (fewD_src (L := L))
  clear h h'
  generalize fewD L = R0 at *
  generalize L.length = ln at *
  have oG := adL_ok g0
  have oZ := adL_ok Ad.z
  have eZ := adL_z
  unfold apS
  obtain ⟨YG, hYG⟩ : ∃ Y, Y = adL g0 := ⟨_, rfl⟩
  rw [← hYG] at f3 oG ⊢
  have HYG := Lib.hid hYG
  clear hYG
  have hH := Hp.refl w
  cases hgd : gdA g0
  all_goals
    rw [hgd] at f3
    go_enter Try.func6, Try.ntmps6
    go_wp2_with (first | ((first | (refine hBx rfl ?_ rfl hH ?_ ?_; (focus (first | exact wN rfl | exact rfl)); (focus (repeat (first | exact trivial | assumption | exact OkA.z (by kernel_rfl) (by kernel_rfl) | refine ⟨rfl, ?_⟩ | refine ⟨?_, ?_⟩))))); clear hH; (first | intro W g hH | intro W hH); ((try simp only [Act.put, pA, pB, pC]))))
    ((with_reducible apply regKP3 (F := ChInF R0) [] hH (SubH.refl) (by kernel_rfl)); (focus ((intro W hH); (refine hk_pures (fuel := 10) (pk 0 rfl (pk 3 rfl (pk 5 rfl (pk 7 rfl (PickR.nil))))) (by kernel_rfl) (by kernel_rfl) (fun _ _ _ _ _ h => h) ?_; (repeat (go_big_quiet_step (fail))); refine hk_nil ?_); (refine hk_loads (fuel := 6) (pk 1 rfl (pk 4 rfl (pk 6 rfl (pk 8 rfl (PickR.nil))))) (by kernel_rfl) (by kernel_rfl) (fun _ _ _ _ _ h => h) hH ?_ ?_; (focus (exact SubI.h)); intro hne; (repeat (first | (go_big_quiet_want; (first | (refine qiL tab_ok rfl rfl ?_; refine ⟨_, _, rfl, rfl, ?_⟩)); (try simp only [Act.put, pA, pB, pC]); go_big_quiet_on) | go_big_quiet_step (fail))); refine hk_nil ?_; clear hne); refine hk_two (fuel := 5) 2 9 rfl rfl (by kernel_rfl) ?_ ?_; (focus (go_wp2_with (first | ((go_at_call 20; refine HFEW.out _ _ _ hH ?_; (clear hH; intro W gf cf Df hf hDf hH); (try simp only [List.cons_append, List.nil_append] at hH); ((try simp only [Act.put, pA, pB, pC]))))); refine hkQ_normal hH ?_ ?_; (focus (exact SubI.h)); (try simp only [Act.put, pA, pB, pC]); (refine hk_one (fuel := 4) 9 rfl (by kernel_rfl) ?_; go_wp2_with (first | ((first | (refine hAl tab_ok rfl ?_ hH rfl ?_; (focus (first | exact wN rfl | exact rfl)))); clear hH; (first | intro W g hH | intro W hH); ((try simp only [Act.put, pA, pB, pC])))); refine hkQ_normal hH ?_ ?_; (focus (exact SubI.h)); (try simp only [Act.put, pA, pB, pC])); (refine hk_pures (fuel := 1) (pk 10 rfl (pk 11 rfl (pk 12 rfl (PickR.nil)))) (by kernel_rfl) (by kernel_rfl) (fun _ _ _ _ _ h => h) ?_; (repeat (go_big_quiet_step (fail))); refine hk_nil ?_); (refine hk_one (fuel := 0) 13 rfl (by kernel_rfl) ?_; go_wp2_with (first | ((first | (refine iSR tab_ok rfl ?_ rfl hH ?_; (focus (first | exact wN rfl | exact rfl)); refine ⟨_, _, _, _, rfl, rfl, rfl, rfl, rfl, ?_, ?_⟩; (focus (repeat (first | exact trivial | assumption | exact OkA.z (by kernel_rfl) (by kernel_rfl) | refine ⟨rfl, ?_⟩ | refine ⟨?_, ?_⟩))))); clear hH; (first | intro W g hH | intro W hH); ((try simp only [Act.put, pA, pB, pC])))); refine hkQ_normal hH ?_ ?_; (focus (exact SubI.h)); (try simp only [Act.put, pA, pB, pC])); refine hk_endS (by kernel_rfl) ?_; exact ⟨g, gf, cf, Df, ⟨hf, hDf⟩, rfl, by first | exact hH | exact hH.perm (permC fun z => by simp only [cnt_c, cnt_app, cnt_nil, List.cons_append, List.nil_append] <;> omega)⟩)); rotate_left 1; (focus (go_wp2_with (first | ((first | (refine hAl tab_ok rfl ?_ hH rfl ?_; (focus (first | exact wN rfl | exact rfl)))); clear hH; (first | intro W g hH | intro W hH); ((try simp only [Act.put, pA, pB, pC])))); refine hkQ_normal hH ?_ ?_; (focus (exact SubI.h)); (try simp only [Act.put, pA, pB, pC]); (refine hk_one (fuel := 4) 2 rfl (by kernel_rfl) ?_; go_wp2_with (first | ((go_at_call 20; refine HFEW.out _ _ _ hH ?_; (clear hH; intro W gf cf Df hf hDf hH); (try simp only [List.cons_append, List.nil_append] at hH); ((try simp only [Act.put, pA, pB, pC]))))); refine hkQ_normal hH ?_ ?_; (focus (exact SubI.h)); (try simp only [Act.put, pA, pB, pC])); (refine hk_pures (fuel := 1) (pk 10 rfl (pk 11 rfl (pk 12 rfl (PickR.nil)))) (by kernel_rfl) (by kernel_rfl) (fun _ _ _ _ _ h => h) ?_; (repeat (go_big_quiet_step (fail))); refine hk_nil ?_); (refine hk_one (fuel := 0) 13 rfl (by kernel_rfl) ?_; go_wp2_with (first | ((first | (refine iSR tab_ok rfl ?_ rfl hH ?_; (focus (first | exact wN rfl | exact rfl)); refine ⟨_, _, _, _, rfl, rfl, rfl, rfl, rfl, ?_, ?_⟩; (focus (repeat (first | exact trivial | assumption | exact OkA.z (by kernel_rfl) (by kernel_rfl) | refine ⟨rfl, ?_⟩ | refine ⟨?_, ?_⟩))))); clear hH; (first | intro W g hH | intro W hH); ((try simp only [Act.put, pA, pB, pC])))); refine hkQ_normal hH ?_ ?_; (focus (exact SubI.h)); (try simp only [Act.put, pA, pB, pC])); refine hk_endS (by kernel_rfl) ?_; exact ⟨g, gf, cf, Df, ⟨hf, hDf⟩, rfl, by first | exact hH | exact hH.perm (permC fun z => by simp only [cnt_c, cnt_app, cnt_nil, List.cons_append, List.nil_append] <;> omega)⟩)))); ((try clear hH); intro W g6 gf cf Df hf hH))
    obtain ⟨hf1, hf2⟩ := hf
    have HOW := Lib.hid (show ∀ (W : World) (H : HB) (Q : Ending → World → Prop), Hp w.heap.size w W H → EnsAt W (some ⟨gf, 0, none⟩) R0 → (∀ W' g c D, Hid (∀ B w0 W, Hp B w0 W D → EnsAt W (some ⟨g, 0, none⟩) R0) → Hid (∀ r ∈ D, r.2.2.1 = true) → Hp w.heap.size w W' (H ++ D) → Q (.returned (.slice (some ⟨g, 0, none⟩) R0.length c)) W') → Calls Try.prog 10 #[.slice (some ⟨gf, 0, none⟩) R0.length cf] W Q from fun W H Q hH he hQ => hOwnE (by have := HG0.out.len; omega) hH he (fun W' g c D R' h1 h2 h3 h4 => by
      have e : R' = R0 := by rw [h1.out, fewE_id HS0.out]
      subst e
      exact hQ W' g c D h2 h3 h4))
    have HOX := Lib.hid (show ∀ (W : World) (H : HB) (Q : Ending → World → Prop), Hp w.heap.size w W H → EnsAt W (some ⟨gf, 0, none⟩) R0 → (∀ W' g c D X, Hid (X.map Ev.e = R0) → Hid (∀ B w0 W, Hp B w0 W D → CellsAt W (some ⟨g, 0, none⟩) X) → Hid (InE X D) → Hid (∀ r ∈ D, r.2.2.1 = true) → Hp w.heap.size w W' (H ++ D) → Q (.returned (.slice (some ⟨g, 0, none⟩) X.length c)) W') → Calls Try.prog 10 #[.slice (some ⟨gf, 0, none⟩) R0.length cf] W Q from fun W H Q hH he hQ => hOwnX (by have := HG0.out.len; omega) hH he (fun W' g c D X h1 h2 h3 h4 h5 => hQ W' g c D X (Lib.hid (by rw [h1.out, fewE_id HS0.out])) h2 h3 h4 h5))
    replace hH := hH.sub (SubH.keep (SubH.drop SubH.refl))
    go_wp2_with (first | ((go_at_call 10; refine HOX.out _ _ _ hH (hf1.out _ _ _ (hH.sub (SubH.drop SubH.refl))) ?_; (clear hH; intro W gx cx Dx X0 hx0 hx1 hx2 hx3 hH); (try simp only [List.cons_append, List.nil_append] at hH); ((try simp only [Act.put, pA, pB, pC])))) | ((refine hSl0 tab_ok rfl ?_ tabs_ok rfl rfl rfl hH ?_; (focus (first | exact wN rfl | exact rfl)); clear hH; intro W g hH; (try simp only [Act.put, pA, pB, pC]))) | ((first | (refine iL tab_ok rfl ?_ rfl hH ?_; (focus (first | exact wN rfl | exact rfl)); refine ⟨_, _, rfl, rfl, ?_⟩) | (refine iSR tab_ok rfl ?_ rfl hH ?_; (focus (first | exact wN rfl | exact rfl)); refine ⟨_, _, _, _, rfl, rfl, rfl, rfl, rfl, ?_, ?_⟩; (focus (repeat (first | exact trivial | assumption | exact OkA.z (by kernel_rfl) (by kernel_rfl) | refine ⟨rfl, ?_⟩ | refine ⟨?_, ?_⟩)))) | (refine hBd tab_ok rfl ?_ rfl rfl rfl hH ?_; (focus (first | exact wN rfl | exact rfl)); refine ⟨?_, ?_, ?_⟩; rotate_left; (focus (repeat (first | exact BR.nil | refine BR.one rfl rfl rfl ?_ | (refine BR.row rfl rfl rfl rfl ?_ ?_; (focus (repeat (first | exact trivial | assumption | exact OkA.z (by kernel_rfl) (by kernel_rfl) | refine ⟨rfl, ?_⟩ | refine ⟨?_, ?_⟩)))))))) | ((with_reducible refine callH hH ?_); refine ⟨?_, ?_, ?_⟩; rotate_left; (focus (first | (with_reducible exact f3 _))))); clear hH; (first | intro W g hH | intro W hH); ((try simp only [Act.put, pA, pB, pC]))))
    obtain ⟨gq, YQ, HYQ, oQ, hH⟩ : ∃ (gq : Ad) (YQ : List Value), Hid (YQ = adL gq) ∧ OkA YQ 17 ∧ Hp w.heap.size w W ((g, 37, true, [.many [] 0, .many [] 0]) :: (g6, 25, true, [.many YQ 17]) :: (Df ++ Dx)) := by
      first
        | exact ⟨g0, YG, HYG, oG, hH⟩
        | exact ⟨Ad.z, adL Ad.z, Lib.hid rfl, oZ, (((hH.perm (List.Perm.swap _ _ _)).re0 zAd_cells ⟨oZ, trivial⟩).perm (List.Perm.swap _ _ _))⟩
    clear f3 HFEW HOX
    go_loopw [7, 8, 9] (fun s7 s8 s9 wr => ∃ (j : Nat) (X : List Ev) (p : Option Addr) (c : Nat) (Y : List Cv) (gy cc q : Nat) (J : List Value) (D : HB), s9 = .int .i64 (j : Int) ∧ j ≤ C.length ∧ j ≤ 8 ∧ s7 = .slice p X.length c ∧ s8 = .slice (some ⟨gy, 0, none⟩) Y.length cc ∧ Y.length = j ∧ Hid (X.map Ev.e = applyF R0 ((C.take j).map chE)) ∧ Hid (Y.map Cv.x = (C.take j).map chE) ∧ Hid (∀ B w0 W, Hp B w0 W D → CellsAt W p X) ∧ Hid (InE X D) ∧ Hid (InC Y D) ∧ Hid (∀ r ∈ D, r.2.2.1 = true) ∧ Grow 21 Y.length cc (Y.length * 21) q ∧ OkA J q ∧ Hp w.heap.size w wr ((gy, 37, true, [.many (cvsL Y) (Y.length * 21), .many J q]) :: (g6, 25, true, [.many YQ 17]) :: (Df ++ D))) (fun _ _ s9 _ => 8 - (intOf s9).toNat)
    case atStart => exact ⟨0, X0, _, _, [], _, 0, 0, [], Dx, rfl, by omega, by omega, rfl, rfl, rfl, hx0, Lib.hid rfl, hx1, hx2, Lib.hid InC.nil, hx3, ⟨rfl, rfl, Nat.le_refl _, by simp [maxLen]⟩, ⟨rfl, by simp⟩, hH⟩
    case round =>
      clear hH hx0 hx1 hx2 hx3
      obtain ⟨j, X, px, cx, Y, gy, cc, q, J, D, rfl, hjC, hj8, rfl, rfl, hYj, HX, HY, HCX, HIX, HIY, hD, hG, oJ, hH⟩ := hrel
      have HX9 := Lib.hid (show X.length ≤ 900 by have := congrArg List.length HX.out; have h2 := (apply_good (C := (C.take j).map chE) HG0.out).1.len; rw [List.length_map] at this; omega)
      have hY8 : Y.length ≤ 8 := by omega
      by_cases hjl : j < C.length ∧ j < 8
      · obtain ⟨hjl, hj⟩ := hjl
        have dj : decide ((j : Int) < (C.length : Int)) = true := decide_eq_true (by omega)
        have dj8 : decide ((j : Int) < 8) = true := decide_eq_true (by omega)
        obtain ⟨qa, sa, ca0, ha, fA, fSA⟩ := HC.out.get hjl
        subst ha
        have fN := fA.cellS chQ_20
        replace fA := fA.part (k := 0) chQ_pre rfl
        rw [Addr_add0] at fA
        have HSX := Lib.hid (chE_snoc HG0.out hjl)
        have HSY := Lib.hid (show (C.take (j + 1)).map chE = Y.map Cv.x ++ [chE C[j]] by rw [HY.out, ← List.take_append_getElem hjl, List.map_append]; rfl)
        have HYj := Lib.hid hYj
        clear HC HY hYj
        generalize C[j] = x at *
        obtain ⟨⟨ka, Ga, exa, la⟩, gn⟩ := x
        unfold enS at fA
        simp only at fA fN fSA HSX HSY
        have oA := adL_ok Ga
        obtain ⟨YA, hYA⟩ : ∃ Y, Y = adL Ga := ⟨_, rfl⟩
        rw [← hYA] at fA oA
        have HYA := Lib.hid hYA
        clear hYA
        obtain ⟨l6, hl6⟩ : ∃ T, T = la.take 6 := ⟨_, rfl⟩
        have HL6 := Lib.hid hl6
        have h6 : l6.length ≤ 6 := by rw [hl6, List.length_take]; omega
        clear hl6
        go_wp2_with (fail)
        ((with_reducible apply regKP4 (F := TrF) [] hH (SubH.refl) (by kernel_rfl)); (focus ((intro W hH); (refine hk_pures (fuel := 6) (pk 0 rfl (pk 1 rfl (pk 2 rfl (pk 3 rfl (pk 6 rfl (pk 7 rfl (pk 8 rfl (pk 9 rfl (PickR.nil))))))))) (by kernel_rfl) (by kernel_rfl) (fun _ _ _ _ _ h => h) ?_; (repeat (go_big_quiet_step (fail))); refine hk_nil ?_); (refine hk_loads (fuel := 4) (pk 4 rfl (pk 10 rfl (PickR.nil))) (by kernel_rfl) (by kernel_rfl) (fun _ _ _ _ _ h => h) hH ?_ ?_; (focus (exact SubI.h)); intro hne; (repeat (first | (go_big_quiet_want; (first | ((first | (refine qLoR tab_ok rfl rfl rfl rfl ?_; refine ⟨_, fA, ⟨rfl, oA, rfl, rfl, trivial⟩, rfl, ?_⟩) | (refine qLo tab_ok rfl rfl rfl rfl ?_; refine ⟨_, fN, ?_⟩)))); (try simp only [Act.put, pA, pB, pC]); go_big_quiet_on) | go_big_quiet_step (fail))); refine hk_nil ?_; clear hne); refine hk_two (fuel := 3) 5 12 rfl rfl (by kernel_rfl) ?_ ?_; (focus (go_wp2_with (first | ((go_at_call 8; refine hEntryS HYA hH (fSA.below hH.below) ?_; (clear hH; intro W ga ca qa1 Ja lx hlx hH); (have e := HL6.out.trans hlx.out.symm); subst e; ((try simp only [Act.put, pA, pB, pC]))))); refine hkQ_normal hH ?_ ?_; (focus (exact SubI.h)); (try simp only [Act.put, pA, pB, pC]); (refine hk_pures (fuel := 2) (pk 11 rfl (PickR.nil)) (by kernel_rfl) (by kernel_rfl) (fun _ _ _ _ _ h => h) ?_; (repeat (first | (go_big_quiet_want; (refine qBd tab_ok rfl rfl rfl rfl ?_; refine ⟨?_, ?_, ?_⟩; rotate_left; (focus (repeat (first | exact BR.nil | refine BR.one rfl rfl rfl ?_ | (refine BR.row rfl rfl rfl rfl ?_ ?_; (focus (repeat (first | exact trivial | assumption | exact OkA.z (by kernel_rfl) (by kernel_rfl) | refine ⟨rfl, ?_⟩ | refine ⟨?_, ?_⟩)))))))); (try simp only [Act.put, pA, pB, pC]); go_big_quiet_on) | go_big_quiet_step (fail))); refine hk_nil ?_); (refine hk_one (fuel := 1) 12 rfl (by kernel_rfl) ?_; go_wp2_with (first | ((first | (refine hAl tab_ok rfl ?_ hH rfl ?_; (focus (first | exact wN rfl | exact rfl)))); clear hH; (first | intro W g hH | intro W hH); ((try simp only [Act.put, pA, pB, pC])))); refine hkQ_normal hH ?_ ?_; (focus (exact SubI.h)); (try simp only [Act.put, pA, pB, pC])); (refine hk_one (fuel := 0) 13 rfl (by kernel_rfl) ?_; go_wp2_with (first | ((first | (refine iSR tab_ok rfl ?_ rfl hH ?_; (focus (first | exact wN rfl | exact rfl)); refine ⟨_, _, _, _, rfl, rfl, rfl, rfl, rfl, ?_, ?_⟩; (focus (repeat (first | exact trivial | assumption | exact OkA.z (by kernel_rfl) (by kernel_rfl) | refine ⟨rfl, ?_⟩ | refine ⟨?_, ?_⟩))))); clear hH; (first | intro W g hH | intro W hH); ((try simp only [Act.put, pA, pB, pC])))); refine hkQ_normal hH ?_ ?_; (focus (exact SubI.h)); (try simp only [Act.put, pA, pB, pC])); refine hk_endS (by kernel_rfl) ?_; exact ⟨g, ga, ca, qa1, Ja, trF, rfl, by first | exact hH | exact hH.perm (permC fun z => by simp only [cnt_c, cnt_app, cnt_nil, List.cons_append, List.nil_append] <;> omega)⟩)); rotate_left 1; (focus (go_wp2_with (first | ((first | (refine hAl tab_ok rfl ?_ hH rfl ?_; (focus (first | exact wN rfl | exact rfl)))); clear hH; (first | intro W g hH | intro W hH); ((try simp only [Act.put, pA, pB, pC])))); refine hkQ_normal hH ?_ ?_; (focus (exact SubI.h)); (try simp only [Act.put, pA, pB, pC]); (refine hk_one (fuel := 2) 5 rfl (by kernel_rfl) ?_; go_wp2_with (first | ((go_at_call 8; refine hEntryS HYA hH (fSA.below hH.below) ?_; (clear hH; intro W ga ca qa1 Ja lx hlx hH); (have e := HL6.out.trans hlx.out.symm); subst e; ((try simp only [Act.put, pA, pB, pC]))))); refine hkQ_normal hH ?_ ?_; (focus (exact SubI.h)); (try simp only [Act.put, pA, pB, pC])); (refine hk_pures (fuel := 1) (pk 11 rfl (PickR.nil)) (by kernel_rfl) (by kernel_rfl) (fun _ _ _ _ _ h => h) ?_; (repeat (first | (go_big_quiet_want; (refine qBd tab_ok rfl rfl rfl rfl ?_; refine ⟨?_, ?_, ?_⟩; rotate_left; (focus (repeat (first | exact BR.nil | refine BR.one rfl rfl rfl ?_ | (refine BR.row rfl rfl rfl rfl ?_ ?_; (focus (repeat (first | exact trivial | assumption | exact OkA.z (by kernel_rfl) (by kernel_rfl) | refine ⟨rfl, ?_⟩ | refine ⟨?_, ?_⟩)))))))); (try simp only [Act.put, pA, pB, pC]); go_big_quiet_on) | go_big_quiet_step (fail))); refine hk_nil ?_); (refine hk_one (fuel := 0) 13 rfl (by kernel_rfl) ?_; go_wp2_with (first | ((first | (refine iSR tab_ok rfl ?_ rfl hH ?_; (focus (first | exact wN rfl | exact rfl)); refine ⟨_, _, _, _, rfl, rfl, rfl, rfl, rfl, ?_, ?_⟩; (focus (repeat (first | exact trivial | assumption | exact OkA.z (by kernel_rfl) (by kernel_rfl) | refine ⟨rfl, ?_⟩ | refine ⟨?_, ?_⟩))))); clear hH; (first | intro W g hH | intro W hH); ((try simp only [Act.put, pA, pB, pC])))); refine hkQ_normal hH ?_ ?_; (focus (exact SubI.h)); (try simp only [Act.put, pA, pB, pC])); refine hk_endS (by kernel_rfl) ?_; exact ⟨g, ga, ca, qa1, Ja, trF, rfl, by first | exact hH | exact hH.perm (permC fun z => by simp only [cnt_c, cnt_app, cnt_nil, List.cons_append, List.nil_append] <;> omega)⟩)))); ((try clear hH); intro W g10 ga ca qa1 Ja hTr hH))
        have HRA := Lib.hid (show ∀ (W : World) (H : HB) (Q : Ending → World → Prop), Hp w.heap.size w W H → SubH H D → AdsAt W (some ⟨ga, 0, none⟩) l6 → (∀ W' p' c' X' D', Hid (X'.map Ev.e = refStep (X.map Ev.e) ⟨⟨ka, Ga, exa, l6⟩, gn⟩) → Hid (∀ z ∈ X', z ∈ X ∨ z = ⟨⟨ka, Ga, exa, l6⟩, some ⟨ga, 0, none⟩, ca⟩) → Hid (∀ B w0 W, Hp B w0 W (D ++ D') → CellsAt W p' X') → Hid (∀ r ∈ D', r.2.2.1 = true) → Hp w.heap.size w W' (H ++ D') → Q (.returned (.slice p' X'.length c')) W') → Calls Try.prog 22 #[.slice px X.length cx, .agg (fls [.one (.int .i64 ka), .many YA 17, .one (.bool exa), .one (.slice (some ⟨ga, 0, none⟩) l6.length ca), .one (.bool gn)]).toArray] W Q from fun W H Q hH hs ha hQ => by
          rw [HYA.out]
          exact hRApply (x := ⟨⟨ka, Ga, exa, l6⟩, gn⟩) hH hs HCX.out HX9.out ha (by show l6.length ≤ 1000; omega) hQ)
        go_wp2_with (fail)
        ((with_reducible refine regKN [] hH (SubH.keep SubH.nil) (by kernel_rfl) ?_); (clear hH; intro W hH); (refine hk_pures (fuel := 10) (pk 0 rfl (pk 3 rfl (pk 4 rfl (pk 7 rfl (PickR.nil))))) (by kernel_rfl) (by kernel_rfl) (fun _ _ _ _ _ h => h) ?_; (repeat (go_big_quiet_step (fail))); refine hk_nil ?_); (refine hk_loads (fuel := 7) (pk 1 rfl (pk 5 rfl (pk 8 rfl (PickR.nil)))) (by kernel_rfl) (by kernel_rfl) (fun _ _ _ _ _ h => h) hH ?_ ?_; (focus (exact SubI.h)); intro hne; (repeat (first | (go_big_quiet_want; (first | (refine qiL tab_ok rfl rfl ?_; refine ⟨_, _, rfl, rfl, ?_⟩)); (try simp only [Act.put, pA, pB, pC]); go_big_quiet_on) | go_big_quiet_step (fail))); refine hk_nil ?_; clear hne); (refine hk_one (fuel := 6) 2 rfl (by kernel_rfl) ?_; go_wp2_with (first | ((go_at_call 22; refine HRA.out _ _ _ hH (SubH.drop (SubH.drop (SubH.drop (SubH.drop SubH.appR)))) (adsAt_row (L := l6) (J := Ja) (by omega) (by have := (hH.rows.mem (i := 1) rfl).1; rwa [fls_two] at this)) ?_; (clear hH; intro W p2 c2 X2 D2 h1 h2 h3 h4 hH); (try simp only [List.cons_append, List.nil_append, List.append_assoc] at hH); ((try simp only [Act.put, pA, pB, pC]))))); refine hkQ_normal hH ?_ ?_; (focus (exact SubI.h)); (try simp only [Act.put, pA, pB, pC])); (refine hk_one (fuel := 5) 6 rfl (by kernel_rfl) ?_; go_wp2_with (first | ((go_at_call 8; refine hEntryS HYA hH (adsAt_row (L := l6) (J := Ja) (by omega) (by have := (hH.rows.mem (i := 1) rfl).1; rwa [fls_two] at this)) ?_; (clear hH; intro W gb cb qb1 Jb lx hlx hH); (have e : l6 = lx := (List.take_of_length_le h6).symm.trans hlx.out.symm); subst e; ((try simp only [Act.put, pA, pB, pC]))))); refine hkQ_normal hH ?_ ?_; (focus (exact SubI.h)); (try simp only [Act.put, pA, pB, pC])); (refine hk_pures (fuel := 4) (pk 9 rfl (PickR.nil)) (by kernel_rfl) (by kernel_rfl) (fun _ _ _ _ _ h => h) ?_; (repeat (first | (go_big_quiet_want; (refine qBd tab_ok rfl rfl rfl rfl ?_; refine ⟨?_, ?_, ?_⟩; rotate_left; (focus (repeat (first | exact BR.nil | refine BR.one rfl rfl rfl ?_ | (refine BR.row rfl rfl rfl rfl ?_ ?_; (focus (repeat (first | exact trivial | assumption | exact OkA.z (by kernel_rfl) (by kernel_rfl) | refine ⟨rfl, ?_⟩ | refine ⟨?_, ?_⟩)))))))); (try simp only [Act.put, pA, pB, pC]); go_big_quiet_on) | go_big_quiet_step (fail))); refine hk_nil ?_); (refine hk_one (fuel := 3) 10 rfl (by kernel_rfl) ?_; go_wp2_with (first | ((refine hSl tab_ok rfl ?_ rfl tabs_ok rfl rfl rfl rfl rfl hH ?_; (focus (first | exact wN rfl | exact rfl)); refine ⟨?_, ?_, ?_⟩; rotate_left; (focus (repeat (first | exact BR.nil | refine BR.one rfl rfl rfl ?_ | (refine BR.row rfl rfl rfl rfl ?_ ?_; (focus (repeat (first | exact trivial | assumption | exact OkA.z (by kernel_rfl) (by kernel_rfl) | refine ⟨rfl, ?_⟩ | refine ⟨?_, ?_⟩))))))); clear hH; intro W g hH; (try simp only [Act.put, pA, pB, pC])))); refine hkQ_normal hH ?_ ?_; (focus (exact SubI.h)); (try simp only [Act.put, pA, pB, pC])); (refine hk_one (fuel := 2) 11 rfl (by kernel_rfl) ?_; go_wp2_with (first | (((first | (refine hApp 4 0 tab_ok tabs_ok rfl rfl rfl rfl rfl rfl rfl hH rfl rfl rfl rfl ?_; refine ⟨?_, ?_, ?_⟩; (focus assumption); (focus (first | omega | (simp; omega))))); clear hH; intro W g c p q J hG hL hJ hH; (try simp only [putH, fls, List.append_nil] at hH hL); (try simp only [Act.put, pA, pB, pC])))); refine hkQ_normal hH ?_ ?_; (focus (exact SubI.h)); (try simp only [Act.put, pA, pB, pC])); (refine hk_pures (fuel := 0) (pk 12 rfl (pk 13 rfl (PickR.nil))) (by kernel_rfl) (by kernel_rfl) (fun _ _ _ _ _ h => h) ?_; (repeat (go_big_quiet_step (fail))); refine hk_nil ?_); refine hk_endN (by kernel_rfl) ?_)
        go_wp2_with (fail)
        have hp := hG.hp
        have hq := hG.hq
        have hle := hG.le
        have hmo := hG.most
        clear hG
        have e1 : (Y ++ [(⟨⟨⟨ka, Ga, exa, l6⟩, gn⟩, some ⟨gb, 0, none⟩, cb⟩ : Cv)]).length = Y.length + 1 := by simp
        have e2 : cvsL (Y ++ [(⟨⟨⟨ka, Ga, exa, l6⟩, gn⟩, some ⟨gb, 0, none⟩, cb⟩ : Cv)]) = cvsL Y ++ (.int .i64 ka :: (YA ++ [.bool exa, .slice (some ⟨gb, 0, none⟩) l6.length cb, .bool gn])) := by rw [cvsL_snoc, HYA.out]; rfl
        have e6 : fewE ⟨ka, Ga, exa, la⟩ = ⟨ka, Ga, exa, l6⟩ := by unfold fewE; rw [HL6.out]
        refine ⟨⟨j + 1, X2, p2, c2, Y ++ [(⟨⟨⟨ka, Ga, exa, l6⟩, gn⟩, some ⟨gb, 0, none⟩, cb⟩ : Cv)], g, c, q, J, (ga, 25, true, [.many (adsL l6) (l6.length * 17), .many Ja qa1]) :: (gb, 25, true, [.many (adsL l6) (l6.length * 17), .many Jb qb1]) :: (D ++ D2), by simp, by omega, by omega, rfl, by rw [e1] <;> simp, by rw [e1, HYj.out], Lib.hid ?_, Lib.hid ?_, Lib.hid (fun B w0 W h => h3.out _ _ _ (h.sub (SubH.drop (SubH.drop SubH.refl)))), Lib.hid (fun x hx B w0 W h => ?_), Lib.hid (fun x hx B w0 W h => ?_), Lib.hid (fun r hr => ?_), by rw [e1]; exact ⟨rfl, by rw [← hq, hp] <;> rfl, hle, hmo⟩, hJ, ?_⟩, by simp [intOf]; omega⟩
        · rw [h1.out, HSX.out, HX.out]
          unfold chE
          rw [e6]
        · rw [HSY.out, List.map_append]
          unfold chE
          rw [e6]
          rfl
        · rcases h2.out x hx with h5 | rfl
          · exact HIX.out x h5 _ _ _ (h.sub (SubH.drop (SubH.drop SubH.appL)))
          · exact adsAt_row (L := l6) (by omega) (by have := (h.rows.mem (i := 0) rfl).1; rwa [fls_two] at this)
        · rcases List.mem_append.1 hx with hx | hx
          · exact HIY.out x hx _ _ _ (h.sub (SubH.drop (SubH.drop SubH.appL)))
          · obtain rfl := List.mem_singleton.1 hx
            exact adsAt_row (L := l6) (by omega) (by have := (h.rows.mem (i := 1) rfl).1; rwa [fls_two] at this)
        · rcases List.mem_cons.1 hr with rfl | hr
          · rfl
          · rcases List.mem_cons.1 hr with rfl | hr
            · rfl
            · exact (own_app hD h4).out r hr
        · rw [show (Y ++ [(⟨⟨⟨ka, Ga, exa, l6⟩, gn⟩, some ⟨gb, 0, none⟩, cb⟩ : Cv)]).length * 21 = p by rw [hp, e1] <;> rfl, e2]
          exact (hH.sub (SubH.drop (SubH.keep (SubH.drop SubH.refl)))).perm (permC fun z => by simp only [cnt_c, cnt_app, cnt_nil, List.cons_append, List.nil_append] <;> omega)
      · have HCS := Lib.hid (show (C.take j).map chE = (C.take 8).map chE by
          by_cases h8 : j = 8
          · rw [h8]
          · rw [List.take_of_length_le (show C.length ≤ j by omega), List.take_of_length_le (show C.length ≤ 8 by omega)])
        have HX1 := Lib.hid (show X.map Ev.e = applyF R0 ((C.take 8).map chE) by rw [HX.out, HCS.out])
        have HY1 := Lib.hid (show Y.map Cv.x = (C.take 8).map chE by rw [HY.out, HCS.out])
        have HCL := Lib.hid (show ((C.take 8).map chE).length = Y.length by rw [← HY1.out, List.length_map])
        clear HX HY HCS
        have HCH6 := Lib.hid (show ∀ x ∈ (C.take 8).map chE, x.e.src.length ≤ 6 from fun x hx => by
          obtain ⟨y, _, rfl⟩ := List.mem_map.1 hx
          show (y.e.src.take 6).length ≤ 6
          rw [List.length_take]; omega)
        generalize (C.take 8).map chE = Cs at *
        have hf3 := apply_good (C := Cs) HG0.out
        have HR1 := Lib.hid hf3.1
        have HSR := Lib.hid (show ∀ e ∈ applyF R0 Cs, e.src.length ≤ 6 from fun e he => by
          rcases hf3.2.2 e he with h | ⟨x, hx, rfl⟩
          · exact HS0.out e h
          · exact HCH6.out x hx)
        have HAP := Lib.hid (show ∀ (W : World) (H : HB) (Q : Ending → World → Prop) (go co : Nat) (Dl : HB), Hp w.heap.size w W H → Hid (∀ B w0 W, Hp B w0 W Dl → EnsAt W (some ⟨go, 0, none⟩) R0) → SubH H Dl → SubH H D → Row W gy 37 (fls [.many (cvsL Y) (Y.length * 21), .many J q]).toArray → (∀ W' p c D', Hid (∀ B w0 W, Hp B w0 W D' → EnsAt W p (applyF R0 Cs)) → Hid (∀ r ∈ D', r.2.2.1 = true) → Hp w.heap.size w W' (H ++ D') → Q (.returned (.slice p (applyF R0 Cs).length c)) W') → Calls Try.prog 19 #[.slice (some ⟨go, 0, none⟩) R0.length co, .slice (some ⟨gy, 0, none⟩) Y.length cc] W Q from fun W H Q go co Dl hH hl h1 h2 hr hQ => by
          have hc : ChsAt W (some ⟨gy, 0, none⟩) (Y.map Cv.x) := chsAt_row (by omega) (by rwa [fls_two] at hr) (fun x hx => HIY.out x hx _ _ _ (hH.sub h2))
          rw [HY1.out] at hc
          rw [← HCL.out]
          exact hApply hH (hl.out _ _ _ (hH.sub h1)) hc (by have := HG0.out.len; omega) (by rw [HCL.out]; omega) (fun e he => by have := HS0.out e he; omega) (fun x hx => by have := HCH6.out x hx; omega) hQ)
        have HOY := Lib.hid (show ∀ (W : World) (H : HB) (Q : Ending → World → Prop), Hp w.heap.size w W H → SubH H D → (∀ W' g c D', Hid (∀ B w0 W, Hp B w0 W D' → EnsAt W (some ⟨g, 0, none⟩) (applyF R0 Cs)) → Hid (∀ r ∈ D', r.2.2.1 = true) → Hp w.heap.size w W' (H ++ D') → Q (.returned (.slice (some ⟨g, 0, none⟩) (applyF R0 Cs).length c)) W') → Calls Try.prog 10 #[.slice px X.length cx] W Q from fun W H Q hH hs hQ => hOwnY (by have := HX9.out; omega) hH (HCX.out _ _ _ (hH.sub hs)) (fun y hy => HIX.out y hy _ _ _ (hH.sub hs)) (fun W' g c D' R' h1 h2 h3 h4 => by
          have e : R' = applyF R0 Cs := by rw [h1.out, HX1.out, fewE_id HSR.out]
          subst e
          exact hQ W' g c D' h2 h3 h4))
        have HXE := Lib.hid (show ∀ W, Hp w.heap.size w W D → EnsAt W px (applyF R0 Cs) from fun W h => by
          have := (HCX.out _ _ _ h).ens (by have := HX9.out; omega) (fun y hy => HIX.out y hy _ _ _ h)
          rwa [HX1.out] at this)
        have HXL := Lib.hid (show (applyF R0 Cs).length = X.length by rw [← HX1.out, List.length_map])
        have HXC := Lib.hid (show ∀ (i : Nat) (hi : i < X.length) (hi2 : i < (applyF R0 Cs).length), (applyF R0 Cs)[i] = X[i].e from fun i hi hi2 => by
          have : (X.map Ev.e)[i]'(by simpa using hi) = X[i].e := by simp
          rw [← this]
          congr 1
          exact HX1.out.symm)
        have hX9 : X.length ≤ 900 := HX9.out
        clear hYj
        clear hf3 HX1 HY1 HCL HG0 HC HX9 HIY HCH6 HS0
        have hjj : ¬ j < C.length ∨ (j < C.length ∧ j = 8) := by omega
        clear hjl
        generalize applyF R0 Cs = R1 at *
        obtain ⟨fi, fe, fs, hfnd⟩ : ∃ a b c, foundF R1 v gq = (a, b, c) := ⟨_, _, _, rfl⟩
        have HFD := Lib.hid (show ∀ (W : World) (H : HB) (Q : Ending → World → Prop) (go co : Nat) (Do : HB), Hp w.heap.size w W H → Hid (∀ B w0 W, Hp B w0 W Do → EnsAt W (some ⟨go, 0, none⟩) R1) → SubH H Do → (∀ W' p c D', Hid (∀ B w0 W, Hp B w0 W D' → AdsAt W p fs) → Hid (∀ r ∈ D', r.2.2.1 = true) → Hp w.heap.size w W' (H ++ D') → Q (.returned (.tuple #[.agg (fls [.one (.bool fe), .one (.slice p fs.length c)]).toArray, .bool fi])) W') → Calls Try.prog 23 #[.slice (some ⟨go, 0, none⟩) R1.length co, .int .i64 v, .agg (fls [.many YQ 17]).toArray] W Q from fun W H Q go co Do hH ho hs hQ => by
          rw [HYQ.out]
          have := dFind_any (v := v) (g := gq) (c := co) (ho.out _ _ _ (hH.sub hs)) (fun e he => by have := HSR.out e he; omega)
          rw [hfnd] at this
          exact this.mono fun _ _ ⟨p, c, D', he, hm, hr⟩ => by subst he; exact hQ _ p c D' (Lib.hid hr) (Lib.hid hm.2) (hH.join hm))
        have HFND := Lib.hid hfnd
        clear hfnd
        rcases hjj with hjj | ⟨hjj, rfl⟩
        all_goals
          first
            | have dj : decide ((j : Int) < (C.length : Int)) = false := decide_eq_false (by omega)
            | have dj : decide ((8 : Int) < (C.length : Int)) = true := decide_eq_true (by omega)
          go_wp2_with (first | ((go_at_call 10; refine HOW.out _ _ _ hH (hf1.out _ _ _ (hH.sub (SubH.drop (SubH.drop SubH.appL)))) ?_; (clear hH; intro W gl cl Dl hl1 hl2 hH); (try simp only [List.cons_append, List.nil_append, List.append_assoc] at hH); ((try simp only [Act.put, pA, pB, pC])))) | ((go_at_call 19; with_reducible refine HAP.out _ _ _ _ _ _ hH hl1 (SubH.drop (SubH.drop (SubH.r (SubH.r SubH.refl)))) (SubH.drop (SubH.drop (SubH.r SubH.appL))) (hH.rows.mem (i := 0) rfl).1 ?_; (clear hH; intro W pz cz Dz hz1 hz2 hH); (try simp only [List.cons_append, List.nil_append, List.append_assoc] at hH); ((try simp only [Act.put, pA, pB, pC])))))
          ((with_reducible apply regKP6 (F := FndF fs) [] hH (SubH.drop (SubH.keep SubH.nil)) (by kernel_rfl)); (focus ((intro W hH); (refine hk_pures (fuel := 9) (pk 0 rfl (pk 2 rfl (PickR.nil))) (by kernel_rfl) (by kernel_rfl) (fun _ _ _ _ _ h => h) ?_; (repeat (go_big_quiet_step (fail))); refine hk_nil ?_); (refine hk_loads (fuel := 8) (pk 3 rfl (PickR.nil)) (by kernel_rfl) (by kernel_rfl) (fun _ _ _ _ _ h => h) hH ?_ ?_; (focus (exact SubI.h)); intro hne; (repeat (first | (go_big_quiet_want; (first | (refine qiL tab_ok rfl rfl ?_; refine ⟨_, _, rfl, rfl, ?_⟩)); (try simp only [Act.put, pA, pB, pC]); go_big_quiet_on) | go_big_quiet_step (fail))); refine hk_nil ?_; clear hne); refine hk_two (fuel := 7) 1 8 rfl rfl (by kernel_rfl) ?_ ?_; (focus (go_wp2_with (first | ((go_at_call 10; with_reducible refine HOY.out _ _ _ hH ?_ ?_; (focus (repeat (first | exact SubH.refl | exact SubH.appL | exact SubH.appR | refine SubH.drop ?_ | refine SubH.r ?_))); (clear hH; intro W go co Do ho1 ho2 hH); (try simp only [List.cons_append, List.nil_append, List.append_assoc] at hH); ((try simp only [Act.put, pA, pB, pC]))))); refine hkQ_normal hH ?_ ?_; (focus (exact SubI.h)); (try simp only [Act.put, pA, pB, pC]); refine hk_two (fuel := 6) 4 8 rfl rfl (by kernel_rfl) ?_ ?_; (focus (go_wp2_with (first | ((go_at_call 23; with_reducible refine HFD.out _ _ _ _ _ _ hH ho1 ?_ ?_; (focus (repeat (first | exact SubH.refl | exact SubH.appL | exact SubH.appR | refine SubH.drop ?_ | refine SubH.r ?_))); (clear hH; intro W pf cg Dg hfd hDg hH); (try simp only [List.cons_append, List.nil_append, List.append_assoc] at hH); ((try simp only [Act.put, pA, pB, pC]))))); refine hkQ_normal hH ?_ ?_; (focus (exact SubI.h)); (try simp only [Act.put, pA, pB, pC]); (refine hk_pures (fuel := 3) (pk 5 rfl (pk 6 rfl (pk 7 rfl (PickR.nil)))) (by kernel_rfl) (by kernel_rfl) (fun _ _ _ _ _ h => h) ?_; (repeat (go_big_quiet_step (fail))); refine hk_nil ?_); (refine hk_one (fuel := 2) 8 rfl (by kernel_rfl) ?_; go_wp2_with (first | ((first | (refine hAl tab_ok rfl ?_ hH rfl ?_; (focus (first | exact wN rfl | exact rfl)))); clear hH; (first | intro W g hH | intro W hH); ((try simp only [Act.put, pA, pB, pC])))); refine hkQ_normal hH ?_ ?_; (focus (exact SubI.h)); (try simp only [Act.put, pA, pB, pC])); (refine hk_one (fuel := 1) 9 rfl (by kernel_rfl) ?_; go_wp2_with (first | ((first | (refine iSR tab_ok rfl ?_ rfl hH ?_; (focus (first | exact wN rfl | exact rfl)); refine ⟨_, _, _, _, rfl, rfl, rfl, rfl, rfl, ?_, ?_⟩; (focus (repeat (first | exact trivial | assumption | exact OkA.z (by kernel_rfl) (by kernel_rfl) | refine ⟨rfl, ?_⟩ | refine ⟨?_, ?_⟩))))); clear hH; (first | intro W g hH | intro W hH); ((try simp only [Act.put, pA, pB, pC])))); refine hkQ_normal hH ?_ ?_; (focus (exact SubI.h)); (try simp only [Act.put, pA, pB, pC])); (refine hk_pures (fuel := 0) (pk 10 rfl (PickR.nil)) (by kernel_rfl) (by kernel_rfl) (fun _ _ _ _ _ h => h) ?_; (repeat (go_big_quiet_step (fail))); refine hk_nil ?_); refine hk_endS (by kernel_rfl) ?_; exact ⟨g, go, co, Do, pf, cg, Dg, hfd, rfl, by first | exact hH | exact hH.perm (permC fun z => by simp only [cnt_c, cnt_app, cnt_nil, List.cons_append, List.nil_append] <;> omega)⟩)); rotate_left 1; (focus (go_wp2_with (first | ((first | (refine hAl tab_ok rfl ?_ hH rfl ?_; (focus (first | exact wN rfl | exact rfl)))); clear hH; (first | intro W g hH | intro W hH); ((try simp only [Act.put, pA, pB, pC])))); refine hkQ_normal hH ?_ ?_; (focus (exact SubI.h)); (try simp only [Act.put, pA, pB, pC]); (refine hk_one (fuel := 5) 4 rfl (by kernel_rfl) ?_; go_wp2_with (first | ((go_at_call 23; with_reducible refine HFD.out _ _ _ _ _ _ hH ho1 ?_ ?_; (focus (repeat (first | exact SubH.refl | exact SubH.appL | exact SubH.appR | refine SubH.drop ?_ | refine SubH.r ?_))); (clear hH; intro W pf cg Dg hfd hDg hH); (try simp only [List.cons_append, List.nil_append, List.append_assoc] at hH); ((try simp only [Act.put, pA, pB, pC]))))); refine hkQ_normal hH ?_ ?_; (focus (exact SubI.h)); (try simp only [Act.put, pA, pB, pC])); (refine hk_pures (fuel := 2) (pk 5 rfl (pk 6 rfl (pk 7 rfl (PickR.nil)))) (by kernel_rfl) (by kernel_rfl) (fun _ _ _ _ _ h => h) ?_; (repeat (go_big_quiet_step (fail))); refine hk_nil ?_); (refine hk_one (fuel := 1) 9 rfl (by kernel_rfl) ?_; go_wp2_with (first | ((first | (refine iSR tab_ok rfl ?_ rfl hH ?_; (focus (first | exact wN rfl | exact rfl)); refine ⟨_, _, _, _, rfl, rfl, rfl, rfl, rfl, ?_, ?_⟩; (focus (repeat (first | exact trivial | assumption | exact OkA.z (by kernel_rfl) (by kernel_rfl) | refine ⟨rfl, ?_⟩ | refine ⟨?_, ?_⟩))))); clear hH; (first | intro W g hH | intro W hH); ((try simp only [Act.put, pA, pB, pC])))); refine hkQ_normal hH ?_ ?_; (focus (exact SubI.h)); (try simp only [Act.put, pA, pB, pC])); (refine hk_pures (fuel := 0) (pk 10 rfl (PickR.nil)) (by kernel_rfl) (by kernel_rfl) (fun _ _ _ _ _ h => h) ?_; (repeat (go_big_quiet_step (fail))); refine hk_nil ?_); refine hk_endS (by kernel_rfl) ?_; exact ⟨g, go, co, Do, pf, cg, Dg, hfd, rfl, by first | exact hH | exact hH.perm (permC fun z => by simp only [cnt_c, cnt_app, cnt_nil, List.cons_append, List.nil_append] <;> omega)⟩)))); rotate_left 1; (focus (go_wp2_with (first | ((first | (refine hAl tab_ok rfl ?_ hH rfl ?_; (focus (first | exact wN rfl | exact rfl)))); clear hH; (first | intro W g hH | intro W hH); ((try simp only [Act.put, pA, pB, pC])))); refine hkQ_normal hH ?_ ?_; (focus (exact SubI.h)); (try simp only [Act.put, pA, pB, pC]); (refine hk_one (fuel := 6) 1 rfl (by kernel_rfl) ?_; go_wp2_with (first | ((go_at_call 10; with_reducible refine HOY.out _ _ _ hH ?_ ?_; (focus (repeat (first | exact SubH.refl | exact SubH.appL | exact SubH.appR | refine SubH.drop ?_ | refine SubH.r ?_))); (clear hH; intro W go co Do ho1 ho2 hH); (try simp only [List.cons_append, List.nil_append, List.append_assoc] at hH); ((try simp only [Act.put, pA, pB, pC]))))); refine hkQ_normal hH ?_ ?_; (focus (exact SubI.h)); (try simp only [Act.put, pA, pB, pC])); (refine hk_one (fuel := 5) 4 rfl (by kernel_rfl) ?_; go_wp2_with (first | ((go_at_call 23; with_reducible refine HFD.out _ _ _ _ _ _ hH ho1 ?_ ?_; (focus (repeat (first | exact SubH.refl | exact SubH.appL | exact SubH.appR | refine SubH.drop ?_ | refine SubH.r ?_))); (clear hH; intro W pf cg Dg hfd hDg hH); (try simp only [List.cons_append, List.nil_append, List.append_assoc] at hH); ((try simp only [Act.put, pA, pB, pC]))))); refine hkQ_normal hH ?_ ?_; (focus (exact SubI.h)); (try simp only [Act.put, pA, pB, pC])); (refine hk_pures (fuel := 2) (pk 5 rfl (pk 6 rfl (pk 7 rfl (PickR.nil)))) (by kernel_rfl) (by kernel_rfl) (fun _ _ _ _ _ h => h) ?_; (repeat (go_big_quiet_step (fail))); refine hk_nil ?_); (refine hk_one (fuel := 1) 9 rfl (by kernel_rfl) ?_; go_wp2_with (first | ((first | (refine iSR tab_ok rfl ?_ rfl hH ?_; (focus (first | exact wN rfl | exact rfl)); refine ⟨_, _, _, _, rfl, rfl, rfl, rfl, rfl, ?_, ?_⟩; (focus (repeat (first | exact trivial | assumption | exact OkA.z (by kernel_rfl) (by kernel_rfl) | refine ⟨rfl, ?_⟩ | refine ⟨?_, ?_⟩))))); clear hH; (first | intro W g hH | intro W hH); ((try simp only [Act.put, pA, pB, pC])))); refine hkQ_normal hH ?_ ?_; (focus (exact SubI.h)); (try simp only [Act.put, pA, pB, pC])); (refine hk_pures (fuel := 0) (pk 10 rfl (PickR.nil)) (by kernel_rfl) (by kernel_rfl) (fun _ _ _ _ _ h => h) ?_; (repeat (go_big_quiet_step (fail))); refine hk_nil ?_); refine hk_endS (by kernel_rfl) ?_; exact ⟨g, go, co, Do, pf, cg, Dg, hfd, rfl, by first | exact hH | exact hH.perm (permC fun z => by simp only [cnt_c, cnt_app, cnt_nil, List.cons_append, List.nil_append] <;> omega)⟩)))); ((try clear hH); intro W g12 go co Do pf cg Dg hfd hH))
          have hfd2 : Hid (∀ B w0 W, Hp B w0 W Dg → AdsAt W pf fs) := hfd
          clear hfd HOY HFD HAP HOW
          go_wp2_with (first | ((first | (refine iSR tab_ok rfl ?_ rfl hH ?_; (focus (first | exact wN rfl | exact rfl)); refine ⟨_, _, _, _, rfl, rfl, rfl, rfl, rfl, ?_, ?_⟩; (focus (repeat (first | exact trivial | assumption | exact OkA.z (by kernel_rfl) (by kernel_rfl) | refine ⟨rfl, ?_⟩ | refine ⟨?_, ?_⟩)))) | (refine hAl tab_ok rfl ?_ hH rfl ?_; (focus (first | exact wN rfl | exact rfl))) | (refine hBd tab_ok rfl ?_ rfl rfl rfl hH ?_; (focus (first | exact wN rfl | exact rfl)); refine ⟨?_, ?_, ?_⟩; rotate_left; (focus (repeat (first | exact BR.nil | refine BR.one rfl rfl rfl ?_ | (refine BR.row rfl rfl rfl rfl ?_ ?_; (focus (repeat (first | exact trivial | assumption | exact OkA.z (by kernel_rfl) (by kernel_rfl) | refine ⟨rfl, ?_⟩ | refine ⟨?_, ?_⟩))))))))); clear hH; (first | intro W g hH | intro W hH); ((try simp only [Act.put, pA, pB, pC]))))
          go_loopw [15, 16] (fun s15 s16 wr => ∃ (m : Nat) (is ew : Bool) (lw : List Ad) (pw : Option Addr) (cw : Nat), s15 = .bool is ∧ s16 = .int .i64 (m : Int) ∧ m ≤ X.length ∧ Hid (WantF R1 v gq m is ew lw) ∧ Hid (∀ W, Hp w.heap.size w W D → AdsAt W pw lw) ∧ Hp w.heap.size w wr ((_, 28, true, [.one (.bool ew), .one (.slice pw lw.length cw)]) :: (g12, 28, true, [.one (.bool fe), .one (.slice pf fs.length cg)]) :: (gy, 37, true, [.many (cvsL Y) (Y.length * 21), .many J q]) :: (g6, 25, true, [.many YQ 17]) :: (Df ++ (D ++ (Dl ++ (Dz ++ (Do ++ Dg))))))) (fun _ s16 _ => X.length - (intOf s16).toNat)
          case atStart => exact ⟨0, false, false, [], none, 0, rfl, rfl, by omega, Lib.hid WantF.start, Lib.hid (fun _ _ => AdsAt.nil), hH⟩
          case round =>
            clear hH
            obtain ⟨m, is, ew, lw, pw, cw, rfl, rfl, hm, HW, hPW, hH⟩ := hrel
            by_cases hml : m < X.length
            · have dm : decide ((m : Int) < (X.length : Int)) = true := decide_eq_true (by omega)
              have hmR : m < R1.length := by have := HXL.out; omega
              have hXR := HXC.out m hml hmR
              have hpx : ∃ qx, px = some qx := by
                obtain ⟨qx, h, _⟩ := HCX.out _ _ _ (hH.sub (SubH.drop (SubH.drop (SubH.drop (SubH.drop (SubH.r SubH.appL)))))) m hml
                exact ⟨qx, h⟩
              obtain ⟨qx, rfl⟩ := hpx
              have HLX := Lib.hid (show ∀ W, Hp w.heap.size w W D → OldR W (qx.add (m * 20)) (fls (evS X[m])) from fun W h => by
                obtain ⟨q', e, h2⟩ := HCX.out _ _ _ h m hml
                injection e with e
                subst e
                exact h2)
              have HAX := Lib.hid (show ∀ W, Hp w.heap.size w W D → AdsAt W X[m].p X[m].e.src from fun W h => HIX.out _ (List.getElem_mem hml) _ _ _ h)
              have HSK := Lib.hid (fun (hq : mtE v gq R1[m] = false) => HW.out.skip hmR hq)
              have HHT := Lib.hid (fun (hq : mtE v gq R1[m] = true) => WantF.hit (v := v) (g := gq) hmR hq)
              rw [hXR] at HSK HHT
              have hfE := fun w => ad_eql X[m].e.grp gq w
              rw [← HYQ.out] at hfE
              clear hXR hmR HW
              generalize X[m] = x at *
              obtain ⟨⟨kx, Gx, exx, lx⟩, pe, ce⟩ := x
              simp only at HAX HSK HHT hfE
              have oX := adL_ok Gx
              obtain ⟨YX, hYX⟩ : ∃ Y, Y = adL Gx := ⟨_, rfl⟩
              have HL0 := Lib.hid (show ∀ W, Hp w.heap.size w W D → OldC W (qx.add (m * 20)) (.int .i64 kx) from fun W h => (HLX.out W h).cell0 rfl)
              have HL1 := Lib.hid (show ∀ W, Hp w.heap.size w W D → OldR W ⟨(qx.add (m * 20)).block, (qx.add (m * 20)).off + 1, none⟩ (fls [.many YX 17]) from fun W h => by
                have := (HLX.out W h).partS (A := adL Gx) (pre := [.int .i64 kx]) (post := [.bool exx, .slice pe lx.length ce]) (k := 0) (by simp [evS, enS, fls]) rfl
                rw [hYX, fls1]
                exact this)
              have HL2 := Lib.hid (show ∀ W, Hp w.heap.size w W D → OldR W ⟨(qx.add (m * 20)).block, (qx.add (m * 20)).off + 18, none⟩ (fls [.one (.bool exx), .one (.slice pe lx.length ce)]) from fun W h => by
                have := (HLX.out W h).partS (A := fls [.one (.bool exx), .one (.slice pe lx.length ce)]) (pre := .int .i64 kx :: adL Gx) (post := []) (k := 17) (by simp [evS, enS, fls]) (by simp [adL_len])
                exact this)
              rw [← hYX] at hfE oX
              clear HLX hYX HYQ HXL HXC HXE HCX HIX
              unfold mtE at HSK HHT
              simp only at HSK HHT
              by_cases hk : kx = v
              rotate_left
              · have dk : (kx == v) = false := by simpa using hk
                have HSK2 := Lib.hid (HSK.out (by rw [dk]; rfl))
                clear HSK HHT hk
                go_wp2_with (fail)
                ((with_reducible refine regKN [] hH (SubH.refl) (by kernel_rfl) ?_); (clear hH; intro W hH); (refine hk_pures (fuel := 11) (pk 0 rfl (pk 1 rfl (pk 2 rfl (pk 3 rfl (pk 5 rfl (PickR.nil)))))) (by kernel_rfl) (by kernel_rfl) (fun _ _ _ _ _ h => h) ?_; (repeat (go_big_quiet_step (fail))); refine hk_nil ?_); (refine hk_loads (fuel := 10) (pk 4 rfl (PickR.nil)) (by kernel_rfl) (by kernel_rfl) (fun _ _ _ _ _ h => h) hH ?_ ?_; (focus (exact SubI.h)); intro hne; (repeat (first | (go_big_quiet_want; (first | ((first | (refine qD1 tab_ok rfl rfl rfl rfl ?_; refine ⟨_, fun W h => HL0.out W (h.sub (SubH.drop (SubH.drop (SubH.drop (SubH.drop (SubH.r SubH.appL)))))), ?_⟩) | (refine qDR tab_ok rfl rfl rfl rfl ?_; refine ⟨_, fun W h => HL1.out W (h.sub (SubH.drop (SubH.drop (SubH.drop (SubH.drop (SubH.r SubH.appL)))))), ⟨oX, trivial⟩, rfl, ?_⟩)))); (try simp only [Act.put, pA, pB, pC]); go_big_quiet_on) | go_big_quiet_step (fail))); refine hk_nil ?_; clear hne); (refine hk_pures (fuel := 4) (pk 6 rfl (pk 7 rfl (pk 8 rfl (pk 9 rfl (pk 10 rfl (pk 11 rfl (PickR.nil))))))) (by kernel_rfl) (by kernel_rfl) (fun _ _ _ _ _ h => h) ?_; (repeat (go_big_quiet_step (fail))); refine hk_nil ?_); (refine hk_loads (fuel := 2) (pk 12 rfl (pk 13 rfl (PickR.nil))) (by kernel_rfl) (by kernel_rfl) (fun _ _ _ _ _ h => h) hH ?_ ?_; (focus (exact SubI.h)); intro hne; (repeat (go_big_quiet_step (fail))); refine hk_nil ?_; clear hne); (refine hk_pures (fuel := 0) (pk 14 rfl (pk 15 rfl (PickR.nil))) (by kernel_rfl) (by kernel_rfl) (fun _ _ _ _ _ h => h) ?_; (repeat (go_big_quiet_step (fail))); refine hk_nil ?_); refine hk_endN (by kernel_rfl) ?_)
                go_wp2_with (fail)
                exact ⟨⟨m + 1, is, ew, lw, pw, cw, rfl, by simp, by omega, HSK2, hPW, hH⟩, by simp [intOf]; omega⟩
              subst hk
              have dk : (kx == kx) = true := by simp
              cases hge : (Gx == gq)
              · rw [hge] at hfE
                have HSK2 := Lib.hid (HSK.out (by rw [dk, hge]; rfl))
                clear HSK HHT hge
                go_wp2_with (fail)
                ((with_reducible refine regKN [] hH (SubH.refl) (by kernel_rfl) ?_); (clear hH; intro W hH); (refine hk_pures (fuel := 11) (pk 0 rfl (pk 1 rfl (pk 2 rfl (pk 3 rfl (pk 5 rfl (PickR.nil)))))) (by kernel_rfl) (by kernel_rfl) (fun _ _ _ _ _ h => h) ?_; (repeat (go_big_quiet_step (fail))); refine hk_nil ?_); (refine hk_loads (fuel := 10) (pk 4 rfl (PickR.nil)) (by kernel_rfl) (by kernel_rfl) (fun _ _ _ _ _ h => h) hH ?_ ?_; (focus (exact SubI.h)); intro hne; (repeat (first | (go_big_quiet_want; (first | ((first | (refine qD1 tab_ok rfl rfl rfl rfl ?_; refine ⟨_, fun W h => HL0.out W (h.sub (SubH.drop (SubH.drop (SubH.drop (SubH.drop (SubH.r SubH.appL)))))), ?_⟩) | (refine qDR tab_ok rfl rfl rfl rfl ?_; refine ⟨_, fun W h => HL1.out W (h.sub (SubH.drop (SubH.drop (SubH.drop (SubH.drop (SubH.r SubH.appL)))))), ⟨oX, trivial⟩, rfl, ?_⟩)))); (try simp only [Act.put, pA, pB, pC]); go_big_quiet_on) | go_big_quiet_step (fail))); refine hk_nil ?_; clear hne); (refine hk_pures (fuel := 4) (pk 6 rfl (pk 7 rfl (pk 8 rfl (pk 9 rfl (pk 10 rfl (pk 11 rfl (PickR.nil))))))) (by kernel_rfl) (by kernel_rfl) (fun _ _ _ _ _ h => h) ?_; (repeat (go_big_quiet_step (fail))); refine hk_nil ?_); (refine hk_loads (fuel := 2) (pk 12 rfl (pk 13 rfl (PickR.nil))) (by kernel_rfl) (by kernel_rfl) (fun _ _ _ _ _ h => h) hH ?_ ?_; (focus (exact SubI.h)); intro hne; (repeat (first | (go_big_quiet_want; (first | (refine qiL tab_ok rfl rfl ?_; refine ⟨_, _, rfl, rfl, ?_⟩) | ((first | (refine qD1 tab_ok rfl rfl rfl rfl ?_; refine ⟨_, fun W h => HL0.out W (h.sub (SubH.drop (SubH.drop (SubH.drop (SubH.drop (SubH.r SubH.appL)))))), ?_⟩) | (refine qDR tab_ok rfl rfl rfl rfl ?_; refine ⟨_, fun W h => HL1.out W (h.sub (SubH.drop (SubH.drop (SubH.drop (SubH.drop (SubH.r SubH.appL)))))), ⟨oX, trivial⟩, rfl, ?_⟩)))); (try simp only [Act.put, pA, pB, pC]); go_big_quiet_on) | go_big_quiet_step (fail))); refine hk_nil ?_; clear hne); (refine hk_pures (fuel := 0) (pk 14 rfl (pk 15 rfl (PickR.nil))) (by kernel_rfl) (by kernel_rfl) (fun _ _ _ _ _ h => h) ?_; (repeat (go_big_quiet_step (fail))); refine hk_nil ?_); refine hk_endN (by kernel_rfl) ?_)
                go_wp2_with (fail)
                exact ⟨⟨m + 1, is, ew, lw, pw, cw, rfl, by simp, by omega, HSK2, hPW, hH⟩, by simp [intOf]; omega⟩
              · rw [hge] at hfE
                have HHT2 := Lib.hid (HHT.out (by rw [dk, hge]; rfl))
                clear HSK HHT hge hPW
                go_wp2_with (fail)
                ((with_reducible refine regKN [] hH (SubH.refl) (by kernel_rfl) ?_); (clear hH; intro W hH); (refine hk_pures (fuel := 11) (pk 0 rfl (pk 1 rfl (pk 2 rfl (pk 3 rfl (pk 5 rfl (PickR.nil)))))) (by kernel_rfl) (by kernel_rfl) (fun _ _ _ _ _ h => h) ?_; (repeat (go_big_quiet_step (fail))); refine hk_nil ?_); (refine hk_loads (fuel := 10) (pk 4 rfl (PickR.nil)) (by kernel_rfl) (by kernel_rfl) (fun _ _ _ _ _ h => h) hH ?_ ?_; (focus (exact SubI.h)); intro hne; (repeat (first | (go_big_quiet_want; (first | ((first | (refine qD1 tab_ok rfl rfl rfl rfl ?_; refine ⟨_, fun W h => HL0.out W (h.sub (SubH.drop (SubH.drop (SubH.drop (SubH.drop (SubH.r SubH.appL)))))), ?_⟩) | (refine qDR tab_ok rfl rfl rfl rfl ?_; refine ⟨_, fun W h => HL1.out W (h.sub (SubH.drop (SubH.drop (SubH.drop (SubH.drop (SubH.r SubH.appL)))))), ⟨oX, trivial⟩, rfl, ?_⟩)))); (try simp only [Act.put, pA, pB, pC]); go_big_quiet_on) | go_big_quiet_step (fail))); refine hk_nil ?_; clear hne); (refine hk_pures (fuel := 4) (pk 6 rfl (pk 7 rfl (pk 8 rfl (pk 9 rfl (pk 10 rfl (pk 11 rfl (PickR.nil))))))) (by kernel_rfl) (by kernel_rfl) (fun _ _ _ _ _ h => h) ?_; (repeat (go_big_quiet_step (fail))); refine hk_nil ?_); (refine hk_loads (fuel := 2) (pk 12 rfl (pk 13 rfl (PickR.nil))) (by kernel_rfl) (by kernel_rfl) (fun _ _ _ _ _ h => h) hH ?_ ?_; (focus (exact SubI.h)); intro hne; (repeat (first | (go_big_quiet_want; (first | (refine qiL tab_ok rfl rfl ?_; refine ⟨_, _, rfl, rfl, ?_⟩) | ((first | (refine qD1 tab_ok rfl rfl rfl rfl ?_; refine ⟨_, fun W h => HL0.out W (h.sub (SubH.drop (SubH.drop (SubH.drop (SubH.drop (SubH.r SubH.appL)))))), ?_⟩) | (refine qDR tab_ok rfl rfl rfl rfl ?_; refine ⟨_, fun W h => HL1.out W (h.sub (SubH.drop (SubH.drop (SubH.drop (SubH.drop (SubH.r SubH.appL)))))), ⟨oX, trivial⟩, rfl, ?_⟩)))); (try simp only [Act.put, pA, pB, pC]); go_big_quiet_on) | go_big_quiet_step (fail))); refine hk_nil ?_; clear hne); (refine hk_pures (fuel := 0) (pk 14 rfl (pk 15 rfl (PickR.nil))) (by kernel_rfl) (by kernel_rfl) (fun _ _ _ _ _ h => h) ?_; (repeat (go_big_quiet_step (fail))); refine hk_nil ?_); refine hk_endN (by kernel_rfl) ?_)
                go_wp2_with (first | ((refine gL rfl ?_; refine hDR tab_ok rfl ?_ rfl hH rfl rfl ?_; (focus (first | exact wN rfl | exact rfl)); refine ⟨_, HL2.out _ (hH.sub (SubH.drop (SubH.drop (SubH.drop (SubH.drop (SubH.r SubH.appL)))))), ⟨rfl, rfl, trivial⟩, rfl, ?_⟩; (clear hH; (first | intro W g hH | intro W hH); (try simp only [Act.put, pA, pB, pC])))) | ((first | (refine iSR tab_ok rfl ?_ rfl hH ?_; (focus (first | exact wN rfl | exact rfl)); refine ⟨_, _, _, _, rfl, rfl, rfl, rfl, rfl, ?_, ?_⟩; (focus (repeat (first | exact trivial | assumption | exact OkA.z (by kernel_rfl) (by kernel_rfl) | refine ⟨rfl, ?_⟩ | refine ⟨?_, ?_⟩))))); clear hH; (first | intro W g hH | intro W hH); ((try simp only [Act.put, pA, pB, pC]))))
                exact ⟨⟨m + 1, true, exx, lx, pe, ce, rfl, by simp, by omega, HHT2, HAX, hH⟩, by simp [intOf]; omega⟩
            · have dm : decide ((m : Int) < (X.length : Int)) = false := decide_eq_false (by omega)
              have hw := HW.out
              rw [show m = R1.length by have := HXL.out; omega] at hw
              have hfin := HFND.out.symm.trans (hw.fin HR1.out.rise)
              injection hfin with h1 h2
              injection h2 with h2 h3
              subst h1
              subst h2
              subst h3
              have HSE := Lib.hid (show ∀ W, EnsAt W pz R1 → EnsAt W px R1 → Gives Try.prog 24 #[.slice pz R1.length cz, .slice px X.length cx] W (.bool true) from fun W h1 h2 => by
                have := rSameEn_self (c := cz) (c' := cx) h1 h2
                rwa [HXL.out] at this ⊢)
              have HGD := Lib.hid (show ∀ W, EnsAt W pz R1 → Gives Try.prog 9 #[.slice pz R1.length cz] W (.bool true) from fun W h1 => by
                have := dGood_any (c := cz) h1
                rwa [HR1.out.good] at this)
              have HSF := Lib.hid (show ∀ W, AdsAt W pf fs → AdsAt W pw fs → Gives Try.prog 25 #[.agg (fls [.one (.bool fe), .one (.slice pf fs.length cg)]).toArray, .agg (fls [.one (.bool fe), .one (.slice pw fs.length cw)]).toArray] W (.bool true) from fun W h1 h2 => by
                have := rSameF_any (x := fe) (y := fe) (c := cg) (c' := cw) h1 h2
                rwa [show sameF fe fe fs fs = true by simp [sameF]] at this)
              clear hw HW HXL HXC HCX HIX HFND
              have hff : (fi == fi) = true := by simp
              go_wp2_with (first | ((first | (refine iL tab_ok rfl ?_ rfl hH ?_; (focus (first | exact wN rfl | exact rfl)); refine ⟨_, _, rfl, rfl, ?_⟩) | ((with_reducible refine callH hH ?_); refine ⟨?_, ?_, ?_⟩; rotate_left; (focus (first | (with_reducible exact lives27) | (exact HSE.out _ (hz1.out _ _ _ (hH.sub (SubH.drop (SubH.drop (SubH.drop (SubH.drop (SubH.r (SubH.r (SubH.r SubH.appL))))))))) (HXE.out _ (hH.sub (SubH.drop (SubH.drop (SubH.drop (SubH.drop (SubH.r SubH.appL)))))))) | (exact HGD.out _ (hz1.out _ _ _ (hH.sub (SubH.drop (SubH.drop (SubH.drop (SubH.drop (SubH.r (SubH.r (SubH.r SubH.appL)))))))))) | (exact HSF.out _ (hfd2.out _ _ _ (hH.sub (SubH.drop (SubH.drop (SubH.drop (SubH.drop (SubH.r (SubH.r (SubH.r (SubH.r SubH.appR)))))))))) (hPW.out _ (hH.sub (SubH.drop (SubH.drop (SubH.drop (SubH.drop (SubH.r SubH.appL)))))))))))); clear hH; (first | intro W g hH | intro W hH); ((try simp only [Act.put, pA, pB, pC]))))
              go_ret
              exact ⟨rfl, hH.below⟩
end
set_option maxRecDepth 100000 in
theorem digestApplies_lifted (os : Os) (started : os.Started) (H : Type) (enc : TypeId × Value → H) :
    ReturnsInHanded {} Try.checked os 6 .any (Rows.digestAppliesSpec.pre6 enc Try.prog Try.f6 Rows.digestAppliesRow.domain false) (Rows.digestAppliesSpec.post enc Try.prog Try.f6 false true false false) := by
  refine lifted_of_walk (C := Try.checked) (tb := 4) own started (by kernel_rfl) Try.func6
    (ChangeSpec.witness6 (enc := enc) (C := Try.checked) false ⟨#[], #[.agg (fls (apS none 0 0 none 0 0 0 Ad.z)).toArray], []⟩ 8 (by kernel_rfl) (by kernel_rfl) (by kernel_rfl) (by kernel_rfl))
    (by kernel_rfl) Try.underlying4 (by kernel_rfl) (by kernel_rfl) rfl ?_ ?_
  · intro ds hl
    match ds, hl with
    | [d0], _ => exact ⟨rfl, rfl, rfl⟩
  · intro W base args ds ps hval hA hfz
    have hA' : DataW.TrodAll enc Try.prog W 0 (fun _ => true) true Try.f6.params.toList args.toList ds ps := hA
    rw [Try.params6] at hA'
    obtain ⟨v0, vs0, d0, ds0, p0, q0, hargs0, rfl, rfl, h0, r0⟩ := trodAll_cons hA'
    obtain ⟨hvs, rfl, rfl⟩ := trodAll_nil r0
    obtain rfl : args = #[v0] := by cases args; simp_all
    have g0 := hval 0 50 v0 rfl rfl
    obtain ⟨p, L, c, p', C, c', k, a, rfl, hA, hC⟩ := ap_open g0 h0
    exact applies_walk hA hC
theorem digestApplies_proved : Rows.DigestAppliesSaid :=
  OpenClaim.holds_of_wide 6 Try.f6 rfl rfl rfl rfl rfl rfl rfl ⟨rfl, rfl, rfl, rfl, rfl⟩ rfl rfl rfl rfl rfl (by kernel_rfl) Try.func6 (by kernel_rfl)
    (of_decide_eq_true (by kernel_rfl)) (by unfold Func.isWrapper; first | (rw [if_pos (by decide +kernel)]; kernel_rfl) | (rw [if_neg (by decide +kernel)]; exact ⟨rfl, rfl⟩))
    (fun os started H enc _ => digestApplies_lifted os started H enc)
end Go.Proofs.Ytdbdlhmgokllaaa
