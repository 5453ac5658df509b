/-
  DigestDiffs: the changes that make any digest of another one, and that they do. No condition.
-/
import Derived.Test.YtdbdlhmgokllaaaZm
namespace Go.Proofs.Ytdbdlhmgokllaaa
-- %in
open Go.ChangeShapes Go.WideShapes Go.ChangeAt Go.RowKit
set_option linter.unusedVariables false
set_option linter.unusedSimpArgs false
set_option maxRecDepth 20000
attribute [local irreducible] wpList

theorem diff_len : ∀ {L M : List En}, (diffF L M).length ≤ L.length + M.length
  | [], [] => by rw [diffF]; simp
  | a :: A, [] => by rw [diffF]; have := diff_len (L := A) (M := []); simp at this ⊢; omega
  | [], b :: B => by rw [diffF]; have := diff_len (L := []) (M := B); simp at this ⊢; omega
  | a :: A, b :: B => by
    rw [diffF]
    split
    · have := diff_len (L := A) (M := b :: B); simp at this ⊢; omega
    · split
      · have := diff_len (L := a :: A) (M := B); simp at this ⊢; omega
      · split
        · have := diff_len (L := A) (M := B); simp at this ⊢; omega
        · have := diff_len (L := A) (M := B); simp at this ⊢; omega
termination_by L M => L.length + M.length
theorem diff_src : ∀ {L M : List En}, ∀ v ∈ diffF L M, v.e.src = [] ∨ v.e ∈ M
  | [], [], v, hv => by rw [diffF] at hv; cases hv
  | a :: A, [], v, hv => by
    rw [diffF] at hv
    rcases List.mem_cons.1 hv with rfl | hv
    · exact .inl rfl
    · exact diff_src v hv
  | [], b :: B, v, hv => by
    rw [diffF] at hv
    rcases List.mem_cons.1 hv with rfl | hv
    · exact .inr (by simp)
    · rcases diff_src v hv with h | h
      · exact .inl h
      · exact .inr (by simp [h])
  | a :: A, b :: B, v, hv => by
    rw [diffF] at hv
    split at hv
    · rcases List.mem_cons.1 hv with rfl | hv
      · exact .inl rfl
      · exact diff_src v hv
    · split at hv
      · rcases List.mem_cons.1 hv with rfl | hv
        · exact .inr (by simp)
        · rcases diff_src v hv with h | h
          · exact .inl h
          · exact .inr (by simp [h])
      · split at hv
        · rcases diff_src v hv with h | h
          · exact .inl h
          · exact .inr (by simp [h])
        · rcases List.mem_cons.1 hv with rfl | hv
          · exact .inr (by simp)
          · rcases diff_src v hv with h | h
            · exact .inl h
            · exact .inr (by simp [h])
termination_by L M => L.length + M.length
section
variable {w : World} {p p' : Option Addr} {c c' : Nat} {L0 M0 : List En}
set_option maxHeartbeats 32000000 in
theorem diffs_walk (h : EnsAt w p L0) (h' : EnsAt w p' M0) : Gives Try.prog 7 #[.slice p L0.length c, .slice p' M0.length c'] w (.bool true) := by
  refine Gives.of ?_
  have hH := Hp.refl w
  have HFA := Lib.hid (show ∀ (W : World) (H : HB) (Q : Ending → World → Prop), Hp w.heap.size w W H → (∀ W' g c D, Hid (∀ B w0 W, Hp B w0 W D → EnsAt W (some ⟨g, 0, none⟩) (fewD L0)) → Hid (∀ r ∈ D, r.2.2.1 = true) → Hp w.heap.size w W' (H ++ D) → Q (.returned (.slice (some ⟨g, 0, none⟩) (fewD L0).length c)) W') → Calls Try.prog 20 #[.slice p L0.length c] W Q from fun W H Q hH hQ => (few_any27 (h.below hH.below)).mono fun _ _ ⟨g, c, D, he, hm, hr⟩ => by subst he; exact hQ _ g c D (Lib.hid hr) (Lib.hid hm.2) (hH.join hm))
  have HFB := Lib.hid (show ∀ (W : World) (H : HB) (Q : Ending → World → Prop), Hp w.heap.size w W H → (∀ W' g c D, Hid (∀ B w0 W, Hp B w0 W D → EnsAt W (some ⟨g, 0, none⟩) (fewD M0)) → Hid (∀ r ∈ D, r.2.2.1 = true) → Hp w.heap.size w W' (H ++ D) → Q (.returned (.slice (some ⟨g, 0, none⟩) (fewD M0).length c)) W') → Calls Try.prog 20 #[.slice p' M0.length c'] W Q from fun W H Q hH hQ => (few_any27 (h'.below hH.below)).mono fun _ _ ⟨g, c, D, he, hm, hr⟩ => by subst he; exact hQ _ g c D (Lib.hid hr) (Lib.hid hm.2) (hH.join hm))
  have gL := fewD_good L0
  have gM := fewD_good M0
  have sL := fewD_src (L := L0)
  have sM := fewD_src (L := M0)
  have lL := fewD_len L0
  have lM := fewD_len M0
  clear h h'
  generalize fewD L0 = L at *
  generalize fewD M0 = M at *
  generalize L0.length = nL at *
  generalize M0.length = nM at *
  have OWN := fun (R : List En) (hl : R.length ≤ 8) (hs : ∀ e ∈ R, e.src.length ≤ 6) => (show ∀ (W : World) (H : HB) (Q : Ending → World → Prop) (g c : Nat) (D : HB), Hp w.heap.size w W H → Hid (∀ B w0 W, Hp B w0 W D → EnsAt W (some ⟨g, 0, none⟩) R) → SubH H D → (∀ W' g c D, Hid (∀ B w0 W, Hp B w0 W D → EnsAt W (some ⟨g, 0, none⟩) R) → Hid (R.length ≤ c) → Hid (∀ r ∈ D, r.2.2.1 = true) → Hp w.heap.size w W' (H ++ D) → Q (.returned (.slice (some ⟨g, 0, none⟩) R.length c)) W') → Calls Try.prog 10 #[.slice (some ⟨g, 0, none⟩) R.length c] W Q from fun W H Q g c D hH hE hS hQ => hOwnC (by omega) hs hH (hE.out _ _ _ (hH.sub hS)) hQ)
  have HOA := Lib.hid (OWN L lL sL)
  have HOB := Lib.hid (OWN M lM sM)
  clear OWN
  have HDF := Lib.hid (show ∀ (W : World) (H : HB) (Q : Ending → World → Prop) (g1 c1 : Nat) (D1 : HB) (g2 c2 : Nat) (D2 : HB), Hp w.heap.size w W H → Hid (∀ B w0 W, Hp B w0 W D1 → EnsAt W (some ⟨g1, 0, none⟩) L) → Hid (∀ B w0 W, Hp B w0 W D2 → EnsAt W (some ⟨g2, 0, none⟩) M) → Hid (L.length ≤ c1) → Hid (M.length ≤ c2) → SubH H D1 → SubH H D2 → (∀ W' p c D, Hid (∀ B w0 W, Hp B w0 W D → ChsAt W p (diffF L M)) → Hid (∀ r ∈ D, r.2.2.1 = true) → Hp w.heap.size w W' (H ++ D) → Q (.returned (.slice p (diffF L M).length c)) W') → Calls Try.prog 26 #[.slice (some ⟨g1, 0, none⟩) L.length c1, .slice (some ⟨g2, 0, none⟩) M.length c2] W Q from fun W H Q g1 c1 D1 g2 c2 D2 hH e1 e2 k1 k2 s1 s2 hQ => hDiff hH (e1.out _ _ _ (hH.sub s1)) (e2.out _ _ _ (hH.sub s2)) k1.out k2.out (by omega) (by omega) (fun e he => by have := sL e he; omega) (fun e he => by have := sM e he; omega) hQ)
  have HRD := Lib.hid (show ∀ (W : World) (H : HB) (Q : Ending → World → Prop) (g1 c1 : Nat) (D1 : HB) (g2 c2 : Nat) (D2 : HB), Hp w.heap.size w W H → Hid (∀ B w0 W, Hp B w0 W D1 → EnsAt W (some ⟨g1, 0, none⟩) L) → Hid (∀ B w0 W, Hp B w0 W D2 → EnsAt W (some ⟨g2, 0, none⟩) M) → SubH H D1 → SubH H D2 → (∀ W' p c D, ChsAt W' p (diffF L M) → Hid (∀ r ∈ D, r.2.2.1 = true) → Hp w.heap.size w W' (H ++ D) → Q (.returned (.slice p (diffF L M).length c)) W') → Calls Try.prog 27 #[.slice (some ⟨g1, 0, none⟩) L.length c1, .slice (some ⟨g2, 0, none⟩) M.length c2] W Q from fun W H Q g1 c1 D1 g2 c2 D2 hH e1 e2 s1 s2 hQ => hRDiff hH (e1.out _ _ _ (hH.sub s1)) (e2.out _ _ _ (hH.sub s2)) gL gM (by omega) (by omega) sL sM hQ)
  have HSC := Lib.hid (show ∀ (W : World) (p1 p2 : Option Addr) (c1 c2 : Nat), ChsAt W p1 (diffF L M) → ChsAt W p2 (diffF L M) → Gives Try.prog 16 #[.slice p1 (diffF L M).length c1, .slice p2 (diffF L M).length c2] W (.bool true) from fun W p1 p2 c1 c2 h1 h2 => rSameCh_self h1 h2)
  have HDS := Lib.hid (show ∀ (W : World) (p1 p2 : Option Addr) (c1 c2 : Nat), EnsAt W p1 L → EnsAt W p2 M → Gives Try.prog 28 #[.slice p1 L.length c1, .slice p2 M.length c2] W (.bool (eqE L M)) from fun W p1 p2 c1 c2 h1 h2 => dSameL_any h1 h2)
  have HSE := Lib.hid (show ∀ (W : World) (p1 p2 : Option Addr) (c1 c2 : Nat), EnsAt W p1 L → EnsAt W p2 M → Gives Try.prog 24 #[.slice p1 L.length c1, .slice p2 M.length c2] W (.bool (eqE L M)) from fun W p1 p2 c1 c2 h1 h2 => rSameEn_any h1 h2 gL.gd gM.gd)
  have HSM := Lib.hid (show ∀ (W : World) (p1 p2 : Option Addr) (n c1 c2 : Nat), n = M.length → EnsAt W p1 M → EnsAt W p2 M → Gives Try.prog 24 #[.slice p1 n c1, .slice p2 M.length c2] W (.bool true) from fun W p1 p2 n c1 c2 e h1 h2 => by subst e; exact rSameEn_self h1 h2)
  have hap : applyF L (diffF L M) = M := by
    have := diff_makes L M [] gL.rise gM.rise (fun p hp => by cases hp) (fun p hp => by cases hp) gL.one gM.one (by simp; omega)
    simpa using this
  have hdl : (diffF L M).length ≤ 1000 ∧ ∀ x ∈ diffF L M, x.e.src.length ≤ 1000 := by
    refine ⟨by have := diff_len (L := L) (M := M); omega, fun x hx => ?_⟩
    rcases diff_src x hx with h | h
    · rw [h]; simp
    · have := sM _ h; omega
  have HAP := Lib.hid (show ∀ (W : World) (H : HB) (Q : Ending → World → Prop) (g1 c1 : Nat) (D1 : HB) (p2 : Option Addr) (c2 : Nat) (D2 : HB), Hp w.heap.size w W H → Hid (∀ B w0 W, Hp B w0 W D1 → EnsAt W (some ⟨g1, 0, none⟩) L) → Hid (∀ B w0 W, Hp B w0 W D2 → ChsAt W p2 (diffF L M)) → SubH H D1 → SubH H D2 → (∀ W' p c D, Hid (∀ B w0 W, Hp B w0 W D → EnsAt W p M) → Hid (∀ r ∈ D, r.2.2.1 = true) → Hp w.heap.size w W' (H ++ D) → Q (.returned (.slice p M.length c)) W') → Calls Try.prog 19 #[.slice (some ⟨g1, 0, none⟩) L.length c1, .slice p2 (diffF L M).length c2] W Q from fun W H Q g1 c1 D1 p2 c2 D2 hH e1 e2 s1 s2 hQ => by
    have := hApply (Q := Q) (c := c1) (c' := c2) hH (e1.out _ _ _ (hH.sub s1)) (e2.out _ _ _ (hH.sub s2)) (by omega) hdl.1 (fun e he => by have := sL e he; omega) hdl.2
    rw [hap] at this
    exact this hQ)
  have HGD := Lib.hid (show ∀ (W : World) (p1 : Option Addr) (c1 : Nat), EnsAt W p1 L → Gives Try.prog 9 #[.slice p1 L.length c1] W (.bool true) from fun W p1 c1 h1 => by
    have := dGood_any (c := c1) h1
    rwa [gL.good] at this)
  have hdn : (diffF L M).length = 0 ↔ eqE L M = true := by
    rw [List.length_eq_zero_iff, diff_nil gL gM (by omega)]
    constructor
    · rintro rfl; exact eqE_self _
    · intro h
      apply Classical.byContradiction
      intro hn
      rw [eqE_no hn] at h
      cases h
  have hdl2 := hdl.1
  clear hap hdl gL gM sL sM
  generalize eqE L M = r at *
  generalize diffF L M = DL at *
  have hM9 : M.length ≤ 9223372036854775807 := by omega
  generalize L.length = ln at *
  generalize hmn : M.length = mn at *
  generalize DL.length = dn at *
  have hdz : ((dn : Int) == 0) = r := by
    cases r
    · simp at hdn; simpa using hdn
    · simp at hdn; subst hdn; rfl
  clear hdn
  cases r
  all_goals
    go_enter Try.func7, Try.ntmps7
    go_wp2_with (first | ((go_at_call 20; first | (with_reducible refine HFA.out _ _ _ hH ?_; (clear hH; intro W ga ca Da ha hDa hH); (try simp only [List.cons_append, List.nil_append, List.append_assoc] at hH)) | (with_reducible refine HFB.out _ _ _ hH ?_; (clear hH; intro W gb cb Db hb hDb hH); (try simp only [List.cons_append, List.nil_append, List.append_assoc] at hH)); ((try simp only [Act.put, pA, pB, pC])))) | ((go_at_call 10; (first | (with_reducible refine HOA.out _ _ _ _ _ _ hH ha ?_ ?_; (focus (repeat (first | exact SubH.refl | exact SubH.appL | exact SubH.appR | refine SubH.drop ?_ | refine SubH.r ?_))); (clear hH; intro W g1 c1 D1 h1 k1 hD1 hH); (try simp only [List.cons_append, List.nil_append, List.append_assoc] at hH)) | (with_reducible refine HOB.out _ _ _ _ _ _ hH hb ?_ ?_; (focus (repeat (first | exact SubH.refl | exact SubH.appL | exact SubH.appR | refine SubH.drop ?_ | refine SubH.r ?_))); (clear hH; intro W g2 c2 D2 h2 k2 hD2 hH); (try simp only [List.cons_append, List.nil_append, List.append_assoc] at hH))); ((try simp only [Act.put, pA, pB, pC])))) | ((go_at_call 26; with_reducible refine HDF.out _ _ _ _ _ _ _ _ _ hH h1 h2 k1 k2 ?_ ?_ ?_; (focus (repeat (first | exact SubH.refl | exact SubH.appL | exact SubH.appR | refine SubH.drop ?_ | refine SubH.r ?_))); (focus (repeat (first | exact SubH.refl | exact SubH.appL | exact SubH.appR | refine SubH.drop ?_ | refine SubH.r ?_))); (clear hH; intro W pd cd Dd hd hDd hH); (try simp only [List.cons_append, List.nil_append, List.append_assoc] at hH); ((try simp only [Act.put, pA, pB, pC])))) | ((go_at_call 27; with_reducible refine HRD.out _ _ _ _ _ _ _ _ _ hH ha hb ?_ ?_ ?_; (focus (repeat (first | exact SubH.refl | exact SubH.appL | exact SubH.appR | refine SubH.drop ?_ | refine SubH.r ?_))); (focus (repeat (first | exact SubH.refl | exact SubH.appL | exact SubH.appR | refine SubH.drop ?_ | refine SubH.r ?_))); (clear hH; intro W pr cr Dr hr hDr hH); (try simp only [List.cons_append, List.nil_append, List.append_assoc] at hH); ((try simp only [Act.put, pA, pB, pC])))) | ((go_at_call 28; refine callH hH ⟨_, HDS.out _ _ _ _ _ (h1.out _ _ _ (hH.sub ?_)) (h2.out _ _ _ (hH.sub ?_)), ?_⟩; (focus (repeat (first | exact SubH.refl | exact SubH.appL | exact SubH.appR | refine SubH.drop ?_ | refine SubH.r ?_))); (focus (repeat (first | exact SubH.refl | exact SubH.appL | exact SubH.appR | refine SubH.drop ?_ | refine SubH.r ?_))); (clear hH; (first | intro W g hH | intro W hH); (try simp only [Act.put, pA, pB, pC])))) | ((go_at_call 24; (first | (with_reducible refine callH hH ⟨_, HSE.out _ _ _ _ _ (ha.out _ _ _ (hH.sub ?_)) (hb.out _ _ _ (hH.sub ?_)), ?_⟩; (focus (repeat (first | exact SubH.refl | exact SubH.appL | exact SubH.appR | refine SubH.drop ?_ | refine SubH.r ?_))); (focus (repeat (first | exact SubH.refl | exact SubH.appL | exact SubH.appR | refine SubH.drop ?_ | refine SubH.r ?_)))) | (with_reducible refine callH hH ⟨_, HSM.out _ _ _ _ _ _ rfl (hz.out _ _ _ (hH.sub ?_)) (hb.out _ _ _ (hH.sub ?_)), ?_⟩; (focus (repeat (first | exact SubH.refl | exact SubH.appL | exact SubH.appR | refine SubH.drop ?_ | refine SubH.r ?_))); (focus (repeat (first | exact SubH.refl | exact SubH.appL | exact SubH.appR | refine SubH.drop ?_ | refine SubH.r ?_))))); (clear hH; (first | intro W g hH | intro W hH); (try simp only [Act.put, pA, pB, pC])))) | ((go_at_call 19; with_reducible refine HAP.out _ _ _ _ _ _ _ _ _ hH h1 hd ?_ ?_ ?_; (focus (repeat (first | exact SubH.refl | exact SubH.appL | exact SubH.appR | refine SubH.drop ?_ | refine SubH.r ?_))); (focus (repeat (first | exact SubH.refl | exact SubH.appL | exact SubH.appR | refine SubH.drop ?_ | refine SubH.r ?_))); (clear hH; intro W pz cz Dz hz hDz hH); (try simp only [List.cons_append, List.nil_append, List.append_assoc] at hH); ((try simp only [Act.put, pA, pB, pC])))) | ((go_at_call 9; refine callH hH ⟨_, HGD.out _ _ _ (h1.out _ _ _ (hH.sub ?_)), ?_⟩; (focus (repeat (first | exact SubH.refl | exact SubH.appL | exact SubH.appR | refine SubH.drop ?_ | refine SubH.r ?_))); (clear hH; (first | intro W g hH | intro W hH); (try simp only [Act.put, pA, pB, pC])))) | ((first | ((with_reducible refine callH hH ?_); refine ⟨?_, ?_, ?_⟩; rotate_left; (focus (first | (with_reducible exact lives27) | (exact HSC.out _ _ _ _ _ (hd.out _ _ _ (hH.sub (SubH.r (SubH.r (SubH.r (SubH.r SubH.appL)))))) hr))))); clear hH; (first | intro W g hH | intro W hH); ((try simp only [Act.put, pA, pB, pC]))))
    go_ret
    exact ⟨rfl, hH.below⟩
end
set_option maxRecDepth 100000 in
theorem digestDiffs_lifted (os : Os) (started : os.Started) (H : Type) (enc : TypeId × Value → H) :
    ReturnsInHanded {} Try.checked os 7 .any (Rows.digestDiffsSpec.pre6 enc Try.prog Try.f7 Rows.digestDiffsRow.domain false) (Rows.digestDiffsSpec.post enc Try.prog Try.f7 false true false false) := by
  refine lifted_of_walk (C := Try.checked) (tb := 4) own started (by kernel_rfl) Try.func7
    (ChangeSpec.witness6 (enc := enc) (C := Try.checked) false ⟨#[], #[.slice none 0 0, .slice none 0 0], []⟩ 8 (by kernel_rfl) (by kernel_rfl) (by kernel_rfl) (by kernel_rfl))
    (by kernel_rfl) Try.underlying4 (by kernel_rfl) (by kernel_rfl) rfl ?_ ?_
  · intro ds hl
    match ds, hl with
    | [d0, d1], _ => exact ⟨rfl, rfl, rfl⟩
  · intro W base args ds ps hval hA hfz
    have hA' : DataW.TrodAll enc Try.prog W 0 (fun _ => true) true Try.f7.params.toList args.toList ds ps := hA
    rw [Try.params7] at hA'
    obtain ⟨v0, vs0, d0, ds0, p0, q0, hargs0, rfl, rfl, h0, r0⟩ := trodAll_cons hA'
    obtain ⟨v1, vs1, d1, ds1, p1, q1, hargs1, rfl, rfl, h1, r1⟩ := trodAll_cons r0
    obtain ⟨hvs, rfl, rfl⟩ := trodAll_nil r1
    obtain rfl : args = #[v0, v1] := by cases args; simp_all
    have g0 := hval 0 22 v0 rfl rfl
    have g1 := hval 1 22 v1 rfl rfl
    obtain ⟨b0, n0, c0, rfl⟩ := okWide_slice Try.underlying22 g0
    obtain ⟨b1, n1, c1, rfl⟩ := okWide_slice Try.underlying22 g1
    obtain ⟨p, L, c, e, hA, _⟩ := ens_open h0 rfl
    obtain ⟨p', M, c', e', hB, _⟩ := ens_open h1 rfl
    rw [e, e']
    exact diffs_walk hA hB
theorem digestDiffs_proved : Rows.DigestDiffsSaid :=
  OpenClaim.holds_of_wide 7 Try.f7 rfl rfl rfl rfl rfl rfl rfl ⟨rfl, rfl, rfl, rfl, rfl⟩ rfl rfl rfl rfl rfl (by kernel_rfl) Try.func7 (by kernel_rfl)
    (of_decide_eq_true (by kernel_rfl)) (by unfold Func.isWrapper; first | (rw [if_pos (by decide +kernel)]; kernel_rfl) | (rw [if_neg (by decide +kernel)]; exact ⟨rfl, rfl⟩))
    (fun os started H enc _ => digestDiffs_lifted os started H enc)
end Go.Proofs.Ytdbdlhmgokllaaa
