/-
  Contract of package digest: Apply.
-/
import Derived.Test.YtdbdlhmgokllaaaSb
namespace Go.Proofs.Ytdbdlhmgokllaaa
-- %in
open Go.ChangeShapes Go.WideShapes Go.ChangeAt Go.RowKit
set_option linter.unusedVariables false
set_option linter.unusedSimpArgs false
set_option maxRecDepth 20000
attribute [local irreducible] wpList

noncomputable def stepF (R : List En) (x : Ch) : List En :=
  if (!placedE x.e || (!x.gone && !oneE x.e)) = true then R
  else if isF R x.e (bsF R x.e R.length 0 R.length) = true then (if x.gone = true then R.eraseIdx (bsF R x.e R.length 0 R.length) else R.set (bsF R x.e R.length 0 R.length) x.e)
  else if x.gone = false ∧ R.length < 512 then R.take (bsF R x.e R.length 0 R.length) ++ x.e :: R.drop (bsF R x.e R.length 0 R.length)
  else R
theorem stepF_no {R : List En} {e : En} {g : Bool} (h : placedE e = false) : stepF R ⟨e, g⟩ = R := by unfold stepF; rw [if_pos (by simp [h])]
theorem stepF_bad {R : List En} {e : En} (h : oneE e = false) : stepF R ⟨e, false⟩ = R := by unfold stepF; rw [if_pos (by simp [h])]
theorem stepF_del {R : List En} {e : En} (h : placedE e = true) (hi : isF R e (bsF R e R.length 0 R.length) = true) : stepF R ⟨e, true⟩ = R.eraseIdx (bsF R e R.length 0 R.length) := by unfold stepF; rw [if_neg (by simp [h]), if_pos hi, if_pos rfl]
theorem stepF_rep {R : List En} {e : En} (h : placedE e = true) (h1 : oneE e = true) (hi : isF R e (bsF R e R.length 0 R.length) = true) : stepF R ⟨e, false⟩ = R.set (bsF R e R.length 0 R.length) e := by unfold stepF; rw [if_neg (by simp [h, h1]), if_pos hi, if_neg (by simp)]
theorem stepF_ins {R : List En} {e : En} (h : placedE e = true) (h1 : oneE e = true) (hi : isF R e (bsF R e R.length 0 R.length) = false) (hl : R.length < 512) : stepF R ⟨e, false⟩ = R.take (bsF R e R.length 0 R.length) ++ e :: R.drop (bsF R e R.length 0 R.length) := by unfold stepF; rw [if_neg (by simp [h, h1]), if_neg (by simp [hi]), if_pos ⟨rfl, hl⟩]
theorem stepF_gone {R : List En} {e : En} (hi : isF R e (bsF R e R.length 0 R.length) = false) : stepF R ⟨e, true⟩ = R := by
  unfold stepF
  split
  · rfl
  · rw [if_neg (by simp [hi]), if_neg (by simp)]
theorem stepF_full {R : List En} {e : En} (hi : isF R e (bsF R e R.length 0 R.length) = false) (hl : ¬ R.length < 512) : stepF R ⟨e, false⟩ = R := by
  unfold stepF
  split
  · rfl
  · rw [if_neg (by simp [hi]), if_neg (fun h => hl h.2)]
noncomputable def applyF (R : List En) (C : List Ch) : List En := C.foldl stepF R
theorem bsF_le (L : List En) (x : En) : ∀ (f i j : Nat), i ≤ L.length → j ≤ L.length → bsF L x f i j ≤ L.length
  | 0, i, j, hi, hj => hi
  | f + 1, i, j, hi, hj => by
    unfold bsF
    by_cases h : i < j
    · rw [if_pos h, List.getElem?_eq_getElem (by omega)]
      simp only
      split
      · exact bsF_le L x f _ _ (by omega) hj
      · exact bsF_le L x f _ _ hi (by omega)
    · rw [if_neg h]
      exact hi
theorem isF_lt {L : List En} {x : En} {i : Nat} (h : isF L x i = true) : i < L.length := by
  by_cases hi : i < L.length
  · exact hi
  · unfold isF at h
    rw [List.getElem?_eq_none (by omega)] at h
    cases h
def InE (X : List Ev) (D : HB) : Prop := ∀ x ∈ X, ∀ B w0 W, Hp B w0 W D → AdsAt W x.p x.e.src
theorem InE.sub {X Y : List Ev} {D : HB} (h : InE X D) (hs : ∀ y ∈ Y, y ∈ X) : InE Y D := fun y hy => h y (hs y hy)
theorem InE.app {X Y : List Ev} {D E : HB} {y : Ev} (h : InE X D) (h' : ∀ B w0 W, Hp B w0 W E → AdsAt W y.p y.e.src) (hs : ∀ z ∈ Y, z ∈ X ∨ z = y) : InE Y (D ++ E) := fun z hz B w0 W hH => by
  rcases hs z hz with hz | rfl
  · exact h z hz B w0 W (hH.sub SubH.appL)
  · exact h' B w0 W (hH.sub SubH.appR)
theorem InE.nil {D : HB} : InE [] D := fun x hx => by simp at hx
def EnsP (w : World) (R : List En) (e : Ending) (w' : World) : Prop := ∃ p c D, e = .returned (.slice p R.length c) ∧ Made w w' D ∧ ∀ B w0 W, Hp B w0 W D → EnsAt W p R
theorem EnsP.mk {w : World} {R : List En} {e : Ending} {w' : World} {p : Option Addr} {c : Nat} {D : HB} (h1 : e = .returned (.slice p R.length c)) (h2 : Made w w' D) (h3 : ∀ B w0 W, Hp B w0 W D → EnsAt W p R) : EnsP w R e w' := ⟨p, c, D, h1, h2, h3⟩
theorem EnsP.own {w w' : World} {B : Nat} {X : List Ev} {g c q : Nat} {J : List Value} {D : HB} {R : List En} (hR : X.map Ev.e = R) (hl : X.length ≤ 9223372036854775807) (hB : B = w.heap.size) (hH : Hp B w w' ((g, 30, true, [.many (evsL X) (X.length * 20), .many J q]) :: D)) (hD : ∀ r ∈ D, r.2.2.1 = true) (hX : InE X D) :
    EnsP w R (.returned (.slice (some ⟨g, 0, none⟩) X.length c)) w' := by
  subst hB
  subst hR
  refine EnsP.mk (p := some ⟨g, 0, none⟩) (c := c) (D := (g, 30, true, [.many (evsL X) (X.length * 20), .many J q]) :: D) (by rw [List.length_map]) ⟨hH, fun r hr => ?_⟩ (fun B w0 W h => ?_)
  · rcases List.mem_cons.1 hr with rfl | hr
    · rfl
    · exact hD r hr
  · exact ensAt_row hl (by have := (h.rows.mem (i := 0) rfl).1; rwa [fls_two] at this) (fun x hx => hX x hx _ _ _ (h.sub (SubH.drop SubH.refl)))
section
variable {w : World} {p p' : Option Addr} {c c' : Nat} {L : List En} {C : List Ch}
set_option maxHeartbeats 16000000 in
theorem dApply_any (h : EnsAt w p L) (h' : ChsAt w p' C) (hL : L.length ≤ 1000) (hC : C.length ≤ 1000) (hs : ∀ e ∈ L, e.src.length ≤ 1000) (hs' : ∀ x ∈ C, x.e.src.length ≤ 1000) : Calls Try.prog 19 #[.slice p L.length c, .slice p' C.length c'] w fun e w' => EnsP w (applyF L C) e w' := by
  obtain ⟨res, hres⟩ : ∃ r, applyF L C = r := ⟨_, rfl⟩
  rw [hres]
  have HRES := Lib.hid hres
  have HA := Lib.hid h
  have HC := Lib.hid h'
  have HS := Lib.hid hs
  have HS' := Lib.hid hs'
  clear hres h h' hs hs'
  have hH := Hp.refl w
  go_enter Try.func19, Try.ntmps19
  go_wp2_with (fail)
  go_loopw [5, 14] (fun s5 s14 wr => ∃ (j : Nat) (X : List Ev) (D : HB), s14 = .int .i64 (j : Int) ∧ j ≤ L.length ∧ Hid (X.length = j ∧ X.map Ev.e = L.take j) ∧ Hid (∀ r ∈ D, r.2.2.1 = true) ∧ Hid (InE X D) ∧ ((X = [] ∧ s5 = .slice none 0 0 ∧ Hp w.heap.size w wr D) ∨ (∃ (g cc q : Nat) (J : List Value), s5 = .slice (some ⟨g, 0, none⟩) X.length cc ∧ Grow 20 X.length cc (X.length * 20) q ∧ OkA J q ∧ Hp w.heap.size w wr ((g, 30, true, [.many (evsL X) (X.length * 20), .many J q]) :: D)))) (fun _ s14 _ => L.length - (intOf s14).toNat)
  case atStart => exact ⟨0, [], [], rfl, by omega, Lib.hid ⟨rfl, rfl⟩, Lib.hid (by simp), Lib.hid InE.nil, .inl ⟨rfl, rfl, hH⟩⟩
  case round =>
    clear hH
    obtain ⟨j, X, D, rfl, hj, HX, hD, hXD, hor⟩ := hrel
    by_cases hjl : j < L.length
    · have dj : decide ((j : Int) < (L.length : Int)) = true := decide_eq_true (by omega)
      obtain ⟨qa, sa, ca, ha, fA, fSA⟩ := HA.out.get hjl
      subst ha
      have hla := HS.out _ (List.getElem_mem hjl)
      have hX1 : X.length ≤ 1000 := by have := HX.out.1; omega
      have HX2 := Lib.hid (show ∀ p c, (X ++ [(⟨L[j], p, c⟩ : Ev)]).length = j + 1 ∧ (X ++ [(⟨L[j], p, c⟩ : Ev)]).map Ev.e = L.take (j + 1) from fun p c => ⟨by simp [HX.out.1], by rw [List.map_append, HX.out.2, ← List.take_append_getElem hjl]; rfl⟩)
      clear HX HA HS HC HS' HRES
      generalize L[j] = a at *
      obtain ⟨ka, Ga, exa, la⟩ := a
      unfold enS at fA
      simp only at fA fSA hla HX2
      have oA := adL_ok Ga
      obtain ⟨YA, hYA⟩ : ∃ Y, Y = adL Ga := ⟨_, rfl⟩
      rw [← hYA] at fA oA
      have HYA := Lib.hid hYA
      clear hYA
      have HOWN := Lib.hid (show ∀ (W : World) (H : HB) (Q : Ending → World → Prop), Hp w.heap.size w W H → Below w.heap.size w W → (∀ W' p c D, Hid (∀ B w0 W, Hp B w0 W D → AdsAt W p la) → Hid (∀ r ∈ D, r.2.2.1 = true) → Hp w.heap.size w W' (H ++ D) → Q (.returned (.agg (fls [.one (.int .i64 ka), .many YA 17, .one (.bool exa), .one (.slice p la.length c)]).toArray)) W') → Calls Try.prog 39 #[.agg (fls [.one (.int .i64 ka), .many YA 17, .one (.bool exa), .one (.slice sa la.length ca)]).toArray] W Q from fun W H Q hH hb hQ => by
        rw [HYA.out] at hQ ⊢
        exact hOwnD (e := ⟨ka, Ga, exa, la⟩) hH (fSA.below hb) hla hQ)
      rcases hor with ⟨rfl, rfl, hH⟩ | ⟨g, cc, q, J, rfl, hG, oJ, hH⟩
      · go_wp2_with (first | ((refine gL rfl ?_; refine hLoR tab_ok rfl ?_ rfl hH rfl rfl ?_; (focus first|exact wN rfl|exact rfl); refine ⟨_, fA, ⟨rfl, oA, rfl, rfl, trivial⟩, rfl, ?_⟩; (clear hH; (first | intro W g hH | intro W hH); (try simp only [Act.put, pA, pB, pC])))) | ((go_at_call 39; refine HOWN.out _ _ _ hH hH.below ?_; (clear hH; intro W po co Dy hya hDy hH); (try simp only [List.cons_append, List.nil_append] at hH); ((try simp only [Act.put, pA, pB, pC])))) | ((refine hSl tab_ok rfl ?_ rfl tabs_ok rfl rfl rfl rfl rfl hH ?_; (focus first|exact wN rfl|exact rfl); refine ⟨?_, ?_, ?_⟩; rotate_left; (focus (repeat (first | exact BR.nil | refine BR.one rfl rfl rfl ?_ | (refine BR.row rfl rfl rfl rfl ?_ ?_; (focus (repeat (first | exact trivial | assumption | exact OkA.z (by kernel_rfl) (by kernel_rfl) | refine ⟨rfl, ?_⟩ | refine ⟨?_, ?_⟩))))))); clear hH; intro W g hH; (try simp only [Act.put, pA, pB, pC]))) | (((first | (refine hApp0 0 tab_ok tabs_ok rfl rfl rfl rfl rfl rfl rfl hH rfl rfl rfl ?_; refine ⟨?_, ?_, ?_⟩; (focus (first | omega | (simp; omega))); (focus (first | omega | (simp; omega))))); clear hH; intro W g c p q J hG hL hJ hH; (try simp only [putH, fls, List.append_nil] at hH hL); (try simp only [Act.put, pA, pB, pC]))) | ((first | (refine iL tab_ok rfl ?_ rfl hH ?_; (focus first|exact wN rfl|exact rfl); refine ⟨_, _, rfl, rfl, ?_⟩) | (refine iSR tab_ok rfl ?_ rfl hH ?_; (focus first|exact wN rfl|exact rfl); refine ⟨_, _, _, _, rfl, rfl, rfl, rfl, rfl, ?_, ?_⟩; (focus (repeat (first | exact trivial | assumption | exact OkA.z (by kernel_rfl) (by kernel_rfl) | refine ⟨rfl, ?_⟩ | refine ⟨?_, ?_⟩)))) | (refine hAl tab_ok rfl ?_ hH rfl ?_; (focus first|exact wN rfl|exact rfl))); clear hH; (first | intro W g hH | intro W hH); ((try simp only [Act.put, pA, pB, pC]))))
        have hp := hG.hp
        have hq := hG.hq
        have hle := hG.le
        have hmo := hG.most
        clear hG
        have e1 : (([] : List Ev) ++ [(⟨⟨ka, Ga, exa, la⟩, po, co⟩ : Ev)]).length = ([] : List Ev).length + 1 := by simp
        have e2 : evsL (([] : List Ev) ++ [(⟨⟨ka, Ga, exa, la⟩, po, co⟩ : Ev)]) = evsL ([] : List Ev) ++ (.int .i64 ka :: (YA ++ [.bool exa, .slice po la.length co])) := by rw [evsL_snoc, HYA.out]; rfl
        refine ⟨⟨j + 1, ([] : List Ev) ++ [(⟨⟨ka, Ga, exa, la⟩, po, co⟩ : Ev)], D ++ Dy, by simp, by omega, Lib.hid (HX2.out po co), own_app hD hDy, Lib.hid (InE.app hXD.out hya.out (fun z hz => by simpa using hz)), .inr ⟨g, c, q, J, by rw [e1] <;> simp, by rw [e1]; exact ⟨rfl, by rw [← hq, hp] <;> rfl, hle, hmo⟩, hJ, ?_⟩⟩, by simp [intOf]; omega⟩
        rw [show (([] : List Ev) ++ [(⟨⟨ka, Ga, exa, la⟩, po, co⟩ : Ev)]).length * 20 = p by rw [hp, e1] <;> rfl, e2]
        exact hH.sub (by first | exact SubH.keep (SubH.drop (SubH.drop SubH.refl)) | exact SubH.drop (SubH.drop (SubH.keep SubH.refl)) | exact SubH.drop (SubH.drop SubH.refl) | exact SubI.h)
      · go_wp2_with (first | ((refine gL rfl ?_; refine hLoR tab_ok rfl ?_ rfl hH rfl rfl ?_; (focus first|exact wN rfl|exact rfl); refine ⟨_, fA, ⟨rfl, oA, rfl, rfl, trivial⟩, rfl, ?_⟩; (clear hH; (first | intro W g hH | intro W hH); (try simp only [Act.put, pA, pB, pC])))) | ((go_at_call 39; refine HOWN.out _ _ _ hH hH.below ?_; (clear hH; intro W po co Dy hya hDy hH); (try simp only [List.cons_append, List.nil_append] at hH); ((try simp only [Act.put, pA, pB, pC])))) | ((refine hSl tab_ok rfl ?_ rfl tabs_ok rfl rfl rfl rfl rfl hH ?_; (focus first|exact wN rfl|exact rfl); refine ⟨?_, ?_, ?_⟩; rotate_left; (focus (repeat (first | exact BR.nil | refine BR.one rfl rfl rfl ?_ | (refine BR.row rfl rfl rfl rfl ?_ ?_; (focus (repeat (first | exact trivial | assumption | exact OkA.z (by kernel_rfl) (by kernel_rfl) | refine ⟨rfl, ?_⟩ | refine ⟨?_, ?_⟩))))))); clear hH; intro W g hH; (try simp only [Act.put, pA, pB, pC]))) | (((first | (refine hApp 2 0 tab_ok tabs_ok rfl rfl rfl rfl rfl rfl rfl hH rfl rfl rfl rfl ?_; refine ⟨?_, ?_, ?_⟩; (focus assumption); (focus (first | omega | (simp; omega))))); clear hH; intro W g c p q J hG hL hJ hH; (try simp only [putH, fls, List.append_nil] at hH hL); (try simp only [Act.put, pA, pB, pC]))) | ((first | (refine iL tab_ok rfl ?_ rfl hH ?_; (focus first|exact wN rfl|exact rfl); refine ⟨_, _, rfl, rfl, ?_⟩) | (refine iSR tab_ok rfl ?_ rfl hH ?_; (focus first|exact wN rfl|exact rfl); refine ⟨_, _, _, _, rfl, rfl, rfl, rfl, rfl, ?_, ?_⟩; (focus (repeat (first | exact trivial | assumption | exact OkA.z (by kernel_rfl) (by kernel_rfl) | refine ⟨rfl, ?_⟩ | refine ⟨?_, ?_⟩)))) | (refine hAl tab_ok rfl ?_ hH rfl ?_; (focus first|exact wN rfl|exact rfl))); clear hH; (first | intro W g hH | intro W hH); ((try simp only [Act.put, pA, pB, pC]))))
        have hp := hG.hp
        have hq := hG.hq
        have hle := hG.le
        have hmo := hG.most
        clear hG
        have e1 : (X ++ [(⟨⟨ka, Ga, exa, la⟩, po, co⟩ : Ev)]).length = X.length + 1 := by simp
        have e2 : evsL (X ++ [(⟨⟨ka, Ga, exa, la⟩, po, co⟩ : Ev)]) = evsL X ++ (.int .i64 ka :: (YA ++ [.bool exa, .slice po la.length co])) := by rw [evsL_snoc, HYA.out]; rfl
        refine ⟨⟨j + 1, X ++ [(⟨⟨ka, Ga, exa, la⟩, po, co⟩ : Ev)], D ++ Dy, by simp, by omega, Lib.hid (HX2.out po co), own_app hD hDy, Lib.hid (InE.app hXD.out hya.out (fun z hz => by simpa using hz)), .inr ⟨g, c, q, J, by rw [e1] <;> simp, by rw [e1]; exact ⟨rfl, by rw [← hq, hp] <;> rfl, hle, hmo⟩, hJ, ?_⟩⟩, by simp [intOf]; omega⟩
        rw [show (X ++ [(⟨⟨ka, Ga, exa, la⟩, po, co⟩ : Ev)]).length * 20 = p by rw [hp, e1] <;> rfl, e2]
        exact hH.sub (by first | exact SubH.keep (SubH.drop (SubH.drop SubH.refl)) | exact SubH.drop (SubH.drop (SubH.keep SubH.refl)) | exact SubH.drop (SubH.drop SubH.refl) | exact SubI.h)
    · have dj : decide ((j : Int) < (L.length : Int)) = false := decide_eq_false (by omega)
      have HX2 := Lib.hid (show C.foldl stepF (X.map Ev.e) = res by rw [HX.out.2, List.take_of_length_le (by omega)]; exact HRES.out)
      have hX1 : X.length ≤ 1000 := by have := HX.out.1; omega
      clear HX HA HS HRES hj
      go_wp2_with (fail)
      go_loopw [5, 26] (fun s5 s26 wr => ∃ (j : Nat) (X : List Ev) (D : HB), s26 = .int .i64 (j : Int) ∧ j ≤ C.length ∧ X.length ≤ 1000 ∧ Hid ((C.drop j).foldl stepF (X.map Ev.e) = res) ∧ Hid (∀ r ∈ D, r.2.2.1 = true) ∧ Hid (InE X D) ∧ ((X = [] ∧ s5 = .slice none 0 0 ∧ Hp w.heap.size w wr D) ∨ (∃ (g cc q : Nat) (J : List Value), s5 = .slice (some ⟨g, 0, none⟩) X.length cc ∧ Grow 20 X.length cc (X.length * 20) q ∧ OkA J q ∧ Hp w.heap.size w wr ((g, 30, true, [.many (evsL X) (X.length * 20), .many J q]) :: D)))) (fun _ s26 _ => C.length - (intOf s26).toNat)
      case atStart => exact ⟨0, X, D, rfl, by omega, hX1, Lib.hid (by rw [List.drop_zero]; exact HX2.out), hD, hXD, hor⟩
      case round =>
        clear hor hD hXD HX2 hX1 dj hjl
        clear X D
        obtain ⟨j, X, D, rfl, hj, hX1, HX, hD, hXD, hor⟩ := hrel
        by_cases hjl : j < C.length
        · have dj : decide ((j : Int) < (C.length : Int)) = true := decide_eq_true (by omega)
          obtain ⟨qa, sa, ca, ha, fA, fSA⟩ := HC.out.get hjl
          subst ha
          have hla := HS'.out _ (List.getElem_mem hjl)
          have HST := Lib.hid (show (C.drop (j + 1)).foldl stepF (stepF (X.map Ev.e) C[j]) = res by have := HX.out; rwa [List.drop_eq_getElem_cons hjl] at this)
          clear HX HC HS'
          generalize C[j] = x at *
          have f1 : ∀ w p c, Gives Try.prog 40 #[.agg (fls (enS x.e p c)).toArray] w (.bool (placedE x.e)) := fun w p c => placed_any
          have f2 := Lib.hid (fun W (hb : Below w.heap.size w W) => one_any (c := ca) (fSA.below hb))
          have HBS := Lib.hid (fun (W : World) (p : Option Addr) (c : Nat) (h : EnsAt W p (X.map Ev.e)) => bs_any (c := c) (s := sa) (cs := ca) (x := x.e) h (by rw [List.length_map]; omega))
          obtain ⟨⟨ka, Ga, exa, la⟩, gn⟩ := x
          unfold chS at fA
          unfold enS at f1 f2 HBS
          simp only at fA fSA hla f1 f2 HBS
          have oA := adL_ok Ga
          obtain ⟨YA, hYA⟩ : ∃ Y, Y = adL Ga := ⟨_, rfl⟩
          rw [← hYA] at fA oA f1 f2 HBS
          have HYA := Lib.hid hYA
          clear hYA
          have HOWN := Lib.hid (show ∀ (W : World) (H : HB) (Q : Ending → World → Prop), Hp w.heap.size w W H → Below w.heap.size w W → (∀ W' p c D, Hid (∀ B w0 W, Hp B w0 W D → AdsAt W p la) → Hid (∀ r ∈ D, r.2.2.1 = true) → Hp w.heap.size w W' (H ++ D) → Q (.returned (.agg (fls [.one (.int .i64 ka), .many YA 17, .one (.bool exa), .one (.slice p la.length c)]).toArray)) W') → Calls Try.prog 39 #[.agg (fls [.one (.int .i64 ka), .many YA 17, .one (.bool exa), .one (.slice sa la.length ca)]).toArray] W Q from fun W H Q hH hb hQ => by
            rw [HYA.out] at hQ ⊢
            exact hOwnD (e := ⟨ka, Ga, exa, la⟩) hH (fSA.below hb) hla hQ)
          clear fSA
          cases hpl : placedE ⟨ka, Ga, exa, la⟩ with
          | false =>
            rw [hpl] at f1
            have HS2 := Lib.hid (show (C.drop (j + 1)).foldl stepF (X.map Ev.e) = res by have := HST.out; rwa [stepF_no hpl] at this)
            clear HST HBS hpl HOWN f2
            rcases hor with ⟨rfl, rfl, hH⟩ | ⟨g, cc, q, J, rfl, hG, oJ, hH⟩
            · go_wp2_with (first | ((refine gL rfl ?_; refine hLoR tab_ok rfl ?_ rfl hH rfl rfl ?_; (focus first|exact wN rfl|exact rfl); refine ⟨_, fA, ⟨rfl, oA, rfl, rfl, rfl, trivial⟩, rfl, ?_⟩; (clear hH; (first | intro W g hH | intro W hH); (try simp only [Act.put, pA, pB, pC])))) | ((first | (refine iL tab_ok rfl ?_ rfl hH ?_; (focus first|exact wN rfl|exact rfl); refine ⟨_, _, rfl, rfl, ?_⟩) | (refine iSR tab_ok rfl ?_ rfl hH ?_; (focus first|exact wN rfl|exact rfl); refine ⟨_, _, _, _, rfl, rfl, rfl, rfl, rfl, ?_, ?_⟩; (focus (repeat (first | exact trivial | assumption | exact OkA.z (by kernel_rfl) (by kernel_rfl) | refine ⟨rfl, ?_⟩ | refine ⟨?_, ?_⟩)))) | (refine hAl tab_ok rfl ?_ hH rfl ?_; (focus first|exact wN rfl|exact rfl)) | ((with_reducible refine callH hH ?_); refine ⟨?_, ?_, ?_⟩; rotate_left; (focus (first | (exact f1 _ _ _) | (exact f2.out _ hH.below))))); clear hH; (first | intro W g hH | intro W hH); ((try simp only [Act.put, pA, pB, pC]))))
              exact ⟨⟨j + 1, [], D, by simp, by omega, hX1, HS2.out, hD, hXD, .inl ⟨rfl, rfl, hH.sub (SubH.drop SubH.refl)⟩⟩, by simp [intOf]; omega⟩
            · go_wp2_with (first | ((refine gL rfl ?_; refine hLoR tab_ok rfl ?_ rfl hH rfl rfl ?_; (focus first|exact wN rfl|exact rfl); refine ⟨_, fA, ⟨rfl, oA, rfl, rfl, rfl, trivial⟩, rfl, ?_⟩; (clear hH; (first | intro W g hH | intro W hH); (try simp only [Act.put, pA, pB, pC])))) | ((first | (refine iL tab_ok rfl ?_ rfl hH ?_; (focus first|exact wN rfl|exact rfl); refine ⟨_, _, rfl, rfl, ?_⟩) | (refine iSR tab_ok rfl ?_ rfl hH ?_; (focus first|exact wN rfl|exact rfl); refine ⟨_, _, _, _, rfl, rfl, rfl, rfl, rfl, ?_, ?_⟩; (focus (repeat (first | exact trivial | assumption | exact OkA.z (by kernel_rfl) (by kernel_rfl) | refine ⟨rfl, ?_⟩ | refine ⟨?_, ?_⟩)))) | (refine hAl tab_ok rfl ?_ hH rfl ?_; (focus first|exact wN rfl|exact rfl)) | ((with_reducible refine callH hH ?_); refine ⟨?_, ?_, ?_⟩; rotate_left; (focus (first | (exact f1 _ _ _) | (exact f2.out _ hH.below))))); clear hH; (first | intro W g hH | intro W hH); ((try simp only [Act.put, pA, pB, pC]))))
              exact ⟨⟨j + 1, X, D, by simp, by omega, hX1, HS2.out, hD, hXD, .inr ⟨_, cc, q, J, rfl, hG, oJ, hH.sub (SubH.drop SubH.refl)⟩⟩, by simp [intOf]; omega⟩
          | true =>
            rw [hpl] at f1
            have HPL := Lib.hid hpl
            clear hpl
            cases gn with
            | false =>
              cases hon : oneE ⟨ka, Ga, exa, la⟩ with
              | false =>
                rw [hon] at f2
                have HS2 := Lib.hid (show (C.drop (j + 1)).foldl stepF (X.map Ev.e) = res by have := HST.out; rwa [stepF_bad hon] at this)
                clear HST HBS HPL hon HOWN
                rcases hor with ⟨rfl, rfl, hH⟩ | ⟨g, cc, q, J, rfl, hG, oJ, hH⟩
                · go_wp2_with (first | ((refine gL rfl ?_; refine hLoR tab_ok rfl ?_ rfl hH rfl rfl ?_; (focus first|exact wN rfl|exact rfl); refine ⟨_, fA, ⟨rfl, oA, rfl, rfl, rfl, trivial⟩, rfl, ?_⟩; (clear hH; (first | intro W g hH | intro W hH); (try simp only [Act.put, pA, pB, pC])))) | ((first | (refine iL tab_ok rfl ?_ rfl hH ?_; (focus first|exact wN rfl|exact rfl); refine ⟨_, _, rfl, rfl, ?_⟩) | (refine iSR tab_ok rfl ?_ rfl hH ?_; (focus first|exact wN rfl|exact rfl); refine ⟨_, _, _, _, rfl, rfl, rfl, rfl, rfl, ?_, ?_⟩; (focus (repeat (first | exact trivial | assumption | exact OkA.z (by kernel_rfl) (by kernel_rfl) | refine ⟨rfl, ?_⟩ | refine ⟨?_, ?_⟩)))) | (refine hAl tab_ok rfl ?_ hH rfl ?_; (focus first|exact wN rfl|exact rfl)) | ((with_reducible refine callH hH ?_); refine ⟨?_, ?_, ?_⟩; rotate_left; (focus (first | (exact f1 _ _ _) | (exact f2.out _ hH.below))))); clear hH; (first | intro W g hH | intro W hH); ((try simp only [Act.put, pA, pB, pC]))))
                  exact ⟨⟨j + 1, [], D, by simp, by omega, hX1, HS2.out, hD, hXD, .inl ⟨rfl, rfl, hH.sub (SubH.drop SubH.refl)⟩⟩, by simp [intOf]; omega⟩
                · go_wp2_with (first | ((refine gL rfl ?_; refine hLoR tab_ok rfl ?_ rfl hH rfl rfl ?_; (focus first|exact wN rfl|exact rfl); refine ⟨_, fA, ⟨rfl, oA, rfl, rfl, rfl, trivial⟩, rfl, ?_⟩; (clear hH; (first | intro W g hH | intro W hH); (try simp only [Act.put, pA, pB, pC])))) | ((first | (refine iL tab_ok rfl ?_ rfl hH ?_; (focus first|exact wN rfl|exact rfl); refine ⟨_, _, rfl, rfl, ?_⟩) | (refine iSR tab_ok rfl ?_ rfl hH ?_; (focus first|exact wN rfl|exact rfl); refine ⟨_, _, _, _, rfl, rfl, rfl, rfl, rfl, ?_, ?_⟩; (focus (repeat (first | exact trivial | assumption | exact OkA.z (by kernel_rfl) (by kernel_rfl) | refine ⟨rfl, ?_⟩ | refine ⟨?_, ?_⟩)))) | (refine hAl tab_ok rfl ?_ hH rfl ?_; (focus first|exact wN rfl|exact rfl)) | ((with_reducible refine callH hH ?_); refine ⟨?_, ?_, ?_⟩; rotate_left; (focus (first | (exact f1 _ _ _) | (exact f2.out _ hH.below))))); clear hH; (first | intro W g hH | intro W hH); ((try simp only [Act.put, pA, pB, pC]))))
                  exact ⟨⟨j + 1, X, D, by simp, by omega, hX1, HS2.out, hD, hXD, .inr ⟨_, cc, q, J, rfl, hG, oJ, hH.sub (SubH.drop SubH.refl)⟩⟩, by simp [intOf]; omega⟩
              | true =>
                rw [hon] at f2
                have HON := Lib.hid hon
                clear hon
                rcases hor with ⟨rfl, rfl, hH⟩ | ⟨g, cc, q, J, rfl, hG, oJ, hH⟩
                · have HB0 : ∀ W, Gives Try.prog 41 #[.slice none 0 0, .agg (fls [.one (.int .i64 ka), .many YA 17, .one (.bool exa), .one (.slice sa la.length ca)]).toArray, .func (.func 31) #[] #[]] W (.tuple #[.int .i64 0, .bool false]) := fun W => HBS.out W none 0 EnsAt.nil
                  have HS2 := Lib.hid (show (C.drop (j + 1)).foldl stepF [⟨ka, Ga, exa, la⟩] = res by have h := HST.out; rw [stepF_ins HPL.out HON.out rfl (by simp)] at h; exact h)
                  clear HST HBS HPL HON
                  go_wp2_with (first | ((refine gL rfl ?_; refine hLoR tab_ok rfl ?_ rfl hH rfl rfl ?_; (focus first|exact wN rfl|exact rfl); refine ⟨_, fA, ⟨rfl, oA, rfl, rfl, rfl, trivial⟩, rfl, ?_⟩; (clear hH; (first | intro W g hH | intro W hH); (try simp only [Act.put, pA, pB, pC])))) | ((go_at_call 39; refine HOWN.out _ _ _ hH hH.below ?_; (clear hH; intro W po co Dy hya hDy hH); (try simp only [List.cons_append, List.nil_append] at hH); ((try simp only [Act.put, pA, pB, pC])))) | ((refine hSl tab_ok rfl ?_ rfl tabs_ok rfl rfl rfl rfl rfl hH ?_; (focus first|exact wN rfl|exact rfl); refine ⟨?_, ?_, ?_⟩; rotate_left; (focus (repeat (first | exact BR.nil | refine BR.one rfl rfl rfl ?_ | (refine BR.row rfl rfl rfl rfl ?_ ?_; (focus (repeat (first | exact trivial | assumption | exact OkA.z (by kernel_rfl) (by kernel_rfl) | refine ⟨rfl, ?_⟩ | refine ⟨?_, ?_⟩))))))); clear hH; intro W g hH; (try simp only [Act.put, pA, pB, pC]))) | ((go_at_call 43; refine hIns0 (y := ⟨⟨ka, Ga, exa, la⟩, po, co⟩) ?_ hH ?_; (focus (rw [HYA.out]; rfl)); (clear hH; intro W g2 c2 q2 J2 hG2 hJ2 hH); ((try simp only [Act.put, pA, pB, pC])))) | ((first | (refine iL tab_ok rfl ?_ rfl hH ?_; (focus first|exact wN rfl|exact rfl); refine ⟨_, _, rfl, rfl, ?_⟩) | (refine iSR tab_ok rfl ?_ rfl hH ?_; (focus first|exact wN rfl|exact rfl); refine ⟨_, _, _, _, rfl, rfl, rfl, rfl, rfl, ?_, ?_⟩; (focus (repeat (first | exact trivial | assumption | exact OkA.z (by kernel_rfl) (by kernel_rfl) | refine ⟨rfl, ?_⟩ | refine ⟨?_, ?_⟩)))) | (refine hAl tab_ok rfl ?_ hH rfl ?_; (focus first|exact wN rfl|exact rfl)) | ((with_reducible refine callH hH ?_); refine ⟨?_, ?_, ?_⟩; rotate_left; (focus (first | (exact f1 _ _ _) | (exact f2.out _ hH.below) | (exact HB0 _))))); clear hH; (first | intro W g hH | intro W hH); ((try simp only [Act.put, pA, pB, pC]))))
                  exact ⟨⟨j + 1, [(⟨⟨ka, Ga, exa, la⟩, po, co⟩ : Ev)], D ++ Dy, by simp, by omega, by simp, HS2, own_app hD hDy, Lib.hid (InE.app hXD.out hya.out (fun z hz => by simpa using hz)), .inr ⟨_, c2, q2, J2, rfl, hG2, hJ2, hH.sub (SubH.keep (SubH.drop SubH.refl))⟩⟩, by simp [intOf]; omega⟩
                · skip
                  obtain ⟨i, hi⟩ : ∃ i, bsF (X.map Ev.e) ⟨ka, Ga, exa, la⟩ (X.map Ev.e).length 0 (X.map Ev.e).length = i := ⟨_, rfl⟩
                  obtain ⟨is, his⟩ : ∃ b, isF (X.map Ev.e) ⟨ka, Ga, exa, la⟩ i = b := ⟨_, rfl⟩
                  have HIL := Lib.hid (show i ≤ X.length by have := bsF_le (X.map Ev.e) ⟨ka, Ga, exa, la⟩ (X.map Ev.e).length 0 (X.map Ev.e).length (by omega) (Nat.le_refl _); rw [hi, List.length_map] at this; exact this)
                  have HBS3 := Lib.hid (show ∀ W, Hp w.heap.size w W ((g, 30, true, [.many (evsL X) (X.length * 20), .many J q]) :: D) → Gives Try.prog 41 #[.slice (some ⟨g, 0, none⟩) X.length cc, .agg (fls [.one (.int .i64 ka), .many YA 17, .one (.bool exa), .one (.slice sa la.length ca)]).toArray, .func (.func 31) #[] #[]] W (.tuple #[.int .i64 (i : Int), .bool is]) from fun W hH => by
                    have h := HBS.out W (some ⟨g, 0, none⟩) cc (ensAt_row (by omega) (by have := (hH.rows.mem (i := 0) rfl).1; rwa [fls_two] at this) (fun x hx => hXD.out x hx _ _ _ (hH.sub (SubH.drop SubH.refl))))
                    rw [hi, his, List.length_map] at h
                    exact h)
                  cases is with
                  | true =>
                    have hiX : i < X.length := by have := isF_lt his; rwa [List.length_map] at this
                    have HS2 := Lib.hid (show ∀ po co, (C.drop (j + 1)).foldl stepF ((X.set i (⟨⟨ka, Ga, exa, la⟩, po, co⟩ : Ev)).map Ev.e) = res from fun po co => by have h := HST.out; rw [stepF_rep HPL.out HON.out (by rw [hi]; exact his), hi] at h; rw [List.map_set]; exact h)
                    obtain ⟨TK, hTK⟩ : ∃ T, T = evsL (X.take i) := ⟨_, rfl⟩
                    obtain ⟨OLD, hOLD⟩ : ∃ T, T = fls (evS X[i]) := ⟨_, rfl⟩
                    obtain ⟨DR, hDR⟩ : ∃ T, T = evsL (X.drop (i + 1)) := ⟨_, rfl⟩
                    have HSP := Lib.hid (show evsL X = TK ++ (OLD ++ DR) ∧ TK.length = i * 20 ∧ OLD.length = 20 ∧ ∀ y : Ev, evsL (X.set i y) = TK ++ (fls (evS y) ++ DR) from ⟨by rw [hTK, hOLD, hDR, ← evsL_cons, ← List.drop_eq_getElem_cons hiX, ← evsL_app, List.take_append_drop], by rw [hTK, evsL_len, List.length_take]; congr 1; omega, by rw [hOLD]; exact evS_fls_len _, fun y => by rw [hTK, hDR, ← evsL_cons, ← evsL_app, List.set_eq_take_append_cons_drop, if_pos hiX]⟩)
                    clear HST HBS HPL HON hi his hTK hOLD hDR
                    go_wp2_with (first | ((refine gL rfl ?_; refine hLoR tab_ok rfl ?_ rfl hH rfl rfl ?_; (focus first|exact wN rfl|exact rfl); refine ⟨_, fA, ⟨rfl, oA, rfl, rfl, rfl, trivial⟩, rfl, ?_⟩; (clear hH; (first | intro W g hH | intro W hH); (try simp only [Act.put, pA, pB, pC])))) | ((go_at_call 39; refine HOWN.out _ _ _ hH hH.below ?_; (clear hH; intro W po co Dy hya hDy hH); (try simp only [List.cons_append, List.nil_append] at hH); ((try simp only [Act.put, pA, pB, pC])))) | ((refine hSxR tab_ok 1 rfl ?_ rfl rfl hH rfl rfl rfl ⟨rfl, oA, rfl, rfl, trivial⟩ ?_; (focus first|exact wN rfl|exact rfl); refine ⟨TK, OLD, DR, HSP.out.1, HSP.out.2.1, HSP.out.2.2.1, ?_⟩; intro W H' hu h; (obtain rfl := Option.some.inj hu); clear hu hH; have hH := h; clear h; ((try simp only [Act.put, pA, pB, pC])))) | ((first | (refine iL tab_ok rfl ?_ rfl hH ?_; (focus first|exact wN rfl|exact rfl); refine ⟨_, _, rfl, rfl, ?_⟩) | (refine iSR tab_ok rfl ?_ rfl hH ?_; (focus first|exact wN rfl|exact rfl); refine ⟨_, _, _, _, rfl, rfl, rfl, rfl, rfl, ?_, ?_⟩; (focus (repeat (first | exact trivial | assumption | exact OkA.z (by kernel_rfl) (by kernel_rfl) | refine ⟨rfl, ?_⟩ | refine ⟨?_, ?_⟩)))) | (refine hAl tab_ok rfl ?_ hH rfl ?_; (focus first|exact wN rfl|exact rfl)) | ((with_reducible refine callH hH ?_); refine ⟨?_, ?_, ?_⟩; rotate_left; (focus (first | (exact f1 _ _ _) | (exact f2.out _ hH.below) | (exact HBS3.out _ (hH.sub (SubH.drop SubH.refl))))))); clear hH; (first | intro W g hH | intro W hH); ((try simp only [Act.put, pA, pB, pC]))))
                    have hS := HSP.out.2.2.2 (⟨⟨ka, Ga, exa, la⟩, po, co⟩ : Ev)
                    have e3 : fls (evS (⟨⟨ka, Ga, exa, la⟩, po, co⟩ : Ev)) = fls [.one (.int .i64 ka), .many YA 17, .one (.bool exa), .one (.slice po la.length co)] := by rw [HYA.out]; rfl
                    exact ⟨⟨j + 1, X.set i (⟨⟨ka, Ga, exa, la⟩, po, co⟩ : Ev), D ++ Dy, by simp, by omega, by rw [List.length_set]; omega, Lib.hid (HS2.out po co), own_app hD hDy, Lib.hid (InE.app hXD.out hya.out (fun z hz => List.mem_or_eq_of_mem_set hz)), .inr ⟨_, cc, q, J, by rw [List.length_set], by rw [List.length_set]; exact hG, oJ, by rw [List.length_set, hS, e3]; exact hH.sub (SubH.drop SubH.refl)⟩⟩, by simp [intOf]; omega⟩
                  | false =>
                    by_cases hlt : X.length < 512
                    · have d512 : decide ((X.length : Int) < 512) = true := decide_eq_true (by omega)
                      have HS2 := Lib.hid (show ∀ po co, (C.drop (j + 1)).foldl stepF ((X.take i ++ (⟨⟨ka, Ga, exa, la⟩, po, co⟩ : Ev) :: X.drop i).map Ev.e) = res from fun po co => by have h := HST.out; rw [stepF_ins HPL.out HON.out (by rw [hi]; exact his) (by rw [List.length_map]; exact hlt), hi] at h; rw [List.map_append, List.map_cons, List.map_take, List.map_drop]; exact h)
                      have HLN := Lib.hid (show ∀ y : Ev, (X.take i ++ y :: X.drop i).length = X.length + 1 from fun y => by simp; have := HIL.out; omega)
                      clear HST HBS HPL HON hi his
                      go_wp2_with (first | ((refine gL rfl ?_; refine hLoR tab_ok rfl ?_ rfl hH rfl rfl ?_; (focus first|exact wN rfl|exact rfl); refine ⟨_, fA, ⟨rfl, oA, rfl, rfl, rfl, trivial⟩, rfl, ?_⟩; (clear hH; (first | intro W g hH | intro W hH); (try simp only [Act.put, pA, pB, pC])))) | ((go_at_call 39; refine HOWN.out _ _ _ hH hH.below ?_; (clear hH; intro W po co Dy hya hDy hH); (try simp only [List.cons_append, List.nil_append] at hH); ((try simp only [Act.put, pA, pB, pC])))) | ((refine hSl tab_ok rfl ?_ rfl tabs_ok rfl rfl rfl rfl rfl hH ?_; (focus first|exact wN rfl|exact rfl); refine ⟨?_, ?_, ?_⟩; rotate_left; (focus (repeat (first | exact BR.nil | refine BR.one rfl rfl rfl ?_ | (refine BR.row rfl rfl rfl rfl ?_ ?_; (focus (repeat (first | exact trivial | assumption | exact OkA.z (by kernel_rfl) (by kernel_rfl) | refine ⟨rfl, ?_⟩ | refine ⟨?_, ?_⟩))))))); clear hH; intro W g hH; (try simp only [Act.put, pA, pB, pC]))) | ((go_at_call 43; refine hIns (y := ⟨⟨ka, Ga, exa, la⟩, po, co⟩) ?_ ?_ hG oJ ?_ (hH.perm (List.Perm.cons _ (List.Perm.swap _ _ _))) ?_; (focus (exact HIL.out)); (focus omega); (focus (rw [HYA.out]; rfl)); (clear hH; intro W g2 c2 q2 J2 hG2 hJ2 hH); ((try simp only [Act.put, pA, pB, pC])))) | ((first | (refine iL tab_ok rfl ?_ rfl hH ?_; (focus first|exact wN rfl|exact rfl); refine ⟨_, _, rfl, rfl, ?_⟩) | (refine iSR tab_ok rfl ?_ rfl hH ?_; (focus first|exact wN rfl|exact rfl); refine ⟨_, _, _, _, rfl, rfl, rfl, rfl, rfl, ?_, ?_⟩; (focus (repeat (first | exact trivial | assumption | exact OkA.z (by kernel_rfl) (by kernel_rfl) | refine ⟨rfl, ?_⟩ | refine ⟨?_, ?_⟩)))) | (refine hAl tab_ok rfl ?_ hH rfl ?_; (focus first|exact wN rfl|exact rfl)) | ((with_reducible refine callH hH ?_); refine ⟨?_, ?_, ?_⟩; rotate_left; (focus (first | (exact f1 _ _ _) | (exact f2.out _ hH.below) | (exact HBS3.out _ (hH.sub (SubH.drop SubH.refl))))))); clear hH; (first | intro W g hH | intro W hH); ((try simp only [Act.put, pA, pB, pC]))))
                      exact ⟨⟨j + 1, X.take i ++ (⟨⟨ka, Ga, exa, la⟩, po, co⟩ : Ev) :: X.drop i, D ++ Dy, by simp, by omega, by rw [HLN.out]; omega, HS2.out _ _ |> Lib.hid, own_app hD hDy, Lib.hid (InE.app hXD.out hya.out (fun z hz => by rcases List.mem_append.1 hz with h | h; exact .inl (List.mem_of_mem_take h); rcases List.mem_cons.1 h with h | h; exact .inr h; exact .inl (List.mem_of_mem_drop h))), .inr ⟨_, c2, q2, J2, by rw [HLN.out] <;> rfl, by rw [HLN.out]; exact hG2, hJ2, by rw [HLN.out]; exact hH.sub (SubH.keep (SubH.drop SubH.refl))⟩⟩, by simp [intOf]; omega⟩
                    · have d512 : decide ((X.length : Int) < 512) = false := decide_eq_false (by omega)
                      have HS2 := Lib.hid (show (C.drop (j + 1)).foldl stepF (X.map Ev.e) = res by have h := HST.out; rwa [stepF_full (by rw [hi]; exact his) (by rw [List.length_map]; exact hlt)] at h)
                      clear HST HBS HPL HON hi his
                      go_wp2_with (first | ((refine gL rfl ?_; refine hLoR tab_ok rfl ?_ rfl hH rfl rfl ?_; (focus first|exact wN rfl|exact rfl); refine ⟨_, fA, ⟨rfl, oA, rfl, rfl, rfl, trivial⟩, rfl, ?_⟩; (clear hH; (first | intro W g hH | intro W hH); (try simp only [Act.put, pA, pB, pC])))) | ((first | (refine iL tab_ok rfl ?_ rfl hH ?_; (focus first|exact wN rfl|exact rfl); refine ⟨_, _, rfl, rfl, ?_⟩) | (refine iSR tab_ok rfl ?_ rfl hH ?_; (focus first|exact wN rfl|exact rfl); refine ⟨_, _, _, _, rfl, rfl, rfl, rfl, rfl, ?_, ?_⟩; (focus (repeat (first | exact trivial | assumption | exact OkA.z (by kernel_rfl) (by kernel_rfl) | refine ⟨rfl, ?_⟩ | refine ⟨?_, ?_⟩)))) | (refine hAl tab_ok rfl ?_ hH rfl ?_; (focus first|exact wN rfl|exact rfl)) | ((with_reducible refine callH hH ?_); refine ⟨?_, ?_, ?_⟩; rotate_left; (focus (first | (exact f1 _ _ _) | (exact f2.out _ hH.below) | (exact HBS3.out _ (hH.sub (SubH.drop SubH.refl))))))); clear hH; (first | intro W g hH | intro W hH); ((try simp only [Act.put, pA, pB, pC]))))
                      exact ⟨⟨j + 1, X, D, by simp, by omega, hX1, HS2, hD, hXD, .inr ⟨_, cc, q, J, rfl, hG, oJ, hH.sub (SubH.drop SubH.refl)⟩⟩, by simp [intOf]; omega⟩
            | true =>
              rcases hor with ⟨rfl, rfl, hH⟩ | ⟨g, cc, q, J, rfl, hG, oJ, hH⟩
              · have HB0 : ∀ W, Gives Try.prog 41 #[.slice none 0 0, .agg (fls [.one (.int .i64 ka), .many YA 17, .one (.bool exa), .one (.slice sa la.length ca)]).toArray, .func (.func 31) #[] #[]] W (.tuple #[.int .i64 0, .bool false]) := fun W => HBS.out W none 0 EnsAt.nil
                have HS2 := Lib.hid (show (C.drop (j + 1)).foldl stepF [] = res by have h := HST.out; rw [stepF_gone rfl] at h; exact h)
                clear HST HBS HPL HOWN
                go_wp2_with (first | ((refine gL rfl ?_; refine hLoR tab_ok rfl ?_ rfl hH rfl rfl ?_; (focus first|exact wN rfl|exact rfl); refine ⟨_, fA, ⟨rfl, oA, rfl, rfl, rfl, trivial⟩, rfl, ?_⟩; (clear hH; (first | intro W g hH | intro W hH); (try simp only [Act.put, pA, pB, pC])))) | ((first | (refine iL tab_ok rfl ?_ rfl hH ?_; (focus first|exact wN rfl|exact rfl); refine ⟨_, _, rfl, rfl, ?_⟩) | (refine iSR tab_ok rfl ?_ rfl hH ?_; (focus first|exact wN rfl|exact rfl); refine ⟨_, _, _, _, rfl, rfl, rfl, rfl, rfl, ?_, ?_⟩; (focus (repeat (first | exact trivial | assumption | exact OkA.z (by kernel_rfl) (by kernel_rfl) | refine ⟨rfl, ?_⟩ | refine ⟨?_, ?_⟩)))) | (refine hAl tab_ok rfl ?_ hH rfl ?_; (focus first|exact wN rfl|exact rfl)) | ((with_reducible refine callH hH ?_); refine ⟨?_, ?_, ?_⟩; rotate_left; (focus (first | (exact f1 _ _ _) | (exact f2.out _ hH.below) | (exact HB0 _))))); clear hH; (first | intro W g hH | intro W hH); ((try simp only [Act.put, pA, pB, pC]))))
                exact ⟨⟨j + 1, [], D, by simp, by omega, hX1, HS2, hD, hXD, .inl ⟨rfl, rfl, hH.sub (SubH.drop SubH.refl)⟩⟩, by simp [intOf]; omega⟩
              · skip
                obtain ⟨i, hi⟩ : ∃ i, bsF (X.map Ev.e) ⟨ka, Ga, exa, la⟩ (X.map Ev.e).length 0 (X.map Ev.e).length = i := ⟨_, rfl⟩
                obtain ⟨is, his⟩ : ∃ b, isF (X.map Ev.e) ⟨ka, Ga, exa, la⟩ i = b := ⟨_, rfl⟩
                have HIL := Lib.hid (show i ≤ X.length by have := bsF_le (X.map Ev.e) ⟨ka, Ga, exa, la⟩ (X.map Ev.e).length 0 (X.map Ev.e).length (by omega) (Nat.le_refl _); rw [hi, List.length_map] at this; exact this)
                have HBS3 := Lib.hid (show ∀ W, Hp w.heap.size w W ((g, 30, true, [.many (evsL X) (X.length * 20), .many J q]) :: D) → Gives Try.prog 41 #[.slice (some ⟨g, 0, none⟩) X.length cc, .agg (fls [.one (.int .i64 ka), .many YA 17, .one (.bool exa), .one (.slice sa la.length ca)]).toArray, .func (.func 31) #[] #[]] W (.tuple #[.int .i64 (i : Int), .bool is]) from fun W hH => by
                  have h := HBS.out W (some ⟨g, 0, none⟩) cc (ensAt_row (by omega) (by have := (hH.rows.mem (i := 0) rfl).1; rwa [fls_two] at this) (fun x hx => hXD.out x hx _ _ _ (hH.sub (SubH.drop SubH.refl))))
                  rw [hi, his, List.length_map] at h
                  exact h)
                cases is with
                | true =>
                  have hiX : i < X.length := by have := isF_lt his; rwa [List.length_map] at this
                  have HS2 := Lib.hid (show (C.drop (j + 1)).foldl stepF ((X.eraseIdx i).map Ev.e) = res by have h := HST.out; rw [stepF_del HPL.out (by rw [hi]; exact his), hi] at h; rw [List.eraseIdx_eq_take_drop_succ, List.map_append, List.map_take, List.map_drop, ← List.eraseIdx_eq_take_drop_succ]; exact h)
                  clear HST HBS HPL HOWN hi his
                  go_wp2_with (first | ((refine gL rfl ?_; refine hLoR tab_ok rfl ?_ rfl hH rfl rfl ?_; (focus first|exact wN rfl|exact rfl); refine ⟨_, fA, ⟨rfl, oA, rfl, rfl, rfl, trivial⟩, rfl, ?_⟩; (clear hH; (first | intro W g hH | intro W hH); (try simp only [Act.put, pA, pB, pC])))) | ((go_at_call 42; with_reducible refine delE_any hG oJ ?_ ?_ (hH.perm (List.Perm.swap _ _ _)) ?_; (focus (exact hiX)); (focus omega); (clear hH; intro W q2 J2 hG2 hJ2 hH); ((try simp only [Act.put, pA, pB, pC])))) | ((first | (refine iL tab_ok rfl ?_ rfl hH ?_; (focus first|exact wN rfl|exact rfl); refine ⟨_, _, rfl, rfl, ?_⟩) | (refine iSR tab_ok rfl ?_ rfl hH ?_; (focus first|exact wN rfl|exact rfl); refine ⟨_, _, _, _, rfl, rfl, rfl, rfl, rfl, ?_, ?_⟩; (focus (repeat (first | exact trivial | assumption | exact OkA.z (by kernel_rfl) (by kernel_rfl) | refine ⟨rfl, ?_⟩ | refine ⟨?_, ?_⟩)))) | (refine hAl tab_ok rfl ?_ hH rfl ?_; (focus first|exact wN rfl|exact rfl)) | ((with_reducible refine callH hH ?_); refine ⟨?_, ?_, ?_⟩; rotate_left; (focus (first | (exact f1 _ _ _) | (exact f2.out _ hH.below) | (exact HBS3.out _ (hH.sub (SubH.drop SubH.refl))))))); clear hH; (first | intro W g hH | intro W hH); ((try simp only [Act.put, pA, pB, pC]))))
                  exact ⟨⟨j + 1, X.eraseIdx i, D, by simp, by omega, by have := List.length_eraseIdx_le X i; omega, HS2, hD, Lib.hid (hXD.out.sub (fun y hy => List.mem_of_mem_eraseIdx hy)), .inr ⟨_, cc, q2, J2, rfl, hG2, hJ2, hH.sub (SubH.keep (SubH.drop SubH.refl))⟩⟩, by simp [intOf]; omega⟩
                | false =>
                  have HS2 := Lib.hid (show (C.drop (j + 1)).foldl stepF (X.map Ev.e) = res by have h := HST.out; rwa [stepF_gone (by rw [hi]; exact his)] at h)
                  clear HST HBS HPL HOWN hi his
                  go_wp2_with (first | ((refine gL rfl ?_; refine hLoR tab_ok rfl ?_ rfl hH rfl rfl ?_; (focus first|exact wN rfl|exact rfl); refine ⟨_, fA, ⟨rfl, oA, rfl, rfl, rfl, trivial⟩, rfl, ?_⟩; (clear hH; (first | intro W g hH | intro W hH); (try simp only [Act.put, pA, pB, pC])))) | ((first | (refine iL tab_ok rfl ?_ rfl hH ?_; (focus first|exact wN rfl|exact rfl); refine ⟨_, _, rfl, rfl, ?_⟩) | (refine iSR tab_ok rfl ?_ rfl hH ?_; (focus first|exact wN rfl|exact rfl); refine ⟨_, _, _, _, rfl, rfl, rfl, rfl, rfl, ?_, ?_⟩; (focus (repeat (first | exact trivial | assumption | exact OkA.z (by kernel_rfl) (by kernel_rfl) | refine ⟨rfl, ?_⟩ | refine ⟨?_, ?_⟩)))) | (refine hAl tab_ok rfl ?_ hH rfl ?_; (focus first|exact wN rfl|exact rfl)) | ((with_reducible refine callH hH ?_); refine ⟨?_, ?_, ?_⟩; rotate_left; (focus (first | (exact f1 _ _ _) | (exact f2.out _ hH.below) | (exact HBS3.out _ (hH.sub (SubH.drop SubH.refl))))))); clear hH; (first | intro W g hH | intro W hH); ((try simp only [Act.put, pA, pB, pC]))))
                  exact ⟨⟨j + 1, X, D, by simp, by omega, hX1, HS2, hD, hXD, .inr ⟨_, cc, q, J, rfl, hG, oJ, hH.sub (SubH.drop SubH.refl)⟩⟩, by simp [intOf]; omega⟩
        · have dj : decide ((j : Int) < (C.length : Int)) = false := decide_eq_false (by omega)
          have HS2 := Lib.hid (show X.map Ev.e = res by have := HX.out; rwa [List.drop_of_length_le (by omega)] at this)
          clear HX HC HS'
          rcases hor with ⟨rfl, rfl, hH⟩ | ⟨g, cc, q, J, rfl, hG, oJ, hH⟩
          · go_wp2_with (fail)
            go_ret
            rw [← HS2.out]
            exact EnsP.mk (p := none) (c := 0) (D := []) rfl ⟨hH.nil, by simp⟩ (fun B w0 W h => EnsAt.nil)
          · clear hG
            go_wp2_with (fail)
            go_ret
            exact EnsP.own HS2.out (by omega) rfl hH hD.out hXD.out
end
end Go.Proofs.Ytdbdlhmgokllaaa
