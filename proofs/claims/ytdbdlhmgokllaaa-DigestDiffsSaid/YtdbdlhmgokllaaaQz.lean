/-
  Qz: Qb, Qc, Qd, Qe, Qf, Qo in one text.
-/
import Derived.Test.YtdbdlhmgokllaaaQa
import Derived.Test.YtdbdlhmgokllaaaDf
import Derived.Test.YtdbdlhmgokllaaaE2
import Derived.Test.YtdbdlhmgokllaaaHk
import Derived.Test.YtdbdlhmgokllaaaOld
namespace Go.Proofs.Ytdbdlhmgokllaaa
-- %in
section
open Go.ChangeShapes Go.WideShapes Go.ChangeAt Go.RowKit
set_option linter.unusedVariables false
set_option linter.unusedSimpArgs false
set_option maxRecDepth 20000
attribute [local irreducible] wpList

theorem hRApply {B : Nat} {w0 W : World} {H Dx : HB} {p sy : Option Addr} {c cy : Nat} {X : List Ev} {x : Ch} {Q : Ending → World → Prop} (hH : Hp B w0 W H) (hs : SubH H Dx) (hc : ∀ B w0 W, Hp B w0 W Dx → CellsAt W p X) (hl : X.length ≤ 900) (hy : AdsAt W sy x.e.src) (hly : x.e.src.length ≤ 1000)
    (hQ : ∀ W' p' c' X' D, Hid (X'.map Ev.e = refStep (X.map Ev.e) x) → Hid (∀ z ∈ X', z ∈ X ∨ z = ⟨x.e, sy, cy⟩) → Hid (∀ B w0 W, Hp B w0 W (Dx ++ D) → CellsAt W p' X') → Hid (∀ r ∈ D, r.2.2.1 = true) → Hp B w0 W' (H ++ D) → Q (.returned (.slice p' X'.length c')) W') :
    Calls Try.prog 22 #[.slice p X.length c, .agg (fls (chS x sy cy)).toArray] W Q :=
  (rApply_any (hc _ _ _ (hH.sub hs)) hl hy hly).mono fun _ _ ⟨p', c', X', D, he, hm, h1, h2, h3⟩ => by subst he; exact hQ _ p' c' X' D (Lib.hid h1) (Lib.hid h2) (Lib.hid (h3 Dx hc)) (Lib.hid hm.2) (hH.join hm)
def chN (e : En) : Ch := ⟨e, false⟩
noncomputable def ofE (L : List En) : List En := applyF [] (L.map chN)
theorem ofE_good (L : List En) : GoodE (ofE L) := (apply_good GoodE.nil).1
theorem ofE_snoc {L : List En} {j : Nat} (hj : j < L.length) : ofE (L.take (j + 1)) = refStep (ofE (L.take j)) (chN L[j]) := by
  rw [(step_good (ofE_good _)).2.1]
  unfold ofE applyF
  rw [← List.take_append_getElem hj, List.map_append, List.foldl_append]
  rfl
theorem ofE_mem {L : List En} : ∀ y ∈ ofE L, y ∈ L := fun y hy => by
  rcases (apply_good GoodE.nil).2.2 y hy with h | ⟨x, hx, e⟩
  · cases h
  · obtain ⟨z, hz, rfl⟩ := List.mem_map.1 hx
    rw [e]; exact hz
def OfEP (w : World) (X : List Ev) (e : Ending) (w' : World) : Prop := ∃ p c Y D, e = .returned (.slice p Y.length c) ∧ Made w w' D ∧ Y.map Ev.e = ofE (X.map Ev.e) ∧ (∀ y ∈ Y, y ∈ X) ∧ ∀ B w0 W, Hp B w0 W D → CellsAt W p Y
section
variable {w : World} {p : Option Addr} {c : Nat} {X : List Ev}
set_option maxHeartbeats 4000000 in
theorem rOfE_any (h : CellsAt w p X) (hs : ∀ x ∈ X, AdsAt w x.p x.e.src) (hl : X.length ≤ 400) (hsl : ∀ x ∈ X, x.e.src.length ≤ 1000) : Calls Try.prog 45 #[.slice p X.length c] w fun e w' => OfEP w X e w' := by
  have HC := Lib.hid h
  have HS := Lib.hid hs
  have HL := Lib.hid hsl
  clear h hs hsl
  have hH := Hp.refl w
  go_enter Try.func45, Try.ntmps45
  go_wp2_with (first | ((refine hSl0 tab_ok rfl ?_ tabs_ok rfl rfl rfl hH ?_; (focus first|exact wN rfl|exact rfl); clear hH; intro W g hH; (try simp only [Act.put, pA, pB, pC]))))
  go_loopw [3, 4] (fun s3 s4 wr => ∃ (j : Nat) (q : Option Addr) (cc : Nat) (Y : List Ev) (D : HB), s4 = .int .i64 (j : Int) ∧ j ≤ X.length ∧ s3 = .slice q Y.length cc ∧ Hid (Y.map Ev.e = ofE ((X.map Ev.e).take j)) ∧ Hid (∀ y ∈ Y, y ∈ X) ∧ Hid (∀ B w0 W, Hp B w0 W D → CellsAt W q Y) ∧ Hid (∀ r ∈ D, r.2.2.1 = true) ∧ Hp w.heap.size w wr D) (fun _ s4 _ => X.length - (intOf s4).toNat)
  case atStart => exact ⟨0, _, 0, [], _, rfl, by omega, rfl, Lib.hid rfl, Lib.hid (by simp), Lib.hid (fun _ _ _ _ j hj => by simp at hj), Lib.hid (by simp), hH⟩
  case round =>
    clear hH
    obtain ⟨j, q, cc, Y, D, rfl, hj, rfl, HY, HM, HCY, hD, hH⟩ := hrel
    by_cases hjl : j < X.length
    · have dj : decide ((j : Int) < (X.length : Int)) = true := decide_eq_true (by omega)
      obtain ⟨qa, ha, fA⟩ := HC.out j hjl
      subst ha
      have hsx := HS.out _ (List.getElem_mem hjl)
      have hlx := HL.out _ (List.getElem_mem hjl)
      have HST := Lib.hid (show ofE ((X.map Ev.e).take (j + 1)) = refStep (Y.map Ev.e) (chN X[j].e) by rw [HY.out, ofE_snoc (by simpa using hjl), List.getElem_map])
      have HMX := Lib.hid (List.getElem_mem hjl)
      have HY9 := Lib.hid (show Y.length ≤ 900 by have := congrArg List.length HY.out; have h2 := (ofE_good ((X.map Ev.e).take j)).len; rw [List.length_map] at this; omega)
      clear HC HS HL HY
      generalize X[j] = a at *
      obtain ⟨⟨ka, Ga, exa, la⟩, pa, ca⟩ := a
      unfold evS enS at fA
      simp only at fA hsx hlx
      have oA := adL_ok Ga
      obtain ⟨YA, hYA⟩ : ∃ Y, Y = adL Ga := ⟨_, rfl⟩
      rw [← hYA] at oA fA
      have HRA := Lib.hid (show ∀ (W : World) (Q : Ending → World → Prop), Hp w.heap.size w W D → (∀ W' p' c' X' D', Hid (X'.map Ev.e = refStep (Y.map Ev.e) ⟨⟨ka, Ga, exa, la⟩, false⟩) → Hid (∀ z ∈ X', z ∈ Y ∨ z = ⟨⟨ka, Ga, exa, la⟩, pa, ca⟩) → Hid (∀ B w0 W, Hp B w0 W (D ++ D') → CellsAt W p' X') → Hid (∀ r ∈ D', r.2.2.1 = true) → Hp w.heap.size w W' (D ++ D') → Q (.returned (.slice p' X'.length c')) W') → Calls Try.prog 22 #[.slice q Y.length cc, .agg (fls [.one (.int .i64 ka), .many YA 17, .one (.bool exa), .one (.slice pa la.length ca), .one (.bool false)]).toArray] W Q from fun W Q hH hQ => by
        rw [hYA]
        exact hRApply (x := ⟨⟨ka, Ga, exa, la⟩, false⟩) hH SubH.refl HCY.out HY9.out (hsx.below hH.below) hlx hQ)
      clear hYA hsx hlx
      go_wp2_with (first | ((refine gL rfl ?_; refine hLoR tab_ok rfl ?_ rfl hH rfl rfl ?_; (focus first|exact wN rfl|exact rfl); refine ⟨_, fA, ⟨rfl, oA, rfl, rfl, trivial⟩, rfl, ?_⟩; (clear hH; (first | intro W g hH | intro W hH); (try simp only [Act.put, pA, pB, pC])))) | ((go_at_call 22; refine HRA.out _ _ hH ?_; (clear hH; intro W p2 c2 X2 D2 h1 h2 h3 h4 hH); ((try simp only [Act.put, pA, pB, pC])))) | ((first | (refine hBd tab_ok rfl ?_ rfl rfl rfl hH ?_; (focus first|exact wN rfl|exact rfl); refine ⟨?_, ?_, ?_⟩; rotate_left; (focus (repeat (first | exact BR.nil | refine BR.one rfl rfl rfl ?_ | (refine BR.row rfl rfl rfl rfl ?_ ?_; (focus (repeat (first | exact trivial | assumption | exact OkA.z (by kernel_rfl) (by kernel_rfl) | refine ⟨rfl, ?_⟩ | refine ⟨?_, ?_⟩))))))))); clear hH; (first | intro W g hH | intro W hH); ((try simp only [Act.put, pA, pB, pC]))))
      refine ⟨⟨j + 1, p2, c2, X2, D ++ D2, by simp, by omega, rfl, Lib.hid (by rw [h1.out, HST.out]; rfl), Lib.hid (fun z hz => by rcases h2.out z hz with h | h; exact HM.out z h; rw [h]; exact HMX.out), h3, own_app hD h4, hH⟩, by simp [intOf]; omega⟩
    · have dj : decide ((j : Int) < (X.length : Int)) = false := decide_eq_false (by omega)
      have HY2 := Lib.hid (show Y.map Ev.e = ofE (X.map Ev.e) by rw [HY.out, List.take_of_length_le (by simp; omega)])
      clear HC HS HL HY
      go_wp2_with (fail)
      go_ret
      exact ⟨q, cc, Y, D, rfl, ⟨hH, hD.out⟩, HY2.out, HM.out, HCY.out⟩
theorem hOfE {B : Nat} {w0 W : World} {H : HB} {Q : Ending → World → Prop} (hH : Hp B w0 W H) (h : CellsAt W p X) (hs : ∀ x ∈ X, AdsAt W x.p x.e.src) (hl : X.length ≤ 400) (hsl : ∀ x ∈ X, x.e.src.length ≤ 1000)
    (hQ : ∀ W' p c Y D, Hid (Y.map Ev.e = ofE (X.map Ev.e)) → Hid (∀ y ∈ Y, y ∈ X) → Hid (∀ B w0 W, Hp B w0 W D → CellsAt W p Y) → Hid (∀ r ∈ D, r.2.2.1 = true) → Hp B w0 W' (H ++ D) → Q (.returned (.slice p Y.length c)) W') : Calls Try.prog 45 #[.slice p X.length c] W Q :=
  (rOfE_any h hs hl hsl).mono fun _ _ ⟨p, c, Y, D, he, hm, h1, h2, h3⟩ => by subst he; exact hQ _ p c Y D (Lib.hid h1) (Lib.hid h2) (Lib.hid h3) (Lib.hid hm.2) (hH.join hm)
def OwnFP (w : World) (ex : Bool) (L : List Ad) (e : Ending) (w' : World) : Prop := ∃ g c q J, e = .returned (.agg (fls (flS ex (some ⟨g, 0, none⟩) (ofA L).length c)).toArray) ∧ Made w w' [(g, 25, true, [.many (adsL (ofA L)) ((ofA L).length * 17), .many J q])]
theorem rOwnF_any {L : List Ad} {ex : Bool} (h : AdsAt w p L) (hl : L.length ≤ 1000) : Calls Try.prog 44 #[.agg (fls (flS ex p L.length c)).toArray] w fun e w' => OwnFP w ex L e w' := by
  have hH := Hp.refl w
  have HOF := Lib.hid (show ∀ (W : World) (H : HB) (Q : Ending → World → Prop), Hp w.heap.size w W H → Below w.heap.size w W → (∀ W' g c q J, Hp w.heap.size w W' ((g, 25, true, [.many (adsL (ofA L)) ((ofA L).length * 17), .many J q]) :: H) → Q (.returned (.slice (some ⟨g, 0, none⟩) (ofA L).length c)) W') → Calls Try.prog 61 #[.slice p L.length c] W Q from fun W H Q hH hb hQ => hOf hl hH (h.below hb) (fun W' g c q J L' hL' hH => by have := hL'.out; subst this; exact hQ W' g c q J hH))
  unfold OwnFP flS
  clear h hl
  generalize adsL (ofA L) = AL at *
  generalize (ofA L).length = an at *
  generalize L.length = ln at *
  go_enter Try.func44, Try.ntmps44
  go_wp2_with (first | ((first | (refine hAl tab_ok rfl ?_ hH rfl ?_; (focus first|exact wN rfl|exact rfl)) | (refine hBx rfl ?_ rfl hH ?_ ?_; (focus first|exact wN rfl|exact rfl); (focus (repeat (first | exact trivial | assumption | exact OkA.z (by kernel_rfl) (by kernel_rfl) | refine ⟨rfl, ?_⟩ | refine ⟨?_, ?_⟩))))); clear hH; (first | intro W g hH | intro W hH); ((try simp only [Act.put, pA, pB, pC]))))
  ((with_reducible refine regKN [6] hH (SubH.refl) (by kernel_rfl) ?_); (clear hH; intro W hH); (refine hk_pures (fuel := 5) (pk 0 rfl (pk 2 rfl (PickR.nil))) (by kernel_rfl) (by kernel_rfl) (fun _ _ _ _ _ h => h) ?_; (repeat (go_big_quiet_step (fail))); refine hk_nil ?_); (refine hk_loads (fuel := 3) (pk 1 rfl (pk 3 rfl (PickR.nil))) (by kernel_rfl) (by kernel_rfl) (fun _ _ _ _ _ h => h) hH ?_ ?_; (focus (exact SubI.h)); intro hne; (repeat (first | (go_big_quiet_want; (first | (refine qiL tab_ok rfl rfl ?_; refine ⟨_, _, rfl, rfl, ?_⟩)); (try simp only [Act.put, pA, pB, pC]); go_big_quiet_on) | go_big_quiet_step (fail))); refine hk_nil ?_; clear hne); (refine hk_one (fuel := 2) 4 rfl (by kernel_rfl) ?_; go_wp2_with (first | ((go_at_call 61; refine HOF.out _ _ _ hH hH.below ?_; (clear hH; intro W ga ca qa Ja hH); ((try simp only [Act.put, pA, pB, pC]))))); refine hkQ_normal hH ?_ ?_; (focus (exact SubI.h)); (try simp only [Act.put, pA, pB, pC])); (refine hk_pures (fuel := 1) (pk 5 rfl (PickR.nil)) (by kernel_rfl) (by kernel_rfl) (fun _ _ _ _ _ h => h) ?_; (repeat (first | (go_big_quiet_want; (refine qBd tab_ok rfl rfl rfl rfl ?_; refine ⟨?_, ?_, ?_⟩; rotate_left; (focus (repeat (first | exact BR.nil | refine BR.one rfl rfl rfl ?_ | (refine BR.row rfl rfl rfl rfl ?_ ?_; (focus (repeat (first | exact trivial | assumption | exact OkA.z (by kernel_rfl) (by kernel_rfl) | refine ⟨rfl, ?_⟩ | refine ⟨?_, ?_⟩)))))))); (try simp only [Act.put, pA, pB, pC]); go_big_quiet_on) | go_big_quiet_step (fail))); refine hk_nil ?_); (refine hk_one (fuel := 0) 6 rfl (by kernel_rfl) ?_; go_wp2_with (first | ((first | (refine iSR tab_ok rfl ?_ rfl hH ?_; (focus first|exact wN rfl|exact rfl); refine ⟨_, _, _, _, rfl, rfl, rfl, rfl, rfl, ?_, ?_⟩; (focus (repeat (first | exact trivial | assumption | exact OkA.z (by kernel_rfl) (by kernel_rfl) | refine ⟨rfl, ?_⟩ | refine ⟨?_, ?_⟩))))); clear hH; (first | intro W g hH | intro W hH); ((try simp only [Act.put, pA, pB, pC])))); refine hkQ_break ?_; (try simp only [Act.put, pA, pB, pC])); refine hk_endN (by kernel_rfl) ?_)
  go_wp2_with (fail)
  (refine iRet Try.results44 tab_ok rfl rfl hH ?_; refine ⟨_, _, rfl, rfl, rfl, ?_⟩)
  exact ⟨ga, ca, qa, Ja, rfl, hH.sub (by first | exact SubH.keep SubH.nil | exact SubH.drop (SubH.keep SubH.nil) | exact SubH.drop (SubH.drop (SubH.keep SubH.nil)) | exact SubI.h), by simp⟩
end
end
section
open Go.ChangeShapes Go.WideShapes Go.ChangeAt Go.RowKit
set_option linter.unusedVariables false
set_option linter.unusedSimpArgs false
set_option maxRecDepth 20000
attribute [local irreducible] wpList

def fewO (e : En) : En := ⟨e.vlan, e.grp, e.ex, ofA (e.src.take 6)⟩
noncomputable def fewD (L : List En) : List En := ofE ((L.take 8).map fewO)
theorem fewO_len (e : En) : (fewO e).src.length ≤ 6 := by
  have := ofA_len (M := e.src.take 6) (X := [])
  have h2 : (e.src.take 6).length ≤ 6 := by rw [List.length_take]; omega
  show (ofA (e.src.take 6)).length ≤ 6
  unfold ofA
  simp at this
  have h3 : (e.src.take 6).length = min 6 e.src.length := List.length_take
  omega
theorem fewD_good (L : List En) : GoodE (fewD L) := ofE_good _
theorem fewD_src {L : List En} : ∀ e ∈ fewD L, e.src.length ≤ 6 := fun e he => by
  obtain ⟨x, _, rfl⟩ := List.mem_map.1 (ofE_mem e he)
  exact fewO_len x
theorem fewE_id {R : List En} (h : ∀ e ∈ R, e.src.length ≤ 6) : R.map fewE = R := by
  have : ∀ e ∈ R, fewE e = e := fun e he => by unfold fewE; rw [List.take_of_length_le (h e he)]
  rw [List.map_congr_left this, List.map_id']
section
variable {w : World} {p : Option Addr} {c : Nat} {L : List En}
theorem hOwnF {B : Nat} {w0 W : World} {H : HB} {M : List Ad} {ex : Bool} {Q : Ending → World → Prop} (hH : Hp B w0 W H) (h : AdsAt W p M) (hl : M.length ≤ 1000)
    (hQ : ∀ W' g c q J M', Hid (M' = ofA M) → Hp B w0 W' ((g, 25, true, [.many (adsL M') (M'.length * 17), .many J q]) :: H) → Q (.returned (.agg (fls [.one (.bool ex), .one (.slice (some ⟨g, 0, none⟩) M'.length c)]).toArray)) W') : Calls Try.prog 44 #[.agg (fls [.one (.bool ex), .one (.slice p M.length c)]).toArray] W Q :=
  (rOwnF_any (ex := ex) h hl).mono fun _ _ ⟨g, c, q, J, he, hm⟩ => by subst he; exact hQ _ g c q J _ (Lib.hid rfl) (hH.joinF hm)
theorem hOwnY {B : Nat} {w0 W : World} {H : HB} {Y : List Ev} {Q : Ending → World → Prop} (hm : Y.length ≤ 1000) (hH : Hp B w0 W H) (h : CellsAt W p Y) (hs : ∀ y ∈ Y, AdsAt W y.p y.e.src) (hR : ∀ W' g c D R', Hid (R' = (Y.map Ev.e).map fewE) → Hid (∀ B w0 W, Hp B w0 W D → EnsAt W (some ⟨g, 0, none⟩) R') → Hid (∀ r ∈ D, r.2.2.1 = true) → Hp B w0 W' (H ++ D) → Q (.returned (.slice (some ⟨g, 0, none⟩) R'.length c)) W') :
    Calls Try.prog 10 #[.slice p Y.length c] W Q := by
  have := hOwnE (c := c) (Q := Q) (by rw [List.length_map]; exact hm) hH (h.ens (by omega) hs) hR
  rwa [List.length_map] at this
set_option maxHeartbeats 8000000 in
theorem few_any27 (h : EnsAt w p L) : Calls Try.prog 20 #[.slice p L.length c] w fun e w' => EnsPost w (fewD L) e w' := by
  have HA := Lib.hid h
  have hlm := h.1
  clear h
  have hH := Hp.refl w
  go_enter Try.func20, Try.ntmps20
  go_wp2_with (fail)
  have hH := hH.alloc 30 (S := [.many [] 0, .many [] 0]) ⟨⟨rfl, by simp⟩, ⟨rfl, by simp⟩, trivial⟩
  go_loopw [3, 4] (fun s i wr => ∃ (j : Nat) (X : List Ev) (g cc q : Nat) (J : List Value) (D : HB), i = .int .i64 (j : Int) ∧ j ≤ 8 ∧ j ≤ L.length ∧ X.length = j ∧ Hid (X.map Ev.e = (L.take j).map fewO) ∧ s = .slice (some ⟨g, 0, none⟩) X.length cc ∧ Grow 20 X.length cc (X.length * 20) q ∧ OkA J q ∧ Hp w.heap.size w wr ((g, 30, true, [.many (evsL X) (X.length * 20), .many J q]) :: D) ∧ Hid (∀ r ∈ D, r.2.2.1 = true) ∧ Hid (InE X D)) (fun _ i _ => 8 - (intOf i).toNat)
  case atStart => exact ⟨0, [], _, 0, 0, [], [], rfl, by omega, by omega, rfl, Lib.hid rfl, rfl, ⟨rfl, rfl, Nat.le_refl _, by simp [maxLen]⟩, ⟨rfl, by simp⟩, hH, Lib.hid (by simp), Lib.hid InE.nil⟩
  case round =>
    clear hH
    obtain ⟨j, X, g, cc, q, J, D, rfl, hj8, hjL, hXj, HX, rfl, hG, oJ, hH, hD, hXD⟩ := hrel
    by_cases hjl : j < L.length ∧ j < 8
    · obtain ⟨hjl, hj⟩ := hjl
      obtain ⟨qa, sa, ca, ha, fA, fSA⟩ := HA.out.get hjl
      subst ha
      have dj : decide ((j : Int) < (L.length : Int)) = true := decide_eq_true (by omega)
      have dj8 : decide ((j : Int) < 8) = true := decide_eq_true (by omega)
      have HX2 := Lib.hid (show X.map Ev.e ++ [fewO L[j]] = (L.take (j + 1)).map fewO by rw [HX.out, ← List.take_append_getElem hjl, List.map_append]; rfl)
      have HXj := Lib.hid hXj
      have hX1 : X.length ≤ 8 := by omega
      have HjL := Lib.hid hjl
      clear HX HA hXj hjL
      generalize L[j] = a at *
      obtain ⟨ka, Ga, exa, la⟩ := a
      unfold enS at fA
      simp only at fA fSA HX2
      have oA := adL_ok Ga
      obtain ⟨YA, hYA⟩ : ∃ Y, Y = adL Ga := ⟨_, rfl⟩
      rw [← hYA] at fA oA
      have HYA := Lib.hid hYA
      clear hYA
      go_wp2_with (first | ((refine gL rfl ?_; refine hLoR tab_ok rfl ?_ rfl hH rfl rfl ?_; (focus first|exact wN rfl|exact rfl); refine ⟨_, fA, ⟨rfl, oA, rfl, rfl, trivial⟩, rfl, ?_⟩; (clear hH; (first | intro W g hH | intro W hH); (try simp only [Act.put, pA, pB, pC])))) | ((go_at_call 8; refine hEntryS HYA hH (fSA.below hH.below) ?_; (clear hH; intro W ga c1 qa1 Ja l6 hl6 hH); (have h6 : l6.length ≤ 6 := by rw [hl6.out, List.length_take]; omega); ((try simp only [Act.put, pA, pB, pC])))) | ((go_at_call 44; refine hOwnF (M := l6) hH (adsAt_row (L := l6) (J := Ja) (by omega) (by have := (hH.rows.mem (i := 1) rfl).1; rwa [fls_two] at this)) (by omega) ?_; (clear hH; intro W gb c2 qb1 Jb l7 hl7 hH); ((try simp only [Act.put, pA, pB, pC])))) | ((refine hSl tab_ok rfl ?_ rfl tabs_ok rfl rfl rfl rfl rfl hH ?_; (focus first|exact wN rfl|exact rfl); refine ⟨?_, ?_, ?_⟩; rotate_left; (focus (repeat (first | exact BR.nil | refine BR.one rfl rfl rfl ?_ | (refine BR.row rfl rfl rfl rfl ?_ ?_; (focus (repeat (first | exact trivial | assumption | exact OkA.z (by kernel_rfl) (by kernel_rfl) | refine ⟨rfl, ?_⟩ | refine ⟨?_, ?_⟩))))))); clear hH; intro W g hH; (try simp only [Act.put, pA, pB, pC]))) | (((first | (refine hApp 4 0 tab_ok tabs_ok rfl rfl rfl rfl rfl rfl rfl hH rfl rfl rfl rfl ?_; refine ⟨?_, ?_, ?_⟩; (focus assumption); (focus (first | omega | (simp; omega))))); clear hH; intro W g c p q J hG hL hJ hH; (try simp only [putH, fls, List.append_nil] at hH hL); (try simp only [Act.put, pA, pB, pC]))) | ((first | (refine iL tab_ok rfl ?_ rfl hH ?_; (focus first|exact wN rfl|exact rfl); refine ⟨_, _, rfl, rfl, ?_⟩) | (refine iSR tab_ok rfl ?_ rfl hH ?_; (focus first|exact wN rfl|exact rfl); refine ⟨_, _, _, _, rfl, rfl, rfl, rfl, rfl, ?_, ?_⟩; (focus (repeat (first | exact trivial | assumption | exact OkA.z (by kernel_rfl) (by kernel_rfl) | refine ⟨rfl, ?_⟩ | refine ⟨?_, ?_⟩)))) | (refine hAl tab_ok rfl ?_ hH rfl ?_; (focus first|exact wN rfl|exact rfl))); clear hH; (first | intro W g hH | intro W hH); ((try simp only [Act.put, pA, pB, pC]))))
      have hp := hG.hp
      have hq := hG.hq
      have hle := hG.le
      have hmo := hG.most
      clear hG
      have e1 : (X ++ [(⟨⟨ka, Ga, exa, l7⟩, some ⟨gb, 0, none⟩, c2⟩ : Ev)]).length = X.length + 1 := by simp
      have e2 : evsL (X ++ [(⟨⟨ka, Ga, exa, l7⟩, some ⟨gb, 0, none⟩, c2⟩ : Ev)]) = evsL X ++ (.int .i64 ka :: (YA ++ [.bool exa, .slice (some ⟨gb, 0, none⟩) l7.length c2])) := by rw [evsL_snoc, HYA.out]; rfl
      have h7 : l7.length ≤ 1000 := by
        have := fewO_len ⟨ka, Ga, exa, la⟩
        rw [hl7.out, hl6.out]
        exact Nat.le_trans this (by decide)
      refine ⟨⟨j + 1, X ++ [⟨⟨ka, Ga, exa, l7⟩, some ⟨gb, 0, none⟩, c2⟩], g, c, q, J, (gb, 25, true, [.many (adsL l7) (l7.length * 17), .many Jb qb1]) :: D, by simp, by omega, HjL.out, by rw [e1, HXj.out], Lib.hid ?_, by rw [e1] <;> simp, by rw [e1]; exact ⟨rfl, by rw [← hq, hp] <;> rfl, hle, hmo⟩, hJ, ?_, Lib.hid (fun r hr => ?_), Lib.hid (fun x hx B w0 W h => ?_)⟩, by simp [intOf]; omega⟩
      · rw [List.map_append, ← HX2.out, List.map_cons, hl7.out, hl6.out]
        rfl
      · rw [show (X ++ [(⟨⟨ka, Ga, exa, l7⟩, some ⟨gb, 0, none⟩, c2⟩ : Ev)]).length * 20 = p by rw [hp, e1] <;> rfl, e2]
        exact (hH.sub (SubH.drop (SubH.keep (SubH.drop (SubH.drop SubH.refl))))).perm (List.Perm.swap _ _ _)
      · rcases List.mem_cons.1 hr with rfl | hr
        · rfl
        · exact hD.out r hr
      · rcases List.mem_append.1 hx with hx | hx
        · exact hXD.out x hx _ _ _ (h.sub (SubH.drop SubH.refl))
        · obtain rfl := List.mem_singleton.1 hx
          exact adsAt_row (L := l7) (by omega) (by have := (h.rows.mem (i := 0) rfl).1; rwa [fls_two] at this)
    · have HFIN := Lib.hid (show (L.take j).map fewO = (L.take 8).map fewO by
        by_cases h8 : j = 8
        · rw [h8]
        · rw [List.take_of_length_le (show L.length ≤ j by omega), List.take_of_length_le (show L.length ≤ 8 by omega)])
      have HE := Lib.hid (show ofE (X.map Ev.e) = fewD L by rw [HX.out, HFIN.out]; rfl)
      have HSL := Lib.hid (show ∀ x ∈ X, x.e.src.length ≤ 1000 from fun x hx => by
        have : x.e ∈ X.map Ev.e := List.mem_map_of_mem hx
        rw [HX.out] at this
        obtain ⟨y, _, hy⟩ := List.mem_map.1 this
        rw [← hy]
        exact Nat.le_trans (fewO_len y) (by decide))
      have hX1 : X.length ≤ 8 := by omega
      clear HX HFIN HA
      by_cases hjl2 : j < L.length
      · obtain rfl : j = 8 := by omega
        have dj : decide ((8 : Int) < (L.length : Int)) = true := decide_eq_true (by omega)
        clear hjl hXj
        go_wp2_with (first | ((go_at_call 45; refine hOfE hH (CellsAt.row (by have := (hH.rows.mem (i := 0) rfl).1; rwa [fls_two] at this)) (fun x hx => hXD.out x hx _ _ _ (hH.sub (SubH.drop SubH.refl))) (by omega) HSL.out ?_; (clear hH; intro W p2 c2 Y D2 h1 h2 h3 h4 hH); (try simp only [List.cons_append, List.nil_append] at hH); ((try simp only [Act.put, pA, pB, pC])))) | ((go_at_call 10; refine hOwnY ?_ hH (h3.out _ _ _ (hH.sub (SubH.drop SubH.appR))) (fun y hy => hXD.out y (h2.out y hy) _ _ _ (hH.sub (SubH.drop SubH.appL))) ?_; (focus (have := congrArg List.length h1.out; rw [HE.out, List.length_map] at this; have h9 := (fewD_good L).len; omega)); (clear hH; intro W g3 c3 D3 R3 k1 k2 k3 hH); (try simp only [List.cons_append, List.nil_append] at hH); ((try simp only [Act.put, pA, pB, pC])))))
        go_ret
        have e : R3 = fewD L := by rw [k1.out, h1.out, HE.out, fewE_id fewD_src]
        rw [e] at k2 ⊢
        exact EnsPost.mk rfl ⟨hH.sub (SubH.drop SubH.appR), k3.out⟩ k2.out
      · have dj : decide ((j : Int) < (L.length : Int)) = false := decide_eq_false (by omega)
        clear hjl hXj
        go_wp2_with (first | ((go_at_call 45; refine hOfE hH (CellsAt.row (by have := (hH.rows.mem (i := 0) rfl).1; rwa [fls_two] at this)) (fun x hx => hXD.out x hx _ _ _ (hH.sub (SubH.drop SubH.refl))) (by omega) HSL.out ?_; (clear hH; intro W p2 c2 Y D2 h1 h2 h3 h4 hH); (try simp only [List.cons_append, List.nil_append] at hH); ((try simp only [Act.put, pA, pB, pC])))) | ((go_at_call 10; refine hOwnY ?_ hH (h3.out _ _ _ (hH.sub (SubH.drop SubH.appR))) (fun y hy => hXD.out y (h2.out y hy) _ _ _ (hH.sub (SubH.drop SubH.appL))) ?_; (focus (have := congrArg List.length h1.out; rw [HE.out, List.length_map] at this; have h9 := (fewD_good L).len; omega)); (clear hH; intro W g3 c3 D3 R3 k1 k2 k3 hH); (try simp only [List.cons_append, List.nil_append] at hH); ((try simp only [Act.put, pA, pB, pC])))))
        go_ret
        have e : R3 = fewD L := by rw [k1.out, h1.out, HE.out, fewE_id fewD_src]
        rw [e] at k2 ⊢
        exact EnsPost.mk rfl ⟨hH.sub (SubH.drop SubH.appR), k3.out⟩ k2.out
end
end
section
open Go.ChangeShapes Go.WideShapes Go.ChangeAt Go.RowKit
set_option linter.unusedVariables false
set_option linter.unusedSimpArgs false
set_option maxRecDepth 20000
attribute [local irreducible] wpList

def mtE (v : Int) (g : Ad) (e : En) : Bool := e.vlan == v && e.grp == g
section
variable {w : World} {p p' s : Option Addr} {c c' cs gv gg : Nat} {L : List En} {v : Int} {g : Ad}
theorem rSameF_any {x y : Bool} {M N : List Ad} (h : AdsAt w p M) (h' : AdsAt w p' N) : Gives Try.prog 25 #[.agg (fls (flS x p M.length c)).toArray, .agg (fls (flS y p' N.length c')).toArray] w (.bool (sameF x y M N)) := by
  refine Gives.of ?_
  have hH := Hp.refl w
  have F := Lib.hid (fun W (hb : Below w.heap.size w W) => sameAds_any (c := c) (c' := c') (h.below hb) (h'.below hb))
  clear h h'
  unfold flS sameF
  generalize decide (M = N) = r at *
  generalize M.length = n at *
  generalize N.length = m at *
  cases x <;> cases y
  all_goals
    go_enter Try.func25, Try.ntmps25
    go_wp2_with (first | ((first | (refine iL tab_ok rfl ?_ rfl hH ?_; (focus first|exact wN rfl|exact rfl); refine ⟨_, _, rfl, rfl, ?_⟩) | (refine hBx rfl ?_ rfl hH ?_ ?_; (focus first|exact wN rfl|exact rfl); (focus (repeat (first | exact trivial | assumption | exact OkA.z (by kernel_rfl) (by kernel_rfl) | refine ⟨rfl, ?_⟩ | refine ⟨?_, ?_⟩)))) | ((with_reducible refine callH hH ?_); refine ⟨?_, ?_, ?_⟩; rotate_left; (focus (first | (exact F.out _ hH.below))))); clear hH; (first | intro W g hH | intro W hH); ((try simp only [Act.put, pA, pB, pC]))))
    go_ret
    exact ⟨by simp, hH.below⟩
end
end
section
open Go.ChangeShapes Go.WideShapes Go.ChangeAt Go.RowKit
set_option linter.unusedVariables false
set_option linter.unusedSimpArgs false
set_option maxRecDepth 20000
attribute [local irreducible] wpList

section
variable {H : Type} {enc : TypeId × Value → H} {W : World} {base : Nat} {held : Bool} {fuel : Nat} {cs : List Value} {x : DataW H × List MemPlace}
end
end
section
open Go.ChangeShapes Go.WideShapes Go.ChangeAt Go.RowKit
set_option linter.unusedVariables false
set_option linter.unusedSimpArgs false
attribute [local irreducible] wpList
section
variable {P : Program} {B : Nat} {w0 W : World} {H H0 : HB} {a : Act} {Q : Exit → Act → World → Prop} {l : List Oper} {fuel : Nat} {listed : Array Bool} {nb : List Nat}
variable {T : Tab} {ops : Array Oper} {rest : List Oper} {op : Oper} {Q : Exit → Act → World → Prop} {ty : TypeId} {x : Operand} {q : Addr} {e : TyE}
theorem hDR (hT : TabOk P T) (ho : op.op = .load ty x) (hw : Region.wanted op (yielded ops a.tmps) = true) (hx : a.eval x = .pointer (some q)) (hH : Hp B w0 W H) (hty : findT ty T = some e) (hr : e.row = true)
    (h : ∃ S, OldR W q (fls S) ∧ okS S ∧ lenS S = e.size ∧ ∀ W', Hp B w0 W' H → wpList P ops Q rest (a.put op.dst (.agg (fls S).toArray)) W') : wpList P ops Q (op :: rest) a W := by
  obtain ⟨S, h1, h2, h3, h⟩ := h
  exact wpL_load ho hw hx (run_oldR hT (Hp.refl W) h1 h2 hty hr h3) (h W hH)
theorem qDR {K : Act → Prop} (hT : TabOk P T) (ho : op.op = .load ty x) (hx : a.eval x = .pointer (some q)) (hty : findT ty T = some e) (hr : e.row = true)
    (h : ∃ S, (∀ W, Hp B w0 W H → OldR W q (fls S)) ∧ okS S ∧ lenS S = e.size ∧ K (a.put op.dst (.agg (fls S).toArray))) : op.quiet P a (fun W' => ∃ y : HW B w0 H, W' = y.w) K := by
  obtain ⟨S, h1, h2, h3, hk⟩ := h
  exact quiet_load ho hx (fun w hw => by obtain ⟨y, rfl⟩ := hw; exact run_oldR hT (Hp.refl y.w) (h1 _ y.hp) h2 hty hr h3) hk
theorem qD1 {K : Act → Prop} (hT : TabOk P T) (ho : op.op = .load ty x) (hx : a.eval x = .pointer (some q)) (hty : findT ty T = some e) (hr : e.row = false)
    (h : ∃ v, (∀ W, Hp B w0 W H → OldC W q v) ∧ K (a.put op.dst v)) : op.quiet P a (fun W' => ∃ y : HW B w0 H, W' = y.w) K := by
  obtain ⟨v, h1, hk⟩ := h
  exact quiet_load ho hx (fun w hw => by obtain ⟨y, rfl⟩ := hw; exact run_oldC hT (Hp.refl y.w) (h1 _ y.hp) hty hr) hk
end
end
section
open Go.ChangeShapes Go.WideShapes Go.ChangeAt Go.RowKit
set_option linter.unusedVariables false
set_option linter.unusedSimpArgs false
set_option maxRecDepth 20000
attribute [local irreducible] wpList
section
variable {w : World} {p p' : Option Addr} {c c' : Nat}
end
def WantF (R : List En) (v : Int) (g : Ad) (j : Nat) (is ew : Bool) (lw : List Ad) : Prop :=
  (is = false ∧ ew = false ∧ lw = [] ∧ ∀ i (h : i < R.length), i < j → mtE v g R[i] = false) ∨ ∃ i, ∃ h : i < R.length, i < j ∧ mtE v g R[i] = true ∧ is = true ∧ ew = R[i].ex ∧ lw = R[i].src
theorem WantF.skip {R : List En} {v : Int} {g : Ad} {j : Nat} {is ew : Bool} {lw : List Ad} (h : WantF R v g j is ew lw) (hj : j < R.length) (hm : mtE v g R[j] = false) : WantF R v g (j + 1) is ew lw := by
  rcases h with ⟨h1, h2, h3, h4⟩ | ⟨i, hi, h1, h2⟩
  · refine .inl ⟨h1, h2, h3, fun i h h' => ?_⟩
    by_cases e : i = j
    · subst e; exact hm
    · exact h4 i h (by omega)
  · exact .inr ⟨i, hi, by omega, h2⟩
theorem WantF.hit {R : List En} {v : Int} {g : Ad} {j : Nat} (hj : j < R.length) (hm : mtE v g R[j] = true) : WantF R v g (j + 1) true R[j].ex R[j].src := .inr ⟨j, hj, by omega, hm, rfl, rfl, rfl⟩
end
end Go.Proofs.Ytdbdlhmgokllaaa
