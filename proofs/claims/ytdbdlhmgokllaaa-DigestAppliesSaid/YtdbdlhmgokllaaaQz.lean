/-
  Qz: Qb, Qc, Qd, Qe, Qf, Qo in one text.
-/
import Derived.Test.YtdbdlhmgokllaaaQa
import Derived.Test.YtdbdlhmgokllaaaDf
import Derived.Test.YtdbdlhmgokllaaaE2
import Derived.Test.YtdbdlhmgokllaaaHk
import Derived.Test.YtdbdlhmgokllaaaOld
namespace Go.Proofs.Ytdbdlhmgokllaaa
-- %in
section
open Go.ChangeShapes Go.WideShapes Go.ChangeAt Go.RowKit
set_option linter.unusedVariables false
set_option linter.unusedSimpArgs false
set_option maxRecDepth 20000
attribute [local irreducible] wpList

theorem hRApply {B : Nat} {w0 W : World} {H Dx : HB} {p sy : Option Addr} {c cy : Nat} {X : List Ev} {x : Ch} {Q : Ending → World → Prop} (hH : Hp B w0 W H) (hs : SubH H Dx) (hc : ∀ B w0 W, Hp B w0 W Dx → CellsAt W p X) (hl : X.length ≤ 900) (hy : AdsAt W sy x.e.src) (hly : x.e.src.length ≤ 1000)
    (hQ : ∀ W' p' c' X' D, Hid (X'.map Ev.e = refStep (X.map Ev.e) x) → Hid (∀ z ∈ X', z ∈ X ∨ z = ⟨x.e, sy, cy⟩) → Hid (∀ B w0 W, Hp B w0 W (Dx ++ D) → CellsAt W p' X') → Hid (∀ r ∈ D, r.2.2.1 = true) → Hp B w0 W' (H ++ D) → Q (.returned (.slice p' X'.length c')) W') :
    Calls Try.prog 22 #[.slice p X.length c, .agg (fls (chS x sy cy)).toArray] W Q :=
  (rApply_any (hc _ _ _ (hH.sub hs)) hl hy hly).mono fun _ _ ⟨p', c', X', D, he, hm, h1, h2, h3⟩ => by subst he; exact hQ _ p' c' X' D (Lib.hid h1) (Lib.hid h2) (Lib.hid (h3 Dx hc)) (Lib.hid hm.2) (hH.join hm)
def chN (e : En) : Ch := ⟨e, false⟩
noncomputable def ofE (L : List En) : List En := applyF [] (L.map chN)
theorem ofE_good (L : List En) : GoodE (ofE L) := (apply_good GoodE.nil).1
theorem ofE_snoc {L : List En} {j : Nat} (hj : j < L.length) : ofE (L.take (j + 1)) = refStep (ofE (L.take j)) (chN L[j]) := by
  rw [(step_good (ofE_good _)).2.1]
  unfold ofE applyF
  rw [← List.take_append_getElem hj, List.map_append, List.foldl_append]
  rfl
theorem ofE_mem {L : List En} : ∀ y ∈ ofE L, y ∈ L := fun y hy => by
  rcases (apply_good GoodE.nil).2.2 y hy with h | ⟨x, hx, e⟩
  · cases h
  · obtain ⟨z, hz, rfl⟩ := List.mem_map.1 hx
    rw [e]; exact hz
def OfEP (w : World) (X : List Ev) (e : Ending) (w' : World) : Prop := ∃ p c Y D, e = .returned (.slice p Y.length c) ∧ Made w w' D ∧ Y.map Ev.e = ofE (X.map Ev.e) ∧ (∀ y ∈ Y, y ∈ X) ∧ ∀ B w0 W, Hp B w0 W D → CellsAt W p Y
section
variable {w : World} {p : Option Addr} {c : Nat} {X : List Ev}
set_option maxHeartbeats 4000000 in
theorem rOfE_any (h : CellsAt w p X) (hs : ∀ x ∈ X, AdsAt w x.p x.e.src) (hl : X.length ≤ 400) (hsl : ∀ x ∈ X, x.e.src.length ≤ 1000) : Calls Try.prog 45 #[.slice p X.length c] w fun e w' => OfEP w X e w' := by
  have HC := Lib.hid h
  have HS := Lib.hid hs
  have HL := Lib.hid hsl
  clear h hs hsl
  have hH := Hp.refl w
  go_enter Try.func45, Try.ntmps45
  go_wp2_with (first | ((refine hSl0 tab_ok rfl ?_ tabs_ok rfl rfl rfl hH ?_; (focus (first | exact wN rfl | exact rfl)); clear hH; intro W g hH; (try simp only [Act.put, pA, pB, pC]))))
  go_loopw [3, 4] (fun s3 s4 wr => ∃ (j : Nat) (q : Option Addr) (cc : Nat) (Y : List Ev) (D : HB), s4 = .int .i64 (j : Int) ∧ j ≤ X.length ∧ s3 = .slice q Y.length cc ∧ Hid (Y.map Ev.e = ofE ((X.map Ev.e).take j)) ∧ Hid (∀ y ∈ Y, y ∈ X) ∧ Hid (∀ B w0 W, Hp B w0 W D → CellsAt W q Y) ∧ Hid (∀ r ∈ D, r.2.2.1 = true) ∧ Hp w.heap.size w wr D) (fun _ s4 _ => X.length - (intOf s4).toNat)
  case atStart => exact ⟨0, _, 0, [], _, rfl, by omega, rfl, Lib.hid rfl, Lib.hid (by simp), Lib.hid (fun _ _ _ _ j hj => by simp at hj), Lib.hid (by simp), hH⟩
  case round =>
    clear hH
    obtain ⟨j, q, cc, Y, D, rfl, hj, rfl, HY, HM, HCY, hD, hH⟩ := hrel
    by_cases hjl : j < X.length
    · have dj : decide ((j : Int) < (X.length : Int)) = true := decide_eq_true (by omega)
      obtain ⟨qa, ha, fA⟩ := HC.out j hjl
      subst ha
      have hsx := HS.out _ (List.getElem_mem hjl)
      have hlx := HL.out _ (List.getElem_mem hjl)
      have HST := Lib.hid (show ofE ((X.map Ev.e).take (j + 1)) = refStep (Y.map Ev.e) (chN X[j].e) by rw [HY.out, ofE_snoc (by simpa using hjl), List.getElem_map])
      have HMX := Lib.hid (List.getElem_mem hjl)
      have HY9 := Lib.hid (show Y.length ≤ 900 by have := congrArg List.length HY.out; have h2 := (ofE_good ((X.map Ev.e).take j)).len; rw [List.length_map] at this; omega)
      clear HC HS HL HY
      generalize X[j] = a at *
      obtain ⟨⟨ka, Ga, exa, la⟩, pa, ca⟩ := a
      unfold evS enS at fA
      simp only at fA hsx hlx
      have oA := adL_ok Ga
      obtain ⟨YA, hYA⟩ : ∃ Y, Y = adL Ga := ⟨_, rfl⟩
      rw [← hYA] at oA fA
      have HRA := Lib.hid (show ∀ (W : World) (Q : Ending → World → Prop), Hp w.heap.size w W D → (∀ W' p' c' X' D', Hid (X'.map Ev.e = refStep (Y.map Ev.e) ⟨⟨ka, Ga, exa, la⟩, false⟩) → Hid (∀ z ∈ X', z ∈ Y ∨ z = ⟨⟨ka, Ga, exa, la⟩, pa, ca⟩) → Hid (∀ B w0 W, Hp B w0 W (D ++ D') → CellsAt W p' X') → Hid (∀ r ∈ D', r.2.2.1 = true) → Hp w.heap.size w W' (D ++ D') → Q (.returned (.slice p' X'.length c')) W') → Calls Try.prog 22 #[.slice q Y.length cc, .agg (fls [.one (.int .i64 ka), .many YA 17, .one (.bool exa), .one (.slice pa la.length ca), .one (.bool false)]).toArray] W Q from fun W Q hH hQ => by
        rw [hYA]
        exact hRApply (x := ⟨⟨ka, Ga, exa, la⟩, false⟩) hH SubH.refl HCY.out HY9.out (hsx.below hH.below) hlx hQ)
      clear hYA hsx hlx
      go_wp2_with (first | ((refine gL rfl ?_; refine hLoR tab_ok rfl ?_ rfl hH rfl rfl ?_; (focus (first | exact wN rfl | exact rfl)); refine ⟨_, fA, ⟨rfl, oA, rfl, rfl, trivial⟩, rfl, ?_⟩; (clear hH; (first | intro W g hH | intro W hH); (try simp only [Act.put, pA, pB, pC])))) | ((go_at_call 22; refine HRA.out _ _ hH ?_; (clear hH; intro W p2 c2 X2 D2 h1 h2 h3 h4 hH); ((try simp only [Act.put, pA, pB, pC])))) | ((first | (refine hBd tab_ok rfl ?_ rfl rfl rfl hH ?_; (focus (first | exact wN rfl | exact rfl)); refine ⟨?_, ?_, ?_⟩; rotate_left; (focus (repeat (first | exact BR.nil | refine BR.one rfl rfl rfl ?_ | (refine BR.row rfl rfl rfl rfl ?_ ?_; (focus (repeat (first | exact trivial | assumption | exact OkA.z (by kernel_rfl) (by kernel_rfl) | refine ⟨rfl, ?_⟩ | refine ⟨?_, ?_⟩))))))))); clear hH; (first | intro W g hH | intro W hH); ((try simp only [Act.put, pA, pB, pC]))))
      refine ⟨⟨j + 1, p2, c2, X2, D ++ D2, by simp, by omega, rfl, Lib.hid (by rw [h1.out, HST.out]; rfl), Lib.hid (fun z hz => by rcases h2.out z hz with h | h; exact HM.out z h; rw [h]; exact HMX.out), h3, own_app hD h4, hH⟩, by simp [intOf]; omega⟩
    · have dj : decide ((j : Int) < (X.length : Int)) = false := decide_eq_false (by omega)
      have HY2 := Lib.hid (show Y.map Ev.e = ofE (X.map Ev.e) by rw [HY.out, List.take_of_length_le (by simp; omega)])
      clear HC HS HL HY
      go_wp2_with (fail)
      go_ret
      exact ⟨q, cc, Y, D, rfl, ⟨hH, hD.out⟩, HY2.out, HM.out, HCY.out⟩
theorem hOfE {B : Nat} {w0 W : World} {H : HB} {Q : Ending → World → Prop} (hH : Hp B w0 W H) (h : CellsAt W p X) (hs : ∀ x ∈ X, AdsAt W x.p x.e.src) (hl : X.length ≤ 400) (hsl : ∀ x ∈ X, x.e.src.length ≤ 1000)
    (hQ : ∀ W' p c Y D, Hid (Y.map Ev.e = ofE (X.map Ev.e)) → Hid (∀ y ∈ Y, y ∈ X) → Hid (∀ B w0 W, Hp B w0 W D → CellsAt W p Y) → Hid (∀ r ∈ D, r.2.2.1 = true) → Hp B w0 W' (H ++ D) → Q (.returned (.slice p Y.length c)) W') : Calls Try.prog 45 #[.slice p X.length c] W Q :=
  (rOfE_any h hs hl hsl).mono fun _ _ ⟨p, c, Y, D, he, hm, h1, h2, h3⟩ => by subst he; exact hQ _ p c Y D (Lib.hid h1) (Lib.hid h2) (Lib.hid h3) (Lib.hid hm.2) (hH.join hm)
/-- a filter in order -/
def OwnFP (w : World) (ex : Bool) (L : List Ad) (e : Ending) (w' : World) : Prop := ∃ g c q J, e = .returned (.agg (fls (flS ex (some ⟨g, 0, none⟩) (ofA L).length c)).toArray) ∧ Made w w' [(g, 25, true, [.many (adsL (ofA L)) ((ofA L).length * 17), .many J q])]
theorem rOwnF_any {L : List Ad} {ex : Bool} (h : AdsAt w p L) (hl : L.length ≤ 1000) : Calls Try.prog 44 #[.agg (fls (flS ex p L.length c)).toArray] w fun e w' => OwnFP w ex L e w' := by
  have hH := Hp.refl w
  have HOF := Lib.hid (show ∀ (W : World) (H : HB) (Q : Ending → World → Prop), Hp w.heap.size w W H → Below w.heap.size w W → (∀ W' g c q J, Hp w.heap.size w W' ((g, 25, true, [.many (adsL (ofA L)) ((ofA L).length * 17), .many J q]) :: H) → Q (.returned (.slice (some ⟨g, 0, none⟩) (ofA L).length c)) W') → Calls Try.prog 61 #[.slice p L.length c] W Q from fun W H Q hH hb hQ => hOf hl hH (h.below hb) (fun W' g c q J L' hL' hH => by have := hL'.out; subst this; exact hQ W' g c q J hH))
  unfold OwnFP flS
  clear h hl
  generalize adsL (ofA L) = AL at *
  generalize (ofA L).length = an at *
  generalize L.length = ln at *
  go_enter Try.func44, Try.ntmps44
  go_wp2_with (first | ((first | (refine hAl tab_ok rfl ?_ hH rfl ?_; (focus (first | exact wN rfl | exact rfl))) | (refine hBx rfl ?_ rfl hH ?_ ?_; (focus (first | exact wN rfl | exact rfl)); (focus (repeat (first | exact trivial | assumption | exact OkA.z (by kernel_rfl) (by kernel_rfl) | refine ⟨rfl, ?_⟩ | refine ⟨?_, ?_⟩))))); clear hH; (first | intro W g hH | intro W hH); ((try simp only [Act.put, pA, pB, pC]))))
  ((with_reducible refine regKN [6] hH (SubH.refl) (by kernel_rfl) ?_); (clear hH; intro W hH); (refine hk_pures (fuel := 5) (pk 0 rfl (pk 2 rfl (PickR.nil))) (by kernel_rfl) (by kernel_rfl) (fun _ _ _ _ _ h => h) ?_; (repeat (go_big_quiet_step (fail))); refine hk_nil ?_); (refine hk_loads (fuel := 3) (pk 1 rfl (pk 3 rfl (PickR.nil))) (by kernel_rfl) (by kernel_rfl) (fun _ _ _ _ _ h => h) hH ?_ ?_; (focus (exact SubI.h)); intro hne; (repeat (first | (go_big_quiet_want; (first | (refine qiL tab_ok rfl rfl ?_; refine ⟨_, _, rfl, rfl, ?_⟩)); (try simp only [Act.put, pA, pB, pC]); go_big_quiet_on) | go_big_quiet_step (fail))); refine hk_nil ?_; clear hne); (refine hk_one (fuel := 2) 4 rfl (by kernel_rfl) ?_; go_wp2_with (first | ((go_at_call 61; refine HOF.out _ _ _ hH hH.below ?_; (clear hH; intro W ga ca qa Ja hH); ((try simp only [Act.put, pA, pB, pC]))))); refine hkQ_normal hH ?_ ?_; (focus (exact SubI.h)); (try simp only [Act.put, pA, pB, pC])); (refine hk_pures (fuel := 1) (pk 5 rfl (PickR.nil)) (by kernel_rfl) (by kernel_rfl) (fun _ _ _ _ _ h => h) ?_; (repeat (first | (go_big_quiet_want; (refine qBd tab_ok rfl rfl rfl rfl ?_; refine ⟨?_, ?_, ?_⟩; rotate_left; (focus (repeat (first | exact BR.nil | refine BR.one rfl rfl rfl ?_ | (refine BR.row rfl rfl rfl rfl ?_ ?_; (focus (repeat (first | exact trivial | assumption | exact OkA.z (by kernel_rfl) (by kernel_rfl) | refine ⟨rfl, ?_⟩ | refine ⟨?_, ?_⟩)))))))); (try simp only [Act.put, pA, pB, pC]); go_big_quiet_on) | go_big_quiet_step (fail))); refine hk_nil ?_); (refine hk_one (fuel := 0) 6 rfl (by kernel_rfl) ?_; go_wp2_with (first | ((first | (refine iSR tab_ok rfl ?_ rfl hH ?_; (focus (first | exact wN rfl | exact rfl)); refine ⟨_, _, _, _, rfl, rfl, rfl, rfl, rfl, ?_, ?_⟩; (focus (repeat (first | exact trivial | assumption | exact OkA.z (by kernel_rfl) (by kernel_rfl) | refine ⟨rfl, ?_⟩ | refine ⟨?_, ?_⟩))))); clear hH; (first | intro W g hH | intro W hH); ((try simp only [Act.put, pA, pB, pC])))); refine hkQ_break ?_; (try simp only [Act.put, pA, pB, pC])); refine hk_endN (by kernel_rfl) ?_)
  go_wp2_with (fail)
  (refine iRet Try.results44 tab_ok rfl rfl hH ?_; refine ⟨_, _, rfl, rfl, rfl, ?_⟩)
  exact ⟨ga, ca, qa, Ja, rfl, hH.sub (by first | exact SubH.keep SubH.nil | exact SubH.drop (SubH.keep SubH.nil) | exact SubH.drop (SubH.drop (SubH.keep SubH.nil)) | exact SubI.h), by simp⟩
end
end
section
open Go.ChangeShapes Go.WideShapes Go.ChangeAt Go.RowKit
set_option linter.unusedVariables false
set_option linter.unusedSimpArgs false
set_option maxRecDepth 20000
attribute [local irreducible] wpList

def fewO (e : En) : En := ⟨e.vlan, e.grp, e.ex, ofA (e.src.take 6)⟩
noncomputable def fewD (L : List En) : List En := ofE ((L.take 8).map fewO)
theorem fewO_len (e : En) : (fewO e).src.length ≤ 6 := by
  have := ofA_len (M := e.src.take 6) (X := [])
  have h2 : (e.src.take 6).length ≤ 6 := by rw [List.length_take]; omega
  show (ofA (e.src.take 6)).length ≤ 6
  unfold ofA
  simp at this
  have h3 : (e.src.take 6).length = min 6 e.src.length := List.length_take
  omega
theorem fewD_good (L : List En) : GoodE (fewD L) := ofE_good _
theorem fewD_src {L : List En} : ∀ e ∈ fewD L, e.src.length ≤ 6 := fun e he => by
  obtain ⟨x, _, rfl⟩ := List.mem_map.1 (ofE_mem e he)
  exact fewO_len x
theorem fewE_id {R : List En} (h : ∀ e ∈ R, e.src.length ≤ 6) : R.map fewE = R := by
  have : ∀ e ∈ R, fewE e = e := fun e he => by unfold fewE; rw [List.take_of_length_le (h e he)]
  rw [List.map_congr_left this, List.map_id']
section
variable {w : World} {p : Option Addr} {c : Nat} {L : List En}
theorem hOwnF {B : Nat} {w0 W : World} {H : HB} {M : List Ad} {ex : Bool} {Q : Ending → World → Prop} (hH : Hp B w0 W H) (h : AdsAt W p M) (hl : M.length ≤ 1000)
    (hQ : ∀ W' g c q J M', Hid (M' = ofA M) → Hp B w0 W' ((g, 25, true, [.many (adsL M') (M'.length * 17), .many J q]) :: H) → Q (.returned (.agg (fls [.one (.bool ex), .one (.slice (some ⟨g, 0, none⟩) M'.length c)]).toArray)) W') : Calls Try.prog 44 #[.agg (fls [.one (.bool ex), .one (.slice p M.length c)]).toArray] W Q :=
  (rOwnF_any (ex := ex) h hl).mono fun _ _ ⟨g, c, q, J, he, hm⟩ => by subst he; exact hQ _ g c q J _ (Lib.hid rfl) (hH.joinF hm)
theorem hOwnY {B : Nat} {w0 W : World} {H : HB} {Y : List Ev} {Q : Ending → World → Prop} (hm : Y.length ≤ 1000) (hH : Hp B w0 W H) (h : CellsAt W p Y) (hs : ∀ y ∈ Y, AdsAt W y.p y.e.src) (hR : ∀ W' g c D R', Hid (R' = (Y.map Ev.e).map fewE) → Hid (∀ B w0 W, Hp B w0 W D → EnsAt W (some ⟨g, 0, none⟩) R') → Hid (∀ r ∈ D, r.2.2.1 = true) → Hp B w0 W' (H ++ D) → Q (.returned (.slice (some ⟨g, 0, none⟩) R'.length c)) W') :
    Calls Try.prog 10 #[.slice p Y.length c] W Q := by
  have := hOwnE (c := c) (Q := Q) (by rw [List.length_map]; exact hm) hH (h.ens (by omega) hs) hR
  rwa [List.length_map] at this
set_option maxHeartbeats 8000000 in
theorem few_any27 (h : EnsAt w p L) : Calls Try.prog 20 #[.slice p L.length c] w fun e w' => EnsPost w (fewD L) e w' := by
  have HA := Lib.hid h
  have hlm := h.1
  clear h
  have hH := Hp.refl w
  go_enter Try.func20, Try.ntmps20
  go_wp2_with (fail)
  have hH := hH.alloc 30 (S := [.many [] 0, .many [] 0]) ⟨⟨rfl, by simp⟩, ⟨rfl, by simp⟩, trivial⟩
  go_loopw [3, 4] (fun s i wr => ∃ (j : Nat) (X : List Ev) (g cc q : Nat) (J : List Value) (D : HB), i = .int .i64 (j : Int) ∧ j ≤ 8 ∧ j ≤ L.length ∧ X.length = j ∧ Hid (X.map Ev.e = (L.take j).map fewO) ∧ s = .slice (some ⟨g, 0, none⟩) X.length cc ∧ Grow 20 X.length cc (X.length * 20) q ∧ OkA J q ∧ Hp w.heap.size w wr ((g, 30, true, [.many (evsL X) (X.length * 20), .many J q]) :: D) ∧ Hid (∀ r ∈ D, r.2.2.1 = true) ∧ Hid (InE X D)) (fun _ i _ => 8 - (intOf i).toNat)
  case atStart => exact ⟨0, [], _, 0, 0, [], [], rfl, by omega, by omega, rfl, Lib.hid rfl, rfl, ⟨rfl, rfl, Nat.le_refl _, by simp [maxLen]⟩, ⟨rfl, by simp⟩, hH, Lib.hid (by simp), Lib.hid InE.nil⟩
  case round =>
    clear hH
    obtain ⟨j, X, g, cc, q, J, D, rfl, hj8, hjL, hXj, HX, rfl, hG, oJ, hH, hD, hXD⟩ := hrel
    by_cases hjl : j < L.length ∧ j < 8
    · obtain ⟨hjl, hj⟩ := hjl
      obtain ⟨qa, sa, ca, ha, fA, fSA⟩ := HA.out.get hjl
      subst ha
      have dj : decide ((j : Int) < (L.length : Int)) = true := decide_eq_true (by omega)
      have dj8 : decide ((j : Int) < 8) = true := decide_eq_true (by omega)
      have HX2 := Lib.hid (show X.map Ev.e ++ [fewO L[j]] = (L.take (j + 1)).map fewO by rw [HX.out, ← List.take_append_getElem hjl, List.map_append]; rfl)
      have HXj := Lib.hid hXj
      have hX1 : X.length ≤ 8 := by omega
      have HjL := Lib.hid hjl
      clear HX HA hXj hjL
      generalize L[j] = a at *
      obtain ⟨ka, Ga, exa, la⟩ := a
      unfold enS at fA
      simp only at fA fSA HX2
      have oA := adL_ok Ga
      obtain ⟨YA, hYA⟩ : ∃ Y, Y = adL Ga := ⟨_, rfl⟩
      rw [← hYA] at fA oA
      have HYA := Lib.hid hYA
      clear hYA
      go_wp2_with (first | ((refine gL rfl ?_; refine hLoR tab_ok rfl ?_ rfl hH rfl rfl ?_; (focus (first | exact wN rfl | exact rfl)); refine ⟨_, fA, ⟨rfl, oA, rfl, rfl, trivial⟩, rfl, ?_⟩; (clear hH; (first | intro W g hH | intro W hH); (try simp only [Act.put, pA, pB, pC])))) | ((go_at_call 8; refine hEntryS HYA hH (fSA.below hH.below) ?_; (clear hH; intro W ga c1 qa1 Ja l6 hl6 hH); (have h6 : l6.length ≤ 6 := by rw [hl6.out, List.length_take]; omega); ((try simp only [Act.put, pA, pB, pC])))) | ((go_at_call 44; refine hOwnF (M := l6) hH (adsAt_row (L := l6) (J := Ja) (by omega) (by have := (hH.rows.mem (i := 1) rfl).1; rwa [fls_two] at this)) (by omega) ?_; (clear hH; intro W gb c2 qb1 Jb l7 hl7 hH); ((try simp only [Act.put, pA, pB, pC])))) | ((refine hSl tab_ok rfl ?_ rfl tabs_ok rfl rfl rfl rfl rfl hH ?_; (focus (first | exact wN rfl | exact rfl)); refine ⟨?_, ?_, ?_⟩; rotate_left; (focus (repeat (first | exact BR.nil | refine BR.one rfl rfl rfl ?_ | (refine BR.row rfl rfl rfl rfl ?_ ?_; (focus (repeat (first | exact trivial | assumption | exact OkA.z (by kernel_rfl) (by kernel_rfl) | refine ⟨rfl, ?_⟩ | refine ⟨?_, ?_⟩))))))); clear hH; intro W g hH; (try simp only [Act.put, pA, pB, pC]))) | (((first | (refine hApp 4 0 tab_ok tabs_ok rfl rfl rfl rfl rfl rfl rfl hH rfl rfl rfl rfl ?_; refine ⟨?_, ?_, ?_⟩; (focus assumption); (focus (first | omega | (simp; omega))))); clear hH; intro W g c p q J hG hL hJ hH; (try simp only [putH, fls, List.append_nil] at hH hL); (try simp only [Act.put, pA, pB, pC]))) | ((first | (refine iL tab_ok rfl ?_ rfl hH ?_; (focus (first | exact wN rfl | exact rfl)); refine ⟨_, _, rfl, rfl, ?_⟩) | (refine iSR tab_ok rfl ?_ rfl hH ?_; (focus (first | exact wN rfl | exact rfl)); refine ⟨_, _, _, _, rfl, rfl, rfl, rfl, rfl, ?_, ?_⟩; (focus (repeat (first | exact trivial | assumption | exact OkA.z (by kernel_rfl) (by kernel_rfl) | refine ⟨rfl, ?_⟩ | refine ⟨?_, ?_⟩)))) | (refine hAl tab_ok rfl ?_ hH rfl ?_; (focus (first | exact wN rfl | exact rfl)))); clear hH; (first | intro W g hH | intro W hH); ((try simp only [Act.put, pA, pB, pC]))))
      have hp := hG.hp
      have hq := hG.hq
      have hle := hG.le
      have hmo := hG.most
      clear hG
      have e1 : (X ++ [(⟨⟨ka, Ga, exa, l7⟩, some ⟨gb, 0, none⟩, c2⟩ : Ev)]).length = X.length + 1 := by simp
      have e2 : evsL (X ++ [(⟨⟨ka, Ga, exa, l7⟩, some ⟨gb, 0, none⟩, c2⟩ : Ev)]) = evsL X ++ (.int .i64 ka :: (YA ++ [.bool exa, .slice (some ⟨gb, 0, none⟩) l7.length c2])) := by rw [evsL_snoc, HYA.out]; rfl
      have h7 : l7.length ≤ 1000 := by
        have := fewO_len ⟨ka, Ga, exa, la⟩
        rw [hl7.out, hl6.out]
        exact Nat.le_trans this (by decide)
      refine ⟨⟨j + 1, X ++ [⟨⟨ka, Ga, exa, l7⟩, some ⟨gb, 0, none⟩, c2⟩], g, c, q, J, (gb, 25, true, [.many (adsL l7) (l7.length * 17), .many Jb qb1]) :: D, by simp, by omega, HjL.out, by rw [e1, HXj.out], Lib.hid ?_, by rw [e1] <;> simp, by rw [e1]; exact ⟨rfl, by rw [← hq, hp] <;> rfl, hle, hmo⟩, hJ, ?_, Lib.hid (fun r hr => ?_), Lib.hid (fun x hx B w0 W h => ?_)⟩, by simp [intOf]; omega⟩
      · rw [List.map_append, ← HX2.out, List.map_cons, hl7.out, hl6.out]
        rfl
      · rw [show (X ++ [(⟨⟨ka, Ga, exa, l7⟩, some ⟨gb, 0, none⟩, c2⟩ : Ev)]).length * 20 = p by rw [hp, e1] <;> rfl, e2]
        exact (hH.sub (SubH.drop (SubH.keep (SubH.drop (SubH.drop SubH.refl))))).perm (List.Perm.swap _ _ _)
      · rcases List.mem_cons.1 hr with rfl | hr
        · rfl
        · exact hD.out r hr
      · rcases List.mem_append.1 hx with hx | hx
        · exact hXD.out x hx _ _ _ (h.sub (SubH.drop SubH.refl))
        · obtain rfl := List.mem_singleton.1 hx
          exact adsAt_row (L := l7) (by omega) (by have := (h.rows.mem (i := 0) rfl).1; rwa [fls_two] at this)
    · have HFIN := Lib.hid (show (L.take j).map fewO = (L.take 8).map fewO by
        by_cases h8 : j = 8
        · rw [h8]
        · rw [List.take_of_length_le (show L.length ≤ j by omega), List.take_of_length_le (show L.length ≤ 8 by omega)])
      have HE := Lib.hid (show ofE (X.map Ev.e) = fewD L by rw [HX.out, HFIN.out]; rfl)
      have HSL := Lib.hid (show ∀ x ∈ X, x.e.src.length ≤ 1000 from fun x hx => by
        have : x.e ∈ X.map Ev.e := List.mem_map_of_mem hx
        rw [HX.out] at this
        obtain ⟨y, _, hy⟩ := List.mem_map.1 this
        rw [← hy]
        exact Nat.le_trans (fewO_len y) (by decide))
      have hX1 : X.length ≤ 8 := by omega
      clear HX HFIN HA
      by_cases hjl2 : j < L.length
      · obtain rfl : j = 8 := by omega
        have dj : decide ((8 : Int) < (L.length : Int)) = true := decide_eq_true (by omega)
        clear hjl hXj
        go_wp2_with (first | ((go_at_call 45; refine hOfE hH (CellsAt.row (by have := (hH.rows.mem (i := 0) rfl).1; rwa [fls_two] at this)) (fun x hx => hXD.out x hx _ _ _ (hH.sub (SubH.drop SubH.refl))) (by omega) HSL.out ?_; (clear hH; intro W p2 c2 Y D2 h1 h2 h3 h4 hH); (try simp only [List.cons_append, List.nil_append] at hH); ((try simp only [Act.put, pA, pB, pC])))) | ((go_at_call 10; refine hOwnY ?_ hH (h3.out _ _ _ (hH.sub (SubH.drop SubH.appR))) (fun y hy => hXD.out y (h2.out y hy) _ _ _ (hH.sub (SubH.drop SubH.appL))) ?_; (focus (have := congrArg List.length h1.out; rw [HE.out, List.length_map] at this; have h9 := (fewD_good L).len; omega)); (clear hH; intro W g3 c3 D3 R3 k1 k2 k3 hH); (try simp only [List.cons_append, List.nil_append] at hH); ((try simp only [Act.put, pA, pB, pC])))))
        go_ret
        have e : R3 = fewD L := by rw [k1.out, h1.out, HE.out, fewE_id fewD_src]
        rw [e] at k2 ⊢
        exact EnsPost.mk rfl ⟨hH.sub (SubH.drop SubH.appR), k3.out⟩ k2.out
      · have dj : decide ((j : Int) < (L.length : Int)) = false := decide_eq_false (by omega)
        clear hjl hXj
        go_wp2_with (first | ((go_at_call 45; refine hOfE hH (CellsAt.row (by have := (hH.rows.mem (i := 0) rfl).1; rwa [fls_two] at this)) (fun x hx => hXD.out x hx _ _ _ (hH.sub (SubH.drop SubH.refl))) (by omega) HSL.out ?_; (clear hH; intro W p2 c2 Y D2 h1 h2 h3 h4 hH); (try simp only [List.cons_append, List.nil_append] at hH); ((try simp only [Act.put, pA, pB, pC])))) | ((go_at_call 10; refine hOwnY ?_ hH (h3.out _ _ _ (hH.sub (SubH.drop SubH.appR))) (fun y hy => hXD.out y (h2.out y hy) _ _ _ (hH.sub (SubH.drop SubH.appL))) ?_; (focus (have := congrArg List.length h1.out; rw [HE.out, List.length_map] at this; have h9 := (fewD_good L).len; omega)); (clear hH; intro W g3 c3 D3 R3 k1 k2 k3 hH); (try simp only [List.cons_append, List.nil_append] at hH); ((try simp only [Act.put, pA, pB, pC])))))
        go_ret
        have e : R3 = fewD L := by rw [k1.out, h1.out, HE.out, fewE_id fewD_src]
        rw [e] at k2 ⊢
        exact EnsPost.mk rfl ⟨hH.sub (SubH.drop SubH.appR), k3.out⟩ k2.out
end
end
section
open Go.ChangeShapes Go.WideShapes Go.ChangeAt Go.RowKit
set_option linter.unusedVariables false
set_option linter.unusedSimpArgs false
set_option maxRecDepth 20000
attribute [local irreducible] wpList

/-- an entry of a segment and a group -/
def mtE (v : Int) (g : Ad) (e : En) : Bool := e.vlan == v && e.grp == g
def idxM (v : Int) (g : Ad) : List En → Nat → Int
  | [], _ => -1
  | a :: L, k => if mtE v g a then (k : Int) else idxM v g L (k + 1)
section
variable {w : World} {p p' s : Option Addr} {c c' cs gv gg : Nat} {L : List En} {v : Int} {g : Ad}
theorem find1_any {e : En} (hv : Row w gv 3 (fls [.one (.int .i64 v)]).toArray) (hg : Row w gg 25 (fls [.many (adL g) 17]).toArray) (hne : gv ≠ gg) :
    Gives Try.prog 49 #[.agg (fls (enS e s cs)).toArray, .pointer (some ⟨gv, 0, none⟩), .pointer (some ⟨gg, 0, none⟩)] w (.bool (mtE v g e)) := by
  refine Gives.of ?_
  have hH := ((Hp.refl w).old hg hg.lt ⟨adL_ok g, trivial⟩ (by simp)).old hv hv.lt ⟨rfl, trivial⟩ (by simpa using fun e => hne e.symm)
  have fE := ad_eql e.grp g
  have oA := adL_ok e.grp
  have oB := adL_ok g
  unfold enS mtE
  generalize (e.grp == g) = ge at *
  generalize adL e.grp = A at *
  generalize adL g = G at *
  generalize e.src.length = n at *
  generalize e.ex = x at *
  generalize e.vlan = k at *
  by_cases hk : k = v
  rotate_left
  · have dk : (k == v) = false := by simpa using hk
    rw [dk]
    go_enter Try.func49, Try.ntmps49
    go_wp2_with (first | ((first | (refine iL tab_ok rfl ?_ rfl hH ?_; (focus (first | exact wN rfl | exact rfl)); refine ⟨_, _, rfl, rfl, ?_⟩) | (refine hBx rfl ?_ rfl hH ?_ ?_; (focus (first | exact wN rfl | exact rfl)); (focus (repeat (first | exact trivial | assumption | exact OkA.z (by kernel_rfl) (by kernel_rfl) | refine ⟨rfl, ?_⟩ | refine ⟨?_, ?_⟩))))); clear hH; (first | intro W g hH | intro W hH); ((try simp only [Act.put, pA, pB, pC]))))
    go_ret
    exact ⟨by simp, hH.below⟩
  subst hk
  have dk : (k == k) = true := by simp
  rw [dk]
  cases ge
  all_goals
    go_enter Try.func49, Try.ntmps49
    go_wp2_with (first | ((first | (refine iL tab_ok rfl ?_ rfl hH ?_; (focus (first | exact wN rfl | exact rfl)); refine ⟨_, _, rfl, rfl, ?_⟩) | (refine hBx rfl ?_ rfl hH ?_ ?_; (focus (first | exact wN rfl | exact rfl)); (focus (repeat (first | exact trivial | assumption | exact OkA.z (by kernel_rfl) (by kernel_rfl) | refine ⟨rfl, ?_⟩ | refine ⟨?_, ?_⟩))))); clear hH; (first | intro W g hH | intro W hH); ((try simp only [Act.put, pA, pB, pC]))))
    go_ret
    exact ⟨by simp, hH.below⟩
set_option maxHeartbeats 4000000 in
theorem eindex_any (h : EnsAt w p L) (hv : Row w gv 3 (fls [.one (.int .i64 v)]).toArray) (hg : Row w gg 25 (fls [.many (adL g) 17]).toArray) (hne : gv ≠ gg) :
    Gives Try.prog 48 #[.slice p L.length c, .func (.func 49) #[] #[.pointer (some ⟨gv, 0, none⟩), .pointer (some ⟨gg, 0, none⟩)]] w (.int .i64 (idxM v g L 0)) := by
  have hl := h.1
  have HA := Lib.hid h
  have FO := Lib.hid (show ∀ W (e : En) (s : Option Addr) (cs : Nat), Below w.heap.size w W → Gives Try.prog 49 #[.agg (fls (enS e s cs)).toArray, .pointer (some ⟨gv, 0, none⟩), .pointer (some ⟨gg, 0, none⟩)] W (.bool (mtE v g e)) from fun W e s cs hb => find1_any (hv.below hb hv.lt) (hg.below hb hg.lt) hne)
  clear h hv hg hne
  obtain ⟨res, hres⟩ : ∃ r, idxM v g L 0 = r := ⟨_, rfl⟩
  rw [hres]
  have HR := Lib.hid hres
  clear hres
  refine Gives.of ?_
  have hH := Hp.refl w
  go_enter Try.func48, Try.ntmps48
  go_wp2_with (fail)
  go_loopw [5, 8] (fun _ i wr => ∃ j : Nat, i = .int .i64 (j : Int) ∧ j ≤ L.length ∧ Hid (idxM v g (L.drop j) j = res) ∧ Hp w.heap.size w wr []) (fun _ i _ => L.length - (intOf i).toNat)
  case atStart => exact ⟨0, rfl, by omega, by rw [List.drop_zero]; exact HR, hH⟩
  case round =>
    clear hH HR
    obtain ⟨j, rfl, hj, HR, hH⟩ := hrel
    by_cases hjl : j < L.length
    · obtain ⟨q, sa, ca, hq, fA, _⟩ := HA.out.get hjl
      subst hq
      have dj : decide ((j : Int) < (L.length : Int)) = true := decide_eq_true (by omega)
      have hr := HR.out
      rw [List.drop_eq_getElem_cons hjl] at hr
      unfold idxM at hr
      have f1 := Lib.hid (fun W hb => FO.out W L[j] sa ca hb)
      clear FO HR HA
      generalize mtE v g L[j] = y at *
      have oA := adL_ok L[j].grp
      unfold enS at fA f1
      generalize adL L[j].grp = A at *
      generalize L[j].vlan = ka at *
      generalize L[j].ex = exa at *
      generalize L[j].src.length = na at *
      cases y
      · have HR := Lib.hid (show idxM v g (L.drop (j + 1)) (j + 1) = res by simpa using hr)
        clear hr
        go_wp2_with (first | ((refine gL rfl ?_; refine hLoR tab_ok rfl ?_ rfl hH rfl rfl ?_; (focus (first | exact wN rfl | exact rfl)); refine ⟨_, fA, ⟨rfl, oA, rfl, rfl, trivial⟩, rfl, ?_⟩; (clear hH; (first | intro W g hH | intro W hH); (try simp only [Act.put, pA, pB, pC])))) | ((first | ((with_reducible refine callH hH ?_); refine ⟨?_, ?_, ?_⟩; rotate_left; (focus (first | (exact f1.out _ hH.below))))); clear hH; (first | intro W g hH | intro W hH); ((try simp only [Act.put, pA, pB, pC]))))
        exact ⟨⟨j + 1, by simp, by omega, HR, hH⟩, by simp [intOf]; omega⟩
      · obtain rfl : (j : Int) = res := by simpa using hr
        clear hr
        go_wp2_with (first | ((refine gL rfl ?_; refine hLoR tab_ok rfl ?_ rfl hH rfl rfl ?_; (focus (first | exact wN rfl | exact rfl)); refine ⟨_, fA, ⟨rfl, oA, rfl, rfl, trivial⟩, rfl, ?_⟩; (clear hH; (first | intro W g hH | intro W hH); (try simp only [Act.put, pA, pB, pC])))) | ((first | ((with_reducible refine callH hH ?_); refine ⟨?_, ?_, ?_⟩; rotate_left; (focus (first | (exact f1.out _ hH.below))))); clear hH; (first | intro W g hH | intro W hH); ((try simp only [Act.put, pA, pB, pC]))))
        go_ret
        exact ⟨rfl, hH.below⟩
    · have hr := HR.out
      rw [List.drop_of_length_le (by omega)] at hr
      unfold idxM at hr
      subst hr
      have dj : decide ((j : Int) < (L.length : Int)) = false := decide_eq_false (by omega)
      clear HA HR FO
      go_wp2_with (fail)
      go_ret
      exact ⟨rfl, hH.below⟩
theorem rSameF_any {x y : Bool} {M N : List Ad} (h : AdsAt w p M) (h' : AdsAt w p' N) : Gives Try.prog 25 #[.agg (fls (flS x p M.length c)).toArray, .agg (fls (flS y p' N.length c')).toArray] w (.bool (sameF x y M N)) := by
  refine Gives.of ?_
  have hH := Hp.refl w
  have F := Lib.hid (fun W (hb : Below w.heap.size w W) => sameAds_any (c := c) (c' := c') (h.below hb) (h'.below hb))
  clear h h'
  unfold flS sameF
  generalize decide (M = N) = r at *
  generalize M.length = n at *
  generalize N.length = m at *
  cases x <;> cases y
  all_goals
    go_enter Try.func25, Try.ntmps25
    go_wp2_with (first | ((first | (refine iL tab_ok rfl ?_ rfl hH ?_; (focus (first | exact wN rfl | exact rfl)); refine ⟨_, _, rfl, rfl, ?_⟩) | (refine hBx rfl ?_ rfl hH ?_ ?_; (focus (first | exact wN rfl | exact rfl)); (focus (repeat (first | exact trivial | assumption | exact OkA.z (by kernel_rfl) (by kernel_rfl) | refine ⟨rfl, ?_⟩ | refine ⟨?_, ?_⟩)))) | ((with_reducible refine callH hH ?_); refine ⟨?_, ?_, ?_⟩; rotate_left; (focus (first | (exact F.out _ hH.below))))); clear hH; (first | intro W g hH | intro W hH); ((try simp only [Act.put, pA, pB, pC]))))
    go_ret
    exact ⟨by simp, hH.below⟩
/-- what is found -/
def foundF (L : List En) (v : Int) (g : Ad) : Bool × Bool × List Ad := match L.find? (mtE v g) with
  | some e => (true, e.ex, e.src)
  | none => (false, false, [])
theorem idxM_find : ∀ {L : List En} {k : Nat}, (idxM v g L k = -1 ∧ L.find? (mtE v g) = none) ∨ ∃ j, ∃ h : j < L.length, idxM v g L k = ((k + j : Nat) : Int) ∧ L.find? (mtE v g) = some L[j]
  | [], k => .inl ⟨rfl, rfl⟩
  | a :: L, k => by
    unfold idxM
    rw [List.find?_cons]
    cases hm : mtE v g a with
    | true => exact .inr ⟨0, by simp, by simp, by simp⟩
    | false =>
      rcases idxM_find (L := L) (k := k + 1) with ⟨h1, h2⟩ | ⟨j, hj, h1, h2⟩
      · exact .inl ⟨by simpa using h1, by simpa using h2⟩
      · exact .inr ⟨j + 1, by simpa using hj, by simp only [Bool.false_eq_true, if_false]; rw [h1]; congr 1; omega, by simpa using h2⟩
theorem run_fieldF {k : Int} {YA : List Value} {ex : Bool} {q : Option Addr} {n m : Nat} (oA : OkA YA 17) (W : World) : (Instr.field 30 (.agg (fls [.one (.int .i64 k), .many YA 17, .one (.bool ex), .one (.slice q n m)]).toArray) 2).run Try.prog W = .ok (.agg (fls [.one (.bool ex), .one (.slice q n m)]).toArray) W := by
  have hz : ∀ w, (Go.sizeOf 28).run Try.prog w = .ok 2 w := fun w => (by kernel_rfl : (Go.sizeOf 28).run Try.prog w = .ok 2 w)
  have h1 := oA.1
  have e : List.take 2 (List.drop 18 (fls [.one (.int .i64 k), .many YA 17, .one (.bool ex), .one (.slice q n m)])) = fls [.one (.bool ex), .one (.slice q n m)] := by
    simp only [fls, List.append_nil, List.drop_succ_cons, List.drop_append, h1, Nat.sub_self, List.drop_zero]
    rw [List.drop_of_length_le (by omega)]
    rfl
  simp [Instr.field, run_underlying Try.underlying30, part, isAgg, run_underlying Try.underlying28, hz, asAgg]
  exact e
def FindP (w : World) (f : Bool × Bool × List Ad) (e : Ending) (w' : World) : Prop := ∃ p c D, e = .returned (.tuple #[.agg (fls [.one (.bool f.2.1), .one (.slice p f.2.2.length c)]).toArray, .bool f.1]) ∧ Made w w' D ∧ ∀ B w0 W, Hp B w0 W D → AdsAt W p f.2.2
set_option maxHeartbeats 4000000 in
theorem dFind_any (h : EnsAt w p L) (hs : ∀ e ∈ L, e.src.length ≤ 1000) : Calls Try.prog 23 #[.slice p L.length c, .int .i64 v, .agg (fls [.many (adL g) 17]).toArray] w fun e w' => FindP w (foundF L v g) e w' := by
  have hl := h.1
  have HA := Lib.hid h
  have HI := Lib.hid (fun W (gv gg : Nat) (hb : Below w.heap.size w W) hv hg hne => eindex_any (c := c) (gv := gv) (gg := gg) (v := v) (g := g) (h.below hb) hv hg hne)
  have hH := Hp.refl w
  have oG := adL_ok g
  rcases idxM_find (L := L) (k := 0) (v := v) (g := g) with ⟨h1, h2⟩ | ⟨j, hj, h1, h2⟩
  · have hf : foundF L v g = (false, false, []) := by unfold foundF; rw [h2]
    rw [hf]
    rw [h1] at HI
    clear h h1 h2 hf hs
    generalize adL g = G at *
    go_enter Try.func23, Try.ntmps23
    go_wp2_with (first | ((first | (refine iSR tab_ok rfl ?_ rfl hH ?_; (focus (first | exact wN rfl | exact rfl)); refine ⟨_, _, _, _, rfl, rfl, rfl, rfl, rfl, ?_, ?_⟩; (focus (repeat (first | exact trivial | assumption | exact OkA.z (by kernel_rfl) (by kernel_rfl) | refine ⟨rfl, ?_⟩ | refine ⟨?_, ?_⟩)))) | (refine hAl tab_ok rfl ?_ hH rfl ?_; (focus (first | exact wN rfl | exact rfl))) | (refine hBx1 rfl ?_ rfl hH ?_; (focus (first | exact wN rfl | exact rfl))) | (refine hBx rfl ?_ rfl hH ?_ ?_; (focus (first | exact wN rfl | exact rfl)); (focus (repeat (first | exact trivial | assumption | exact OkA.z (by kernel_rfl) (by kernel_rfl) | refine ⟨rfl, ?_⟩ | refine ⟨?_, ?_⟩)))) | (refine hBd tab_ok rfl ?_ rfl rfl rfl hH ?_; (focus (first | exact wN rfl | exact rfl)); refine ⟨?_, ?_, ?_⟩; rotate_left; (focus (repeat (first | exact BR.nil | refine BR.one rfl rfl rfl ?_ | (refine BR.row rfl rfl rfl rfl ?_ ?_; (focus (repeat (first | exact trivial | assumption | exact OkA.z (by kernel_rfl) (by kernel_rfl) | refine ⟨rfl, ?_⟩ | refine ⟨?_, ?_⟩)))))))) | ((with_reducible refine callH hH ?_); refine ⟨?_, ?_, ?_⟩; rotate_left; (focus (first | (exact HI.out _ _ _ hH.below (hH.rows.mem (i := 2) rfl).1 (hH.rows.mem (i := 1) rfl).1 (hH.rows.2.2.2.1 _ (List.mem_cons_self ..))))))); clear hH; (first | intro W g hH | intro W hH); ((try simp only [Act.put, pA, pB, pC]))))
    (refine iRet2 Try.results23 tab_ok rfl rfl hH ?_; refine ⟨_, _, rfl, rfl, rfl, ?_⟩)
    exact ⟨none, 0, [], rfl, ⟨hH.nil, by simp⟩, fun _ _ _ _ => AdsAt.nil⟩
  · have hf : foundF L v g = (true, L[j].ex, L[j].src) := by unfold foundF; rw [h2]
    rw [hf]
    rw [h1, Nat.zero_add] at HI
    obtain ⟨qa, sa, ca, ha, fA, fSA⟩ := HA.out.get hj
    subst ha
    have hla := hs _ (List.getElem_mem hj)
    have hj2 : j < L.length := hj
    clear h h1 h2 hf hs HA
    generalize L[j] = a at *
    obtain ⟨ka, Ga, exa, la⟩ := a
    unfold enS at fA
    simp only at fA fSA hla
    have oA := adL_ok Ga
    obtain ⟨YA, hYA⟩ : ∃ Y, Y = adL Ga := ⟨_, rfl⟩
    rw [← hYA] at fA oA
    have HOWN := Lib.hid (show ∀ (W : World) (H : HB) (Q : Ending → World → Prop), Hp w.heap.size w W H → Below w.heap.size w W → (∀ W' p c D, Hid (∀ B w0 W, Hp B w0 W D → AdsAt W p la) → Hid (∀ r ∈ D, r.2.2.1 = true) → Hp w.heap.size w W' (H ++ D) → Q (.returned (.agg (fls [.one (.int .i64 ka), .many YA 17, .one (.bool exa), .one (.slice p la.length c)]).toArray)) W') → Calls Try.prog 39 #[.agg (fls [.one (.int .i64 ka), .many YA 17, .one (.bool exa), .one (.slice sa la.length ca)]).toArray] W Q from fun W H Q hH hb hQ => by
      rw [hYA] at hQ ⊢
      exact hOwnD (e := ⟨ka, Ga, exa, la⟩) hH (fSA.below hb) hla hQ)
    clear hYA fSA
    generalize adL g = G at *
    have dj : decide ((j : Int) < 0) = false := decide_eq_false (by omega)
    go_enter Try.func23, Try.ntmps23
    go_wp2_with (first | ((refine gL rfl ?_; refine hLoR tab_ok rfl ?_ rfl hH rfl rfl ?_; (focus (first | exact wN rfl | exact rfl)); refine ⟨_, fA, ⟨rfl, oA, rfl, rfl, trivial⟩, rfl, ?_⟩; (clear hH; (first | intro W g hH | intro W hH); (try simp only [Act.put, pA, pB, pC])))) | ((go_at_call 39; refine HOWN.out _ _ _ hH hH.below ?_; (clear hH; intro W po co Dy hya hDy hH); (try simp only [List.cons_append, List.nil_append] at hH); ((try simp only [Act.put, pA, pB, pC])))) | ((first | (refine hAl tab_ok rfl ?_ hH rfl ?_; (focus (first | exact wN rfl | exact rfl))) | (refine hBx1 rfl ?_ rfl hH ?_; (focus (first | exact wN rfl | exact rfl))) | (refine hBx rfl ?_ rfl hH ?_ ?_; (focus (first | exact wN rfl | exact rfl)); (focus (repeat (first | exact trivial | assumption | exact OkA.z (by kernel_rfl) (by kernel_rfl) | refine ⟨rfl, ?_⟩ | refine ⟨?_, ?_⟩)))) | ((with_reducible refine callH hH ?_); refine ⟨?_, ?_, ?_⟩; rotate_left; (focus (first | (exact HI.out _ _ _ hH.below (hH.rows.mem (i := 2) rfl).1 (hH.rows.mem (i := 1) rfl).1 (hH.rows.2.2.2.1 _ (List.mem_cons_self ..))))))); clear hH; (first | intro W g hH | intro W hH); ((try simp only [Act.put, pA, pB, pC]))))
    rw [run_fieldF oA]
    simp only [Result.andThen]
    rw [Oper.upon_value]
    go_wp2_with (first | ((first | (refine iSR tab_ok rfl ?_ rfl hH ?_; (focus (first | exact wN rfl | exact rfl)); refine ⟨_, _, _, _, rfl, rfl, rfl, rfl, rfl, ?_, ?_⟩; (focus (repeat (first | exact trivial | assumption | exact OkA.z (by kernel_rfl) (by kernel_rfl) | refine ⟨rfl, ?_⟩ | refine ⟨?_, ?_⟩))))); clear hH; (first | intro W g hH | intro W hH); ((try simp only [Act.put, pA, pB, pC]))))
    (refine iRet2 Try.results23 tab_ok rfl rfl hH ?_; refine ⟨_, _, rfl, rfl, rfl, ?_⟩)
    exact ⟨po, co, Dy, rfl, ⟨hH.sub (SubH.drop (SubH.drop (SubH.drop SubH.refl))), hDy.out⟩, hya.out⟩
end
end
section
open Go.ChangeShapes Go.WideShapes Go.ChangeAt Go.RowKit
set_option linter.unusedVariables false
set_option linter.unusedSimpArgs false
set_option maxRecDepth 20000
attribute [local irreducible] wpList

def apS (p : Option Addr) (n c : Nat) (p' : Option Addr) (n' c' : Nat) (v : Int) (g : Ad) : List Seg := [.one (.slice p n c), .one (.slice p' n' c'), .one (.int .i64 v), .many (adL g) 17]
section
variable {H : Type} {enc : TypeId × Value → H} {W : World} {base : Nat} {held : Bool} {fuel : Nat} {cs : List Value} {x : DataW H × List MemPlace}
theorem ch_trod (h : DataW.trod enc Try.prog W base (fun _ => true) held fuel 37 cs = some x) : ∃ y : Cv, cs = fls (cvS y) ∧ AdsAt W y.p y.x.e.src := by
  obtain ⟨xs, n, rfl, _, hl, hxl, hf⟩ := DataW.trod_struct Try.underlying37 h
  have hl : cs.length = 21 := by rw [hl]; kernel_rfl
  have hxl : xs.length = 2 := hxl
  have g0 := hf 0 _ rfl
  have g1 := hf 1 _ rfl
  have ce : Try.prog.cellsOf 30 = 20 := by kernel_rfl
  have cb : Try.prog.cellsOf 4 = 1 := by kernel_rfl
  change DataW.trod enc Try.prog W base (fun _ => true) held n 30 ((cs.drop 0).take (Try.prog.cellsOf 30)) = xs[0]? at g0
  change DataW.trod enc Try.prog W base (fun _ => true) held n 4 ((cs.drop 20).take (Try.prog.cellsOf 4)) = xs[1]? at g1
  rw [ce, List.getElem?_eq_getElem (show 0 < xs.length by omega)] at g0
  rw [cb, List.getElem?_eq_getElem (show 1 < xs.length by omega)] at g1
  obtain ⟨y, h0, hA, _⟩ := en_trod g0
  obtain ⟨b, hb, _⟩ := DataW.trod_bool Try.underlying4 g1
  refine ⟨⟨⟨y.e, b⟩, y.p, y.c⟩, ?_, hA⟩
  have e1 : cs = (cs.drop 0).take 20 ++ (cs.drop 20).take 1 := by
    rw [List.drop_zero, List.take_of_length_le (l := cs.drop 20) (by simp; omega), List.take_append_drop]
  rw [e1, h0, hb]
  simp [cvS, chS, evS, enS, fls]
theorem chs_trod (h : DataW.trod enc Try.prog W base (fun _ => true) held fuel 42 cs = some x) : ∃ (p : Option Addr) (R : List Ch) (c : Nat), cs = [.slice p R.length c] ∧ ChsAt W p R ∧ R.length ≤ c ∧ c ≤ 9223372036854775807 := by
  have c21 : Try.prog.cellsOf 37 = 21 := by kernel_rfl
  rcases Go.Deep.open_slice Try.underlying42 h with ⟨hc, _⟩ | ⟨a, len, cap, m, n, D, Pl, hc, _, hlc, hcm, hm, hx, hcells⟩
  · exact ⟨none, [], 0, hc, ChsAt.nil, by simp, by simp⟩
  · simp only [if_true] at hm
    rw [c21] at hcells
    have each : ∀ i : Fin len, ∃ y : Cv, OldR W (a.add (i.1 * 21)) (fls (cvS y)) ∧ AdsAt W y.p y.x.e.src := fun i => by
      obtain ⟨cs', h1, h2⟩ := hcells i.1 (by have := i.2; omega)
      obtain ⟨y, rfl, h3⟩ := ch_trod h2
      exact ⟨y, oldR_of h1 (by omega), h3⟩
    obtain ⟨q, hq⟩ := Classical.axiomOfChoice each
    have hcm : cap ≤ 9223372036854775807 := by simpa only [maxLen] using hcm
    refine ⟨some a, (List.ofFn q).map Cv.x, cap, by rw [hc]; simp, ⟨by simp; omega, List.ofFn q, rfl, fun i hi => ⟨⟨a, rfl, ?_⟩, ?_⟩⟩, by simpa using hlc, hcm⟩
    · have := (hq ⟨i, by simpa using hi⟩).1
      rw [List.getElem_ofFn]
      exact this
    · have := (hq ⟨i, by simpa using hi⟩).2
      rw [List.getElem_ofFn]
      exact this
theorem ap_trod (h : DataW.trod enc Try.prog W base (fun _ => true) held fuel 50 cs = some x) : ∃ (p : Option Addr) (L : List En) (c : Nat) (p' : Option Addr) (C : List Ch) (c' : Nat) (v : Int) (g : Ad), cs = fls (apS p L.length c p' C.length c' v g) ∧ EnsAt W p L ∧ ChsAt W p' C := by
  obtain ⟨xs, n, rfl, _, hl, hxl, hf⟩ := DataW.trod_struct Try.underlying50 h
  have hl : cs.length = 20 := by rw [hl]; kernel_rfl
  have hxl : xs.length = 4 := hxl
  have g0 := hf 0 _ rfl
  have g1 := hf 1 _ rfl
  have g2 := hf 2 _ rfl
  have g3 := hf 3 _ rfl
  have c0 : Try.prog.cellsOf 22 = 1 := by kernel_rfl
  have c1 : Try.prog.cellsOf 42 = 1 := by kernel_rfl
  have ci : Try.prog.cellsOf 3 = 1 := by kernel_rfl
  have ca : Try.prog.cellsOf 25 = 17 := by kernel_rfl
  change DataW.trod enc Try.prog W base (fun _ => true) held n 22 ((cs.drop 0).take (Try.prog.cellsOf 22)) = xs[0]? at g0
  change DataW.trod enc Try.prog W base (fun _ => true) held n 42 ((cs.drop 1).take (Try.prog.cellsOf 42)) = xs[1]? at g1
  change DataW.trod enc Try.prog W base (fun _ => true) held n 3 ((cs.drop 2).take (Try.prog.cellsOf 3)) = xs[2]? at g2
  change DataW.trod enc Try.prog W base (fun _ => true) held n 25 ((cs.drop 3).take (Try.prog.cellsOf 25)) = xs[3]? at g3
  rw [c0, List.getElem?_eq_getElem (show 0 < xs.length by omega)] at g0
  rw [c1, List.getElem?_eq_getElem (show 1 < xs.length by omega)] at g1
  rw [ci, List.getElem?_eq_getElem (show 2 < xs.length by omega)] at g2
  rw [ca, List.getElem?_eq_getElem (show 3 < xs.length by omega)] at g3
  obtain ⟨p, L, c, e0, hA, _⟩ := ens_trod g0
  obtain ⟨p', C, c', e1, hC, _⟩ := chs_trod g1
  obtain ⟨v, e2, _, _⟩ := DataW.trod_int Try.underlying3 g2
  obtain ⟨g, e3⟩ := ad_trod g3
  refine ⟨p, L, c, p', C, c', v, g, ?_, hA, hC⟩
  have e : cs = (cs.drop 0).take 1 ++ ((cs.drop 1).take 1 ++ ((cs.drop 2).take 1 ++ (cs.drop 3).take 17)) := by
    have h3 : (cs.drop 3).take 17 = cs.drop 3 := List.take_of_length_le (by simp; omega)
    rw [h3, show cs.drop 3 = (cs.drop 2).drop 1 by rw [List.drop_drop], List.take_append_drop, show cs.drop 2 = (cs.drop 1).drop 1 by rw [List.drop_drop], List.take_append_drop, show cs.drop 1 = (cs.drop 0).drop 1 by rw [List.drop_drop], List.take_append_drop, List.drop_zero]
  rw [e, e0, e1, e2, e3]
  simp [fls, apS]
theorem ap_open {v : Value} {d : DataW H} {ps : List MemPlace} {base' : Nat} (g : Value.okWide Try.prog W .any base' 50 v) (h : DataW.Trod enc Try.prog W base (fun _ => true) held 50 v d ps) :
    ∃ (p : Option Addr) (L : List En) (c : Nat) (p' : Option Addr) (C : List Ch) (c' : Nat) (k : Int) (a : Ad), v = .agg (fls (apS p L.length c p' C.length c' k a)).toArray ∧ EnsAt W p L ∧ ChsAt W p' C := by
  obtain ⟨cs, rfl, hc⟩ := open_agg_struct (ts := [22, 42, 3] ++ (4 :: List.replicate 16 5)) Try.underlying50 (by kernel_rfl) (by kernel_rfl) g
  obtain ⟨fuel0, hf0⟩ := h
  have hf0 : DataW.trod enc Try.prog W base (fun _ => true) held fuel0 50 cs = some (d, ps) := by simpa [Value.cells] using hf0
  obtain ⟨p, L, c, p', C, c', k, a, h1, h2⟩ := ap_trod hf0
  exact ⟨p, L, c, p', C, c', k, a, by rw [h1], h2⟩
end
end
section
open Go.ChangeShapes Go.WideShapes Go.ChangeAt Go.RowKit
set_option linter.unusedVariables false
set_option linter.unusedSimpArgs false
attribute [local irreducible] wpList
def mixS (S : Act → World → Prop) : Exit → Act → World → Prop
  | .normal, a, w => S a w
  | _, _, _ => False
section
variable {P : Program} {B : Nat} {w0 W : World} {H H0 : HB} {a : Act} {Q : Exit → Act → World → Prop} {l : List Oper} {fuel : Nat} {listed : Array Bool} {nb : List Nat}
theorem regKS {S : Act → World → Prop} {id : Nat} (nb : List Nat) (hH : Hp B w0 W H) (hS : SubH H H0) (hm : P.follows .mixedOrders = true) (h : ∀ W', Hp B w0 W' H → WMK P l (mixS S) B w0 H0 nb l.length (Array.replicate l.length false) a W')
    (hk : ∀ a W', S a W' → Q .normal a W') : (Code.region id l.toArray true).wp P Q a W := by
  refine Code.wp_mono (fun e a w hq => ?_) (regK nb hH hS hm h)
  cases e <;> first | exact hq.elim | exact hk _ _ hq
theorem hk_endS {S : Act → World → Prop} (hr : Region.ready .any l.toArray listed = []) (h : S a W) : WMK P l (mixS S) B w0 H0 nb fuel listed a W := hk_end hr h
theorem regKP3 {A1 A2 A3 : Type} {F : A1 → A2 → A3 → Prop} {af : Nat → A1 → A2 → A3 → Act} {Hf : Nat → A1 → A2 → A3 → HB} {id : Nat} (nb : List Nat) (hH : Hp B w0 W H) (hS : SubH H H0) (hm : P.follows .mixedOrders = true)
    (h : ∀ W', Hp B w0 W' H → WMK P l (mixS fun a w => ∃ g x y z, F x y z ∧ a = af g x y z ∧ Hp B w0 w (Hf g x y z)) B w0 H0 nb l.length (Array.replicate l.length false) a W')
    (hk : ∀ W' g x y z, F x y z → Hp B w0 W' (Hf g x y z) → Q .normal (af g x y z) W') : (Code.region id l.toArray true).wp P Q a W :=
  regKS nb hH hS hm h fun a W' ⟨g, x, y, z, h1, h2, h3⟩ => by subst h2; exact hk W' g x y z h1 h3
theorem regKP4 {A1 A2 A3 A4 : Type} {F : A1 → A2 → A3 → A4 → Prop} {af : Nat → A1 → A2 → A3 → A4 → Act} {Hf : Nat → A1 → A2 → A3 → A4 → HB} {id : Nat} (nb : List Nat) (hH : Hp B w0 W H) (hS : SubH H H0) (hm : P.follows .mixedOrders = true)
    (h : ∀ W', Hp B w0 W' H → WMK P l (mixS fun a w => ∃ g x y z t, F x y z t ∧ a = af g x y z t ∧ Hp B w0 w (Hf g x y z t)) B w0 H0 nb l.length (Array.replicate l.length false) a W')
    (hk : ∀ W' g x y z t, F x y z t → Hp B w0 W' (Hf g x y z t) → Q .normal (af g x y z t) W') : (Code.region id l.toArray true).wp P Q a W :=
  regKS nb hH hS hm h fun a W' ⟨g, x, y, z, t, h1, h2, h3⟩ => by subst h2; exact hk W' g x y z t h1 h3
theorem regKP6 {A1 A2 A3 A4 A5 A6 : Type} {F : A1 → A2 → A3 → A4 → A5 → A6 → Prop} {af : Nat → A1 → A2 → A3 → A4 → A5 → A6 → Act} {Hf : Nat → A1 → A2 → A3 → A4 → A5 → A6 → HB} {id : Nat} (nb : List Nat) (hH : Hp B w0 W H) (hS : SubH H H0) (hm : P.follows .mixedOrders = true)
    (h : ∀ W', Hp B w0 W' H → WMK P l (mixS fun a w => ∃ g x y z t u v, F x y z t u v ∧ a = af g x y z t u v ∧ Hp B w0 w (Hf g x y z t u v)) B w0 H0 nb l.length (Array.replicate l.length false) a W')
    (hk : ∀ W' g x y z t u v, F x y z t u v → Hp B w0 W' (Hf g x y z t u v) → Q .normal (af g x y z t u v) W') : (Code.region id l.toArray true).wp P Q a W :=
  regKS nb hH hS hm h fun a W' ⟨g, x, y, z, t, u, v, h1, h2, h3⟩ => by subst h2; exact hk W' g x y z t u v h1 h3
/-! loads of what lies among known blocks -/
variable {T : Tab} {ops : Array Oper} {rest : List Oper} {op : Oper} {Q : Exit → Act → World → Prop} {ty : TypeId} {x : Operand} {q : Addr} {e : TyE}
theorem hDR (hT : TabOk P T) (ho : op.op = .load ty x) (hw : Region.wanted op (yielded ops a.tmps) = true) (hx : a.eval x = .pointer (some q)) (hH : Hp B w0 W H) (hty : findT ty T = some e) (hr : e.row = true)
    (h : ∃ S, OldR W q (fls S) ∧ okS S ∧ lenS S = e.size ∧ ∀ W', Hp B w0 W' H → wpList P ops Q rest (a.put op.dst (.agg (fls S).toArray)) W') : wpList P ops Q (op :: rest) a W := by
  obtain ⟨S, h1, h2, h3, h⟩ := h
  exact wpL_load ho hw hx (run_oldR hT (Hp.refl W) h1 h2 hty hr h3) (h W hH)
theorem qDR {K : Act → Prop} (hT : TabOk P T) (ho : op.op = .load ty x) (hx : a.eval x = .pointer (some q)) (hty : findT ty T = some e) (hr : e.row = true)
    (h : ∃ S, (∀ W, Hp B w0 W H → OldR W q (fls S)) ∧ okS S ∧ lenS S = e.size ∧ K (a.put op.dst (.agg (fls S).toArray))) : op.quiet P a (fun W' => ∃ y : HW B w0 H, W' = y.w) K := by
  obtain ⟨S, h1, h2, h3, hk⟩ := h
  exact quiet_load ho hx (fun w hw => by obtain ⟨y, rfl⟩ := hw; exact run_oldR hT (Hp.refl y.w) (h1 _ y.hp) h2 hty hr h3) hk
theorem qD1 {K : Act → Prop} (hT : TabOk P T) (ho : op.op = .load ty x) (hx : a.eval x = .pointer (some q)) (hty : findT ty T = some e) (hr : e.row = false)
    (h : ∃ v, (∀ W, Hp B w0 W H → OldC W q v) ∧ K (a.put op.dst v)) : op.quiet P a (fun W' => ∃ y : HW B w0 H, W' = y.w) K := by
  obtain ⟨v, h1, hk⟩ := h
  exact quiet_load ho hx (fun w hw => by obtain ⟨y, rfl⟩ := hw; exact run_oldC hT (Hp.refl y.w) (h1 _ y.hp) hty hr) hk
end
end
section
open Go.ChangeShapes Go.WideShapes Go.ChangeAt Go.RowKit
set_option linter.unusedVariables false
set_option linter.unusedSimpArgs false
set_option maxRecDepth 20000
attribute [local irreducible] wpList
def OwnXP (w : World) (R : List En) (e : Ending) (w' : World) : Prop := ∃ g c q J X D, e = .returned (.slice (some ⟨g, 0, none⟩) R.length c) ∧ X.map Ev.e = R ∧ (∀ x ∈ X, ∀ B w0 W, Hp B w0 W D → AdsAt W x.p x.e.src) ∧ Made w w' ((g, 30, true, [.many (evsL X) (X.length * 20), .many J q]) :: D)
section
variable {w : World} {p p' : Option Addr} {c c' : Nat}
set_option maxHeartbeats 1000000 in
theorem ownX_any {R : List En} (hm : R.length ≤ 1000) (h : EnsAt w p R) : Calls Try.prog 10 #[.slice p R.length c] w fun e w' => OwnXP w (R.map fewE) e w' := by
  have HR := Lib.hid h
  clear h
  have hH := Hp.refl w
  go_enter Try.func10, Try.ntmps10
  go_wp2_with (fail)
  have hH := hH.alloc 30 (S := [.many [] 0, .many [] 0]) ⟨⟨rfl, by simp⟩, ⟨rfl, by simp⟩, trivial⟩
  go_loopw [3, 4] (fun s i wr => ∃ (j : Nat) (X : List Ev) (g cc q : Nat) (J : List Value) (D : HB), i = .int .i64 (j : Int) ∧ j ≤ R.length ∧ X.map Ev.e = (R.take j).map fewE ∧ X.length = j ∧ s = .slice (some ⟨g, 0, none⟩) X.length cc ∧ Grow 20 X.length cc (X.length * 20) q ∧ OkA J q ∧ Hp w.heap.size w wr ((g, 30, true, [.many (evsL X) (X.length * 20), .many J q]) :: D) ∧ (∀ r ∈ D, r.2.2.1 = true) ∧ ∀ x ∈ X, ∀ B w0 W, Hp B w0 W D → AdsAt W x.p x.e.src) (fun _ i _ => 1000 - (intOf i).toNat)
  case atStart => exact ⟨0, [], _, 0, 0, [], [], rfl, by omega, rfl, rfl, rfl, ⟨rfl, rfl, Nat.le_refl _, by simp [maxLen]⟩, ⟨rfl, by simp⟩, hH, by simp, by simp⟩
  case round =>
    clear hH
    obtain ⟨j, X, g, cc, q, J, D, rfl, hjR, hX, hXj, rfl, hG, oJ, hH, hD, hXD⟩ := hrel
    have hXD := Lib.hid hXD
    have hD := Lib.hid hD
    by_cases hjl : j < R.length
    · obtain ⟨a, s, c1, ha, fO, fA⟩ := HR.out.get hjl
      subst ha
      have dj : decide ((j : Int) < (R.length : Int)) = true := decide_eq_true (by omega)
      have hTake := Lib.hid (show (R.take (j + 1)).map fewE = X.map Ev.e ++ [fewE R[j]] by rw [hX, ← List.take_append_getElem hjl, List.map_append]; rfl)
      have HXj := Lib.hid hXj
      have hX1 : X.length ≤ 1000 := by omega
      have hj1 : j < 1000 := by omega
      have HjR := Lib.hid hjl
      clear hX HR hXj hjR
      generalize hr : R[j] = r at *
      clear hr
      obtain ⟨k, G, b, l⟩ := r
      unfold enS at fO
      simp only at fO fA hTake
      have oG := adL_ok G
      obtain ⟨Y, hYY⟩ : ∃ Y, Y = adL G := ⟨_, rfl⟩
      rw [← hYY] at fO oG
      have HY := Lib.hid hYY
      clear hYY
      go_wp2_with (first | ((refine gL rfl ?_; refine hLoR tab_ok rfl ?_ rfl hH rfl rfl ?_; (focus (first | exact wN rfl | exact rfl)); refine ⟨_, fO, ⟨rfl, oG, rfl, rfl, trivial⟩, rfl, ?_⟩; (clear hH; (first | intro W g hH | intro W hH); (try simp only [Act.put, pA, pB, pC])))) | ((go_at_call 8; refine hEntryS HY hH (fA.below hH.below) ?_; (clear hH; intro W ga ca qa Ja l6 hl6 hH); ((try simp only [Act.put, pA, pB, pC])))) | ((refine hSl tab_ok rfl ?_ rfl tabs_ok rfl rfl rfl rfl rfl hH ?_; (focus (first | exact wN rfl | exact rfl)); refine ⟨?_, ?_, ?_⟩; rotate_left; (focus (repeat (first | exact BR.nil | refine BR.one rfl rfl rfl ?_ | (refine BR.row rfl rfl rfl rfl ?_ ?_; (focus (repeat (first | exact trivial | assumption | exact OkA.z (by kernel_rfl) (by kernel_rfl) | refine ⟨rfl, ?_⟩ | refine ⟨?_, ?_⟩))))))); clear hH; intro W g hH; (try simp only [Act.put, pA, pB, pC]))) | (((first | (refine hApp 2 0 tab_ok tabs_ok rfl rfl rfl rfl rfl rfl rfl hH rfl rfl rfl rfl ?_; refine ⟨?_, ?_, ?_⟩; (focus assumption); (focus (first | omega | (simp; omega))))); clear hH; intro W g c p q J hG hL hJ hH; (try simp only [putH, fls, List.append_nil] at hH hL); (try simp only [Act.put, pA, pB, pC]))))
      have hp := hG.hp
      have hq := hG.hq
      have hle := hG.le
      have hmo := hG.most
      clear hG
      have h6 : l6.length ≤ 6 := by rw [hl6.out, List.length_take]; omega
      refine ⟨⟨j + 1, X ++ [⟨⟨k, G, b, l6⟩, some ⟨ga, 0, none⟩, ca⟩], g, c, q, J, (ga, 25, true, [.many (adsL l6) (l6.length * 17), .many Ja qa]) :: D, by simp, HjR.out, ?_, by simp [HXj.out], by simp, ?_, hJ, ?_, ?_, ?_⟩, by simp [intOf]; omega⟩
      · rw [hTake.out, List.map_append]
        unfold fewE
        rw [← hl6.out]
        rfl
      · have e1 : (X ++ [(⟨⟨k, G, b, l6⟩, some ⟨ga, 0, none⟩, ca⟩ : Ev)]).length = X.length + 1 := by simp
        rw [e1]
        exact ⟨rfl, by rw [← hq, hp], hle, hmo⟩
      · have e1 : (X ++ [(⟨⟨k, G, b, l6⟩, some ⟨ga, 0, none⟩, ca⟩ : Ev)]).length * 20 = p := by rw [hp]; simp
        have e2 : evsL (X ++ [(⟨⟨k, G, b, l6⟩, some ⟨ga, 0, none⟩, ca⟩ : Ev)]) = evsL X ++ (.int .i64 k :: (Y ++ [.bool b, .slice (some ⟨ga, 0, none⟩) l6.length ca])) := by rw [evsL_snoc, HY.out]; rfl
        rw [e1, e2]
        exact (hH.sub (SubH.drop SubH.refl)).perm (List.Perm.swap _ _ _)
      · intro r hr
        rcases List.mem_cons.1 hr with rfl | hr
        · rfl
        · exact hD.out r hr
      · intro x hx B w0 W h
        rcases List.mem_append.1 hx with hx | hx
        · exact hXD.out x hx _ _ _ (h.sub (SubH.drop SubH.refl))
        · obtain rfl := List.mem_singleton.1 hx
          exact adsAt_row (L := l6) (Nat.le_trans h6 (by decide)) (by have := (h.rows.mem (i := 0) rfl).1; rwa [fls_two] at this)
    · have hend := Lib.hid (show R.map fewE = X.map Ev.e by rw [hX, List.take_of_length_le (by omega)])
      have dj : decide ((j : Int) < (R.length : Int)) = false := decide_eq_false (by omega)
      have hXm : X.length ≤ 9223372036854775807 := by omega
      have hjl2 : R.length ≤ j := by omega
      clear hX HR hjl hjR
      go_wp2_with (fail)
      go_ret
      refine ⟨g, cc, q, J, X, D, by rw [hend.out, List.length_map]; rfl, hend.out.symm, hXD.out, hH, fun r hr => ?_⟩
      rcases List.mem_cons.1 hr with rfl | hr
      · rfl
      · exact hD.out r hr
theorem hOwnX {B : Nat} {w0 W : World} {H : HB} {R : List En} {Q : Ending → World → Prop} (hm : R.length ≤ 1000) (hH : Hp B w0 W H) (h : EnsAt W p R) (hR : ∀ W' g c D X, Hid (X.map Ev.e = R.map fewE) → Hid (∀ B w0 W, Hp B w0 W D → CellsAt W (some ⟨g, 0, none⟩) X) → Hid (InE X D) → Hid (∀ r ∈ D, r.2.2.1 = true) → Hp B w0 W' (H ++ D) → Q (.returned (.slice (some ⟨g, 0, none⟩) X.length c)) W') :
    Calls Try.prog 10 #[.slice p R.length c] W Q :=
  (ownX_any hm h).mono fun _ _ ⟨g, c, q, J, X, D, he, hX, hA, hM⟩ => by
    subst he
    have := hR _ g c _ X (Lib.hid hX) (Lib.hid fun B w0 W h => CellsAt.row (by have := (h.rows.mem (i := 0) rfl).1; rwa [fls_two] at this)) (Lib.hid fun x hx B w0 W h => hA x hx _ _ _ (h.sub (SubH.drop SubH.refl))) (Lib.hid hM.2) (hH.join hM)
    rwa [show X.length = (R.map fewE).length by rw [← hX, List.length_map]] at this
end
/-- what was found so far -/
def WantF (R : List En) (v : Int) (g : Ad) (j : Nat) (is ew : Bool) (lw : List Ad) : Prop :=
  (is = false ∧ ew = false ∧ lw = [] ∧ ∀ i (h : i < R.length), i < j → mtE v g R[i] = false) ∨ ∃ i, ∃ h : i < R.length, i < j ∧ mtE v g R[i] = true ∧ is = true ∧ ew = R[i].ex ∧ lw = R[i].src
theorem WantF.start {R : List En} {v : Int} {g : Ad} : WantF R v g 0 false false [] := .inl ⟨rfl, rfl, rfl, fun i h h' => by omega⟩
theorem WantF.skip {R : List En} {v : Int} {g : Ad} {j : Nat} {is ew : Bool} {lw : List Ad} (h : WantF R v g j is ew lw) (hj : j < R.length) (hm : mtE v g R[j] = false) : WantF R v g (j + 1) is ew lw := by
  rcases h with ⟨h1, h2, h3, h4⟩ | ⟨i, hi, h1, h2⟩
  · refine .inl ⟨h1, h2, h3, fun i h h' => ?_⟩
    by_cases e : i = j
    · subst e; exact hm
    · exact h4 i h (by omega)
  · exact .inr ⟨i, hi, by omega, h2⟩
theorem WantF.hit {R : List En} {v : Int} {g : Ad} {j : Nat} (hj : j < R.length) (hm : mtE v g R[j] = true) : WantF R v g (j + 1) true R[j].ex R[j].src := .inr ⟨j, hj, by omega, hm, rfl, rfl, rfl⟩
theorem WantF.fin {R : List En} {v : Int} {g : Ad} {is ew : Bool} {lw : List Ad} (h : WantF R v g R.length is ew lw) (hR : RiseE R) : foundF R v g = (is, ew, lw) := by
  unfold foundF
  rcases h with ⟨rfl, rfl, rfl, h4⟩ | ⟨i, hi, _, hm, rfl, rfl, rfl⟩
  · have : R.find? (mtE v g) = none := List.find?_eq_none.2 (fun x hx => by
      obtain ⟨i, hi, rfl⟩ := List.getElem_of_mem hx
      rw [h4 i hi hi]; simp)
    rw [this]
  · cases hf : R.find? (mtE v g) with
    | none =>
      have := List.find?_eq_none.1 hf R[i] (List.getElem_mem hi)
      exact absurd hm this
    | some e =>
      have h1 := List.find?_some hf
      obtain ⟨k, hk, rfl⟩ := List.getElem_of_mem (List.mem_of_find?_eq_some hf)
      have hz : cmpE R[k] R[i] = 0 := by
        unfold mtE at h1 hm
        simp only [Bool.and_eq_true, beq_iff_eq] at h1 hm
        unfold cmpE orI
        rw [h1.1, h1.2, hm.1, hm.2]
        have e1 : cmpI v v = 0 := by unfold cmpI; rw [if_neg (by omega), if_neg (by omega)]
        rw [if_pos e1]
        unfold cmpA
        rw [if_pos rfl]
        exact cb_refl _
      have hk2 : k = i := by
        rcases Nat.lt_trichotomy k i with h | h | h
        · have := List.pairwise_iff_getElem.1 hR k i hk hi h; omega
        · exact h
        · have := List.pairwise_iff_getElem.1 hR i k hi hk h; rw [cmpE_anti] at hz; omega
      subst hk2
      rfl
end
end Go.Proofs.Ytdbdlhmgokllaaa
