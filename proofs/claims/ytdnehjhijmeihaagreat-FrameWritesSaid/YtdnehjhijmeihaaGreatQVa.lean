/-
  Joined texts: Va, Vb.
-/
import Derived.Test.YtdnehjhijmeihaaGreatQTg
import Derived.Test.YtdnehjhijmeihaaGreatQSl
namespace Go.Proofs.YtdnehjhijmeihaaGreat.V
open Go.ChangeShapes Go.WideShapes Go.ChangeAt Go.RowKit
set_option linter.unusedVariables false
set_option linter.unusedSimpArgs false
set_option maxRecDepth 20000
attribute [local irreducible] wpList
section
variable {w : World} {a : Ad} {p : Option Addr} {c : Nat} {L : List Ad}
theorem vgroup_any : Gives Tryz.prog 167 #[.agg (fls [.many (adL a) 17]).toArray] w (.bool (grp6 a)) := by
  have f2 : ∀ w, Gives Tryz.prog 19 #[.agg (fls [.many (adL a) 17]).toArray] w (.bool (groupA a.v a.b)) := fun w => by rw [← rg_segs]; exact aGroup_any a.h
  have oA := adL_ok a
  have cA := adL_0 a
  unfold grp6
  generalize adL a = A at *
  generalize groupA a.v a.b = y at *
  generalize a.v = v at *
  refine Gives.of ?_
  have hH := Hp.refl w
  go_enter Tryz.func167, Tryz.ntmps167
  cases v <;> cases y
  all_goals
    go_wp2_with (refine st ?_; clear hH; first | intro W g hH | intro W hH)
    go_ret
    exact ⟨by simp, hH.below⟩
theorem zero6_eq (a : Ad) : (a == Ad.z6) = zero6 a := by
  rw [Bool.eq_iff_iff]
  unfold zero6 zeroA
  simp only [Bool.and_eq_true, beq_iff_eq]
  exact ⟨fun h => by subst h; exact ⟨rfl, rfl⟩, fun h => Ad.ext2 h.1 h.2⟩
theorem z6Ad_eq : (fls [.one (.bool true), .many (zeroL Tryz.prog 23) 16]).toArray = (fls [.many (adL Ad.z6) 17]).toArray := by
  have z16 : zero16.map byteV = zeroL Tryz.prog 23 := by kernel_rfl
  rw [← z16]
  rfl
theorem vzero_any : Gives Tryz.prog 166 #[.agg (fls [.many (adL a) 17]).toArray] w (.bool (zero6 a)) := by
  have f2 := ad_eql a Ad.z6
  rw [zero6_eq, ← z6Ad_eq] at f2
  have oA := adL_ok a
  generalize adL a = A at *
  generalize zero6 a = y at *
  refine Gives.of ?_
  have hH := Hp.refl w
  go_enter Tryz.func166, Tryz.ntmps166
  go_wp2_with (refine st ?_; clear hH; first | intro W g hH | intro W hH)
  go_ret
  exact ⟨by simp, hH.below⟩
theorem vodd_any : Gives Tryz.prog 165 #[.agg (fls [.many (adL a) 17]).toArray] w (.bool (!a.v)) := by
  have oA := adL_ok a
  have cA := adL_0 a
  generalize adL a = A at *
  generalize a.v = v at *
  refine Gives.of ?_
  have hH := Hp.refl w
  go_enter Tryz.func165, Tryz.ntmps165
  cases v
  all_goals
    go_wp2_with (refine st ?_; clear hH; first | intro W g hH | intro W hH)
    go_ret
    exact ⟨by simp, hH.below⟩
def oddAv (L : List Ad) : Int := match L.findIdx? (fun a => !a.v) with
  | some i => (i : Int)
  | none => -1
theorem oddAv_some {j : Nat} (h : (L.take j).all (·.v) = true) (hj : j < L.length) (hx : L[j].v = false) : oddAv L = (j : Int) := by
  have : L.findIdx? (fun a => !a.v) = some j := by
    rw [List.findIdx?_eq_some_iff_getElem]
    refine ⟨hj, by simp [hx], fun k hk => ?_⟩
    have hk2 : k < (L.take j).length := by rw [List.length_take]; omega
    have := List.all_eq_true.1 h _ (List.getElem_mem hk2)
    rw [List.getElem_take] at this
    simp [this]
  unfold oddAv
  rw [this]
theorem oddAv_none (h : L.all (·.v) = true) : oddAv L = -1 := by
  have : L.findIdx? (fun a => !a.v) = none := by
    rw [List.findIdx?_eq_none_iff]
    intro a ha
    simp [List.all_eq_true.1 h a ha]
  unfold oddAv
  rw [this]
theorem oddAv_iff : decide (0 ≤ oddAv L) = !L.all (·.v) := by
  cases h : L.all (·.v)
  · unfold oddAv
    cases hf : L.findIdx? (fun a => !a.v) with
    | some i => simp
    | none =>
      rw [List.findIdx?_eq_none_iff] at hf
      have : L.all (·.v) = true := List.all_eq_true.2 fun a ha => by have := hf a ha; simpa using this
      rw [h] at this; cases this
  · rw [oddAv_none h]; rfl
theorem vindex_any (h : AdsAt w p L) : Gives Tryz.prog 197 #[.slice p L.length c, .func (.func 165) #[] #[]] w (.int .i64 (oddAv L)) := by
  have hl := h.1
  have HA := Lib.hid h
  clear h
  obtain ⟨res, hres⟩ : ∃ r, oddAv L = r := ⟨_, rfl⟩
  rw [hres]
  have HR := Lib.hid hres
  clear hres
  refine Gives.of ?_
  have hH := Hp.refl w
  go_enter Tryz.func197, Tryz.ntmps197
  go_wp2_with (refine st ?_; clear hH; first | intro W g hH | intro W hH)
  go_loopw [5, 8] (fun _ i wr => ∃ j : Nat, i = .int .i64 (j : Int) ∧ j ≤ L.length ∧ (L.take j).all (·.v) = true ∧ Hp w.heap.size w wr []) (fun _ i _ => L.length - (intOf i).toNat)
  case atStart => exact ⟨0, rfl, by omega, rfl, hH⟩
  case round =>
    clear hH
    obtain ⟨j, rfl, hj, hT, hH⟩ := hrel
    by_cases hjl : j < L.length
    · obtain ⟨q, hq, fA, _⟩ := HA.out.get hjl
      subst hq
      have dj : decide ((j : Int) < (L.length : Int)) = true := decide_eq_true (by omega)
      have HS := Lib.hid (fun e => all_snoc hT hjl e)
      have HN := Lib.hid (fun e => HR.out.symm.trans (oddAv_some hT hjl e))
      clear hT HA
      have oA := adL_ok L[j]
      have f1 : ∀ w, Gives Tryz.prog 165 #[.agg (fls [.many (adL L[j]) 17]).toArray] w (.bool (!L[j].v)) := fun w => vodd_any
      generalize adL L[j] = A at *
      generalize L[j].v = b at *
      cases b
      · have e := HN.out rfl
        subst e
        clear HS HN
        go_wp2_with (first | ((refine gL rfl ?_; refine hLoR tab_ok rfl ?_ rfl hH rfl rfl ?_; (focus first|exact wN rfl|exact rfl); refine ⟨_, fA, ⟨oA, trivial⟩, rfl, ?_⟩; (clear hH; (first | intro W g hH | intro W hH); (try simp only [Act.put, pA, pB, pC])))) | (refine st ?_; clear hH; first | intro W g hH | intro W hH))
        go_ret
        exact ⟨rfl, hH.below⟩
      · have e := Lib.hid (HS.out rfl)
        clear HS HN
        go_wp2_with (first | ((refine gL rfl ?_; refine hLoR tab_ok rfl ?_ rfl hH rfl rfl ?_; (focus first|exact wN rfl|exact rfl); refine ⟨_, fA, ⟨oA, trivial⟩, rfl, ?_⟩; (clear hH; (first | intro W g hH | intro W hH); (try simp only [Act.put, pA, pB, pC])))) | (refine st ?_; clear hH; first | intro W g hH | intro W hH))
        exact ⟨⟨j + 1, by simp, by omega, e.out, hH⟩, by simp [intOf]; omega⟩
    · have e : res = -1 := HR.out.symm.trans (oddAv_none (by rwa [List.take_of_length_le (by omega)] at hT))
      subst e
      have dj : decide ((j : Int) < (L.length : Int)) = false := decide_eq_false (by omega)
      clear hT HA HR
      go_wp2_with (refine st ?_; clear hH; first | intro W g hH | intro W hH)
      go_ret
      exact ⟨rfl, hH.below⟩
theorem vcontains_any (h : AdsAt w p L) : Gives Tryz.prog 164 #[.slice p L.length c, .func (.func 165) #[] #[]] w (.bool (!L.all (·.v))) := by
  have f1 := Lib.hid (show ∀ W, Below w.heap.size w W → Gives Tryz.prog 197 #[.slice p L.length c, .func (.func 165) #[] #[]] W (.int .i64 (oddAv L)) from fun W hb => vindex_any (h.below hb))
  have e := oddAv_iff (L := L)
  generalize oddAv L = k at *
  generalize L.all (·.v) = b at *
  have hl := h.1
  clear h
  refine Gives.of ?_
  have hH := Hp.refl w
  go_enter Tryz.func164, Tryz.ntmps164
  go_wp2_with (first | (refine st ?_; clear hH; first | intro W g hH | intro W hH) | ((with_reducible refine callH hH ?_); refine ⟨?_, ?_, ?_⟩; rotate_left; (focus (first | (exact f1.out _ hH.below))); (clear hH; first | intro W g hH | intro W hH); ((try simp only [Act.put, pA, pB, pC]))))
  go_ret
  exact ⟨by simp [e], hH.below⟩
theorem vsix_any (h : AdsAt w p L) : Gives Tryz.prog 124 #[.slice p L.length c] w (.bool (L.all (·.v))) := by
  have f1 := Lib.hid (show ∀ W, Below w.heap.size w W → Gives Tryz.prog 164 #[.slice p L.length c, .func (.func 165) #[] #[]] W (.bool (!L.all (·.v))) from fun W hb => vcontains_any (h.below hb))
  have hl := h.1
  clear h
  generalize L.all (·.v) = b at *
  generalize L.length = n at *
  refine Gives.of ?_
  have hH := Hp.refl w
  go_enter Tryz.func124, Tryz.ntmps124
  go_wp2_with (first | (refine st ?_; clear hH; first | intro W g hH | intro W hH) | ((with_reducible refine callH hH ?_); refine ⟨?_, ?_, ?_⟩; rotate_left; (focus (first | (exact f1.out _ hH.below))); (clear hH; first | intro W g hH | intro W hH); ((try simp only [Act.put, pA, pB, pC]))))
  go_ret
  exact ⟨by simp, hH.below⟩
theorem vlisted_any (h : AdsAt w p L) : Gives Tryz.prog 199 #[.slice p L.length c] w (.bool (srcs6 L)) := by
  have f1 := Lib.hid (show ∀ W, Below w.heap.size w W → Gives Tryz.prog 124 #[.slice p L.length c] W (.bool (L.all (·.v))) from fun W hb => vsix_any (h.below hb))
  have hl := h.1
  clear h
  have e : srcs6 L = (L.all (·.v) && decide (L.length < 65)) := rfl
  rw [e]
  clear e
  generalize L.all (·.v) = b at *
  generalize L.length = n at *
  refine Gives.of ?_
  have hH := Hp.refl w
  go_enter Tryz.func199, Tryz.ntmps199
  by_cases hn : n ≤ 64
  · have d1 : decide ((n : Int) ≤ 64) = true := decide_eq_true (by omega)
    have d2 : decide (n < 65) = true := decide_eq_true (by omega)
    rw [d2]
    cases b
    all_goals
      go_wp2_with (first | (refine st ?_; clear hH; first | intro W g hH | intro W hH) | ((with_reducible refine callH hH ?_); refine ⟨?_, ?_, ?_⟩; rotate_left; (focus (first | (exact f1.out _ hH.below))); (clear hH; first | intro W g hH | intro W hH); ((try simp only [Act.put, pA, pB, pC]))))
      go_ret
      exact ⟨rfl, hH.below⟩
  · have d1 : decide ((n : Int) ≤ 64) = false := decide_eq_false (by omega)
    have d2 : decide (n < 65) = false := decide_eq_false (by omega)
    rw [d2]
    have hn2 : 64 < n := by omega
    clear hn
    go_wp2_with (first | (refine st ?_; clear hH; first | intro W g hH | intro W hH) | ((with_reducible refine callH hH ?_); refine ⟨?_, ?_, ?_⟩; rotate_left; (focus (first | (exact f1.out _ hH.below))); (clear hH; first | intro W g hH | intro W hH); ((try simp only [Act.put, pA, pB, pC]))))
    go_ret
    exact ⟨by simp, hH.below⟩
end
def recs6 (R : List Rc) : Bool := R.all rcOk6 && (decide (R.length < 65) && decide (8 + recN 20 16 R < 1401))
def simpV (T : Tk) : Bool := !T.quiet && T.rob == 0 && T.every == 0 && T.src.length == 0 && T.recs.length == 0
noncomputable def asksV (T : Tk) : Bool := ex16 T.resp && ex8 T.every && decide (0 ≤ T.rob) && decide (T.rob ≤ 7) && srcs6 T.src && !(zero6 T.grp && decide (0 < T.src.length)) && T.recs.length == 0
section
variable {w : World} {sp rp p : Option Addr} {sc rc c : Nat}
set_option maxRecDepth 20000 in
set_option maxHeartbeats 4000000 in
theorem vrecorded_any {recs : List Rc} (h : RcsAt w p recs) : Gives Tryz.prog 170 #[.slice p recs.length c] w (.bool (recs6 recs)) := by
  have hl := h.1
  have HA := Lib.hid h
  clear h
  obtain ⟨res, hres⟩ : ∃ r, recs6 recs = r := ⟨_, rfl⟩
  rw [hres]
  unfold recs6 at hres
  have HRES := Lib.hid hres
  clear hres
  refine Gives.of ?_
  have hH := Hp.refl w
  go_enter Tryz.func170, Tryz.ntmps170
  go_wp2_with (refine st ?_; clear hH; first | intro W g hH | intro W hH)
  go_loopw [3, 8] (fun n i wr => ∃ (j : Nat) (N : Int), n = .int .i64 N ∧ i = .int .i64 (j : Int) ∧ j ≤ recs.length ∧ (recs.take j).all rcOk6 = true ∧ Hid (j ≤ 64 → N = 8 + ((recN 20 16 (recs.take j) : Nat) : Int)) ∧ Hp w.heap.size w wr []) (fun _ i _ => recs.length - (intOf i).toNat)
  case atStart => exact ⟨0, 8, rfl, rfl, by omega, rfl, Lib.hid (fun _ => rfl), hH⟩
  case round =>
    clear hH
    obtain ⟨j, N, rfl, rfl, hj, hT, hN, hH⟩ := hrel
    by_cases hjl : j < recs.length
    · obtain ⟨q, s, c1, hq, _, _, _, fA, fR⟩ := HA.out.get hjl
      subst hq
      have dj : decide ((j : Int) < (recs.length : Int)) = true := decide_eq_true (by omega)
      have HS := Lib.hid (fun e => all_snoc hT hjl e)
      have HN := Lib.hid (show rcOk6 recs[j] = false → res = false from fun e => by rw [← HRES.out, all_no hjl e]; rfl)
      have HT := Lib.hid hT
      have HTK := Lib.hid (show recN 20 16 (recs.take (j + 1)) = recN 20 16 (recs.take j) + (20 + 16 * recs[j].src.length) by rw [← List.take_append_getElem hjl, recN_app]; simp [recN])
      clear hT HA
      have oX := adL_ok recs[j].grp
      have f7 : ∀ w, Gives Tryz.prog 167 #[.agg (fls [.many (adL recs[j].grp) 17]).toArray] w (.bool (grp6 recs[j].grp)) := fun w => vgroup_any
      have f8 := Lib.hid (show ∀ W, Below w.heap.size w W → Gives Tryz.prog 199 #[.slice s recs[j].src.length c1] W (.bool (srcs6 recs[j].src)) from fun W hb => vlisted_any (fA.below hb))
      have hlen : srcs6 recs[j].src = true → recs[j].src.length ≤ 64 := fun h => by unfold srcs6 at h; simp at h; omega
      clear fA
      generalize recs[j] = r at *
      obtain ⟨kd, G1, l⟩ := r
      simp only at f7 f8 oX fR hlen HTK
      unfold rcOk6 at HS HN
      simp only at HS HN
      generalize grp6 G1 = b1 at *
      generalize srcs6 l = b2 at *
      generalize adL G1 = X at *
      generalize hll : l.length = ln at *
      clear hll
      by_cases hk1 : kd < 1
      · have e : res = false := HN.out (by simp; try (intros; omega))
        subst e
        clear HS HN HTK HT hN hlen
        go_wp2_with (first | ((refine gL rfl ?_; refine hLoR tab_ok rfl ?_ rfl hH rfl rfl ?_; (focus first|exact wN rfl|exact rfl); refine ⟨_, fR, ⟨rfl, oX, rfl, trivial⟩, rfl, ?_⟩; (clear hH; (first | intro W g hH | intro W hH); (try simp only [Act.put, pA, pB, pC])))) | (refine st ?_; clear hH; first | intro W g hH | intro W hH) | ((with_reducible refine callH hH ?_); refine ⟨?_, ?_, ?_⟩; rotate_left; (focus (first | (exact f8.out _ hH.below))); (clear hH; first | intro W g hH | intro W hH); ((try simp only [Act.put, pA, pB, pC]))))
        go_ret
        exact ⟨rfl, hH.below⟩
      by_cases hk2 : 6 < kd
      · have e : res = false := HN.out (by simp; try (intros; omega))
        subst e
        clear HS HN HTK HT hN hlen
        go_wp2_with (first | ((refine gL rfl ?_; refine hLoR tab_ok rfl ?_ rfl hH rfl rfl ?_; (focus first|exact wN rfl|exact rfl); refine ⟨_, fR, ⟨rfl, oX, rfl, trivial⟩, rfl, ?_⟩; (clear hH; (first | intro W g hH | intro W hH); (try simp only [Act.put, pA, pB, pC])))) | (refine st ?_; clear hH; first | intro W g hH | intro W hH) | ((with_reducible refine callH hH ?_); refine ⟨?_, ?_, ?_⟩; rotate_left; (focus (first | (exact f8.out _ hH.below))); (clear hH; first | intro W g hH | intro W hH); ((try simp only [Act.put, pA, pB, pC]))))
        go_ret
        exact ⟨rfl, hH.below⟩
      cases b1
      · have e : res = false := HN.out (by simp; try (intros; omega))
        subst e
        clear HS HN HTK HT hN hlen
        go_wp2_with (first | ((refine gL rfl ?_; refine hLoR tab_ok rfl ?_ rfl hH rfl rfl ?_; (focus first|exact wN rfl|exact rfl); refine ⟨_, fR, ⟨rfl, oX, rfl, trivial⟩, rfl, ?_⟩; (clear hH; (first | intro W g hH | intro W hH); (try simp only [Act.put, pA, pB, pC])))) | (refine st ?_; clear hH; first | intro W g hH | intro W hH) | ((with_reducible refine callH hH ?_); refine ⟨?_, ?_, ?_⟩; rotate_left; (focus (first | (exact f8.out _ hH.below))); (clear hH; first | intro W g hH | intro W hH); ((try simp only [Act.put, pA, pB, pC]))))
        go_ret
        exact ⟨rfl, hH.below⟩
      cases b2
      · have e : res = false := HN.out (by simp; try (intros; omega))
        subst e
        clear HS HN HTK HT hN hlen
        go_wp2_with (first | ((refine gL rfl ?_; refine hLoR tab_ok rfl ?_ rfl hH rfl rfl ?_; (focus first|exact wN rfl|exact rfl); refine ⟨_, fR, ⟨rfl, oX, rfl, trivial⟩, rfl, ?_⟩; (clear hH; (first | intro W g hH | intro W hH); (try simp only [Act.put, pA, pB, pC])))) | (refine st ?_; clear hH; first | intro W g hH | intro W hH) | ((with_reducible refine callH hH ?_); refine ⟨?_, ?_, ?_⟩; rotate_left; (focus (first | (exact f8.out _ hH.below))); (clear hH; first | intro W g hH | intro W hH); ((try simp only [Act.put, pA, pB, pC]))))
        go_ret
        exact ⟨rfl, hH.below⟩
      have hS := Lib.hid (HS.out (by simp; omega))
      have hln := hlen rfl
      clear HS HN hlen
      by_cases hj64 : j < 64
      · have hNe := hN.out (by omega)
        have hb := recN_le (k := 20) (s := 16) rcOk6_len _ HT.out
        rw [List.length_take] at hb
        have hNb : 0 ≤ N ∧ N ≤ 1000000 := by omega
        have hN2 := Lib.hid hNe
        clear hN hb HT hNe
        go_wp2_with (first | ((refine gL rfl ?_; refine hLoR tab_ok rfl ?_ rfl hH rfl rfl ?_; (focus first|exact wN rfl|exact rfl); refine ⟨_, fR, ⟨rfl, oX, rfl, trivial⟩, rfl, ?_⟩; (clear hH; (first | intro W g hH | intro W hH); (try simp only [Act.put, pA, pB, pC])))) | (refine st ?_; clear hH; first | intro W g hH | intro W hH) | ((with_reducible refine callH hH ?_); refine ⟨?_, ?_, ?_⟩; rotate_left; (focus (first | (exact f8.out _ hH.below))); (clear hH; first | intro W g hH | intro W hH); ((try simp only [Act.put, pA, pB, pC]))))
        exact ⟨⟨j + 1, _, rfl, by simp, by omega, hS.out, Lib.hid (fun _ => by rw [HTK.out, hN2.out]; push_cast; omega), hH.sub (SubH.drop SubH.refl)⟩, by simp [intOf]; omega⟩
      · clear hN HT HTK
        go_wp2_with (first | ((refine gL rfl ?_; refine hLoR tab_ok rfl ?_ rfl hH rfl rfl ?_; (focus first|exact wN rfl|exact rfl); refine ⟨_, fR, ⟨rfl, oX, rfl, trivial⟩, rfl, ?_⟩; (clear hH; (first | intro W g hH | intro W hH); (try simp only [Act.put, pA, pB, pC])))) | (refine st ?_; clear hH; first | intro W g hH | intro W hH) | ((with_reducible refine callH hH ?_); refine ⟨?_, ?_, ?_⟩; rotate_left; (focus (first | (exact f8.out _ hH.below))); (clear hH; first | intro W g hH | intro W hH); ((try simp only [Act.put, pA, pB, pC]))))
        exact ⟨⟨j + 1, _, rfl, by simp, by omega, hS.out, Lib.hid (fun h => by omega), hH.sub (SubH.drop SubH.refl)⟩, by simp [intOf]; omega⟩
    · have dj : decide ((j : Int) < (recs.length : Int)) = false := decide_eq_false (by omega)
      rw [List.take_of_length_le (by omega)] at hT hN
      have HF : (decide (recs.length < 65) && decide (8 + recN 20 16 recs < 1401)) = res := by rw [← HRES.out, hT, Bool.true_and]
      have HFH := Lib.hid HF
      clear HRES HA hT HF
      by_cases h65 : recs.length < 65
      rotate_left
      · clear hN
        have h65' : 65 ≤ recs.length := by omega
        go_wp2_with (refine st ?_; clear hH; first | intro W g hH | intro W hH)
        all_goals
          go_ret
          refine ⟨?_, hH.below⟩
          rw [← HFH.out]
          first | (simp; done) | (simp; omega) | (exfalso; omega)
      have hNe := hN.out (by omega)
      have hN2 := Lib.hid hNe
      clear hN hNe
      by_cases h14 : N < 1401
      · go_wp2_with (refine st ?_; clear hH; first | intro W g hH | intro W hH)
        all_goals
          go_ret
          refine ⟨?_, hH.below⟩
          rw [← HFH.out]
          have := hN2.out
          first | (simp; omega) | (simp; rw [Bool.eq_iff_iff]; simp; omega) | (exfalso; omega)
      · have h14' : 1401 ≤ N := by omega
        go_wp2_with (refine st ?_; clear hH; first | intro W g hH | intro W hH)
        all_goals
          go_ret
          refine ⟨?_, hH.below⟩
          rw [← HFH.out]
          have := hN2.out
          first | (simp; omega) | (simp; rw [Bool.eq_iff_iff]; simp; omega) | (exfalso; omega)
set_option maxHeartbeats 4000000 in
theorem vsimple_any {v6 : Bool} {quiet : Bool} {ver kind resp rob every : Int} {g : Ad} {src : List Ad} {recs : List Rc} (hn : src.length ≤ 9223372036854775807) (hm : recs.length ≤ 9223372036854775807) : Gives Tryz.prog 168 #[.agg (fls [.one (.bool v6), .one (.int .i64 ver), .one (.int .i64 kind), .one (.int .i64 resp), .many (adL g) 17, .one (.bool quiet), .one (.int .i64 rob), .one (.int .i64 every), .one (.slice sp src.length sc), .one (.slice rp recs.length rc)]).toArray] w (.bool (simpV ⟨v6, ver, kind, resp, g, quiet, rob, every, src, recs⟩)) := by
  unfold simpV
  simp only
  have oG := adL_ok g
  generalize adL g = G at *
  refine Gives.of ?_
  have hH := Hp.refl w
  obtain ⟨nb, hnb⟩ : ∃ x, (src.length == 0) = x := ⟨_, rfl⟩
  have hnb2 : ((src.length : Int) == 0) = nb := by rw [← hnb, len_beq]
  obtain ⟨mb, hmb⟩ : ∃ x, (recs.length == 0) = x := ⟨_, rfl⟩
  have hmb2 : ((recs.length : Int) == 0) = mb := by rw [← hmb, len_beq]
  rw [hnb, hmb]
  clear hnb hmb
  generalize src.length = n at *
  generalize recs.length = m at *
  go_enter Tryz.func168, Tryz.ntmps168
  cases quiet
  rotate_left
  · go_wp2_with (refine st ?_; clear hH; first | intro W g hH | intro W hH)
    all_goals
      go_ret
      refine ⟨?_, hH.below⟩
      first | rfl | (simp_all; done) | (simp_all; omega)
  by_cases h_rob : rob = 0
  rotate_left
  · have d_rob : (rob == 0) = false := by simpa using h_rob
    go_wp2_with (refine st ?_; clear hH; first | intro W g hH | intro W hH)
    all_goals
      go_ret
      refine ⟨?_, hH.below⟩
      first | rfl | (simp_all; done) | (simp_all; omega)
  subst h_rob
  by_cases h_every : every = 0
  rotate_left
  · have d_every : (every == 0) = false := by simpa using h_every
    go_wp2_with (refine st ?_; clear hH; first | intro W g hH | intro W hH)
    all_goals
      go_ret
      refine ⟨?_, hH.below⟩
      first | rfl | (simp_all; done) | (simp_all; omega)
  subst h_every
  cases nb
  · go_wp2_with (refine st ?_; clear hH; first | intro W g hH | intro W hH)
    all_goals
      go_ret
      refine ⟨?_, hH.below⟩
      first | rfl | (simp_all; done) | (simp_all; omega)
  cases mb
  · go_wp2_with (refine st ?_; clear hH; first | intro W g hH | intro W hH)
    all_goals
      go_ret
      refine ⟨?_, hH.below⟩
      first | rfl | (simp_all; done) | (simp_all; omega)
  go_wp2_with (refine st ?_; clear hH; first | intro W g hH | intro W hH)
  all_goals
    go_ret
    refine ⟨?_, hH.below⟩
    first | rfl | (simp_all; done) | (simp_all; omega)
theorem vexact_any {n : Int} : Gives Tryz.prog 181 #[.int .i64 n] w (.bool (ex8 n)) := by
  by_cases h : 0 ≤ n
  · have := Exact8_pos (w := w) h (cod8_is n)
    have e : ex8 n = ((valN 16 (cod8 n) : Int) == n) := by unfold ex8; rw [decide_eq_true h, Bool.true_and]
    rw [e]; exact this
  · have := Exact8_neg (w := w) (n := n) (by omega)
    have e : ex8 n = false := by unfold ex8; rw [decide_eq_false h, Bool.false_and]
    rw [e]; exact this
theorem vexact16_any {n : Int} : Gives Tryz.prog 198 #[.int .i64 n] w (.bool (ex16 n)) := by
  by_cases h : 0 ≤ n
  · have := Exact16_pos (w := w) h (cod16_is n)
    have e : ex16 n = ((valN 4096 (cod16 n) : Int) == n) := by unfold ex16; rw [decide_eq_true h, Bool.true_and]
    rw [e]; exact this
  · have := Exact16_neg (w := w) (n := n) (by omega)
    have e : ex16 n = false := by unfold ex16; rw [decide_eq_false h, Bool.false_and]
    rw [e]; exact this
set_option maxHeartbeats 4000000 in
theorem vasks_any {v6 : Bool} {quiet : Bool} {ver kind resp rob every : Int} {g : Ad} {src : List Ad} {recs : List Rc} (hn : src.length ≤ 9223372036854775807) (hm : recs.length ≤ 9223372036854775807) (hA : AdsAt w sp src) : Gives Tryz.prog 169 #[.agg (fls [.one (.bool v6), .one (.int .i64 ver), .one (.int .i64 kind), .one (.int .i64 resp), .many (adL g) 17, .one (.bool quiet), .one (.int .i64 rob), .one (.int .i64 every), .one (.slice sp src.length sc), .one (.slice rp recs.length rc)]).toArray] w (.bool (asksV ⟨v6, ver, kind, resp, g, quiet, rob, every, src, recs⟩)) := by
  unfold asksV
  simp only
  have f1 : ∀ w, Gives Tryz.prog 166 #[.agg (fls [.many (adL g) 17]).toArray] w (.bool (zero6 g)) := fun w => vzero_any
  generalize zero6 g = zb at *
  have e1 : ∀ w, Gives Tryz.prog 198 #[.int .i64 resp] w (.bool (ex16 resp)) := fun w => vexact16_any
  have e2 : ∀ w, Gives Tryz.prog 181 #[.int .i64 every] w (.bool (ex8 every)) := fun w => vexact_any
  generalize ex16 resp = x1 at *
  generalize ex8 every = x2 at *
  have f8 := Lib.hid (show ∀ W, Below w.heap.size w W → Gives Tryz.prog 199 #[.slice sp src.length sc] W (.bool (srcs6 src)) from fun W hb => vlisted_any (hA.below hb))
  clear hA
  generalize srcs6 src = lb at *
  have oG := adL_ok g
  generalize adL g = G at *
  refine Gives.of ?_
  have hH := Hp.refl w
  obtain ⟨nb, hnb⟩ : ∃ x, decide (0 < src.length) = x := ⟨_, rfl⟩
  have hnb2 : decide (0 < (src.length : Int)) = nb := by rw [← hnb]; exact decide_eq_decide.2 (by omega)
  obtain ⟨mb, hmb⟩ : ∃ x, (recs.length == 0) = x := ⟨_, rfl⟩
  have hmb2 : ((recs.length : Int) == 0) = mb := by rw [← hmb, len_beq]
  rw [hnb, hmb]
  clear hnb hmb
  generalize src.length = n at *
  generalize recs.length = m at *
  go_enter Tryz.func169, Tryz.ntmps169
  cases zb <;> cases nb
  all_goals
    cases x1
    · go_wp2_with (first | (refine st ?_; clear hH; first | intro W g hH | intro W hH) | ((with_reducible refine callH hH ?_); refine ⟨?_, ?_, ?_⟩; rotate_left; (focus (first | (exact f8.out _ hH.below))); (clear hH; first | intro W g hH | intro W hH); ((try simp only [Act.put, pA, pB, pC]))))
      all_goals
        go_ret
        refine ⟨?_, hH.below⟩
        first | rfl | (simp_all; done) | (simp_all; omega)
    cases x2
    · go_wp2_with (first | (refine st ?_; clear hH; first | intro W g hH | intro W hH) | ((with_reducible refine callH hH ?_); refine ⟨?_, ?_, ?_⟩; rotate_left; (focus (first | (exact f8.out _ hH.below))); (clear hH; first | intro W g hH | intro W hH); ((try simp only [Act.put, pA, pB, pC]))))
      all_goals
        go_ret
        refine ⟨?_, hH.below⟩
        first | rfl | (simp_all; done) | (simp_all; omega)
    by_cases h1 : 0 ≤ rob
    rotate_left
    · have h1' : rob < 0 := by omega
      have d1 : decide (0 ≤ rob) = false := decide_eq_false (by omega)
      go_wp2_with (first | (refine st ?_; clear hH; first | intro W g hH | intro W hH) | ((with_reducible refine callH hH ?_); refine ⟨?_, ?_, ?_⟩; rotate_left; (focus (first | (exact f8.out _ hH.below))); (clear hH; first | intro W g hH | intro W hH); ((try simp only [Act.put, pA, pB, pC]))))
      all_goals
        go_ret
        refine ⟨?_, hH.below⟩
        first | rfl | (simp_all; done) | (simp_all; omega)
    have d1 : decide (0 ≤ rob) = true := decide_eq_true h1
    by_cases h2 : rob ≤ 7
    rotate_left
    · have h2' : 7 < rob := by omega
      have d2 : decide (rob ≤ 7) = false := decide_eq_false (by omega)
      go_wp2_with (first | (refine st ?_; clear hH; first | intro W g hH | intro W hH) | ((with_reducible refine callH hH ?_); refine ⟨?_, ?_, ?_⟩; rotate_left; (focus (first | (exact f8.out _ hH.below))); (clear hH; first | intro W g hH | intro W hH); ((try simp only [Act.put, pA, pB, pC]))))
      all_goals
        go_ret
        refine ⟨?_, hH.below⟩
        first | rfl | (simp_all; done) | (simp_all; omega)
    have d2 : decide (rob ≤ 7) = true := decide_eq_true h2
    cases lb
    · go_wp2_with (first | (refine st ?_; clear hH; first | intro W g hH | intro W hH) | ((with_reducible refine callH hH ?_); refine ⟨?_, ?_, ?_⟩; rotate_left; (focus (first | (exact f8.out _ hH.below))); (clear hH; first | intro W g hH | intro W hH); ((try simp only [Act.put, pA, pB, pC]))))
      all_goals
        go_ret
        refine ⟨?_, hH.below⟩
        first | rfl | (simp_all; done) | (simp_all; omega)
    cases mb
    · go_wp2_with (first | (refine st ?_; clear hH; first | intro W g hH | intro W hH) | ((with_reducible refine callH hH ?_); refine ⟨?_, ?_, ?_⟩; rotate_left; (focus (first | (exact f8.out _ hH.below))); (clear hH; first | intro W g hH | intro W hH); ((try simp only [Act.put, pA, pB, pC]))))
      all_goals
        go_ret
        refine ⟨?_, hH.below⟩
        first | rfl | (simp_all; done) | (simp_all; omega)
    go_wp2_with (first | (refine st ?_; clear hH; first | intro W g hH | intro W hH) | ((with_reducible refine callH hH ?_); refine ⟨?_, ?_, ?_⟩; rotate_left; (focus (first | (exact f8.out _ hH.below))); (clear hH; first | intro W g hH | intro W hH); ((try simp only [Act.put, pA, pB, pC]))))
    all_goals
      go_ret
      refine ⟨?_, hH.below⟩
      first | rfl | (simp_all; done) | (simp_all; omega)
end
end Go.Proofs.YtdnehjhijmeihaaGreat.V
