/-
  Joined texts: Ga, Gb.
-/
import Derived.Test.YtdnehjhijmeihaaGreatQTg
import Derived.Test.YtdnehjhijmeihaaGreatQSl
namespace Go.Proofs.YtdnehjhijmeihaaGreat
open Go.ChangeShapes Go.WideShapes Go.ChangeAt Go.RowKit
set_option linter.unusedVariables false
set_option linter.unusedSimpArgs false
set_option maxRecDepth 20000
attribute [local irreducible] wpList
section
variable {w : World} {a : Ad} {p : Option Addr} {c : Nat} {L : List Ad}
theorem iplain_any : Gives Tryz.prog 196 #[.agg (fls [.many (adL a) 17]).toArray] w (.bool (src4 a)) := by
  have f1 : ∀ w, Gives Tryz.prog 71 #[.agg (fls [.many (adL a) 17]).toArray] w (.bool (goodA a.v a.b)) := fun w => by rw [← rg_segs]; exact aGood_any a.h
  have oA := adL_ok a
  have cA := adL_0 a
  unfold src4
  generalize adL a = A at *
  generalize goodA a.v a.b = x at *
  generalize a.v = v at *
  refine Gives.of ?_
  have hH := Hp.refl w
  go_enter Tryz.func196, Tryz.ntmps196
  cases v <;> cases x
  all_goals
    go_wp2_with (refine st ?_; clear hH; first | intro W g hH | intro W hH)
    go_ret
    exact ⟨by simp, hH.below⟩
theorem igroup_any : Gives Tryz.prog 160 #[.agg (fls [.many (adL a) 17]).toArray] w (.bool (grp4 a)) := by
  have f1 : ∀ w, Gives Tryz.prog 196 #[.agg (fls [.many (adL a) 17]).toArray] w (.bool (src4 a)) := fun w => iplain_any
  have f2 : ∀ w, Gives Tryz.prog 19 #[.agg (fls [.many (adL a) 17]).toArray] w (.bool (groupA a.v a.b)) := fun w => by rw [← rg_segs]; exact aGroup_any a.h
  have oA := adL_ok a
  have e : grp4 a = (src4 a && groupA a.v a.b) := rfl
  rw [e]
  clear e
  generalize adL a = A at *
  generalize src4 a = x at *
  generalize groupA a.v a.b = y at *
  refine Gives.of ?_
  have hH := Hp.refl w
  go_enter Tryz.func160, Tryz.ntmps160
  cases x <;> cases y
  all_goals
    go_wp2_with (refine st ?_; clear hH; first | intro W g hH | intro W hH)
    go_ret
    exact ⟨by simp, hH.below⟩
theorem iasked_any : Gives Tryz.prog 179 #[.agg (fls [.many (adL a) 17]).toArray] w (.bool (a == Ad.z || grp4 a)) := by
  have f1 : ∀ w, Gives Tryz.prog 160 #[.agg (fls [.many (adL a) 17]).toArray] w (.bool (grp4 a)) := fun w => igroup_any
  have f2 := ad_eql a Ad.z
  rw [← zAd_eq] at f2
  have oA := adL_ok a
  generalize adL a = A at *
  generalize grp4 a = x at *
  generalize (a == Ad.z) = y at *
  refine Gives.of ?_
  have hH := Hp.refl w
  go_enter Tryz.func179, Tryz.ntmps179
  cases x <;> cases y
  all_goals
    go_wp2_with (refine st ?_; clear hH; first | intro W g hH | intro W hH)
    go_ret
    exact ⟨by simp, hH.below⟩
theorem iodd_any : Gives Tryz.prog 205 #[.agg (fls [.many (adL a) 17]).toArray] w (.bool (!src4 a)) := by
  have f1 : ∀ w, Gives Tryz.prog 196 #[.agg (fls [.many (adL a) 17]).toArray] w (.bool (src4 a)) := fun w => iplain_any
  have oA := adL_ok a
  generalize adL a = A at *
  generalize src4 a = x at *
  refine Gives.of ?_
  have hH := Hp.refl w
  go_enter Tryz.func205, Tryz.ntmps205
  go_wp2_with (refine st ?_; clear hH; first | intro W g hH | intro W hH)
  go_ret
  exact ⟨by simp, hH.below⟩
def oddAt (L : List Ad) : Int := match L.findIdx? (fun a => !src4 a) with
  | some i => (i : Int)
  | none => -1
theorem oddAt_some {j : Nat} (h : (L.take j).all src4 = true) (hj : j < L.length) (hx : src4 L[j] = false) : oddAt L = (j : Int) := by
  have : L.findIdx? (fun a => !src4 a) = some j := by
    rw [List.findIdx?_eq_some_iff_getElem]
    refine ⟨hj, by simp [hx], fun k hk => ?_⟩
    have hk2 : k < (L.take j).length := by rw [List.length_take]; omega
    have := List.all_eq_true.1 h _ (List.getElem_mem hk2)
    rw [List.getElem_take] at this
    simp [this]
  unfold oddAt
  rw [this]
theorem oddAt_none (h : L.all src4 = true) : oddAt L = -1 := by
  have : L.findIdx? (fun a => !src4 a) = none := by
    rw [List.findIdx?_eq_none_iff]
    intro a ha
    simp [List.all_eq_true.1 h a ha]
  unfold oddAt
  rw [this]
theorem oddAt_iff : decide (0 ≤ oddAt L) = !L.all src4 := by
  cases h : L.all src4
  · unfold oddAt
    cases hf : L.findIdx? (fun a => !src4 a) with
    | some i => simp
    | none =>
      rw [List.findIdx?_eq_none_iff] at hf
      have : L.all src4 = true := List.all_eq_true.2 fun a ha => by have := hf a ha; simpa using this
      rw [h] at this; cases this
  · rw [oddAt_none h]; rfl
theorem iindex_any (h : AdsAt w p L) : Gives Tryz.prog 197 #[.slice p L.length c, .func (.func 205) #[] #[]] w (.int .i64 (oddAt L)) := by
  have hl := h.1
  have HA := Lib.hid h
  clear h
  obtain ⟨res, hres⟩ : ∃ r, oddAt L = r := ⟨_, rfl⟩
  rw [hres]
  have HR := Lib.hid hres
  clear hres
  refine Gives.of ?_
  have hH := Hp.refl w
  go_enter Tryz.func197, Tryz.ntmps197
  go_wp2_with (refine st ?_; clear hH; first | intro W g hH | intro W hH)
  go_loopw [5, 8] (fun _ i wr => ∃ j : Nat, i = .int .i64 (j : Int) ∧ j ≤ L.length ∧ (L.take j).all src4 = true ∧ Hp w.heap.size w wr []) (fun _ i _ => L.length - (intOf i).toNat)
  case atStart => exact ⟨0, rfl, by omega, rfl, hH⟩
  case round =>
    clear hH
    obtain ⟨j, rfl, hj, hT, hH⟩ := hrel
    by_cases hjl : j < L.length
    · obtain ⟨q, hq, fA, _⟩ := HA.out.get hjl
      subst hq
      have dj : decide ((j : Int) < (L.length : Int)) = true := decide_eq_true (by omega)
      have HS := Lib.hid (fun e => all_snoc hT hjl e)
      have HN := Lib.hid (fun e => HR.out.symm.trans (oddAt_some hT hjl e))
      clear hT HA
      have oA := adL_ok L[j]
      have f1 : ∀ w, Gives Tryz.prog 205 #[.agg (fls [.many (adL L[j]) 17]).toArray] w (.bool (!src4 L[j])) := fun w => iodd_any
      generalize adL L[j] = A at *
      generalize src4 L[j] = b at *
      cases b
      · have e := HN.out rfl
        subst e
        clear HS HN
        go_wp2_with (first | ((refine gL rfl ?_; refine hLoR tab_ok rfl ?_ rfl hH rfl rfl ?_; (focus first|exact wN rfl|exact rfl); refine ⟨_, fA, ⟨oA, trivial⟩, rfl, ?_⟩; (clear hH; (first | intro W g hH | intro W hH); (try simp only [Act.put, pA, pB, pC])))) | (refine st ?_; clear hH; first | intro W g hH | intro W hH))
        go_ret
        exact ⟨rfl, hH.below⟩
      · have e := Lib.hid (HS.out rfl)
        clear HS HN
        go_wp2_with (first | ((refine gL rfl ?_; refine hLoR tab_ok rfl ?_ rfl hH rfl rfl ?_; (focus first|exact wN rfl|exact rfl); refine ⟨_, fA, ⟨oA, trivial⟩, rfl, ?_⟩; (clear hH; (first | intro W g hH | intro W hH); (try simp only [Act.put, pA, pB, pC])))) | (refine st ?_; clear hH; first | intro W g hH | intro W hH))
        exact ⟨⟨j + 1, by simp, by omega, e.out, hH⟩, by simp [intOf]; omega⟩
    · have e : res = -1 := HR.out.symm.trans (oddAt_none (by rwa [List.take_of_length_le (by omega)] at hT))
      subst e
      have dj : decide ((j : Int) < (L.length : Int)) = false := decide_eq_false (by omega)
      clear hT HA HR
      go_wp2_with (refine st ?_; clear hH; first | intro W g hH | intro W hH)
      go_ret
      exact ⟨rfl, hH.below⟩
theorem icontains_any (h : AdsAt w p L) : Gives Tryz.prog 164 #[.slice p L.length c, .func (.func 205) #[] #[]] w (.bool (!L.all src4)) := by
  have f1 := Lib.hid (show ∀ W, Below w.heap.size w W → Gives Tryz.prog 197 #[.slice p L.length c, .func (.func 205) #[] #[]] W (.int .i64 (oddAt L)) from fun W hb => iindex_any (h.below hb))
  have e := oddAt_iff (L := L)
  generalize oddAt L = k at *
  generalize L.all src4 = b at *
  have hl := h.1
  clear h
  refine Gives.of ?_
  have hH := Hp.refl w
  go_enter Tryz.func164, Tryz.ntmps164
  go_wp2_with (first | (refine st ?_; clear hH; first | intro W g hH | intro W hH) | ((with_reducible refine callH hH ?_); refine ⟨?_, ?_, ?_⟩; rotate_left; (focus (first | (exact f1.out _ hH.below))); (clear hH; first | intro W g hH | intro W hH); ((try simp only [Act.put, pA, pB, pC]))))
  go_ret
  exact ⟨by simp [e], hH.below⟩
theorem ilisted_any (h : AdsAt w p L) : Gives Tryz.prog 182 #[.slice p L.length c] w (.bool (srcs4 L)) := by
  have f1 := Lib.hid (show ∀ W, Below w.heap.size w W → Gives Tryz.prog 164 #[.slice p L.length c, .func (.func 205) #[] #[]] W (.bool (!L.all src4)) from fun W hb => icontains_any (h.below hb))
  have hl := h.1
  clear h
  have e : srcs4 L = (L.all src4 && decide (L.length < 65)) := rfl
  rw [e]
  clear e
  generalize L.all src4 = b at *
  generalize L.length = n at *
  refine Gives.of ?_
  have hH := Hp.refl w
  go_enter Tryz.func182, Tryz.ntmps182
  by_cases hn : n ≤ 64
  · have d1 : decide ((n : Int) ≤ 64) = true := decide_eq_true (by omega)
    have d2 : decide (n < 65) = true := decide_eq_true (by omega)
    rw [d2]
    cases b
    all_goals
      go_wp2_with (first | (refine st ?_; clear hH; first | intro W g hH | intro W hH) | ((with_reducible refine callH hH ?_); refine ⟨?_, ?_, ?_⟩; rotate_left; (focus (first | (exact f1.out _ hH.below))); (clear hH; first | intro W g hH | intro W hH); ((try simp only [Act.put, pA, pB, pC]))))
      go_ret
      exact ⟨rfl, hH.below⟩
  · have d1 : decide ((n : Int) ≤ 64) = false := decide_eq_false (by omega)
    have d2 : decide (n < 65) = false := decide_eq_false (by omega)
    rw [d2]
    have hn2 : 64 < n := by omega
    clear hn
    go_wp2_with (first | (refine st ?_; clear hH; first | intro W g hH | intro W hH) | ((with_reducible refine callH hH ?_); refine ⟨?_, ?_, ?_⟩; rotate_left; (focus (first | (exact f1.out _ hH.below))); (clear hH; first | intro W g hH | intro W hH); ((try simp only [Act.put, pA, pB, pC]))))
    go_ret
    exact ⟨by simp, hH.below⟩
end
def recs4 (R : List Rc) : Bool := R.all rcOk4 && (decide (R.length < 65) && decide (8 + recN 8 4 R < 1401))
def bareV (r g m c : Bool) (T : Tk) : Bool := (r || T.resp == 0) && (g || T.grp == Ad.z) && (m || (!T.quiet && T.rob == 0 && T.every == 0 && T.src.length == 0)) && (c || T.recs.length == 0)
section
variable {w : World} {sp rp p : Option Addr} {sc rc c : Nat}
set_option maxRecDepth 20000 in
set_option maxHeartbeats 4000000 in
theorem irecorded_any {recs : List Rc} (h : RcsAt w p recs) : Gives Tryz.prog 180 #[.slice p recs.length c] w (.bool (recs4 recs)) := by
  have hl := h.1
  have HA := Lib.hid h
  clear h
  obtain ⟨res, hres⟩ : ∃ r, recs4 recs = r := ⟨_, rfl⟩
  rw [hres]
  unfold recs4 at hres
  have HRES := Lib.hid hres
  clear hres
  refine Gives.of ?_
  have hH := Hp.refl w
  go_enter Tryz.func180, Tryz.ntmps180
  go_wp2_with (refine st ?_; clear hH; first | intro W g hH | intro W hH)
  go_loopw [3, 8] (fun n i wr => ∃ (j : Nat) (N : Int), n = .int .i64 N ∧ i = .int .i64 (j : Int) ∧ j ≤ recs.length ∧ (recs.take j).all rcOk4 = true ∧ Hid (j ≤ 64 → N = 8 + ((recN 8 4 (recs.take j) : Nat) : Int)) ∧ Hp w.heap.size w wr []) (fun _ i _ => recs.length - (intOf i).toNat)
  case atStart => exact ⟨0, 8, rfl, rfl, by omega, rfl, Lib.hid (fun _ => rfl), hH⟩
  case round =>
    clear hH
    obtain ⟨j, N, rfl, rfl, hj, hT, hN, hH⟩ := hrel
    by_cases hjl : j < recs.length
    · obtain ⟨q, s, c1, hq, _, _, _, fA, fR⟩ := HA.out.get hjl
      subst hq
      have dj : decide ((j : Int) < (recs.length : Int)) = true := decide_eq_true (by omega)
      have HS := Lib.hid (fun e => all_snoc hT hjl e)
      have HN := Lib.hid (show rcOk4 recs[j] = false → res = false from fun e => by rw [← HRES.out, all_no hjl e]; rfl)
      have HT := Lib.hid hT
      have HTK := Lib.hid (show recN 8 4 (recs.take (j + 1)) = recN 8 4 (recs.take j) + (8 + 4 * recs[j].src.length) by rw [← List.take_append_getElem hjl, recN_app]; simp [recN])
      clear hT HA
      have oX := adL_ok recs[j].grp
      have f7 : ∀ w, Gives Tryz.prog 160 #[.agg (fls [.many (adL recs[j].grp) 17]).toArray] w (.bool (grp4 recs[j].grp)) := fun w => igroup_any
      have f8 := Lib.hid (show ∀ W, Below w.heap.size w W → Gives Tryz.prog 182 #[.slice s recs[j].src.length c1] W (.bool (srcs4 recs[j].src)) from fun W hb => ilisted_any (fA.below hb))
      have hlen : srcs4 recs[j].src = true → recs[j].src.length ≤ 64 := fun h => by unfold srcs4 at h; simp at h; omega
      clear fA
      generalize recs[j] = r at *
      obtain ⟨kd, G1, l⟩ := r
      simp only at f7 f8 oX fR hlen HTK
      unfold rcOk4 at HS HN
      simp only at HS HN
      generalize grp4 G1 = b1 at *
      generalize srcs4 l = b2 at *
      generalize adL G1 = X at *
      generalize hll : l.length = ln at *
      clear hll
      by_cases hk1 : kd < 1
      · have e : res = false := HN.out (by simp; try (intros; omega))
        subst e
        clear HS HN HTK HT hN hlen
        go_wp2_with (first | ((refine gL rfl ?_; refine hLoR tab_ok rfl ?_ rfl hH rfl rfl ?_; (focus first|exact wN rfl|exact rfl); refine ⟨_, fR, ⟨rfl, oX, rfl, trivial⟩, rfl, ?_⟩; (clear hH; (first | intro W g hH | intro W hH); (try simp only [Act.put, pA, pB, pC])))) | (refine st ?_; clear hH; first | intro W g hH | intro W hH) | ((with_reducible refine callH hH ?_); refine ⟨?_, ?_, ?_⟩; rotate_left; (focus (first | (exact f8.out _ hH.below))); (clear hH; first | intro W g hH | intro W hH); ((try simp only [Act.put, pA, pB, pC]))))
        go_ret
        exact ⟨rfl, hH.below⟩
      by_cases hk2 : 6 < kd
      · have e : res = false := HN.out (by simp; try (intros; omega))
        subst e
        clear HS HN HTK HT hN hlen
        go_wp2_with (first | ((refine gL rfl ?_; refine hLoR tab_ok rfl ?_ rfl hH rfl rfl ?_; (focus first|exact wN rfl|exact rfl); refine ⟨_, fR, ⟨rfl, oX, rfl, trivial⟩, rfl, ?_⟩; (clear hH; (first | intro W g hH | intro W hH); (try simp only [Act.put, pA, pB, pC])))) | (refine st ?_; clear hH; first | intro W g hH | intro W hH) | ((with_reducible refine callH hH ?_); refine ⟨?_, ?_, ?_⟩; rotate_left; (focus (first | (exact f8.out _ hH.below))); (clear hH; first | intro W g hH | intro W hH); ((try simp only [Act.put, pA, pB, pC]))))
        go_ret
        exact ⟨rfl, hH.below⟩
      cases b1
      · have e : res = false := HN.out (by simp; try (intros; omega))
        subst e
        clear HS HN HTK HT hN hlen
        go_wp2_with (first | ((refine gL rfl ?_; refine hLoR tab_ok rfl ?_ rfl hH rfl rfl ?_; (focus first|exact wN rfl|exact rfl); refine ⟨_, fR, ⟨rfl, oX, rfl, trivial⟩, rfl, ?_⟩; (clear hH; (first | intro W g hH | intro W hH); (try simp only [Act.put, pA, pB, pC])))) | (refine st ?_; clear hH; first | intro W g hH | intro W hH) | ((with_reducible refine callH hH ?_); refine ⟨?_, ?_, ?_⟩; rotate_left; (focus (first | (exact f8.out _ hH.below))); (clear hH; first | intro W g hH | intro W hH); ((try simp only [Act.put, pA, pB, pC]))))
        go_ret
        exact ⟨rfl, hH.below⟩
      cases b2
      · have e : res = false := HN.out (by simp; try (intros; omega))
        subst e
        clear HS HN HTK HT hN hlen
        go_wp2_with (first | ((refine gL rfl ?_; refine hLoR tab_ok rfl ?_ rfl hH rfl rfl ?_; (focus first|exact wN rfl|exact rfl); refine ⟨_, fR, ⟨rfl, oX, rfl, trivial⟩, rfl, ?_⟩; (clear hH; (first | intro W g hH | intro W hH); (try simp only [Act.put, pA, pB, pC])))) | (refine st ?_; clear hH; first | intro W g hH | intro W hH) | ((with_reducible refine callH hH ?_); refine ⟨?_, ?_, ?_⟩; rotate_left; (focus (first | (exact f8.out _ hH.below))); (clear hH; first | intro W g hH | intro W hH); ((try simp only [Act.put, pA, pB, pC]))))
        go_ret
        exact ⟨rfl, hH.below⟩
      have hS := Lib.hid (HS.out (by simp; omega))
      have hln := hlen rfl
      clear HS HN hlen
      by_cases hj64 : j < 64
      · have hNe := hN.out (by omega)
        have hb := recN_le (k := 8) (s := 4) rcOk4_len _ HT.out
        rw [List.length_take] at hb
        have hNb : 0 ≤ N ∧ N ≤ 1000000 := by omega
        have hN2 := Lib.hid hNe
        clear hN hb HT hNe
        go_wp2_with (first | ((refine gL rfl ?_; refine hLoR tab_ok rfl ?_ rfl hH rfl rfl ?_; (focus first|exact wN rfl|exact rfl); refine ⟨_, fR, ⟨rfl, oX, rfl, trivial⟩, rfl, ?_⟩; (clear hH; (first | intro W g hH | intro W hH); (try simp only [Act.put, pA, pB, pC])))) | (refine st ?_; clear hH; first | intro W g hH | intro W hH) | ((with_reducible refine callH hH ?_); refine ⟨?_, ?_, ?_⟩; rotate_left; (focus (first | (exact f8.out _ hH.below))); (clear hH; first | intro W g hH | intro W hH); ((try simp only [Act.put, pA, pB, pC]))))
        exact ⟨⟨j + 1, _, rfl, by simp, by omega, hS.out, Lib.hid (fun _ => by rw [HTK.out, hN2.out]; push_cast; omega), hH.sub (SubH.drop SubH.refl)⟩, by simp [intOf]; omega⟩
      · clear hN HT HTK
        go_wp2_with (first | ((refine gL rfl ?_; refine hLoR tab_ok rfl ?_ rfl hH rfl rfl ?_; (focus first|exact wN rfl|exact rfl); refine ⟨_, fR, ⟨rfl, oX, rfl, trivial⟩, rfl, ?_⟩; (clear hH; (first | intro W g hH | intro W hH); (try simp only [Act.put, pA, pB, pC])))) | (refine st ?_; clear hH; first | intro W g hH | intro W hH) | ((with_reducible refine callH hH ?_); refine ⟨?_, ?_, ?_⟩; rotate_left; (focus (first | (exact f8.out _ hH.below))); (clear hH; first | intro W g hH | intro W hH); ((try simp only [Act.put, pA, pB, pC]))))
        exact ⟨⟨j + 1, _, rfl, by simp, by omega, hS.out, Lib.hid (fun h => by omega), hH.sub (SubH.drop SubH.refl)⟩, by simp [intOf]; omega⟩
    · have dj : decide ((j : Int) < (recs.length : Int)) = false := decide_eq_false (by omega)
      rw [List.take_of_length_le (by omega)] at hT hN
      have HF : (decide (recs.length < 65) && decide (8 + recN 8 4 recs < 1401)) = res := by rw [← HRES.out, hT, Bool.true_and]
      have HFH := Lib.hid HF
      clear HRES HA hT HF
      by_cases h65 : recs.length < 65
      rotate_left
      · clear hN
        have h65' : 65 ≤ recs.length := by omega
        go_wp2_with (refine st ?_; clear hH; first | intro W g hH | intro W hH)
        all_goals
          go_ret
          refine ⟨?_, hH.below⟩
          rw [← HFH.out]
          first | (simp; done) | (simp; omega) | (exfalso; omega)
      have hNe := hN.out (by omega)
      have hN2 := Lib.hid hNe
      clear hN hNe
      by_cases h14 : N < 1401
      · go_wp2_with (refine st ?_; clear hH; first | intro W g hH | intro W hH)
        all_goals
          go_ret
          refine ⟨?_, hH.below⟩
          rw [← HFH.out]
          have := hN2.out
          first | (simp; omega) | (simp; rw [Bool.eq_iff_iff]; simp; omega) | (exfalso; omega)
      · have h14' : 1401 ≤ N := by omega
        go_wp2_with (refine st ?_; clear hH; first | intro W g hH | intro W hH)
        all_goals
          go_ret
          refine ⟨?_, hH.below⟩
          rw [← HFH.out]
          have := hN2.out
          first | (simp; omega) | (simp; rw [Bool.eq_iff_iff]; simp; omega) | (exfalso; omega)
set_option maxHeartbeats 2000000 in
theorem ibare_ffff {v6 quiet : Bool} {ver kind resp rob every : Int} {g : Ad} {src : List Ad} {recs : List Rc} (hn : src.length ≤ 9223372036854775807) (hm : recs.length ≤ 9223372036854775807) : Gives Tryz.prog 178 #[.agg (fls [.one (.bool v6), .one (.int .i64 ver), .one (.int .i64 kind), .one (.int .i64 resp), .many (adL g) 17, .one (.bool quiet), .one (.int .i64 rob), .one (.int .i64 every), .one (.slice sp src.length sc), .one (.slice rp recs.length rc)]).toArray, .bool false, .bool false, .bool false, .bool false] w (.bool (bareV false false false false ⟨v6, ver, kind, resp, g, quiet, rob, every, src, recs⟩)) := by
  have f2 := ad_eql g Ad.z
  rw [← zAd_eq] at f2
  obtain ⟨res, hres⟩ : ∃ r, bareV false false false false ⟨v6, ver, kind, resp, g, quiet, rob, every, src, recs⟩ = r := ⟨_, rfl⟩
  rw [hres]
  simp only [bareV, Bool.true_or, Bool.false_or, Bool.true_and, Bool.and_true] at hres
  have oG := adL_ok g
  generalize (g == Ad.z) = zb at *
  generalize adL g = G at *
  have HRES := Lib.hid hres
  clear hres
  refine Gives.of ?_
  have hH := Hp.refl w
  go_enter Tryz.func178, Tryz.ntmps178
  by_cases h_resp : resp = 0
  rotate_left
  · have d_resp : (resp == 0) = false := by simpa using h_resp
    go_wp2_with (refine st ?_; clear hH; first | intro W g hH | intro W hH)
    all_goals
      go_ret
      refine ⟨?_, hH.below⟩
      rw [← HRES.out]
      clear HRES hH f2 oG
      (try simp_all)
  subst h_resp
  cases zb
  · go_wp2_with (refine st ?_; clear hH; first | intro W g hH | intro W hH)
    all_goals
      go_ret
      refine ⟨?_, hH.below⟩
      rw [← HRES.out]
      clear HRES hH f2 oG
      (try simp_all)
  cases quiet
  rotate_left
  · go_wp2_with (refine st ?_; clear hH; first | intro W g hH | intro W hH)
    all_goals
      go_ret
      refine ⟨?_, hH.below⟩
      rw [← HRES.out]
      clear HRES hH f2 oG
      (try simp_all)
  by_cases h_rob : rob = 0
  rotate_left
  · have d_rob : (rob == 0) = false := by simpa using h_rob
    go_wp2_with (refine st ?_; clear hH; first | intro W g hH | intro W hH)
    all_goals
      go_ret
      refine ⟨?_, hH.below⟩
      rw [← HRES.out]
      clear HRES hH f2 oG
      (try simp_all)
  subst h_rob
  by_cases h_every : every = 0
  rotate_left
  · have d_every : (every == 0) = false := by simpa using h_every
    go_wp2_with (refine st ?_; clear hH; first | intro W g hH | intro W hH)
    all_goals
      go_ret
      refine ⟨?_, hH.below⟩
      rw [← HRES.out]
      clear HRES hH f2 oG
      (try simp_all)
  subst h_every
  by_cases h_src : src.length = 0
  rotate_left
  · have d_src : ((src.length : Int) == 0) = false := by simpa using h_src
    go_wp2_with (refine st ?_; clear hH; first | intro W g hH | intro W hH)
    all_goals
      go_ret
      refine ⟨?_, hH.below⟩
      rw [← HRES.out]
      clear HRES hH f2 oG
      (try simp_all)
  have d_src : ((src.length : Int) == 0) = true := by simpa using h_src
  by_cases h_recs : recs.length = 0
  rotate_left
  · have d_recs : ((recs.length : Int) == 0) = false := by simpa using h_recs
    go_wp2_with (refine st ?_; clear hH; first | intro W g hH | intro W hH)
    all_goals
      go_ret
      refine ⟨?_, hH.below⟩
      rw [← HRES.out]
      clear HRES hH f2 oG
      (try simp_all)
  have d_recs : ((recs.length : Int) == 0) = true := by simpa using h_recs
  go_wp2_with (refine st ?_; clear hH; first | intro W g hH | intro W hH)
  all_goals
    go_ret
    refine ⟨?_, hH.below⟩
    rw [← HRES.out]
    clear HRES hH f2 oG
    (try simp_all)
set_option maxHeartbeats 2000000 in
theorem ibare_ftff {v6 quiet : Bool} {ver kind resp rob every : Int} {g : Ad} {src : List Ad} {recs : List Rc} (hn : src.length ≤ 9223372036854775807) (hm : recs.length ≤ 9223372036854775807) : Gives Tryz.prog 178 #[.agg (fls [.one (.bool v6), .one (.int .i64 ver), .one (.int .i64 kind), .one (.int .i64 resp), .many (adL g) 17, .one (.bool quiet), .one (.int .i64 rob), .one (.int .i64 every), .one (.slice sp src.length sc), .one (.slice rp recs.length rc)]).toArray, .bool false, .bool true, .bool false, .bool false] w (.bool (bareV false true false false ⟨v6, ver, kind, resp, g, quiet, rob, every, src, recs⟩)) := by
  have f2 := ad_eql g Ad.z
  rw [← zAd_eq] at f2
  obtain ⟨res, hres⟩ : ∃ r, bareV false true false false ⟨v6, ver, kind, resp, g, quiet, rob, every, src, recs⟩ = r := ⟨_, rfl⟩
  rw [hres]
  simp only [bareV, Bool.true_or, Bool.false_or, Bool.true_and, Bool.and_true] at hres
  have oG := adL_ok g
  generalize (g == Ad.z) = zb at *
  generalize adL g = G at *
  have HRES := Lib.hid hres
  clear hres
  refine Gives.of ?_
  have hH := Hp.refl w
  go_enter Tryz.func178, Tryz.ntmps178
  by_cases h_resp : resp = 0
  rotate_left
  · have d_resp : (resp == 0) = false := by simpa using h_resp
    go_wp2_with (refine st ?_; clear hH; first | intro W g hH | intro W hH)
    all_goals
      go_ret
      refine ⟨?_, hH.below⟩
      rw [← HRES.out]
      clear HRES hH f2 oG
      (try simp_all)
  subst h_resp
  cases quiet
  rotate_left
  · go_wp2_with (refine st ?_; clear hH; first | intro W g hH | intro W hH)
    all_goals
      go_ret
      refine ⟨?_, hH.below⟩
      rw [← HRES.out]
      clear HRES hH f2 oG
      (try simp_all)
  by_cases h_rob : rob = 0
  rotate_left
  · have d_rob : (rob == 0) = false := by simpa using h_rob
    go_wp2_with (refine st ?_; clear hH; first | intro W g hH | intro W hH)
    all_goals
      go_ret
      refine ⟨?_, hH.below⟩
      rw [← HRES.out]
      clear HRES hH f2 oG
      (try simp_all)
  subst h_rob
  by_cases h_every : every = 0
  rotate_left
  · have d_every : (every == 0) = false := by simpa using h_every
    go_wp2_with (refine st ?_; clear hH; first | intro W g hH | intro W hH)
    all_goals
      go_ret
      refine ⟨?_, hH.below⟩
      rw [← HRES.out]
      clear HRES hH f2 oG
      (try simp_all)
  subst h_every
  by_cases h_src : src.length = 0
  rotate_left
  · have d_src : ((src.length : Int) == 0) = false := by simpa using h_src
    go_wp2_with (refine st ?_; clear hH; first | intro W g hH | intro W hH)
    all_goals
      go_ret
      refine ⟨?_, hH.below⟩
      rw [← HRES.out]
      clear HRES hH f2 oG
      (try simp_all)
  have d_src : ((src.length : Int) == 0) = true := by simpa using h_src
  by_cases h_recs : recs.length = 0
  rotate_left
  · have d_recs : ((recs.length : Int) == 0) = false := by simpa using h_recs
    go_wp2_with (refine st ?_; clear hH; first | intro W g hH | intro W hH)
    all_goals
      go_ret
      refine ⟨?_, hH.below⟩
      rw [← HRES.out]
      clear HRES hH f2 oG
      (try simp_all)
  have d_recs : ((recs.length : Int) == 0) = true := by simpa using h_recs
  go_wp2_with (refine st ?_; clear hH; first | intro W g hH | intro W hH)
  all_goals
    go_ret
    refine ⟨?_, hH.below⟩
    rw [← HRES.out]
    clear HRES hH f2 oG
    (try simp_all)
set_option maxHeartbeats 2000000 in
theorem ibare_ttff {v6 quiet : Bool} {ver kind resp rob every : Int} {g : Ad} {src : List Ad} {recs : List Rc} (hn : src.length ≤ 9223372036854775807) (hm : recs.length ≤ 9223372036854775807) : Gives Tryz.prog 178 #[.agg (fls [.one (.bool v6), .one (.int .i64 ver), .one (.int .i64 kind), .one (.int .i64 resp), .many (adL g) 17, .one (.bool quiet), .one (.int .i64 rob), .one (.int .i64 every), .one (.slice sp src.length sc), .one (.slice rp recs.length rc)]).toArray, .bool true, .bool true, .bool false, .bool false] w (.bool (bareV true true false false ⟨v6, ver, kind, resp, g, quiet, rob, every, src, recs⟩)) := by
  have f2 := ad_eql g Ad.z
  rw [← zAd_eq] at f2
  obtain ⟨res, hres⟩ : ∃ r, bareV true true false false ⟨v6, ver, kind, resp, g, quiet, rob, every, src, recs⟩ = r := ⟨_, rfl⟩
  rw [hres]
  simp only [bareV, Bool.true_or, Bool.false_or, Bool.true_and, Bool.and_true] at hres
  have oG := adL_ok g
  generalize (g == Ad.z) = zb at *
  generalize adL g = G at *
  have HRES := Lib.hid hres
  clear hres
  refine Gives.of ?_
  have hH := Hp.refl w
  go_enter Tryz.func178, Tryz.ntmps178
  cases quiet
  rotate_left
  · go_wp2_with (refine st ?_; clear hH; first | intro W g hH | intro W hH)
    all_goals
      go_ret
      refine ⟨?_, hH.below⟩
      rw [← HRES.out]
      clear HRES hH f2 oG
      (try simp_all)
  by_cases h_rob : rob = 0
  rotate_left
  · have d_rob : (rob == 0) = false := by simpa using h_rob
    go_wp2_with (refine st ?_; clear hH; first | intro W g hH | intro W hH)
    all_goals
      go_ret
      refine ⟨?_, hH.below⟩
      rw [← HRES.out]
      clear HRES hH f2 oG
      (try simp_all)
  subst h_rob
  by_cases h_every : every = 0
  rotate_left
  · have d_every : (every == 0) = false := by simpa using h_every
    go_wp2_with (refine st ?_; clear hH; first | intro W g hH | intro W hH)
    all_goals
      go_ret
      refine ⟨?_, hH.below⟩
      rw [← HRES.out]
      clear HRES hH f2 oG
      (try simp_all)
  subst h_every
  by_cases h_src : src.length = 0
  rotate_left
  · have d_src : ((src.length : Int) == 0) = false := by simpa using h_src
    go_wp2_with (refine st ?_; clear hH; first | intro W g hH | intro W hH)
    all_goals
      go_ret
      refine ⟨?_, hH.below⟩
      rw [← HRES.out]
      clear HRES hH f2 oG
      (try simp_all)
  have d_src : ((src.length : Int) == 0) = true := by simpa using h_src
  by_cases h_recs : recs.length = 0
  rotate_left
  · have d_recs : ((recs.length : Int) == 0) = false := by simpa using h_recs
    go_wp2_with (refine st ?_; clear hH; first | intro W g hH | intro W hH)
    all_goals
      go_ret
      refine ⟨?_, hH.below⟩
      rw [← HRES.out]
      clear HRES hH f2 oG
      (try simp_all)
  have d_recs : ((recs.length : Int) == 0) = true := by simpa using h_recs
  go_wp2_with (refine st ?_; clear hH; first | intro W g hH | intro W hH)
  all_goals
    go_ret
    refine ⟨?_, hH.below⟩
    rw [← HRES.out]
    clear HRES hH f2 oG
    (try simp_all)
set_option maxHeartbeats 2000000 in
theorem ibare_ffft {v6 quiet : Bool} {ver kind resp rob every : Int} {g : Ad} {src : List Ad} {recs : List Rc} (hn : src.length ≤ 9223372036854775807) (hm : recs.length ≤ 9223372036854775807) : Gives Tryz.prog 178 #[.agg (fls [.one (.bool v6), .one (.int .i64 ver), .one (.int .i64 kind), .one (.int .i64 resp), .many (adL g) 17, .one (.bool quiet), .one (.int .i64 rob), .one (.int .i64 every), .one (.slice sp src.length sc), .one (.slice rp recs.length rc)]).toArray, .bool false, .bool false, .bool false, .bool true] w (.bool (bareV false false false true ⟨v6, ver, kind, resp, g, quiet, rob, every, src, recs⟩)) := by
  have f2 := ad_eql g Ad.z
  rw [← zAd_eq] at f2
  obtain ⟨res, hres⟩ : ∃ r, bareV false false false true ⟨v6, ver, kind, resp, g, quiet, rob, every, src, recs⟩ = r := ⟨_, rfl⟩
  rw [hres]
  simp only [bareV, Bool.true_or, Bool.false_or, Bool.true_and, Bool.and_true] at hres
  have oG := adL_ok g
  generalize (g == Ad.z) = zb at *
  generalize adL g = G at *
  have HRES := Lib.hid hres
  clear hres
  refine Gives.of ?_
  have hH := Hp.refl w
  go_enter Tryz.func178, Tryz.ntmps178
  by_cases h_resp : resp = 0
  rotate_left
  · have d_resp : (resp == 0) = false := by simpa using h_resp
    go_wp2_with (refine st ?_; clear hH; first | intro W g hH | intro W hH)
    all_goals
      go_ret
      refine ⟨?_, hH.below⟩
      rw [← HRES.out]
      clear HRES hH f2 oG
      (try simp_all)
  subst h_resp
  cases zb
  · go_wp2_with (refine st ?_; clear hH; first | intro W g hH | intro W hH)
    all_goals
      go_ret
      refine ⟨?_, hH.below⟩
      rw [← HRES.out]
      clear HRES hH f2 oG
      (try simp_all)
  cases quiet
  rotate_left
  · go_wp2_with (refine st ?_; clear hH; first | intro W g hH | intro W hH)
    all_goals
      go_ret
      refine ⟨?_, hH.below⟩
      rw [← HRES.out]
      clear HRES hH f2 oG
      (try simp_all)
  by_cases h_rob : rob = 0
  rotate_left
  · have d_rob : (rob == 0) = false := by simpa using h_rob
    go_wp2_with (refine st ?_; clear hH; first | intro W g hH | intro W hH)
    all_goals
      go_ret
      refine ⟨?_, hH.below⟩
      rw [← HRES.out]
      clear HRES hH f2 oG
      (try simp_all)
  subst h_rob
  by_cases h_every : every = 0
  rotate_left
  · have d_every : (every == 0) = false := by simpa using h_every
    go_wp2_with (refine st ?_; clear hH; first | intro W g hH | intro W hH)
    all_goals
      go_ret
      refine ⟨?_, hH.below⟩
      rw [← HRES.out]
      clear HRES hH f2 oG
      (try simp_all)
  subst h_every
  by_cases h_src : src.length = 0
  rotate_left
  · have d_src : ((src.length : Int) == 0) = false := by simpa using h_src
    go_wp2_with (refine st ?_; clear hH; first | intro W g hH | intro W hH)
    all_goals
      go_ret
      refine ⟨?_, hH.below⟩
      rw [← HRES.out]
      clear HRES hH f2 oG
      (try simp_all)
  have d_src : ((src.length : Int) == 0) = true := by simpa using h_src
  go_wp2_with (refine st ?_; clear hH; first | intro W g hH | intro W hH)
  all_goals
    go_ret
    refine ⟨?_, hH.below⟩
    rw [← HRES.out]
    clear HRES hH f2 oG
    (try simp_all)
set_option maxHeartbeats 2000000 in
theorem ibare_tttf {v6 quiet : Bool} {ver kind resp rob every : Int} {g : Ad} {src : List Ad} {recs : List Rc} (hn : src.length ≤ 9223372036854775807) (hm : recs.length ≤ 9223372036854775807) : Gives Tryz.prog 178 #[.agg (fls [.one (.bool v6), .one (.int .i64 ver), .one (.int .i64 kind), .one (.int .i64 resp), .many (adL g) 17, .one (.bool quiet), .one (.int .i64 rob), .one (.int .i64 every), .one (.slice sp src.length sc), .one (.slice rp recs.length rc)]).toArray, .bool true, .bool true, .bool true, .bool false] w (.bool (bareV true true true false ⟨v6, ver, kind, resp, g, quiet, rob, every, src, recs⟩)) := by
  have f2 := ad_eql g Ad.z
  rw [← zAd_eq] at f2
  obtain ⟨res, hres⟩ : ∃ r, bareV true true true false ⟨v6, ver, kind, resp, g, quiet, rob, every, src, recs⟩ = r := ⟨_, rfl⟩
  rw [hres]
  simp only [bareV, Bool.true_or, Bool.false_or, Bool.true_and, Bool.and_true] at hres
  have oG := adL_ok g
  generalize (g == Ad.z) = zb at *
  generalize adL g = G at *
  have HRES := Lib.hid hres
  clear hres
  refine Gives.of ?_
  have hH := Hp.refl w
  go_enter Tryz.func178, Tryz.ntmps178
  by_cases h_recs : recs.length = 0
  rotate_left
  · have d_recs : ((recs.length : Int) == 0) = false := by simpa using h_recs
    go_wp2_with (refine st ?_; clear hH; first | intro W g hH | intro W hH)
    all_goals
      go_ret
      refine ⟨?_, hH.below⟩
      rw [← HRES.out]
      clear HRES hH f2 oG
      (try simp_all)
  have d_recs : ((recs.length : Int) == 0) = true := by simpa using h_recs
  go_wp2_with (refine st ?_; clear hH; first | intro W g hH | intro W hH)
  all_goals
    go_ret
    refine ⟨?_, hH.below⟩
    rw [← HRES.out]
    clear HRES hH f2 oG
    (try simp_all)
end
end Go.Proofs.YtdnehjhijmeihaaGreat
