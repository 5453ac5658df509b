/-
  Joined texts: Th4, Th5.
-/
import Derived.Test.YtdnehjhijmeihaaGreatQTg
import Derived.Test.YtdnehjhijmeihaaGreatQSl
import Derived.Test.YtdnehjhijmeihaaGreatQTh1
import Derived.Test.YtdnehjhijmeihaaGreatQTh2
import Derived.Test.YtdnehjhijmeihaaGreatQTh3
namespace Go.Proofs.YtdnehjhijmeihaaGreat
open Go.ChangeShapes Go.WideShapes Go.ChangeAt Go.RowKit
set_option linter.unusedVariables false
set_option linter.unusedSimpArgs false
set_option maxRecDepth 20000
attribute [local irreducible] wpList
section
variable {w : World} {sp rp : Option Addr} {sc rc : Nat} {T : Tk}
set_option maxRecDepth 20000 in
set_option maxHeartbeats 4000000 in
theorem rgood4_C {quiet : Bool} {ver resp rob every : Int} {g : Ad} {src : List Ad} {recs : List Rc} (hn : src.length ≤ 9223372036854775807) (hm : recs.length ≤ 9223372036854775807) (hA0 : RcsAt w rp recs) : Gives Tryz.prog 85 #[.agg (fls [.one (.bool false), .one (.int .i64 3), .one (.int .i64 2), .one (.int .i64 resp), .many (adL g) 17, .one (.bool quiet), .one (.int .i64 rob), .one (.int .i64 every), .one (.slice sp src.length sc), .one (.slice rp recs.length rc)]).toArray] w (.bool (good4 ⟨false, 3, 2, resp, g, quiet, rob, every, src, recs⟩)) := by
  have f1 : ∀ w, Gives Tryz.prog 68 #[.agg (fls [.many (adL g) 17]).toArray] w (.bool (grp4 g)) := fun w => rGroup4_any
  have f2 := ad_eql g Ad.z
  have f3 := ad_neq g Ad.z
  rw [← zAd_eq] at f2 f3
  obtain ⟨res, hres⟩ : ∃ r, good4 ⟨false, 3, 2, resp, g, quiet, rob, every, src, recs⟩ = r := ⟨_, rfl⟩
  rw [hres]
  unfold good4 at hres
  have oG := adL_ok g
  have oZ : OkA (zeroL Tryz.prog 25) 17 := by rw [← adL_z]; exact adL_ok _
  rw [show (g != Ad.z) = !(g == Ad.z) from rfl] at f3 hres
  generalize grp4 g = gb at *
  generalize (g == Ad.z) = zb at *
  generalize adL g = G at *
  have HA := Lib.hid hA0
  clear hA0
  have HRES := Lib.hid hres
  clear hres
  refine Gives.of ?_
  have hH := Hp.refl w
  go_enter Tryz.func85, Tryz.ntmps85
  cases quiet
  rotate_left
  · go_wp2_with (refine st ?_; clear hH; first | intro W g hH | intro W hH)
    all_goals
      go_ret
      refine ⟨?_, hH.below⟩
      rw [← HRES.out]
      clear HRES hH f1 f2 f3 HA oG oZ
      (try simp_all)
      all_goals first | omega | (intros; omega) | exact len_beq _ | (simp [len_beq]; done) | (simp [len_beq]; intros; omega)
  by_cases hrob : rob = 0
  rotate_left
  · have drob : (rob != 0) = true := by simpa using hrob
    have erob : (rob == 0) = false := by simpa using hrob
    go_wp2_with (refine st ?_; clear hH; first | intro W g hH | intro W hH)
    all_goals
      go_ret
      refine ⟨?_, hH.below⟩
      rw [← HRES.out]
      clear HRES hH f1 f2 f3 HA oG oZ
      (try simp_all)
      all_goals first | omega | (intros; omega) | exact len_beq _ | (simp [len_beq]; done) | (simp [len_beq]; intros; omega)
  subst hrob
  by_cases hevery : every = 0
  rotate_left
  · have devery : (every != 0) = true := by simpa using hevery
    have eevery : (every == 0) = false := by simpa using hevery
    go_wp2_with (refine st ?_; clear hH; first | intro W g hH | intro W hH)
    all_goals
      go_ret
      refine ⟨?_, hH.below⟩
      rw [← HRES.out]
      clear HRES hH f1 f2 f3 HA oG oZ
      (try simp_all)
      all_goals first | omega | (intros; omega) | exact len_beq _ | (simp [len_beq]; done) | (simp [len_beq]; intros; omega)
  subst hevery
  by_cases hs : 0 < src.length
  · go_wp2_with (refine st ?_; clear hH; first | intro W g hH | intro W hH)
    all_goals
      go_ret
      refine ⟨?_, hH.below⟩
      rw [← HRES.out]
      clear HRES hH f1 f2 f3 HA oG oZ
      (try simp_all)
      all_goals first | omega | (intros; omega) | exact len_beq _ | (simp [len_beq]; done) | (simp [len_beq]; intros; omega)
  by_cases hresp : resp = 0
  rotate_left
  · have dresp : (resp != 0) = true := by simpa using hresp
    have eresp : (resp == 0) = false := by simpa using hresp
    go_wp2_with (refine st ?_; clear hH; first | intro W g hH | intro W hH)
    all_goals
      go_ret
      refine ⟨?_, hH.below⟩
      rw [← HRES.out]
      clear HRES hH f1 f2 f3 HA oG oZ
      (try simp_all)
      all_goals first | omega | (intros; omega) | exact len_beq _ | (simp [len_beq]; done) | (simp [len_beq]; intros; omega)
  subst hresp
  have HR1 := HRES.out
  simp only [Bool.false_or, Bool.or_false, Bool.false_and, Bool.and_false, Bool.not_true, Bool.not_false, Bool.true_and, Bool.and_true, Bool.true_or, Bool.or_true] at HR1
  have HR2 : (recs.all rcOk4 && (zb && decide (recs.length < 65) && decide (8 + recN 8 4 recs < 1401))) = res := by rw [← HR1]; simp [hs]
  clear HRES HR1
  have HRES := Lib.hid HR2
  clear HR2
  have hcase : recs.length = 0 ∨ 0 < recs.length := by omega
  rcases hcase with hc | hc
  all_goals
    go_wp2_with (first | ((refine hBx rfl ?_ rfl hH ?_ ?_; (focus first|exact wN rfl|exact rfl); (focus (repeat (first | exact trivial | assumption | refine ⟨rfl, ?_⟩ | refine ⟨?_, ?_⟩))); clear hH; intro W ga hH; (try simp only [Act.put, List.setIfInBounds_toArray, List.set_cons_succ, List.set_cons_zero]))) | (refine st ?_; clear hH; first | intro W g hH | intro W hH))
    go_loopw [5, 6] (fun n i wr => ∃ (j : Nat) (N : Int), n = .int .i64 N ∧ i = .int .i64 (j : Int) ∧ j ≤ recs.length ∧ (recs.take j).all rcOk4 = true ∧ Hid (j ≤ 64 → N = 8 + ((recN 8 4 (recs.take j) : Nat) : Int)) ∧ Hp w.heap.size w wr [(g, 25, true, [.one (.bool false), .many (zeroL Tryz.prog 23) 16]), (ga, 29, true, [.one (.bool false), .one (.int .i64 3), .one (.int .i64 2), .one (.int .i64 0), .many G 17, .one (.bool false), .one (.int .i64 0), .one (.int .i64 0), .one (.slice sp src.length sc), .one (.slice rp recs.length rc)])]) (fun _ i _ => recs.length - (intOf i).toNat)
    case atStart => exact ⟨0, 8, rfl, rfl, by omega, rfl, Lib.hid (fun _ => rfl), hH⟩
    case round =>
      clear hH
      obtain ⟨j, N, rfl, rfl, hj, hT, hN, hH⟩ := hrel
      clear hc
      by_cases hjl : j < recs.length
      · obtain ⟨q, s, c1, hq, _, _, _, fA, fR⟩ := HA.out.get hjl
        subst hq
        have dj : decide ((j : Int) < (recs.length : Int)) = true := decide_eq_true (by omega)
        have HS := Lib.hid (fun e => all_snoc hT hjl e)
        have HN := Lib.hid (show rcOk4 recs[j] = false → res = false from fun e => by rw [← HRES.out, all_no hjl e]; rfl)
        have HT := Lib.hid hT
        have HTK := Lib.hid (show recN 8 4 (recs.take (j + 1)) = recN 8 4 (recs.take j) + (8 + 4 * recs[j].src.length) by rw [← List.take_append_getElem hjl, recN_app]; simp [recN])
        clear hT HA
        have oX := adL_ok recs[j].grp
        have f7 : ∀ w, Gives Tryz.prog 68 #[.agg (fls [.many (adL recs[j].grp) 17]).toArray] w (.bool (grp4 recs[j].grp)) := fun w => rGroup4_any
        have f8 := Lib.hid (show ∀ W, Below w.heap.size w W → Gives Tryz.prog 142 #[.slice s recs[j].src.length c1] W (.bool (srcs4 recs[j].src)) from fun W hb => rSrcs4_any (fA.below hb))
        have hlen : srcs4 recs[j].src = true → recs[j].src.length ≤ 64 := fun h => by unfold srcs4 at h; simp at h; omega
        clear fA
        generalize recs[j] = r at *
        obtain ⟨kd, G1, l⟩ := r
        simp only at f7 f8 oX fR hlen HTK
        unfold rcOk4 at HS HN
        simp only at HS HN
        generalize grp4 G1 = b1 at *
        generalize srcs4 l = b2 at *
        generalize adL G1 = X at *
        generalize hll : l.length = ln at *
        clear hll
        by_cases hk1 : kd < 1
        · have e : res = false := HN.out (by simp; try (intros; omega))
          subst e
          clear HS HN HTK HT hN hlen
          go_wp2_with (first | ((refine gL rfl ?_; refine hLoR tab_ok rfl ?_ rfl hH rfl rfl ?_; (focus first|exact wN rfl|exact rfl); refine ⟨_, fR, ⟨rfl, oX, rfl, trivial⟩, rfl, ?_⟩; (clear hH; (first | intro W g hH | intro W hH); (try simp only [Act.put, pA, pB, pC])))) | (refine st ?_; clear hH; first | intro W g hH | intro W hH) | ((with_reducible refine callH hH ?_); refine ⟨?_, ?_, ?_⟩; rotate_left; (focus (first | (exact f8.out _ hH.below))); (clear hH; first | intro W g hH | intro W hH); ((try simp only [Act.put, pA, pB, pC]))))
          go_ret
          exact ⟨rfl, hH.below⟩
        by_cases hk1 : 6 < kd
        · have e : res = false := HN.out (by simp; try (intros; omega))
          subst e
          clear HS HN HTK HT hN hlen
          go_wp2_with (first | ((refine gL rfl ?_; refine hLoR tab_ok rfl ?_ rfl hH rfl rfl ?_; (focus first|exact wN rfl|exact rfl); refine ⟨_, fR, ⟨rfl, oX, rfl, trivial⟩, rfl, ?_⟩; (clear hH; (first | intro W g hH | intro W hH); (try simp only [Act.put, pA, pB, pC])))) | (refine st ?_; clear hH; first | intro W g hH | intro W hH) | ((with_reducible refine callH hH ?_); refine ⟨?_, ?_, ?_⟩; rotate_left; (focus (first | (exact f8.out _ hH.below))); (clear hH; first | intro W g hH | intro W hH); ((try simp only [Act.put, pA, pB, pC]))))
          go_ret
          exact ⟨rfl, hH.below⟩
        cases b1
        · have e : res = false := HN.out (by simp; try (intros; omega))
          subst e
          clear HS HN HTK HT hN hlen
          go_wp2_with (first | ((refine gL rfl ?_; refine hLoR tab_ok rfl ?_ rfl hH rfl rfl ?_; (focus first|exact wN rfl|exact rfl); refine ⟨_, fR, ⟨rfl, oX, rfl, trivial⟩, rfl, ?_⟩; (clear hH; (first | intro W g hH | intro W hH); (try simp only [Act.put, pA, pB, pC])))) | (refine st ?_; clear hH; first | intro W g hH | intro W hH) | ((with_reducible refine callH hH ?_); refine ⟨?_, ?_, ?_⟩; rotate_left; (focus (first | (exact f8.out _ hH.below))); (clear hH; first | intro W g hH | intro W hH); ((try simp only [Act.put, pA, pB, pC]))))
          go_ret
          exact ⟨rfl, hH.below⟩
        cases b2
        · have e : res = false := HN.out (by simp; try (intros; omega))
          subst e
          clear HS HN HTK HT hN hlen
          go_wp2_with (first | ((refine gL rfl ?_; refine hLoR tab_ok rfl ?_ rfl hH rfl rfl ?_; (focus first|exact wN rfl|exact rfl); refine ⟨_, fR, ⟨rfl, oX, rfl, trivial⟩, rfl, ?_⟩; (clear hH; (first | intro W g hH | intro W hH); (try simp only [Act.put, pA, pB, pC])))) | (refine st ?_; clear hH; first | intro W g hH | intro W hH) | ((with_reducible refine callH hH ?_); refine ⟨?_, ?_, ?_⟩; rotate_left; (focus (first | (exact f8.out _ hH.below))); (clear hH; first | intro W g hH | intro W hH); ((try simp only [Act.put, pA, pB, pC]))))
          go_ret
          exact ⟨rfl, hH.below⟩
        have hS := Lib.hid (HS.out (by simp; omega))
        have hln := hlen rfl
        clear HS HN hlen
        by_cases hj64 : j < 64
        · have hNe := hN.out (by omega)
          have hb := recN_le (k := 8) (s := 4) rcOk4_len _ HT.out
          rw [List.length_take] at hb
          have hNb : 0 ≤ N ∧ N ≤ 1000000 := by omega
          have hN2 := Lib.hid hNe
          clear hN hb HT hNe
          go_wp2_with (first | ((refine gL rfl ?_; refine hLoR tab_ok rfl ?_ rfl hH rfl rfl ?_; (focus first|exact wN rfl|exact rfl); refine ⟨_, fR, ⟨rfl, oX, rfl, trivial⟩, rfl, ?_⟩; (clear hH; (first | intro W g hH | intro W hH); (try simp only [Act.put, pA, pB, pC])))) | (refine st ?_; clear hH; first | intro W g hH | intro W hH) | ((with_reducible refine callH hH ?_); refine ⟨?_, ?_, ?_⟩; rotate_left; (focus (first | (exact f8.out _ hH.below))); (clear hH; first | intro W g hH | intro W hH); ((try simp only [Act.put, pA, pB, pC]))))
          exact ⟨⟨j + 1, _, rfl, by simp, by omega, hS.out, Lib.hid (fun _ => by rw [HTK.out, hN2.out]; push_cast; omega), hH.sub (SubH.drop SubH.refl)⟩, by simp [intOf]; omega⟩
        · clear hN HT HTK
          go_wp2_with (first | ((refine gL rfl ?_; refine hLoR tab_ok rfl ?_ rfl hH rfl rfl ?_; (focus first|exact wN rfl|exact rfl); refine ⟨_, fR, ⟨rfl, oX, rfl, trivial⟩, rfl, ?_⟩; (clear hH; (first | intro W g hH | intro W hH); (try simp only [Act.put, pA, pB, pC])))) | (refine st ?_; clear hH; first | intro W g hH | intro W hH) | ((with_reducible refine callH hH ?_); refine ⟨?_, ?_, ?_⟩; rotate_left; (focus (first | (exact f8.out _ hH.below))); (clear hH; first | intro W g hH | intro W hH); ((try simp only [Act.put, pA, pB, pC]))))
          exact ⟨⟨j + 1, _, rfl, by simp, by omega, hS.out, Lib.hid (fun h => by omega), hH.sub (SubH.drop SubH.refl)⟩, by simp [intOf]; omega⟩
      · have dj : decide ((j : Int) < (recs.length : Int)) = false := decide_eq_false (by omega)
        rw [List.take_of_length_le (by omega)] at hT hN
        have HF : (zb && decide (recs.length < 65) && decide (8 + recN 8 4 recs < 1401)) = res := by rw [← HRES.out, hT, Bool.true_and]
        have HFH := Lib.hid HF
        clear HRES HA hT HF
        cases zb
        · go_wp2_with (refine st ?_; clear hH; first | intro W g hH | intro W hH)
          all_goals
            go_ret
            refine ⟨?_, hH.below⟩
            rw [← HFH.out]
            first | (simp; done) | (exfalso; omega)
        by_cases h65 : recs.length < 65
        rotate_left
        · clear hN
          go_wp2_with (refine st ?_; clear hH; first | intro W g hH | intro W hH)
          all_goals
            go_ret
            refine ⟨?_, hH.below⟩
            rw [← HFH.out]
            first | (simp; done) | (simp; omega) | (exfalso; omega)
        have hNe := hN.out (by omega)
        have hN2 := Lib.hid hNe
        clear hN hNe
        by_cases h14 : N < 1401
        · go_wp2_with (refine st ?_; clear hH; first | intro W g hH | intro W hH)
          all_goals
            go_ret
            refine ⟨?_, hH.below⟩
            rw [← HFH.out]
            have := hN2.out; first | (simp; omega) | (exfalso; omega)
        · go_wp2_with (refine st ?_; clear hH; first | intro W g hH | intro W hH)
          all_goals
            go_ret
            refine ⟨?_, hH.below⟩
            rw [← HFH.out]
            have := hN2.out; first | (simp; omega) | (exfalso; omega)
end
section
variable {w : World} {sp rp : Option Addr} {sc rc : Nat} {T : Tk}
theorem rgood4_any (hT : T.Ok) (hA : AdsAt w sp T.src) (hR : RcsAt w rp T.recs) : Gives Tryz.prog 85 #[.agg (fls (tkS T sp sc rp rc)).toArray] w (.bool (good4 T)) := by
  obtain ⟨v6, ver, kind, resp, g, quiet, rob, every, src, recs⟩ := T
  have b1 := hT.resp
  have b2 := hT.every
  unfold tkS
  simp only at *
  by_cases hb : v6 = true ∨ ver < 1 ∨ 3 < ver ∨ kind < 1 ∨ 3 < kind
  · have e : good4 ⟨v6, ver, kind, resp, g, quiet, rob, every, src, recs⟩ = false := by
      unfold good4
      rw [if_pos (by simpa [or_assoc] using hb)]
    rw [e]
    exact rgood4_bad (adL_ok g) hb
  obtain rfl : v6 = false := by simp at hb; exact hb.1
  have h1 : 1 ≤ ver ∧ ver ≤ 3 ∧ 1 ≤ kind ∧ kind ≤ 3 := by simp at hb; omega
  rcases (show kind = 1 ∨ kind = 2 ∨ kind = 3 by omega) with rfl | rfl | rfl
  · rcases (show ver = 1 ∨ ver = 2 ∨ ver = 3 by omega) with rfl | rfl | rfl
    · exact rgood4_D (ver := 1) hA.1 hR.1
    · exact rgood4_E (ver := 1) hA.1 hR.1
    · exact rgood4_F (ver := 1) hA.1 hR.1 hA b1 b2
  · by_cases hv : ver = 3
    · subst hv; exact rgood4_C (ver := 1) hA.1 hR.1 hR
    · exact rgood4_B hA.1 hR.1 (by omega) (by omega)
  · exact rgood4_A hA.1 hR.1 (by omega) (by omega)
end
end Go.Proofs.YtdnehjhijmeihaaGreat
