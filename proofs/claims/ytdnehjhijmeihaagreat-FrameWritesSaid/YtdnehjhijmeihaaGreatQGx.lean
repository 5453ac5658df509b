/-
  Joined texts: Gx.
-/
import Derived.Test.YtdnehjhijmeihaaGreatQTk
import Derived.Test.YtdnehjhijmeihaaGreatQSl
namespace Go.Proofs.YtdnehjhijmeihaaGreat
open Go.ChangeShapes Go.WideShapes Go.ChangeAt Go.RowKit
set_option linter.unusedVariables false
set_option linter.unusedSimpArgs false
set_option maxRecDepth 20000
attribute [local irreducible] wpList
section
variable {w : World} {p p' : Option Addr} {c c' : Nat} {L M : List Ad}
set_option maxHeartbeats 1000000 in
theorem iequalAds (h : AdsAt w p L) (h' : AdsAt w p' M) : Gives Tryz.prog 88 #[.slice p L.length c, .slice p' M.length c'] w (.bool (decide (L = M))) := by
  have hl := h.1
  have hl' := h'.1
  have HA := Lib.hid h
  have HB := Lib.hid h'
  clear h h'
  refine Gives.of ?_
  have hH := Hp.refl w
  by_cases hlen : L.length = M.length
  rotate_left
  · have e : decide (L = M) = false := decide_eq_false (fun h => hlen (by rw [h]))
    rw [e]
    clear e
    have hn : ((L.length : Int) != (M.length : Int)) = true := by simp; omega
    go_enter Tryz.func88, Tryz.ntmps88
    go_wp2_with (refine st ?_; clear hH; first | intro W g hH | intro W hH)
    go_ret
    exact ⟨rfl, hH.below⟩
  have hn : ((L.length : Int) != (M.length : Int)) = false := by simp; omega
  obtain ⟨res, hres⟩ : ∃ r, decide (L = M) = r := ⟨_, rfl⟩
  rw [hres]
  have HRES := Lib.hid hres
  clear hres
  go_enter Tryz.func88, Tryz.ntmps88
  go_wp2_with (refine st ?_; clear hH; first | intro W g hH | intro W hH)
  go_loopw [13] (fun i wr => ∃ j : Nat, i = .int .i64 (j : Int) ∧ j ≤ L.length ∧ L.take j = M.take j ∧ Hp w.heap.size w wr []) (fun i _ => L.length - (intOf i).toNat)
  case atStart => exact ⟨0, rfl, by omega, rfl, hH⟩
  case round =>
    clear hH
    obtain ⟨j, rfl, hj, hT, hH⟩ := hrel
    by_cases hjl : j < L.length
    · have hj2 : j < M.length := by omega
      obtain ⟨a, ha, fA, _⟩ := HA.out.get hjl
      obtain ⟨b, hb, fB, _⟩ := HB.out.get hj2
      subst ha
      subst hb
      have dj : decide ((j : Int) < (L.length : Int)) = true := decide_eq_true (by omega)
      have HS := Lib.hid (fun e => take_snoc_eq hT hjl hj2 e)
      have HN := Lib.hid (fun e => HRES.out.symm.trans (decide_eq_false (p := L = M) (ne_of_at hjl hj2 e)))
      clear hT HA HB hn hlen
      have fE := ad_neq L[j] M[j]
      have oA := adL_ok L[j]
      have oB := adL_ok M[j]
      generalize L[j] = x at *
      generalize M[j] = y at *
      cases hxy : (x != y)
      · rw [hxy] at fE
        have hS := HS.out (by simpa using hxy)
        have HS2 := Lib.hid hS
        clear HS HN hxy hS
        generalize adL x = X at *
        generalize adL y = Y at *
        go_wp2_with (refine st ?_; clear hH; first | intro W g hH | intro W hH)
        ((with_reducible refine regQ hH (by kernel_rfl) (by kernel_rfl) ?_); intro hne; (repeat (first | (go_big_quiet_want; (first | (refine qiL tab_ok rfl rfl ?_; refine ⟨_, _, rfl, rfl, ?_⟩) | (refine qiLi tab_ok rfl rfl ?_; refine ⟨_, _, _, ?_, rfl, rfl, rfl, ?_, ?_⟩; rotate_left; (focus assumption)) | ((first | (refine qLoR tab_ok rfl rfl rfl rfl ?_; refine ⟨_, fA, ⟨oA, trivial⟩, rfl, ?_⟩) | (refine qLoR tab_ok rfl rfl rfl rfl ?_; refine ⟨_, fB, ⟨oB, trivial⟩, rfl, ?_⟩))) | (refine qBd tab_ok rfl rfl rfl rfl ?_; refine ⟨?_, ?_, ?_⟩; rotate_left; (focus (repeat (first | exact BR.nil | refine BR.one rfl rfl rfl ?_ | (refine BR.row rfl rfl rfl rfl ?_ ?_; (focus (repeat (first | exact trivial | assumption | exact OkA.z (by kernel_rfl) (by kernel_rfl) | refine ⟨rfl, ?_⟩ | refine ⟨?_, ?_⟩))))))))); (try simp only [Act.put, pA, pB, pC]); go_big_quiet_on) | go_big_quiet_step (fail))); refine wpQuiet_nil ?_; clear hne hH; intro W hH)
        go_wp2_with (refine st ?_; clear hH; first | intro W g hH | intro W hH)
        exact ⟨⟨j + 1, by simp, by omega, HS2.out, hH⟩, by simp [intOf]; omega⟩
      · rw [hxy] at fE
        have hS := HN.out (by simpa using hxy)
        subst hS
        clear HS HN hxy
        generalize adL x = X at *
        generalize adL y = Y at *
        go_wp2_with (refine st ?_; clear hH; first | intro W g hH | intro W hH)
        ((with_reducible refine regQ hH (by kernel_rfl) (by kernel_rfl) ?_); intro hne; (repeat (first | (go_big_quiet_want; (first | (refine qiL tab_ok rfl rfl ?_; refine ⟨_, _, rfl, rfl, ?_⟩) | (refine qiLi tab_ok rfl rfl ?_; refine ⟨_, _, _, ?_, rfl, rfl, rfl, ?_, ?_⟩; rotate_left; (focus assumption)) | ((first | (refine qLoR tab_ok rfl rfl rfl rfl ?_; refine ⟨_, fA, ⟨oA, trivial⟩, rfl, ?_⟩) | (refine qLoR tab_ok rfl rfl rfl rfl ?_; refine ⟨_, fB, ⟨oB, trivial⟩, rfl, ?_⟩))) | (refine qBd tab_ok rfl rfl rfl rfl ?_; refine ⟨?_, ?_, ?_⟩; rotate_left; (focus (repeat (first | exact BR.nil | refine BR.one rfl rfl rfl ?_ | (refine BR.row rfl rfl rfl rfl ?_ ?_; (focus (repeat (first | exact trivial | assumption | exact OkA.z (by kernel_rfl) (by kernel_rfl) | refine ⟨rfl, ?_⟩ | refine ⟨?_, ?_⟩))))))))); (try simp only [Act.put, pA, pB, pC]); go_big_quiet_on) | go_big_quiet_step (fail))); refine wpQuiet_nil ?_; clear hne hH; intro W hH)
        go_wp2_with (refine st ?_; clear hH; first | intro W g hH | intro W hH)
        go_ret
        exact ⟨rfl, hH.below⟩
    · have e : res = true := HRES.out.symm.trans (decide_eq_true (by rwa [List.take_of_length_le (by omega), List.take_of_length_le (by omega)] at hT))
      subst e
      have dj : decide ((j : Int) < (L.length : Int)) = false := decide_eq_false (by omega)
      clear hT HA HB hn
      go_wp2_with (refine st ?_; clear hH; first | intro W g hH | intro W hH)
      go_ret
      exact ⟨rfl, hH.below⟩
theorem isame1 {x y : Rc} (h : AdsAt w p x.src) (h' : AdsAt w p' y.src) : Gives Tryz.prog 87 #[.agg (fls [.one (.int .i64 x.kind), .many (adL x.grp) 17, .one (.slice p x.src.length c)]).toArray, .agg (fls [.one (.int .i64 y.kind), .many (adL y.grp) 17, .one (.slice p' y.src.length c')]).toArray] w (.bool (decide (x = y))) := by
  have F := Lib.hid (show ∀ W, Below w.heap.size w W → Gives Tryz.prog 88 #[.slice p x.src.length c, .slice p' y.src.length c'] W (.bool (decide (x.src = y.src))) from fun W hb => iequalAds (h.below hb) (h'.below hb))
  clear h h'
  obtain ⟨k, g, l⟩ := x
  obtain ⟨k', g', l'⟩ := y
  simp only at *
  have fE := ad_eql g g'
  have oG := adL_ok g
  have oG' := adL_ok g'
  have e : decide ((⟨k, g, l⟩ : Rc) = ⟨k', g', l'⟩) = (k == k' && ((g == g') && decide (l = l'))) := by
    rw [Bool.eq_iff_iff]
    simp
  rw [e]
  clear e
  generalize decide (l = l') = lb at *
  generalize l.length = n at *
  generalize l'.length = n' at *
  generalize (g == g') = gb at *
  generalize adL g = G at *
  generalize adL g' = G' at *
  refine Gives.of ?_
  have hH := Hp.refl w
  by_cases hk : k = k'
  rotate_left
  · have dk : (k == k') = false := by simpa using hk
    rw [dk]
    clear hk
    go_enter Tryz.func87, Tryz.ntmps87
    go_wp2_with (refine st ?_; clear hH; first | intro W g hH | intro W hH)
    go_ret
    exact ⟨by simp, hH.below⟩
  subst hk
  have dk : (k == k) = true := by simp
  rw [dk]
  cases gb
  all_goals
    go_enter Tryz.func87, Tryz.ntmps87
    go_wp2_with (first | (refine st ?_; clear hH; first | intro W g hH | intro W hH) | ((with_reducible refine callH hH ?_); refine ⟨?_, ?_, ?_⟩; rotate_left; (focus (first | (exact F.out _ hH.below))); (clear hH; first | intro W g hH | intro W hH); ((try simp only [Act.put, pA, pB, pC]))))
    go_ret
    exact ⟨by simp, hH.below⟩
set_option maxHeartbeats 1000000 in
theorem iequalRcs {R S : List Rc} (h : RcsAt w p R) (h' : RcsAt w p' S) : Gives Tryz.prog 89 #[.slice p R.length c, .slice p' S.length c', .func (.func 87) #[] #[]] w (.bool (decide (R = S))) := by
  have hl := h.1
  have hl' := h'.1
  have HA := Lib.hid h
  have HB := Lib.hid h'
  clear h h'
  refine Gives.of ?_
  have hH := Hp.refl w
  by_cases hlen : R.length = S.length
  rotate_left
  · have e : decide (R = S) = false := decide_eq_false (fun h => hlen (by rw [h]))
    rw [e]
    clear e
    have hn : ((R.length : Int) != (S.length : Int)) = true := by simp; omega
    go_enter Tryz.func89, Tryz.ntmps89
    go_wp2_with (refine st ?_; clear hH; first | intro W g hH | intro W hH)
    go_ret
    exact ⟨rfl, hH.below⟩
  have hn : ((R.length : Int) != (S.length : Int)) = false := by simp; omega
  obtain ⟨res, hres⟩ : ∃ r, decide (R = S) = r := ⟨_, rfl⟩
  rw [hres]
  have HRES := Lib.hid hres
  clear hres
  go_enter Tryz.func89, Tryz.ntmps89
  go_wp2_with (refine st ?_; clear hH; first | intro W g hH | intro W hH)
  go_loopw [17] (fun i wr => ∃ j : Nat, i = .int .i64 (j : Int) ∧ j ≤ R.length ∧ R.take j = S.take j ∧ Hp w.heap.size w wr []) (fun i _ => R.length - (intOf i).toNat)
  case atStart => exact ⟨0, rfl, by omega, rfl, hH⟩
  case round =>
    clear hH
    obtain ⟨j, rfl, hj, hT, hH⟩ := hrel
    by_cases hjl : j < R.length
    · have hj2 : j < S.length := by omega
      obtain ⟨q0, s0, c0, hq, _, _, _, fA, fR⟩ := HA.out.get hjl
      obtain ⟨q1, s1, c1, hq1, _, _, _, fA1, fR1⟩ := HB.out.get hj2
      subst hq
      subst hq1
      have dj : decide ((j : Int) < (R.length : Int)) = true := decide_eq_true (by omega)
      have HS := Lib.hid (fun e => take_snoc_eq hT hjl hj2 e)
      have HN := Lib.hid (fun e => HRES.out.symm.trans (decide_eq_false (p := R = S) (ne_of_at hjl hj2 e)))
      clear hT HA HB hn hlen
      have F := Lib.hid (fun W (hb : Below w.heap.size w W) => isame1 (x := R[j]) (y := S[j]) (c := c0) (c' := c1) (fA.below hb) (fA1.below hb))
      have oA := adL_ok R[j].grp
      have oB := adL_ok S[j].grp
      cases hxy : decide (R[j] = S[j])
      · rw [hxy] at F
        have hS := HN.out (of_decide_eq_false hxy)
        subst hS
        clear HS HN hxy fA fA1
        generalize R[j] = x at *
        generalize S[j] = y at *
        generalize adL x.grp = X at *
        generalize adL y.grp = Y at *
        generalize x.src.length = n1 at *
        generalize y.src.length = n2 at *
        generalize x.kind = k1 at *
        generalize y.kind = k2 at *
        go_wp2_with (first | ((refine gL rfl ?_; refine hLoR tab_ok rfl ?_ rfl hH rfl rfl ?_; (focus first|exact wN rfl|exact rfl); (first | refine ⟨_, fR, ⟨rfl, oA, rfl, trivial⟩, rfl, ?_⟩ | refine ⟨_, fR1, ⟨rfl, oB, rfl, trivial⟩, rfl, ?_⟩); (clear hH; (first | intro W g hH | intro W hH); (try simp only [Act.put, pA, pB, pC])))) | (refine st ?_; clear hH; first | intro W g hH | intro W hH) | ((with_reducible refine callH hH ?_); refine ⟨?_, ?_, ?_⟩; rotate_left; (focus (first | (exact F.out _ hH.below))); (clear hH; first | intro W g hH | intro W hH); ((try simp only [Act.put, pA, pB, pC]))))
        go_ret
        exact ⟨rfl, hH.below⟩
      · rw [hxy] at F
        have HS2 := Lib.hid (HS.out (of_decide_eq_true hxy))
        clear HS HN hxy fA fA1
        generalize R[j] = x at *
        generalize S[j] = y at *
        generalize adL x.grp = X at *
        generalize adL y.grp = Y at *
        generalize x.src.length = n1 at *
        generalize y.src.length = n2 at *
        generalize x.kind = k1 at *
        generalize y.kind = k2 at *
        go_wp2_with (first | ((refine gL rfl ?_; refine hLoR tab_ok rfl ?_ rfl hH rfl rfl ?_; (focus first|exact wN rfl|exact rfl); (first | refine ⟨_, fR, ⟨rfl, oA, rfl, trivial⟩, rfl, ?_⟩ | refine ⟨_, fR1, ⟨rfl, oB, rfl, trivial⟩, rfl, ?_⟩); (clear hH; (first | intro W g hH | intro W hH); (try simp only [Act.put, pA, pB, pC])))) | (refine st ?_; clear hH; first | intro W g hH | intro W hH) | ((with_reducible refine callH hH ?_); refine ⟨?_, ?_, ?_⟩; rotate_left; (focus (first | (exact F.out _ hH.below))); (clear hH; first | intro W g hH | intro W hH); ((try simp only [Act.put, pA, pB, pC]))))
        exact ⟨⟨j + 1, by simp, by omega, HS2.out, hH.nil⟩, by simp [intOf]; omega⟩
    · have e : res = true := HRES.out.symm.trans (decide_eq_true (by rwa [List.take_of_length_le (by omega), List.take_of_length_le (by omega)] at hT))
      subst e
      have dj : decide ((j : Int) < (R.length : Int)) = false := decide_eq_false (by omega)
      clear hT HA HB hn
      go_wp2_with (refine st ?_; clear hH; first | intro W g hH | intro W hH)
      go_ret
      exact ⟨rfl, hH.below⟩
end
section
variable {w : World} {sp rp sp' rp' : Option Addr} {sc rc sc' rc' : Nat}
set_option maxRecDepth 20000 in
set_option maxHeartbeats 4000000 in
theorem isame_any {A B : Tk} (hS : AdsAt w sp A.src) (hR : RcsAt w rp A.recs) (hS' : AdsAt w sp' B.src) (hR' : RcsAt w rp' B.recs) : Gives Tryz.prog 41 #[.agg (fls (tkS A sp sc rp rc)).toArray, .agg (fls (tkS B sp' sc' rp' rc')).toArray] w (.bool (sameT A B)) := by
  have h1 := hS.1
  have h2 := hR.1
  have h3 := hS'.1
  have h4 := hR'.1
  have f1 := Lib.hid (show ∀ W, Below w.heap.size w W → Gives Tryz.prog 88 #[.slice sp A.src.length sc, .slice sp' B.src.length sc'] W (.bool (decide (A.src = B.src))) from fun W hb => iequalAds (hS.below hb) (hS'.below hb))
  have f2 := Lib.hid (show ∀ W, Below w.heap.size w W → Gives Tryz.prog 89 #[.slice rp A.recs.length rc, .slice rp' B.recs.length rc', .func (.func 87) #[] #[]] W (.bool (decide (A.recs = B.recs))) from fun W hb => iequalRcs (hR.below hb) (hR'.below hb))
  clear hS hR hS' hR'
  obtain ⟨res, hres⟩ : ∃ r, sameT A B = r := ⟨_, rfl⟩
  rw [hres]
  have HN := Lib.hid (show A ≠ B → res = false from fun h => hres ▸ sameT_no h)
  have HY := Lib.hid (show A = B → res = true from fun h => hres ▸ sameT_yes h)
  clear hres
  obtain ⟨v6, ver, kind, resp, g, quiet, rob, every, src, recs⟩ := A
  obtain ⟨v6', ver', kind', resp', g', quiet', rob', every', src', recs'⟩ := B
  simp only [tkS] at *
  have fE := ad_eql g g'
  have oG := adL_ok g
  have oG' := adL_ok g'
  refine Gives.of ?_
  have hH := Hp.refl w
  go_enter Tryz.func41, Tryz.ntmps41
  by_cases h_v6 : v6 = v6'
  rotate_left
  · have e : res = false := HN.out (fun e => h_v6 (congrArg Tk.v6 e))
    have d_v6 : (v6 == v6') = false := by simpa using h_v6
    subst e
    clear HN HY f1 f2 d_v6
    cases v6 <;> cases v6'
    · exact absurd rfl h_v6
    · clear h_v6
      go_wp2_with (refine st ?_; clear hH; first | intro W g hH | intro W hH)
      go_ret
      exact ⟨rfl, hH.below⟩
    · clear h_v6
      go_wp2_with (refine st ?_; clear hH; first | intro W g hH | intro W hH)
      go_ret
      exact ⟨rfl, hH.below⟩
    · exact absurd rfl h_v6
  subst h_v6
  by_cases h_ver : ver = ver'
  rotate_left
  · have e : res = false := HN.out (fun e => h_ver (congrArg Tk.ver e))
    have d_ver : (ver == ver') = false := by simpa using h_ver
    clear h_ver
    subst e
    clear HN HY f1 f2
    go_wp2_with (refine st ?_; clear hH; first | intro W g hH | intro W hH)
    all_goals
      go_ret
      exact ⟨rfl, hH.below⟩
  subst h_ver
  by_cases h_kind : kind = kind'
  rotate_left
  · have e : res = false := HN.out (fun e => h_kind (congrArg Tk.kind e))
    have d_kind : (kind == kind') = false := by simpa using h_kind
    clear h_kind
    subst e
    clear HN HY f1 f2
    go_wp2_with (refine st ?_; clear hH; first | intro W g hH | intro W hH)
    all_goals
      go_ret
      exact ⟨rfl, hH.below⟩
  subst h_kind
  by_cases h_resp : resp = resp'
  rotate_left
  · have e : res = false := HN.out (fun e => h_resp (congrArg Tk.resp e))
    have d_resp : (resp == resp') = false := by simpa using h_resp
    clear h_resp
    subst e
    clear HN HY f1 f2
    go_wp2_with (refine st ?_; clear hH; first | intro W g hH | intro W hH)
    all_goals
      go_ret
      exact ⟨rfl, hH.below⟩
  subst h_resp
  by_cases h_g : g = g'
  rotate_left
  · have e : res = false := HN.out (fun e => h_g (congrArg Tk.grp e))
    have d_g : (g == g') = false := by simpa using h_g
    rw [d_g] at fE
    clear h_g d_g
    generalize adL g = G at *
    generalize adL g' = G' at *
    subst e
    clear HN HY f1 f2
    go_wp2_with (refine st ?_; clear hH; first | intro W g hH | intro W hH)
    all_goals
      go_ret
      exact ⟨rfl, hH.below⟩
  subst h_g
  have d_g : (g == g) = true := by simp
  rw [d_g] at fE
  clear d_g
  generalize adL g = G at *
  by_cases h_quiet : quiet = quiet'
  rotate_left
  · have e : res = false := HN.out (fun e => h_quiet (congrArg Tk.quiet e))
    have d_quiet : (quiet == quiet') = false := by simpa using h_quiet
    subst e
    clear HN HY f1 f2 d_quiet
    cases quiet <;> cases quiet'
    · exact absurd rfl h_quiet
    · clear h_quiet
      go_wp2_with (refine st ?_; clear hH; first | intro W g hH | intro W hH)
      go_ret
      exact ⟨rfl, hH.below⟩
    · clear h_quiet
      go_wp2_with (refine st ?_; clear hH; first | intro W g hH | intro W hH)
      go_ret
      exact ⟨rfl, hH.below⟩
    · exact absurd rfl h_quiet
  subst h_quiet
  by_cases h_rob : rob = rob'
  rotate_left
  · have e : res = false := HN.out (fun e => h_rob (congrArg Tk.rob e))
    have d_rob : (rob == rob') = false := by simpa using h_rob
    clear h_rob
    subst e
    clear HN HY f1 f2
    go_wp2_with (refine st ?_; clear hH; first | intro W g hH | intro W hH)
    all_goals
      go_ret
      exact ⟨rfl, hH.below⟩
  subst h_rob
  by_cases h_every : every = every'
  rotate_left
  · have e : res = false := HN.out (fun e => h_every (congrArg Tk.every e))
    have d_every : (every == every') = false := by simpa using h_every
    clear h_every
    subst e
    clear HN HY f1 f2
    go_wp2_with (refine st ?_; clear hH; first | intro W g hH | intro W hH)
    all_goals
      go_ret
      exact ⟨rfl, hH.below⟩
  subst h_every
  by_cases hs : src = src'
  rotate_left
  · have e : res = false := HN.out (fun e => hs (congrArg Tk.src e))
    subst e
    have d : decide (src = src') = false := decide_eq_false hs
    rw [d] at f1
    clear HN HY f2 d hs
    generalize src.length = n at *
    generalize src'.length = n' at *
    go_wp2_with (first | (refine st ?_; clear hH; first | intro W g hH | intro W hH) | ((with_reducible refine callH hH ?_); refine ⟨?_, ?_, ?_⟩; rotate_left; (focus (first | (exact f1.out _ hH.below))); (clear hH; first | intro W g hH | intro W hH); ((try simp only [Act.put, pA, pB, pC]))))
    all_goals
      go_ret
      exact ⟨rfl, hH.below⟩
  have d : decide (src = src') = true := decide_eq_true hs
  rw [d] at f1
  by_cases hr : recs = recs'
  · have e : res = true := HY.out (by rw [hs, hr])
    subst e
    have d2 : decide (recs = recs') = true := decide_eq_true hr
    rw [d2] at f2
    clear HN HY d hs d2 hr
    generalize src.length = n at *
    generalize src'.length = n' at *
    generalize recs.length = m at *
    generalize recs'.length = m' at *
    go_wp2_with (first | (refine st ?_; clear hH; first | intro W g hH | intro W hH) | ((with_reducible refine callH hH ?_); refine ⟨?_, ?_, ?_⟩; rotate_left; (focus (first | (exact f1.out _ hH.below) | (exact f2.out _ hH.below))); (clear hH; first | intro W g hH | intro W hH); ((try simp only [Act.put, pA, pB, pC]))))
    all_goals
      go_ret
      exact ⟨rfl, hH.below⟩
  · have e : res = false := HN.out (fun e => hr (congrArg Tk.recs e))
    subst e
    have d2 : decide (recs = recs') = false := decide_eq_false hr
    rw [d2] at f2
    clear HN HY d hs d2 hr
    generalize src.length = n at *
    generalize src'.length = n' at *
    generalize recs.length = m at *
    generalize recs'.length = m' at *
    go_wp2_with (first | (refine st ?_; clear hH; first | intro W g hH | intro W hH) | ((with_reducible refine callH hH ?_); refine ⟨?_, ?_, ?_⟩; rotate_left; (focus (first | (exact f1.out _ hH.below) | (exact f2.out _ hH.below))); (clear hH; first | intro W g hH | intro W hH); ((try simp only [Act.put, pA, pB, pC]))))
    all_goals
      go_ret
      exact ⟨rfl, hH.below⟩
end
end Go.Proofs.YtdnehjhijmeihaaGreat
